import Derived.Test.YtkcdnhennnjneaaGreatDoorAsmT
import Derived.Test.YtkcdnhennnjneaaGreatDoorAsmS
import Derived.Test.YtkcdnhennnjneaaGreatDoorRChkZ
import Derived.Below
import Derived.Deep.Draws
import Derived.Deep.AppendLies
import Derived.Maps.AppendAt
import Derived.OwnWalk
import Derived.Laws.BytesArg
import Derived.Laws.MakeOwn
import Derived.Laws.OwnMore
import Derived.Deep.OwnRows
import Derived.Tactics
import Derived.Lib.ConvBytes
import Derived.Laws.Slices
import Derived.WalkKit
import Derived.KernelRfl
import Derived.RowKit3
import Derived.Deep.LoopGhost
import Derived.Deep.QuietTactic
import Derived.BigQuiet
import Derived.WideLaws
import Derived.Deep.DeepCutAuto
import Derived.Deep.CutBlock
import Derived.Deep.RegionHeld3
import Derived.Laws.Rows
import Derived.Lib.AppendStr
import Derived.ArgAppend
import Derived.Laws.IdiomCopy
import Derived.OrdersHeld
import Derived.Laws.BitsLemmas
import Derived.RowKit
import Derived.Lib.Hide
import Derived.Laws.BitsAllLaws
import Derived.WalkLawsBesides
import Derived.WalkSpells
import Derived.LaidEql
namespace Go.Proofs.YtkcdnhennnjneaaGreatDoor
open Go.RowKit
set_option maxRecDepth 100000
set_option linter.unusedVariables false
set_option linter.unusedSimpArgs false

/-- the digits of a number before those that are there -/
def decR (n : Nat) (s : List UInt8) : List UInt8 := if n = 0 ∧ s ≠ [] then s else Lib.decDigits n ++ s
theorem decR_start (n : Nat) : decR n [] = Lib.decDigits n := by unfold decR; rw [if_neg (by simp), List.append_nil]
theorem decR_step {n : Nat} {s : List UInt8} (h : 0 < n ∨ s = []) : decR (n / 10) (UInt8.ofNat (48 + n % 10) :: s) = decR n s := by
  have e : decR n s = Lib.decDigits n ++ s := by
    unfold decR
    rw [if_neg (by rintro ⟨h1, h2⟩; rcases h with h | h; omega; exact h2 h)]
  rw [e]
  unfold decR
  by_cases h10 : n < 10
  · rw [if_pos ⟨by omega, by simp⟩, Lib.decDigits_one h10, show n % 10 = n by omega]; rfl
  · rw [if_neg (by omega)]
    conv => rhs; rw [Lib.decDigits, dif_neg h10]
    rw [List.append_assoc]; rfl
theorem decR_done {s : List UInt8} (h : s ≠ []) : decR 0 s = s := by unfold decR; rw [if_pos ⟨rfl, h⟩]
theorem digit_cut : ∀ k, k < 10 → (⟨#[48, 49, 50, 51, 52, 53, 54, 55, 56, 57]⟩ : ByteArray).extract k (k + 1) = bs [UInt8.ofNat (48 + k)] := by
  intro k hk
  have : k = 0 ∨ k = 1 ∨ k = 2 ∨ k = 3 ∨ k = 4 ∨ k = 5 ∨ k = 6 ∨ k = 7 ∨ k = 8 ∨ k = 9 := by omega
  rcases this with rfl | rfl | rfl | rfl | rfl | rfl | rfl | rfl | rfl | rfl <;> rfl
def digB (c : UInt8) : Bool := decide (48 ≤ c.toNat) && decide (c.toNat ≤ 57)
def valD (d : List UInt8) : Nat := d.foldl (fun n c => 10 * n + (c.toNat - 48)) 0
theorem valD_snoc (p : List UInt8) (c : UInt8) : valD (p ++ [c]) = 10 * valD p + (c.toNat - 48) := by unfold valD; rw [List.foldl_append]; rfl
/-- is a text of digits a number's own? -/
def magB (d : List UInt8) : Bool := decide (d ≠ []) && (decide (d.length ≤ 10) && (d.all digB && (!(decide (1 < d.length) && decide (d.head? = some 48)) && decide (valD d ≤ 4294967296))))
theorem dec_val : ∀ (f u : Nat), u < f → valD (Lib.decDigits u) = u
  | 0, u, h => by omega
  | f + 1, u, h => by
    by_cases h10 : u < 10
    · rw [Lib.decDigits_one h10]
      show 10 * 0 + ((UInt8.ofNat (48 + u)).toNat - 48) = u
      rw [digit_nat h10]; omega
    · rw [Lib.decDigits, dif_neg h10, valD_snoc, dec_val f (u / 10) (by omega), digit_nat (Nat.mod_lt _ (by decide))]
      omega
theorem dig_mem {c : UInt8} : digB c = true ↔ 48 ≤ c.toNat ∧ c.toNat ≤ 57 := by unfold digB; simp
theorem dec_all (u : Nat) : (Lib.decDigits u).all digB = true := List.all_eq_true.2 fun c hc => dig_mem.2 (dec_mem _ u (Nat.lt_succ_self _) c hc)
theorem dec_len : ∀ (k u : Nat), u < 10 ^ (k + 1) → (Lib.decDigits u).length ≤ k + 1
  | 0, u, h => by rw [Lib.decDigits_one (by omega)]; simp
  | k + 1, u, h => by
    by_cases h10 : u < 10
    · rw [Lib.decDigits_one h10]; simp
    · rw [Lib.decDigits, dif_neg h10, List.length_append]
      have := dec_len k (u / 10) (by rw [Nat.pow_succ] at h; omega)
      simp only [List.length_cons, List.length_nil]; omega
theorem mag_dec {u : Nat} (h : u ≤ 4294967296) : magB (Lib.decDigits u) = true := by
  obtain ⟨d, r, hd, e, hz⟩ := dec_head (u + 1) u (Nat.lt_succ_self _)
  have hl := dec_len 9 u (by omega)
  have hv := dec_val (u + 1) u (Nat.lt_succ_self _)
  have ha := dec_all u
  unfold magB
  rw [hv, ha, decide_eq_true hl, decide_eq_true h, decide_eq_true (show Lib.decDigits u ≠ [] by rw [e]; simp)]
  have : (decide (1 < (Lib.decDigits u).length) && decide ((Lib.decDigits u).head? = some 48)) = false := by
    by_cases h1 : 1 < (Lib.decDigits u).length
    · have : ¬ (Lib.decDigits u).head? = some 48 := by
        rw [e]
        intro h2
        simp only [List.head?_cons, Option.some.injEq] at h2
        have h3 := congrArg UInt8.toNat h2
        rw [digit_nat hd] at h3
        have h4 : d = 0 := by simpa using h3
        obtain ⟨_, hr⟩ := hz h4
        rw [e, hr] at h1; simp at h1
      rw [decide_eq_false this, Bool.and_false]
    · rw [decide_eq_false h1, Bool.false_and]
  rw [this]; rfl
theorem rev_ind {P : List UInt8 → Prop} (h0 : P []) (h1 : ∀ p c, P p → P (p ++ [c])) (l : List UInt8) : P l := by
  have h : ∀ l : List UInt8, P l.reverse := by
    intro l
    induction l with
    | nil => exact h0
    | cons a r ih => rw [List.reverse_cons]; exact h1 _ _ ih
  rw [← List.reverse_reverse l]
  exact h _
theorem val_pos : ∀ (p : List UInt8), p ≠ [] → p.all digB = true → p.head? ≠ some 48 → 0 < valD p := by
  refine rev_ind ?_ ?_
  · intro h; exact absurd rfl h
  · intro p c ih _ ha hh
    rw [valD_snoc]
    rw [List.all_append] at ha
    obtain ⟨ha, hc⟩ := Bool.and_eq_true_iff.1 ha
    cases p with
    | nil =>
      simp only [List.all_cons, List.all_nil, Bool.and_true] at hc
      have := dig_mem.1 hc
      have hne : c ≠ 48 := fun e => hh (by rw [e]; rfl)
      have h48 : c.toNat ≠ 48 := fun e => hne (UInt8.toNat_inj.1 (by rw [e]; rfl))
      show 0 < 10 * 0 + (c.toNat - 48)
      omega
    | cons x r =>
      have := ih (by simp) ha (by simpa using hh)
      omega
theorem dec_of : ∀ (d : List UInt8), d ≠ [] → d.all digB = true → (1 < d.length → d.head? ≠ some 48) → Lib.decDigits (valD d) = d := by
  refine rev_ind ?_ ?_
  · intro h; exact absurd rfl h
  · intro p c ih _ ha hh
    rw [List.all_append] at ha
    obtain ⟨ha, hc⟩ := Bool.and_eq_true_iff.1 ha
    simp only [List.all_cons, List.all_nil, Bool.and_true] at hc
    have hcb := dig_mem.1 hc
    have hcc : UInt8.ofNat (48 + (c.toNat - 48)) = c := by
      rw [show 48 + (c.toNat - 48) = c.toNat by omega]
      exact UInt8.ofNat_toNat
    rw [valD_snoc]
    cases p with
    | nil =>
      show Lib.decDigits (10 * 0 + (c.toNat - 48)) = _
      rw [show 10 * 0 + (c.toNat - 48) = c.toNat - 48 by omega, Lib.decDigits_one (by omega), hcc]; rfl
    | cons x r =>
      have hh2 : (x :: r).head? ≠ some 48 := by have := hh (by simp); simpa using this
      have hp := val_pos (x :: r) (by simp) ha hh2
      have e := ih (by simp) ha (fun _ => hh2)
      generalize valD (x :: r) = v at *
      rw [Lib.decDigits, dif_neg (by omega), show (10 * v + (c.toNat - 48)) / 10 = v by omega, show (10 * v + (c.toNat - 48)) % 10 = c.toNat - 48 by omega, e, hcc]
theorem mag_ok {d : List UInt8} (h : magB d = true) : Lib.decDigits (valD d) = d ∧ valD d ≤ 4294967296 := by
  unfold magB at h
  obtain ⟨h1, h⟩ := Bool.and_eq_true_iff.1 h
  obtain ⟨_, h⟩ := Bool.and_eq_true_iff.1 h
  obtain ⟨h3, h⟩ := Bool.and_eq_true_iff.1 h
  obtain ⟨h4, h5⟩ := Bool.and_eq_true_iff.1 h
  refine ⟨dec_of d (of_decide_eq_true h1) h3 fun hl hz => ?_, of_decide_eq_true h5⟩
  rw [decide_eq_true hl, decide_eq_true hz] at h4
  exact absurd h4 (by decide)
/-- the sign is taken off -/
def negB (s : List UInt8) : Bool := decide (s.head? = some 45)
def unT (s : List UInt8) : List UInt8 := if negB s = true then s.tail else s
def rnumB (s : List UInt8) : Bool := magB (unT s) && !(negB s && decide (valD (unT s) = 0))
def rnumV (s : List UInt8) : Int := if negB s = true then -(valD (unT s) : Int) else (valD (unT s) : Int)
theorem itoa_un (v : Int) : negB (Lib.itoa v) = decide (v < 0) ∧ unT (Lib.itoa v) = Lib.decDigits v.natAbs := by
  unfold Lib.itoa
  by_cases h : v < 0
  · rw [if_pos h]
    have e : negB (45 :: Lib.decDigits v.natAbs) = true := by unfold negB; simp
    exact ⟨by rw [e, decide_eq_true h], by unfold unT; rw [if_pos e]; rfl⟩
  · rw [if_neg h]
    obtain ⟨d, r, hd, e, _⟩ := dec_head (v.toNat + 1) v.toNat (Nat.lt_succ_self _)
    have e2 : negB (Lib.decDigits v.toNat) = false := by
      unfold negB
      rw [e]
      refine decide_eq_false fun h2 => ?_
      simp only [List.head?_cons, Option.some.injEq] at h2
      have h3 := congrArg UInt8.toNat h2
      rw [digit_nat hd] at h3
      have : (45 : UInt8).toNat = 45 := rfl
      omega
    refine ⟨by rw [e2, decide_eq_false h], ?_⟩
    unfold unT
    rw [if_neg (by rw [e2]; decide), show v.toNat = v.natAbs by omega]
theorem rnum_itoa {v : Int} (h0 : -4294967296 ≤ v) (h1 : v ≤ 4294967296) : rnumB (Lib.itoa v) = true ∧ rnumV (Lib.itoa v) = v := by
  obtain ⟨e1, e2⟩ := itoa_un v
  have hv := dec_val (v.natAbs + 1) v.natAbs (Nat.lt_succ_self _)
  unfold rnumB rnumV
  rw [e1, e2, mag_dec (by omega), hv]
  refine ⟨?_, ?_⟩
  · by_cases h : v < 0
    · rw [decide_eq_false (show ¬ v.natAbs = 0 by omega), Bool.and_false]; rfl
    · rw [decide_eq_false h, Bool.false_and]; rfl
  · by_cases h : v < 0
    · rw [if_pos (decide_eq_true h)]; omega
    · rw [if_neg (by rw [decide_eq_false h]; decide)]; omega
theorem rnum_ok {s : List UInt8} (h : rnumB s = true) : s = Lib.itoa (rnumV s) ∧ -4294967296 ≤ rnumV s ∧ rnumV s ≤ 4294967296 := by
  unfold rnumB at h
  obtain ⟨h1, h2⟩ := Bool.and_eq_true_iff.1 h
  obtain ⟨e1, e2⟩ := mag_ok h1
  unfold rnumV
  by_cases hn : negB s = true
  · rw [if_pos hn]
    rw [hn, Bool.true_and] at h2
    have hz : ¬ valD (unT s) = 0 := fun e => by rw [decide_eq_true e] at h2; exact absurd h2 (by decide)
    refine ⟨?_, by omega, by omega⟩
    unfold Lib.itoa
    rw [if_pos (by omega), Int.natAbs_neg, Int.natAbs_natCast, e1]
    unfold unT
    rw [if_pos hn]
    have h45 := of_decide_eq_true hn
    cases s with
    | nil => simp at h45
    | cons x r => simp only [List.head?_cons, Option.some.injEq] at h45; rw [h45]; rfl
  · rw [if_neg hn]
    refine ⟨?_, by omega, by omega⟩
    unfold Lib.itoa
    rw [if_neg (by omega), Int.toNat_natCast, e1]
    unfold unT
    rw [if_neg hn]
theorem rnum_same (s : List UInt8) : rnumB s = numOk s := by
  cases h : rnumB s with
  | true =>
    obtain ⟨e, h0, h1⟩ := rnum_ok h
    rw [e, (num_itoa h0 h1).2]
  | false =>
    cases h2 : numOk s with
    | false => rfl
    | true =>
      obtain ⟨e, h0, h1⟩ := num_ok h2
      rw [e, (rnum_itoa h0 h1).1] at h
      exact h.symm
theorem rnum_val {s : List UInt8} (h : numOk s = true) : rnumV s = numV s := by
  obtain ⟨e, h0, h1⟩ := num_ok h
  have := (rnum_itoa h0 h1).2
  rw [← e] at this
  exact this
/-- the letters of an operation's operands -/
def shapeK (k : Nat) : List UInt8 := if k = 85 ∨ k = 74 then [100, 110] else if k = 73 ∨ k = 70 ∨ k = 72 then [100, 115, 110] else if k = 76 then [100, 109] else if k = 66 then [115, 116, 110] else if k = 83 then [116, 109] else if k = 82 then [100, 115, 116] else if k = 67 then [100, 99, 122] else []
theorem shape_len (i : Ins) : (shapeK (kN i.op.toNat)).length = (operT i).length := by
  unfold shapeK operT
  by_cases h1 : kN i.op.toNat = 85
  · rw [if_pos (Or.inl h1), if_pos h1]; rfl
  rw [if_neg h1]
  by_cases h2 : kN i.op.toNat = 74
  · rw [if_pos (Or.inr h2), if_pos h2]; rfl
  rw [if_neg h2, if_neg (by omega)]
  repeat' split
  all_goals rfl

theorem bs_nonempty {l : List UInt8} (h : l ≠ []) : (bs l).toList.isEmpty = false := by
  have hz := bs_ne (x := l) (y := []) h
  have e1 : (bs []).toList = [] := by rw [show bs [] = (⟨#[]⟩ : ByteArray) from rfl]; simp
  rw [e1] at hz; revert hz; cases (bs l).toList <;> simp
theorem decR_len {k : Nat} {l : List UInt8} (h : 0 < k ∨ l = []) {n : Nat} (hb : l.length + k ≤ n + 1) (h2 : l = [] → k ≤ n) : (UInt8.ofNat (48 + k % 10) :: l).length + k / 10 ≤ n + 1 := by
  rw [List.length_cons]
  rcases h with h | h
  · omega
  · have := h2 h; rw [h] at hb ⊢; simp only [List.length_nil] at hb ⊢; omega
set_option maxHeartbeats 2000000 in
theorem rdec_pos (n : Nat) (hn : n ≤ 4294967296) (w : World) : Calls Tryz.prog 32 #[.int .i64 (n : Nat)] w fun e w' => e = .returned (.string (bs (Lib.decDigits n))) ∧ w = w' := by
  obtain ⟨D, hD⟩ : ∃ D, D = Lib.decDigits n := ⟨_, rfl⟩
  rw [← hD]
  have HD := Lib.hid hD
  have hs := decR_start n
  rw [← hD] at hs
  have HS := Lib.hid hs
  clear hD hs
  go_enter Tryz.func32, Tryz.ntmps32
  go_upto_region 4 with (fail)
  go_loopw [0, 3] (fun x s wr => ∃ (k : Nat) (l : List UInt8), x = .int .i64 k ∧ s = .string (bs l) ∧ k ≤ n ∧ l.length + k ≤ n + 1 ∧ decR k l = D ∧ wr = w) (fun x s _ => (intOf x).toNat + (1 - Lib.strSize s))
  case atStart => exact ⟨n, [], rfl, rfl, Nat.le_refl _, by simp, HS.out, rfl⟩
  case round =>
    obtain ⟨k, l, rfl, rfl, hk, hl, hdr, rfl⟩ := hrel
    have HDR := Lib.hid hdr
    have HL := Lib.hid hl
    clear hdr hl
    obtain ⟨d, hd⟩ : ∃ d, d = k % 10 := ⟨_, rfl⟩
    have hd10 : d < 10 := by omega
    have hrem : Int.tmod (k : Int) 10 = (d : Int) := by rw [Int.tmod_eq_emod_of_nonneg (by omega)]; omega
    have hquo : Int.tdiv (k : Int) 10 = ((k / 10 : Nat) : Int) := by rw [Int.tdiv_eq_ediv_of_nonneg (by omega)]; omega
    have hcut := digit_cut d hd10
    have go : (0 < k ∨ l = []) → decR (k / 10) (UInt8.ofNat (48 + d) :: l) = D := fun h => by rw [hd, decR_step h]; exact HDR.out
    have HGO := Lib.hid go
    have HC := Lib.hid hcut
    have HDD := Lib.hid hd
    have HCAT := Lib.hid (bs_app [UInt8.ofNat (48 + d)] l)
    have HSZ := Lib.hid (bs_size (UInt8.ofNat (48 + d) :: l))
    have hz : (bs l).size = l.length := bs_size l
    have hz2 : l.length ≤ 4294967297 := by have := HL.out; omega
    clear go hcut hd
    cases l with
    | nil =>
      have hgo := HGO.out (Or.inr rfl)
      have HG2 := Lib.hid hgo
      have hll := decR_len (l := []) (Or.inr rfl) HL.out (fun _ => hk)
      have HLL := Lib.hid hll
      clear hgo hll HGO
      by_cases hk0 : 0 < k
      · have hkI : (0 : Int) < (k : Int) := by omega
        go_wp2
        go_roundw
        case rel => exact ⟨k / 10, _, rfl, congrArg Value.string (by rw [HC.out, HCAT.out]; rfl), by omega, by rw [HDD.out]; exact HLL.out, HG2.out, by trivial⟩
        case measure => simp [intOf, Lib.strSize, HC.out, bs_size]; omega
      · have hkI : ¬ (0 : Int) < (k : Int) := by omega
        obtain rfl : k = 0 := by omega
        obtain rfl : d = 0 := HDD.out
        have hg3 : decR 0 [48] = D := HG2.out
        have HG3 := Lib.hid hg3
        clear hrem hquo hg3
        rw [show bs [] = (⟨#[]⟩ : ByteArray) from rfl]
        go_wp2
        go_roundw
        case rel => exact ⟨0, [48], rfl, rfl, Nat.zero_le _, by simp, HG3.out, by trivial⟩
        case measure => simp [intOf, Lib.strSize]; decide
    | cons a r =>
      have he := bs_nonempty (l := a :: r) (by simp)
      have hsz : 1 ≤ (bs (a :: r)).size := by rw [hz]; simp
      obtain ⟨Y, hY⟩ : ∃ Y, Y = bs (a :: r) := ⟨_, rfl⟩
      rw [← hY] at he hsz hz HCAT ⊢
      by_cases hk0 : 0 < k
      · have hkI : (0 : Int) < (k : Int) := by omega
        have hgo := HGO.out (Or.inl hk0)
        have HG2 := Lib.hid hgo
        have hll := decR_len (l := a :: r) (Or.inl hk0) HL.out (fun e => by cases e)
        have HLL := Lib.hid hll
        have HNE := Lib.hid he
        obtain ⟨X, hX⟩ : ∃ X, X = bs [UInt8.ofNat (48 + d)] := ⟨_, rfl⟩
        have hex : (⟨#[48, 49, 50, 51, 52, 53, 54, 55, 56, 57]⟩ : ByteArray).extract d (d + 1) = X := HC.out.trans hX.symm
        have hxz : X.size = 1 := by rw [hX]; rfl
        have hz3 : ¬ 9223372036854775807 < X.size + Y.size := by omega
        have hz4 : ¬ 9223372036854775807 < 1 + Y.size := by omega
        have hcat2 : X ++ Y = bs (UInt8.ofNat (48 + d) :: a :: r) := by rw [hX]; exact HCAT.out
        have HCAT2 := Lib.hid hcat2
        clear hgo hll HGO he hX hcat2 hY
        go_wp2
        go_roundw
        case rel => exact ⟨k / 10, _, rfl, congrArg Value.string HCAT2.out, by omega, by rw [HDD.out]; exact HLL.out, HG2.out, by trivial⟩
        case measure => simp [intOf, Lib.strSize]; omega
      · have hkI : ¬ (0 : Int) < (k : Int) := by omega
        obtain rfl : k = 0 := by omega
        have hr := HDR.out
        rw [decR_done (by simp)] at hr
        have HYD := Lib.hid (hY.trans (congrArg bs hr))
        clear hsz hz hY hr
        go_wp2
        go_ret
        exact ⟨by rw [← HYD.out]; rfl, by trivial⟩
set_option maxHeartbeats 1000000 in
/-- ref04.Decimal -/
theorem rdec_any (n : Int) (h0 : -4294967296 ≤ n) (h1 : n ≤ 4294967296) (w : World) : Calls Tryz.prog 32 #[.int .i64 n] w fun e w' => e = .returned (.string (bs (Lib.itoa n))) ∧ w = w' := by
  by_cases hn : n < 0
  · obtain ⟨k, hk⟩ : ∃ k : Nat, k = n.natAbs := ⟨_, rfl⟩
    have hkn : n = -(k : Int) := by omega
    subst hkn
    have e : Lib.itoa (-(k : Int)) = 45 :: Lib.decDigits k := by unfold Lib.itoa; rw [if_pos hn]; congr 2; omega
    rw [e]
    have DP := Lib.hid (rdec_pos k (by omega) w)
    have hz : (bs (Lib.decDigits k)).size = (Lib.decDigits k).length := bs_size _
    have hl := dec_len 9 k (by omega)
    have hcat : (⟨#[45]⟩ : ByteArray) ++ bs (Lib.decDigits k) = bs (45 :: Lib.decDigits k) := bs_app [45] _
    rw [← hcat]
    generalize bs (Lib.decDigits k) = Y at *
    have hz2 : ¬ 9223372036854775807 < 1 + Y.size := by omega
    have hk2 : k ≤ 4294967296 := by omega
    have hk1 : 0 < k := by omega
    clear hz hl hcat e hk
    go_enter Tryz.func32, Tryz.ntmps32
    go_wp2_with (go_at_call 32; refine DP.out.mono ?_; rintro e w' ⟨rfl, rfl⟩)
    go_ret
    exact ⟨rfl, rfl⟩
  · have e : Lib.itoa n = Lib.decDigits n.toNat := by unfold Lib.itoa; rw [if_neg hn]
    have q := rdec_pos n.toNat (by omega) w
    rw [← e, Int.toNat_of_nonneg (by omega)] at q
    exact q

set_option maxHeartbeats 1000000 in
/-- ref04.shape -/
theorem rshape_any (op : Nat) (hop : op < 57) (w : World) : Calls Tryz.prog 41 #[.int .i64 op] w fun e w' => e = .returned (.string (bs (shapeK (kN op)))) ∧ w = w' := by
  have RK := Lib.hid (fun w => rkind_in op hop w)
  have hk := k_cases op hop
  generalize kN op = K at *
  rcases hk with h | h | (h | h | h) | h | h | h | h | h | h
  · subst h
    rw [show shapeK 85 = [100, 110] from by decide]
    go_enter Tryz.func41, Tryz.ntmps41
    go_wp2_with (go_at_call 30; refine (RK.out _).mono ?_; rintro e w' ⟨rfl, rfl⟩)
    go_ret
    exact ⟨rfl, rfl⟩
  · subst h
    rw [show shapeK 74 = [100, 110] from by decide]
    go_enter Tryz.func41, Tryz.ntmps41
    go_wp2_with (go_at_call 30; refine (RK.out _).mono ?_; rintro e w' ⟨rfl, rfl⟩)
    go_ret
    exact ⟨rfl, rfl⟩
  · subst h
    rw [show shapeK 73 = [100, 115, 110] from by decide]
    go_enter Tryz.func41, Tryz.ntmps41
    go_wp2_with (go_at_call 30; refine (RK.out _).mono ?_; rintro e w' ⟨rfl, rfl⟩)
    go_ret
    exact ⟨rfl, rfl⟩
  · subst h
    rw [show shapeK 70 = [100, 115, 110] from by decide]
    go_enter Tryz.func41, Tryz.ntmps41
    go_wp2_with (go_at_call 30; refine (RK.out _).mono ?_; rintro e w' ⟨rfl, rfl⟩)
    go_ret
    exact ⟨rfl, rfl⟩
  · subst h
    rw [show shapeK 72 = [100, 115, 110] from by decide]
    go_enter Tryz.func41, Tryz.ntmps41
    go_wp2_with (go_at_call 30; refine (RK.out _).mono ?_; rintro e w' ⟨rfl, rfl⟩)
    go_ret
    exact ⟨rfl, rfl⟩
  · subst h
    rw [show shapeK 76 = [100, 109] from by decide]
    go_enter Tryz.func41, Tryz.ntmps41
    go_wp2_with (go_at_call 30; refine (RK.out _).mono ?_; rintro e w' ⟨rfl, rfl⟩)
    go_ret
    exact ⟨rfl, rfl⟩
  · subst h
    rw [show shapeK 66 = [115, 116, 110] from by decide]
    go_enter Tryz.func41, Tryz.ntmps41
    go_wp2_with (go_at_call 30; refine (RK.out _).mono ?_; rintro e w' ⟨rfl, rfl⟩)
    go_ret
    exact ⟨rfl, rfl⟩
  · subst h
    rw [show shapeK 83 = [116, 109] from by decide]
    go_enter Tryz.func41, Tryz.ntmps41
    go_wp2_with (go_at_call 30; refine (RK.out _).mono ?_; rintro e w' ⟨rfl, rfl⟩)
    go_ret
    exact ⟨rfl, rfl⟩
  · subst h
    rw [show shapeK 82 = [100, 115, 116] from by decide]
    go_enter Tryz.func41, Tryz.ntmps41
    go_wp2_with (go_at_call 30; refine (RK.out _).mono ?_; rintro e w' ⟨rfl, rfl⟩)
    go_ret
    exact ⟨rfl, rfl⟩
  · subst h
    rw [show shapeK 67 = [100, 99, 122] from by decide]
    go_enter Tryz.func41, Tryz.ntmps41
    go_wp2_with (go_at_call 30; refine (RK.out _).mono ?_; rintro e w' ⟨rfl, rfl⟩)
    go_ret
    exact ⟨rfl, rfl⟩
  · subst h
    rw [show shapeK 78 = [] from by decide]
    go_enter Tryz.func41, Tryz.ntmps41
    go_wp2_with (go_at_call 30; refine (RK.out _).mono ?_; rintro e w' ⟨rfl, rfl⟩)
    go_ret
    exact ⟨rfl, rfl⟩
/-- a text after some of its operands -/
def PT (nm : List UInt8) (l : List (List UInt8)) (k : Nat) : List UInt8 := nm ++ (if k = 0 then [] else 32 :: Lib.join (l.take k) [44, 32])
theorem pt0 (nm : List UInt8) (l : List (List UInt8)) : PT nm l 0 = nm := by unfold PT; simp
theorem pt1 (nm a : List UInt8) (r : List (List UInt8)) : PT nm (a :: r) 1 = nm ++ [32] ++ a := by unfold PT; simp [Lib.join_one]
theorem pt2 (nm a b : List UInt8) (r : List (List UInt8)) : PT nm (a :: b :: r) 2 = PT nm (a :: b :: r) 1 ++ [44, 32] ++ b := by
  rw [pt1]; unfold PT
  simp [join_two a (l := [b]) (by simp), Lib.join_one]
theorem pt3 (nm a b c : List UInt8) (r : List (List UInt8)) : PT nm (a :: b :: c :: r) 3 = PT nm (a :: b :: c :: r) 2 ++ [44, 32] ++ c := by
  rw [pt2, pt1]; unfold PT
  simp [join_two a (l := [b, c]) (by simp), join_two b (l := [c]) (by simp), Lib.join_one]
theorem pt_len {nm : List UInt8} {l : List (List UInt8)} (h1 : nm.length ≤ 8) (h2 : ∀ y ∈ l, y.length ≤ 60) (h3 : l.length ≤ 3) (k : Nat) : (PT nm l k).length ≤ 300 := by
  unfold PT
  split
  · simp; omega
  · have q := join_small (l.take k) 60 fun y hy => h2 y (List.mem_of_mem_take hy)
    have q2 : (l.take k).length ≤ 3 := by rw [List.length_take]; omega
    have q3 : (l.take k).length * 62 ≤ 3 * 62 := Nat.mul_le_mul_right _ q2
    simp only [List.length_append, List.length_cons]
    omega
theorem pt_text {i : Ins} (nm : List UInt8) (hn : nm = nmOf i.op) : PT nm (operT i) (operT i).length = textT i := by
  unfold PT textT
  rw [hn]
  by_cases h : operT i = []
  · rw [h]; simp
  · rw [if_neg h, if_neg (by simpa using h), List.take_length]
/-- the boxed instruction in a world -/
def TxC (w : World) (X : Nat) (op rd r1 r2 imm cs : Int) (w' : World) : Prop := w'.cell? ⟨X, 0, none⟩ = some (.int .i64 op) ∧ w'.cell? ⟨X, 1, none⟩ = some (.int .i64 rd) ∧ w'.cell? ⟨X, 2, none⟩ = some (.int .i64 r1) ∧ w'.cell? ⟨X, 3, none⟩ = some (.int .i64 r2) ∧ w'.cell? ⟨X, 4, none⟩ = some (.int .i64 imm) ∧ w'.cell? ⟨X, 5, none⟩ = some (.int .i64 cs) ∧ X < w'.heap.size ∧ Below w.heap.size w w'
theorem TxC.below {w : World} {X : Nat} {op rd r1 r2 imm cs : Int} {w1 w2 : World} (h : TxC w X op rd r1 r2 imm cs w1) (hb : Below w1.heap.size w1 w2) : TxC w X op rd r1 r2 imm cs w2 := by
  obtain ⟨a0, a1, a2, a3, a4, a5, a6, a7⟩ := h
  exact ⟨(hb.cell (p := ⟨X, 0, none⟩) a6).trans a0, (hb.cell (p := ⟨X, 1, none⟩) a6).trans a1, (hb.cell (p := ⟨X, 2, none⟩) a6).trans a2, (hb.cell (p := ⟨X, 3, none⟩) a6).trans a3, (hb.cell (p := ⟨X, 4, none⟩) a6).trans a4, (hb.cell (p := ⟨X, 5, none⟩) a6).trans a5, Nat.lt_of_lt_of_le a6 hb.size, a7.trans (hb.mono a7.size)⟩
theorem TxC.drew {w : World} {X : Nat} {op rd r1 r2 imm cs : Int} {w1 : World} (h : TxC w X op rd r1 r2 imm cs w1) (k : Nat) : TxC w X op rd r1 r2 imm cs (w1.drewN k) := h.below ⟨rfl, rfl, rfl, Nat.le_refl _, fun _ _ => rfl⟩
theorem TxC.new (w : World) (op rd r1 r2 imm cs : Int) : TxC w w.heap.size op rd r1 r2 imm cs (w.alloc (.cells #[.int .i64 op, .int .i64 rd, .int .i64 r1, .int .i64 r2, .int .i64 imm, .int .i64 cs] 34)) := by
  have r := heap_alloc_new w (.cells #[.int .i64 op, .int .i64 rd, .int .i64 r1, .int .i64 r2, .int .i64 imm, .int .i64 cs] 34)
  exact ⟨cell_of_row _ _ _ _ _ _ r, cell_of_row _ _ _ _ _ _ r, cell_of_row _ _ _ _ _ _ r, cell_of_row _ _ _ _ _ _ r, cell_of_row _ _ _ _ _ _ r, cell_of_row _ _ _ _ _ _ r, by simp, (Below.refl _ _).alloc (Nat.le_refl _) _⟩
set_option maxHeartbeats 2000000 in
theorem rtext_no (op rd r1 r2 imm cs : Int) (hc : ¬ Can op rd r1 r2 imm cs) (w : World) : Calls Tryz.prog 15 #[.agg #[.int .i64 op, .int .i64 rd, .int .i64 r1, .int .i64 r2, .int .i64 imm, .int .i64 cs]] w fun e w' => e = .returned (.tuple #[.string ⟨#[]⟩, .int .i64 1]) ∧ Below w.heap.size w w' := by
  have CK := Lib.hid (fun w => rcheck3_any op rd r1 r2 imm cs 1 (by rw [if_neg hc]) w)
  have b0 : Below w.heap.size w (w.alloc (.cells #[.int .i64 op, .int .i64 rd, .int .i64 r1, .int .i64 r2, .int .i64 imm, .int .i64 cs] 34)) := (Below.refl _ _).alloc (Nat.le_refl _) _
  have B0 := Lib.hid b0
  clear hc b0
  go_enter Tryz.func15, Tryz.ntmps15
  go_wp2_with (go_at_call 39; refine (CK.out _).mono ?_; rintro e w1 ⟨rfl, hb⟩; have B1 := Lib.hid (B0.out.trans (hb.mono B0.out.size)); clear hb)
  go_ret2
  exact ⟨rfl, B1.out⟩

end Go.Proofs.YtkcdnhennnjneaaGreatDoor
