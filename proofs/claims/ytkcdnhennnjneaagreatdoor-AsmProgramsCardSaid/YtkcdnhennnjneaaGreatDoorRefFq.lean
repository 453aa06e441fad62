import Derived.Test.YtkcdnhennnjneaaGreatDoorRefA
import Derived.Test.YtkcdnhennnjneaaGreatDoorAsmB
import Derived.Test.YtkcdnhennnjneaaGreatDoorAsD
import Derived.Test.YtkcdnhennnjneaaGreatDoorAsmPa
import Derived.Below
import Derived.Deep.Draws
import Derived.Deep.AppendLies
import Derived.Maps.AppendAt
import Derived.OwnWalk
import Derived.Laws.BytesArg
import Derived.Laws.MakeOwn
import Derived.Laws.OwnMore
import Derived.Deep.OwnRows
import Derived.Tactics
import Derived.Lib.ConvBytes
import Derived.Laws.Slices
import Derived.WalkKit
import Derived.KernelRfl
import Derived.RowKit3
import Derived.Deep.LoopGhost
import Derived.Deep.QuietTactic
import Derived.BigQuiet
import Derived.WideLaws
import Derived.Deep.DeepCutAuto
import Derived.Deep.CutBlock
import Derived.Deep.RegionHeld3
import Derived.Laws.Rows
import Derived.Lib.AppendStr
import Derived.ArgAppend
import Derived.Laws.IdiomCopy
import Derived.OrdersHeld
import Derived.Laws.BitsLemmas
import Derived.RowKit
import Derived.Lib.Hide
import Derived.Laws.BitsAllLaws
import Derived.WalkLawsBesides
import Derived.WalkSpells
import Derived.LaidEql
namespace Go.Proofs.YtkcdnhennnjneaaGreatDoor
open Go.RowKit Go.Shelf Go.RowKit
set_option maxRecDepth 100000
set_option linter.unusedVariables false
set_option linter.unusedSimpArgs false

theorem num_nil (w : World) : Calls Tryz.prog 13 #[.nilIface] w fun e w' => e = .returned (.int .i64 0) ∧ Below w.heap.size w w' := by
  go_enter Tryz.func13, Tryz.ntmps13
  go_wp2
  go_ret
  exact ⟨rfl, (Below.refl _ _).alloc (Nat.le_refl _) _⟩
set_option maxHeartbeats 1000000 in
theorem num_err (n : Int) (w : World) (hg : w.cell? ⟨0, 0, none⟩ = some errTy) : Calls Tryz.prog 13 #[.iface 56 (.int .i64 n)] w fun e w' => e = .returned (.int .i64 n) ∧ Below w.heap.size w w' := by
  have hgA : (w.alloc (.cells #[.int .i64 0] 56)).cell? ⟨0, 0, none⟩ = some errTy := by
    rw [World.cell?_alloc_lt _ _ ⟨0, 0, none⟩ (block_lt_of_cell hg)]; exact hg
  have htA : (w.alloc (.cells #[.int .i64 0] 56)).cell? ⟨w.heap.size, 0, none⟩ = some (.int .i64 0) := by simp
  have hfA : (w.alloc (.cells #[.int .i64 0] 56)).frozen? ⟨w.heap.size, 0, none⟩ = false := by simp
  have A := Lib.hid (as_hit n ⟨w.heap.size, 0, none⟩ (.int .i64 0) _ hgA htA hfA)
  clear hgA htA hfA hg
  go_enter Tryz.func13, Tryz.ntmps13
  go_wp2_with (go_at_call 34; refine A.out.mono ?_; rintro e w' ⟨rfl, rfl⟩)
  go_ret
  refine ⟨rfl, ?_⟩
  repeat' (first | (with_reducible exact Below.refl _ _) | (with_reducible refine Below.setCell ?_ ?_ _) | (with_reducible refine Below.alloc ?_ ?_ _) | (simp; done) | (simp; omega))
/-- an error's number, whatever the error -/
theorem num_any (n : Int) (w : World) (hg : w.cell? ⟨0, 0, none⟩ = some errTy) : Calls Tryz.prog 13 #[errV n] w fun e w' => e = .returned (.int .i64 n) ∧ Below w.heap.size w w' := by
  by_cases h : n = 0
  · subst h; exact num_nil w
  · have hE : errV n = .iface 56 (.int .i64 n) := by unfold errV; rw [if_neg h]
    rw [hE]; exact num_err n w hg

def okC (c : UInt8) : Prop := c.toNat = 45 ∨ (48 ≤ c.toNat ∧ c.toNat ≤ 57) ∨ c = 120 ∨ c = 40 ∨ c = 41
theorem itoa_okc {n : Int} {c : UInt8} (h : c ∈ Lib.itoa n) : c.toNat = 45 ∨ (48 ≤ c.toNat ∧ c.toNat ≤ 57) := Classical.byContradiction fun hc => itoa_no n (by omega) h
theorem itoa_cons (n : Int) : ∃ c r, Lib.itoa n = c :: r ∧ azB c = false := by
  obtain ⟨c, r, e⟩ : ∃ c r, Lib.itoa n = c :: r := by
    unfold Lib.itoa
    split
    · exact ⟨_, _, rfl⟩
    · obtain ⟨d, r, _, e, _⟩ := dec_head (n.toNat + 1) n.toNat (Nat.lt_succ_self _)
      exact ⟨_, _, e⟩
  have h := itoa_okc (n := n) (c := c) (by rw [e]; exact List.mem_cons_self ..)
  refine ⟨c, r, e, ?_⟩
  unfold azB
  rw [decide_eq_false (by omega), Bool.false_and]
theorem itoa_ok (n : Int) : Lib.itoa n ≠ [] ∧ ∀ c ∈ Lib.itoa n, okC c := by
  obtain ⟨c, r, e, _⟩ := itoa_cons n
  refine ⟨by rw [e]; simp, fun c hc => ?_⟩
  rcases itoa_okc hc with h | h
  · exact Or.inl h
  · exact Or.inr (Or.inl h)
theorem regT_ok (n : Int) : regT n ≠ [] ∧ ∀ c ∈ regT n, okC c := by
  refine ⟨by unfold regT; simp, fun c hc => ?_⟩
  rcases List.mem_cons.1 hc with h | h
  · exact Or.inr (Or.inr (Or.inl h))
  · exact (itoa_ok n).2 c h
theorem farT_ok (n m : Int) : farT n m ≠ [] ∧ ∀ c ∈ farT n m, okC c := by
  refine ⟨by unfold farT; simp, fun c hc => ?_⟩
  unfold farT at hc
  rcases List.mem_append.1 hc with h | h
  · exact (itoa_ok n).2 c h
  · rcases List.mem_cons.1 h with h | h
    · exact Or.inr (Or.inr (Or.inr (Or.inl h)))
    · rcases List.mem_append.1 h with h | h
      · exact (regT_ok m).2 c h
      · exact Or.inr (Or.inr (Or.inr (Or.inr (List.mem_singleton.1 h))))
theorem oper_ok (i : Ins) : ∀ y ∈ operT i, y ≠ [] ∧ ∀ c ∈ y, okC c := by
  have hn := itoa_ok
  have hr := regT_ok
  have hf := farT_ok
  unfold operT
  repeat' split
  all_goals (intro y hy; simp only [List.mem_cons, List.not_mem_nil, or_false] at hy)
  all_goals first
    | (rcases hy with rfl | rfl | rfl <;> first | exact hn _ | exact hr _ | exact hf _ _)
    | (rcases hy with rfl | rfl <;> first | exact hn _ | exact hr _ | exact hf _ _)
    | exact hy.elim
theorem join_mem {sep : List UInt8} {c : UInt8} : ∀ (l : List (List UInt8)), c ∈ Lib.join l sep → (∃ y ∈ l, c ∈ y) ∨ c ∈ sep
  | [], h => by rw [Lib.join_nil] at h; cases h
  | [x], h => by rw [Lib.join_one] at h; exact Or.inl ⟨x, List.mem_singleton.2 rfl, h⟩
  | x :: y :: r, h => by
    rw [join_two x (by simp) sep] at h
    rcases List.mem_append.1 h with h | h
    · exact Or.inl ⟨x, List.mem_cons_self .., h⟩
    · rcases List.mem_append.1 h with h | h
      · exact Or.inr h
      · rcases join_mem (y :: r) h with ⟨z, hz, hc⟩ | h
        · exact Or.inl ⟨z, List.mem_cons_of_mem _ hz, hc⟩
        · exact Or.inr h
theorem nm_free : ∀ op, op < 57 → (10 : UInt8) ∉ nmTab.getD op [] ∧ (35 : UInt8) ∉ nmTab.getD op [] ∧ (58 : UInt8) ∉ nmTab.getD op [] := by decide +kernel
theorem nm_heads : ∀ op, op < 57 → ((nmTab.getD op []).head?.any azB && (nmTab.getD op []).getLast?.any fun c => c != 32) = true := by decide +kernel
theorem text_free {i : Ins} (h : i.can) : (10 : UInt8) ∉ textT i ∧ (35 : UInt8) ∉ textT i ∧ (58 : UInt8) ∉ textT i := by
  have hop : i.op.toNat < 57 := by have := h.1; omega
  obtain ⟨n1, n2, n3⟩ := nm_free _ hop
  have go : ∀ c : UInt8, ¬ okC c → c ≠ 32 → c ≠ 44 → c ∉ nmOf i.op → c ∉ textT i := by
    intro c hc h32 h44 hn hm
    unfold textT at hm
    split at hm
    · exact hn hm
    · rcases List.mem_append.1 hm with hm | hm
      · exact hn hm
      · rcases List.mem_cons.1 hm with hm | hm
        · exact h32 hm
        · rcases join_mem _ hm with ⟨y, hy, hcy⟩ | hm
          · exact hc ((oper_ok i y hy).2 c hcy)
          · simp only [List.mem_cons, List.not_mem_nil, or_false] at hm
            rcases hm with hm | hm
            · exact h44 hm
            · exact h32 hm
  refine ⟨go 10 ?_ (by decide) (by decide) n1, go 35 ?_ (by decide) (by decide) n2, go 58 ?_ (by decide) (by decide) n3⟩ <;> (unfold okC; decide)
theorem text_head {i : Ins} (h : i.can) : ∃ c r, textT i = c :: r ∧ azB c = true := by
  have hop : i.op.toNat < 57 := by have := h.1; omega
  have e := (Bool.and_eq_true _ _ ▸ nm_heads _ hop).1
  have en : nmOf i.op = nmTab.getD i.op.toNat [] := rfl
  rw [← en] at e
  cases en2 : nmOf i.op with
  | nil => rw [en2] at e; simp at e
  | cons c r =>
    rw [en2] at e
    simp at e
    unfold textT
    rw [en2]
    split
    · exact ⟨_, _, rfl, e⟩
    · exact ⟨_, _, rfl, e⟩
theorem join_last (sep : List UInt8) : ∀ (l : List (List UInt8)), l ≠ [] → (∀ y ∈ l, y ≠ []) → ∃ p y c, y ∈ l ∧ c ∈ y ∧ Lib.join l sep = p ++ [c]
  | [], h, _ => absurd rfl h
  | [x], _, h => by
    have hx := h x (List.mem_singleton.2 rfl)
    refine ⟨x.dropLast, x, x.getLast hx, List.mem_singleton.2 rfl, List.getLast_mem hx, ?_⟩
    rw [Lib.join_one, List.dropLast_concat_getLast]
  | x :: y :: r, _, h => by
    obtain ⟨p, z, c, hz, hc, e⟩ := join_last sep (y :: r) (by simp) fun z hz => h z (List.mem_cons_of_mem _ hz)
    refine ⟨x ++ (sep ++ p), z, c, List.mem_cons_of_mem _ hz, hc, ?_⟩
    rw [join_two x (by simp) sep, e]
    simp only [List.append_assoc]
theorem text_last {i : Ins} (h : i.can) : ∃ p c, textT i = p ++ [c] ∧ c ≠ 32 := by
  have hop : i.op.toNat < 57 := by have := h.1; omega
  unfold textT
  split
  · have e := (Bool.and_eq_true _ _ ▸ nm_heads _ hop).2
    have en : nmOf i.op = nmTab.getD i.op.toNat [] := rfl
    rw [← en] at e
    cases hg : (nmOf i.op).getLast? with
    | none => rw [hg] at e; simp at e
    | some c =>
      rw [hg] at e
      simp at e
      obtain ⟨p, hp⟩ := List.getLast?_eq_some_iff.1 hg
      exact ⟨p, c, hp, e⟩
  · next hne =>
    obtain ⟨p, y, c, hy, hc, e⟩ := join_last [44, 32] (operT i) hne fun y hy => (oper_ok i y hy).1
    refine ⟨nmOf i.op ++ 32 :: p, c, by rw [e]; simp, ?_⟩
    rintro rfl
    have := (oper_ok i y hy).2 _ hc
    unfold okC at this
    revert this; decide
theorem parts_text {i : Ins} (h : i.can) : partsT (textT i) = (nmOf i.op, operT i) := by
  have hop : i.op.toNat < 57 := by have := h.1; omega
  have hn : (32 : UInt8) ∉ nmOf i.op := nm_no _ hop
  cases e : operT i with
  | nil =>
    have ht : textT i = nmOf i.op := by unfold textT; rw [if_pos e]
    unfold partsT
    rw [ht, cut_no (t := []) hn]
    rfl
  | cons x r =>
    have ht : textT i = nmOf i.op ++ 32 :: Lib.join (x :: r) [44, 32] := by unfold textT; rw [if_neg (by rw [e]; simp), e]
    unfold partsT
    rw [ht, cut_app hn]
    simp only [if_true]
    rw [split_join r x (fun y hy => oper_no i y (by rw [e]; exact hy))]

theorem parse_some {s : List UInt8} {i : Ins} (h : parseT s = some i) : i.can ∧ textT i = s ∧ partsT s = (nmOf i.op, operT i) := by
  obtain ⟨hc, ht⟩ := parse_text h
  refine ⟨hc, ht, ?_⟩
  rw [← ht]; exact parts_text hc
theorem parse_make {s : List UInt8} {i : Ins} (hc : i.can) (hp : partsT s = (nmOf i.op, operT i)) : parseT s = some i := by
  have e : s = textT i := by
    by_cases h : operT i = []
    · have h2 : (partsT s).2 = [] := by rw [hp]; exact h
      unfold textT
      rw [if_pos h]
      unfold partsT at hp h2
      split at hp
      · next hm =>
        rw [if_pos hm] at h2
        exact absurd h2 (split_ne _ _)
      · next hm =>
        have e1 := congrArg Prod.fst hp
        simp only at e1
        rw [cut_miss (by simpa using hm)] at e1
        exact e1
    · have h2 : (partsT s).2 ≠ [] := by rw [hp]; exact h
      have e := parts_join h2
      rw [hp] at e
      unfold textT
      rw [if_neg h]
      exact e
  rw [e]
  exact text_parse hc
/-- a register's text, as the reference takes it -/
def rgB (x : List UInt8) : Bool := Lib.hasPrefix x [120] && (numOk (Lib.trimPrefix x [120]) && decide (0 ≤ numV (Lib.trimPrefix x [120])))
def rgV (x : List UInt8) : Int := numV (Lib.trimPrefix x [120])
theorem rg_at {n : Int} (h0 : 0 ≤ n) (h1 : n < 32) : rgB (regT n) = true ∧ rgV (regT n) = n := by
  obtain ⟨e1, e2⟩ := num_itoa (v := n) (by omega) (by omega)
  have hp : Lib.hasPrefix (regT n) [120] = true := by
    show List.isPrefixOf [120] (120 :: Lib.itoa n) = true
    simp [List.isPrefixOf]
  have ht : Lib.trimPrefix (regT n) [120] = Lib.itoa n := by
    unfold Lib.trimPrefix; rw [if_pos hp]; rfl
  unfold rgB rgV
  rw [ht, hp, e1, e2, decide_eq_true h0]
  exact ⟨rfl, rfl⟩
theorem rg_ok {x : List UInt8} (h : rgB x = true) : x = regT (rgV x) := by
  unfold rgB at h
  obtain ⟨h1, h⟩ := Bool.and_eq_true_iff.1 h
  obtain ⟨h2, _⟩ := Bool.and_eq_true_iff.1 h
  exact reg_ok h1 h2
/-- a number with a register in brackets, as the reference takes it -/
def mmB (x : List UInt8) : Bool := (Lib.cut x [40]).2.2 && (numOk (Lib.cut x [40]).1 && (Lib.hasSuffix (Lib.cut x [40]).2.1 [41] && rgB (Lib.trimSuffix (Lib.cut x [40]).2.1 [41])))
def mmN (x : List UInt8) : Int := numV (Lib.cut x [40]).1
def mmR (x : List UInt8) : Int := rgV (Lib.trimSuffix (Lib.cut x [40]).2.1 [41])
theorem mm_at {n m : Int} (h0 : -4294967296 ≤ n) (h1 : n ≤ 4294967296) (h2 : 0 ≤ m) (h3 : m < 32) : Lib.cut (farT n m) [40] = (Lib.itoa n, regT m ++ [41], true) ∧ Lib.hasSuffix (regT m ++ [41]) [41] = true ∧ Lib.trimSuffix (regT m ++ [41]) [41] = regT m := by
  have hs : Lib.hasSuffix (regT m ++ [41]) [41] = true := List.isSuffixOf_iff_suffix.2 ⟨regT m, rfl⟩
  refine ⟨cut_app (itoa_no n (by decide)), hs, ?_⟩
  unfold Lib.trimSuffix; rw [if_pos hs]; simp
theorem mm_ok {x : List UInt8} (h : mmB x = true) : x = farT (mmN x) (mmR x) := by
  unfold mmB at h
  obtain ⟨_, h⟩ := Bool.and_eq_true_iff.1 h
  obtain ⟨h2, h⟩ := Bool.and_eq_true_iff.1 h
  obtain ⟨h3, h4⟩ := Bool.and_eq_true_iff.1 h
  unfold rgB at h4
  obtain ⟨h5, h⟩ := Bool.and_eq_true_iff.1 h4
  obtain ⟨h6, _⟩ := Bool.and_eq_true_iff.1 h
  exact far_ok h3 h2 h5 h6

theorem ext_bs (l : List UInt8) (a b : Nat) : (bs l).extract a b = bs ((l.drop a).take (b - a)) := Lib.extract_mk l a b
theorem occ_take {s p : List UInt8} {i : Nat} (h : Lib.occAt s p i = true) : (s.drop i).take p.length = p := by
  unfold Lib.occAt at h
  obtain ⟨r, e⟩ := List.isPrefixOf_iff_prefix.1 h
  rw [← e]; simp
theorem occ_not {s p : List UInt8} {i : Nat} (h : Lib.occAt s p i = false) : (s.drop i).take p.length ≠ p := by
  intro e
  unfold Lib.occAt at h
  have : p.isPrefixOf (s.drop i) = true := List.isPrefixOf_iff_prefix.2 ⟨(s.drop i).drop p.length, by
    conv => lhs; lhs; rw [← e]
    exact List.take_append_drop _ _⟩
  rw [this] at h; cases h
theorem cut_at {s p : List UInt8} {i : Nat} (hi : i ≤ s.length) (h : Lib.occAt s p i = true) (hn : Lib.NoOcc s p i) : Lib.cut s p = (s.take i, s.drop (i + p.length), true) := by
  have e := Lib.index_first hi h hn
  unfold Lib.cut
  rw [e, if_pos (by omega)]
  simp
set_option maxHeartbeats 2000000 in
/-- ref04.cut -/
theorem rcut_any (s p : List UInt8) (hs : s.length ≤ 70000) (hp : p ≠ []) (hp2 : p.length ≤ 100) (w : World) : Calls Tryz.prog 49 #[.string (bs s), .string (bs p)] w fun e w' => e = .returned (.tuple #[.string (bs (Lib.cut s p).1), .string (bs (Lib.cut s p).2.1), .bool (Lib.cut s p).2.2]) ∧ Below w.heap.size w w' := by
  obtain ⟨S, hS⟩ : ∃ S, S = bs s := ⟨_, rfl⟩
  obtain ⟨Q, hQ⟩ : ∃ Q, Q = bs p := ⟨_, rfl⟩
  obtain ⟨A, hA⟩ : ∃ A, A = bs (Lib.cut s p).1 := ⟨_, rfl⟩
  obtain ⟨B, hB⟩ : ∃ B, B = bs (Lib.cut s p).2.1 := ⟨_, rfl⟩
  obtain ⟨c, hc⟩ : ∃ c, c = (Lib.cut s p).2.2 := ⟨_, rfl⟩
  rw [← hS, ← hQ, ← hA, ← hB, ← hc]
  have hsz : S.size = s.length := by rw [hS]; exact bs_size s
  have hqz : Q.size = p.length := by rw [hQ]; exact bs_size p
  have HS := Lib.hid (And.intro hS (And.intro hQ (And.intro hA (And.intro hB (And.intro hc (And.intro hsz (And.intro hqz hp)))))))
  have hz : S.size ≤ 70000 := by omega
  have hq : Q.size ≤ 100 := by omega
  clear hS hQ hA hB hc hsz hqz hs hp2 hp
  go_enter Tryz.func49, Tryz.ntmps49
  go_upto_region 2 with (fail)
  go_loopw [7] (fun x wr => ∃ i : Nat, i ≤ S.size ∧ x = .int .i64 i ∧ Lib.NoOcc s p i ∧ w = wr) (fun x _ => S.size - (intOf x).toNat)
  case atStart => exact ⟨0, Nat.zero_le _, rfl, fun j hj => by omega, rfl⟩
  case round =>
    obtain ⟨i, hi, rfl, hno, rfl⟩ := hrel
    have HN := Lib.hid hno
    clear hno
    by_cases him : i + Q.size ≤ S.size
    · have himI : (i : Int) + (Q.size : Int) ≤ (S.size : Int) := by omega
      obtain ⟨P, hP⟩ : ∃ P, P = bs ((s.drop i).take p.length) := ⟨_, rfl⟩
      have hx : S.extract i (i + Q.size) = P := by
        obtain ⟨e1, e2, _, _, _, _, e7, _⟩ := HS.out
        rw [hP, e7, e1, ext_bs]; congr 2; omega
      have HP := Lib.hid hP
      clear hP
      cases ho : Lib.occAt s p i with
      | true =>
        obtain rfl : P = Q := by rw [HP.out, occ_take ho]; exact HS.out.2.1.symm
        have hcut := cut_at (by have := HS.out.2.2.2.2.2.1; omega) ho HN.out
        have hA : S.extract 0 i = A := by
          obtain ⟨e1, _, e3, _⟩ := HS.out
          rw [e3, hcut, e1, ext_bs]; simp
        have hB : S.extract (i + P.size) S.size = B := by
          obtain ⟨e1, _, _, e4, _, e6, e7, _⟩ := HS.out
          rw [e4, hcut, e6, e7, e1, ext_bs]
          simp only
          rw [List.take_of_length_le (by simp)]
        have hC : c = true := by
          obtain ⟨_, _, _, _, e5, _⟩ := HS.out
          rw [e5, hcut]
        have hC2 := Lib.hid hC
        clear ho hC hcut
        go_upto_region 5 with (fail)
        go_region
        go_wp2
        go_ret3
        exact ⟨by rw [hC2.out, ← hB]; rfl, Below.drew (Below.refl _ _)⟩
      | false =>
        have hne : (P.toList == Q.toList) = false := by
          rw [HP.out, HS.out.2.1]; exact bs_ne (occ_not ho)
        have HN2 : Hid (Lib.NoOcc s p (i + 1)) := Lib.hid (fun j hj => by
          by_cases h : j = i
          · rw [h]; exact ho
          · exact HN.out j (by omega))
        have hq1 : 1 ≤ Q.size := by
          obtain ⟨_, _, _, _, _, _, e7, e8⟩ := HS.out
          rw [e7]; exact List.length_pos_iff.2 e8
        clear ho
        go_wp2
        go_roundw
        case rel => exact ⟨i + 1, by omega, by go_num, HN2.out, by trivial⟩
        case measure => simp [intOf]; omega
    · have himI : ¬ (i : Int) + (Q.size : Int) ≤ (S.size : Int) := by omega
      have hcut : Lib.cut s p = (s, [], false) := by
        obtain ⟨_, _, _, _, _, e6, e7, e8⟩ := HS.out
        have e := Lib.index_past e8 HN.out (by omega)
        unfold Lib.cut
        rw [e, if_neg (by decide)]
      have hA : A = S := by
        obtain ⟨e1, _, e3, _⟩ := HS.out
        rw [e3, hcut, e1]
      have hB : B = ⟨#[]⟩ := by
        obtain ⟨_, _, _, e4, _⟩ := HS.out
        rw [e4, hcut]; rfl
      have hC : c = false := by
        obtain ⟨_, _, _, _, e5, _⟩ := HS.out
        rw [e5, hcut]
      have HF := Lib.hid (And.intro hA (And.intro hB hC))
      clear hA hB hC hcut
      go_wp2
      go_ret3
      obtain ⟨e1, e2, e3⟩ := HF.out
      exact ⟨by rw [e1, e2, e3]; rfl, Below.refl _ _⟩

theorem valD_lt : ∀ (j : Nat) (d : List UInt8), d.length = j → d.all digB = true → valD d < 10 ^ j := by
  intro j
  induction j with
  | zero => intro d h _; rw [List.length_eq_zero_iff.1 h]; decide
  | succ j ih =>
    intro d h ha
    have hne : d ≠ [] := fun e => by rw [e] at h; simp at h
    have e := List.dropLast_concat_getLast hne
    rw [← e] at ha ⊢
    rw [List.all_append] at ha
    obtain ⟨h1, h2⟩ := Bool.and_eq_true_iff.1 ha
    simp only [List.all_cons, List.all_nil, Bool.and_true] at h2
    have hd := dig_mem.1 h2
    have := ih d.dropLast (by simp [h]) h1
    rw [valD_snoc, Nat.pow_succ]
    omega
theorem take_all {d : List UInt8} {j : Nat} (hj : j < d.length) (h : (d.take j).all digB = true) (hc : digB d[j] = true) : (d.take (j + 1)).all digB = true := by
  rw [List.take_succ_eq_append_getElem hj, List.all_append, h]; simp [hc]
theorem take_val {d : List UInt8} {j : Nat} (hj : j < d.length) : valD (d.take (j + 1)) = 10 * valD (d.take j) + ((d[j]).toNat - 48) := by
  rw [List.take_succ_eq_append_getElem hj, valD_snoc]
theorem mag_len {d : List UInt8} (h : 10 < d.length) : magB d = false := by unfold magB; rw [decide_eq_false (show ¬ d.length ≤ 10 by omega)]; simp
theorem mag_dig {d : List UInt8} {j : Nat} (hj : j < d.length) (hc : digB d[j] = false) : magB d = false := by
  have : d.all digB = false := by
    rw [List.all_eq_false]
    exact ⟨d[j], List.getElem_mem hj, by rw [hc]; decide⟩
  unfold magB; rw [this]; simp
set_option maxHeartbeats 4000000 in
/-- ref04.number -/
theorem rnumber_any (s : List UInt8) (hs : s.length ≤ 70000) (w : World) : Calls Tryz.prog 48 #[.string (bs s)] w fun e w' => (∃ n : Int, e = .returned (.tuple #[.int .i64 n, .bool (numOk s)]) ∧ (numOk s = true → n = numV s)) ∧ w = w' := by
  rw [← rnum_same]
  have hv : rnumB s = true → rnumV s = numV s := fun h => rnum_val (by rw [← rnum_same]; exact h)
  obtain ⟨V, hV⟩ : ∃ V, V = numV s := ⟨_, rfl⟩
  rw [← hV] at hv ⊢
  obtain ⟨D, hD⟩ : ∃ D, D = unT s := ⟨_, rfl⟩
  obtain ⟨mn, hmn⟩ : ∃ mn, mn = negB s := ⟨_, rfl⟩
  have hb : rnumB s = (magB D && !(mn && decide (valD D = 0))) := by unfold rnumB; rw [← hD, ← hmn]
  have hrv : rnumV s = if mn = true then -(valD D : Int) else (valD D : Int) := by unfold rnumV; rw [← hD, ← hmn]
  rw [hb] at hv ⊢
  obtain ⟨OK, hOK⟩ : ∃ OK, OK = (magB D && !(mn && decide (valD D = 0))) := ⟨_, rfl⟩
  rw [← hOK] at hv ⊢
  have HOK := Lib.hid hOK
  clear hOK
  have hDl : D.length ≤ 70000 := by
    rw [hD]; unfold unT; split
    · rw [List.length_tail]; omega
    · exact hs
  have HR := Lib.hid (fun h => hrv.symm.trans (hv h))
  have HD := Lib.hid hD
  have HM := Lib.hid hmn
  clear hv hrv hb hV
  have hsz : (bs s).size = s.length := bs_size s
  have hdz : (bs D).size = D.length := bs_size D
  have hneg0 : s = [] → mn = false := fun e => by rw [hmn, e]; rfl
  have hneg1 : ∀ c r, s = c :: r → mn = decide (c = 45) := fun c r e => by rw [hmn, e]; unfold negB; simp
  have HN0 := Lib.hid hneg0
  have HN1 := Lib.hid hneg1
  have hdt : mn = true → (bs s).extract 1 (bs s).size = bs D := fun e => by
    rw [ext_bs, hD, hsz]; unfold unT; rw [← hmn, if_pos e]
    rw [List.take_of_length_le (by simp)]; all_goals simp
  have hdf : mn = false → bs s = bs D := fun e => by rw [hD]; unfold unT; rw [← hmn, if_neg (by rw [e]; decide)]
  have HDT := Lib.hid hdt
  have HDF := Lib.hid hdf
  obtain ⟨S, hS⟩ : ∃ S, S = bs s := ⟨_, rfl⟩
  rw [← hS] at hsz HDT HDF ⊢
  have HS := Lib.hid hS
  have HSZ := Lib.hid hsz
  have hsle : S.size ≤ 70000 := by omega
  clear hneg0 hneg1 hdt hdf hD hmn hS hsz hs HD HM hdz
  go_enter Tryz.func48, Tryz.ntmps48
  go_upto_region 1 with (fail)
  go_cut [4] (fun m w' => m = .bool mn ∧ w = w')
  case first =>
    by_cases h0 : 0 < S.size
    · have h0I : (0 : Int) < (S.size : Int) := by omega
      obtain ⟨c, hc⟩ : ∃ c, (S[0]'h0).toNat = c := ⟨_, rfl⟩
      have hm : mn = decide (c = 45) := by
        have e1 := HS.out
        subst e1
        cases s with
        | nil => rw [HSZ.out] at h0; simp at h0
        | cons a r =>
          rw [HN1.out a r rfl]
          have : c = a.toNat := by rw [← hc]; rfl
          rw [this]
          congr 1
          rw [← UInt8.toNat_inj]; rfl
      by_cases h45 : c = 45
      · subst h45
        have hm2 := Lib.hid (hm.trans (decide_eq_true rfl))
        clear hm
        go_wp2
        go_meet
        case rel => exact ⟨by rw [hm2.out], rfl⟩
      · have hm2 := Lib.hid (hm.trans (decide_eq_false h45))
        have h45I : ((c : Int) == 45) = false := by rw [beq_eq_false_iff_ne]; omega
        clear hm
        go_wp2
        go_meet
        case rel => exact ⟨by rw [hm2.out], rfl⟩
    · have h0I : ¬ (0 : Int) < (S.size : Int) := by omega
      have hm2 := Lib.hid (HN0.out (List.length_eq_zero_iff.1 (by rw [← HSZ.out]; omega)))
      go_wp2
      go_meet
      case rel => exact ⟨by rw [hm2.out], rfl⟩
  case rest =>
    obtain ⟨rfl, rfl⟩ := hcut
    go_upto_if 15 with (fail)
    go_cut [0] (fun a w' => a = .string (bs D) ∧ w = w')
    case first =>
      cases hmn : mn with
      | true =>
        have e := HDT.out hmn
        have h1 : 1 ≤ S.size := by
          by_cases h : 1 ≤ S.size
          · exact h
          · have := HN0.out (List.length_eq_zero_iff.1 (by rw [← HSZ.out]; omega))
            rw [hmn] at this; cases this
        have h1I : (1 : Int) ≤ (S.size : Int) := by omega
        subst hmn
        go_wp2
        go_meet
        case rel => exact ⟨by rw [← e], rfl⟩
      | false =>
        have e := Lib.hid (HDF.out hmn)
        subst hmn
        go_wp2
        go_meet
        case rel => exact ⟨by rw [← e.out], rfl⟩
    case rest =>
      obtain ⟨rfl, rfl⟩ := hcut
      have hdz : (bs D).size = D.length := bs_size D
      have hne : D ≠ [] → (bs D).toList.isEmpty = false := fun h => bs_nonempty h
      obtain ⟨Z, hZ⟩ : ∃ Z, Z = bs D := ⟨_, rfl⟩
      rw [← hZ] at hdz hne ⊢
      have HZ := Lib.hid hZ
      have HNE := Lib.hid hne
      have HDZ := Lib.hid hdz
      have hzl : Z.size ≤ 70000 := by omega
      clear HDT HDF HN0 HN1 HS HSZ hZ hne hdz
      go_upto_region 6 with (fail)
      go_loopw [5, 6] (fun v x wr => ∃ j : Nat, j ≤ Z.size ∧ j ≤ 10 ∧ x = .int .i64 j ∧ v = .int .i64 (valD (D.take j) : Nat) ∧ (D.take j).all digB = true ∧ w = wr) (fun _ x _ => Z.size - (intOf x).toNat)
      case atStart => exact ⟨0, Nat.zero_le _, by decide, rfl, rfl, rfl, rfl⟩
      case round =>
        obtain ⟨j, hj, hj10, rfl, rfl, hall, rfl⟩ := hrel
        have hvl : valD (D.take j) < 10 ^ j := valD_lt j _ (by rw [List.length_take]; have := HDZ.out; omega) hall
        have hvl2 : valD (D.take j) < 10000000000 := Nat.lt_of_lt_of_le hvl (Nat.pow_le_pow_right (by decide) hj10)
        have HALL := Lib.hid hall
        clear hall hvl
        by_cases hjz : j < Z.size
        · have hjI : (j : Int) < (Z.size : Int) := by omega
          obtain ⟨c, hc⟩ : ∃ c, (Z[j]'hjz).toNat = c := ⟨_, rfl⟩
          have hjd : j < D.length := by rw [← HDZ.out]; exact hjz
          have hcd : (D[j]'hjd).toNat = c := by rw [← hc]; have e1 := HZ.out; subst e1; rfl
          have hc256 : c < 256 := by rw [← hc]; exact (Z[j]'hjz).toNat_lt
          have htv := take_val hjd
          rw [hcd] at htv
          have HTV := Lib.hid htv
          have HCD := Lib.hid hcd
          clear htv hcd
          by_cases d1 : 48 ≤ c ∧ c ≤ 57
          · obtain ⟨d1a, d1b⟩ := d1
            have d1aI : ¬ (c : Int) < 48 := by omega
            have d1bI : ¬ (57 : Int) < (c : Int) := by omega
            by_cases h9 : 9 < j
            · have h9I : (9 : Int) < (j : Int) := by omega
              have hf : Hid (OK = false) := Lib.hid (by rw [HOK.out, mag_len (d := D) (by omega)]; rfl)
              go_wp2
              go_ret2
              exact ⟨⟨_, by rw [hf.out]; rfl, fun h => by rw [hf.out] at h; cases h⟩, rfl⟩
            · have h9I : ¬ (9 : Int) < (j : Int) := by omega
              have hta := take_all hjd HALL.out (dig_mem.2 (by rw [HCD.out]; exact ⟨d1a, d1b⟩))
              have HTA := Lib.hid hta
              obtain ⟨v, hvv⟩ : ∃ v, v = valD (D.take j) := ⟨_, rfl⟩
              rw [← hvv] at hvl2 HTV ⊢
              clear hta hvv
              go_wp2
              go_roundw
              case rel => exact ⟨j + 1, by omega, by omega, by go_num, by rw [HTV.out]; go_num, HTA.out, by trivial⟩
              case measure => simp [intOf]; omega
          · have hmd := mag_dig hjd (by
              cases e : digB (D[j]'hjd) with
              | false => rfl
              | true => exact absurd (by have := dig_mem.1 e; rw [HCD.out] at this; exact this) d1)
            have hf : Hid (OK = false) := Lib.hid (by rw [HOK.out, hmd]; rfl)
            clear hmd
            by_cases d2 : c < 48
            · have d2I : (c : Int) < 48 := by omega
              go_wp2
              go_ret2
              exact ⟨⟨_, by rw [hf.out]; rfl, fun h => by rw [hf.out] at h; cases h⟩, rfl⟩
            · have d2I : ¬ (c : Int) < 48 := by omega
              have d3I : (57 : Int) < (c : Int) := by omega
              go_wp2
              go_ret2
              exact ⟨⟨_, by rw [hf.out]; rfl, fun h => by rw [hf.out] at h; cases h⟩, rfl⟩
        · have hjI : ¬ (j : Int) < (Z.size : Int) := by omega
          have hjd : D.length ≤ j := by rw [← HDZ.out]; omega
          have hall2 := HALL.out
          rw [List.take_of_length_le hjd] at hvl2 hall2 ⊢
          obtain ⟨v, hvv⟩ : ∃ v, v = valD D := ⟨_, rfl⟩
          have hl10 : D.length ≤ 10 := by rw [← HDZ.out]; omega
          have hmg : D ≠ [] → magB D = (!(decide (1 < D.length) && decide (D.head? = some 48)) && decide (v ≤ 4294967296)) := fun h => by
            unfold magB; rw [decide_eq_true h, decide_eq_true hl10, hall2, hvv]; simp
          have hok := HOK.out
          rw [← hvv] at hvl2 HR hok ⊢
          have HOK := Lib.hid hok
          clear hok
          have HMG := Lib.hid hmg
          clear hall2 hjd hl10 hmg hvv HALL
          cases hD : D with
          | nil =>
            have hZ : Z = ⟨#[]⟩ := by rw [HZ.out, hD]; rfl
            have hf : Hid (OK = false) := Lib.hid (by rw [HOK.out, hD]; rfl)
            subst hZ
            subst hD
            go_wp2
            go_ret2
            exact ⟨⟨_, by rw [hf.out]; rfl, fun h => by rw [hf.out] at h; cases h⟩, rfl⟩
          | cons a r =>
            have hne2 := HNE.out (by rw [hD]; simp)
            have hz0 : 0 < Z.size := by rw [HDZ.out, hD]; simp
            obtain ⟨c, hc⟩ : ∃ c, (Z[0]'hz0).toNat = c := ⟨_, rfl⟩
            have hca : c = a.toNat := by
              have e1 := HZ.out
              subst hD
              subst e1
              rw [← hc]; rfl
            have hhd : decide (D.head? = some 48) = decide (c = 48) := by
              rw [hD, hca, List.head?_cons]
              congr 1
              rw [Option.some.injEq, ← UInt8.toNat_inj]; rfl
            rw [← hD]
            have hmg2 := HMG.out (by rw [hD]; simp)
            rw [hhd, ← HDZ.out] at hmg2
            have HMG := Lib.hid hmg2
            clear hmg2 hhd hca HDZ HZ HNE hD
            by_cases h1 : 1 < Z.size
            · have h1I : (1 : Int) < (Z.size : Int) := by omega
              by_cases h48 : c = 48
              · have hf : Hid (OK = false) := Lib.hid (by rw [HOK.out, HMG.out, decide_eq_true h1, decide_eq_true h48]; rfl)
                subst h48
                go_wp2
                go_ret2
                exact ⟨⟨_, by rw [hf.out]; rfl, fun h => by rw [hf.out] at h; cases h⟩, rfl⟩
              · have h48I : ((c : Int) == 48) = false := by rw [beq_eq_false_iff_ne]; omega
                have HLZ : Hid ((!(decide (1 < Z.size) && decide (c = 48))) = true) := Lib.hid (by rw [decide_eq_false h48, Bool.and_false]; rfl)
                by_cases hbig : 4294967296 < v
                · have hbigI : (4294967296 : Int) < (v : Int) := by omega
                  have hf : Hid (OK = false) := Lib.hid (by rw [HOK.out, HMG.out, HLZ.out, decide_eq_false (by omega : ¬ v ≤ 4294967296)]; simp)
                  have hv0 : ¬ (v : Int) = 0 := by omega
                  have hv1 : ((v : Int) == 0) = false := by simpa using hv0
                  cases hmn : mn with
                  | true =>
                    subst hmn
                    go_wp2
                    go_ret2
                    exact ⟨⟨_, by rw [hf.out]; rfl, fun h => by rw [hf.out] at h; cases h⟩, rfl⟩
                  | false =>
                    subst hmn
                    go_wp2
                    go_ret2
                    exact ⟨⟨_, by rw [hf.out]; rfl, fun h => by rw [hf.out] at h; cases h⟩, rfl⟩
                · have hbigI : ¬ (4294967296 : Int) < (v : Int) := by omega
                  cases hmn : mn with
                  | true =>
                    by_cases hv : v = 0
                    · have hf : Hid (OK = false) := Lib.hid (by rw [HOK.out, hmn, decide_eq_true hv]; simp)
                      subst hmn
                      subst hv
                      go_wp2
                      go_ret2
                      exact ⟨⟨_, by rw [hf.out]; rfl, fun h => by rw [hf.out] at h; cases h⟩, rfl⟩
                    · have hf : Hid (OK = true) := Lib.hid (by rw [HOK.out, hmn, HMG.out, HLZ.out, decide_eq_true (by omega : v ≤ 4294967296), decide_eq_false hv]; rfl)
                      have hv0 : ¬ (v : Int) = 0 := by omega
                      have hv1 : ((v : Int) == 0) = false := by simpa using hv0
                      have hr := HR.out
                      rw [hmn] at hr
                      have HR2 := Lib.hid hr
                      clear hr HR
                      subst hmn
                      go_wp2
                      go_ret2
                      exact ⟨⟨-(v : Int), by rw [hf.out]; go_num, fun h => by simpa using HR2.out h⟩, rfl⟩
                  | false =>
                    have hf : Hid (OK = true) := Lib.hid (by rw [HOK.out, hmn, HMG.out, HLZ.out, decide_eq_true (by omega : v ≤ 4294967296)]; rfl)
                    have hr := HR.out
                    rw [hmn] at hr
                    have HR2 := Lib.hid hr
                    clear hr HR
                    subst hmn
                    go_wp2
                    go_ret2
                    exact ⟨⟨(v : Int), by rw [hf.out]; go_num, fun h => by simpa using HR2.out h⟩, rfl⟩
            · have h1I : ¬ (1 : Int) < (Z.size : Int) := by omega
              have HLZ : Hid ((!(decide (1 < Z.size) && decide (c = 48))) = true) := Lib.hid (by rw [decide_eq_false h1, Bool.false_and]; rfl)
              by_cases hbig : 4294967296 < v
              · have hbigI : (4294967296 : Int) < (v : Int) := by omega
                have hf : Hid (OK = false) := Lib.hid (by rw [HOK.out, HMG.out, HLZ.out, decide_eq_false (by omega : ¬ v ≤ 4294967296)]; simp)
                have hv0 : ¬ (v : Int) = 0 := by omega
                have hv1 : ((v : Int) == 0) = false := by simpa using hv0
                cases hmn : mn with
                | true =>
                  subst hmn
                  go_wp2
                  go_ret2
                  exact ⟨⟨_, by rw [hf.out]; rfl, fun h => by rw [hf.out] at h; cases h⟩, rfl⟩
                | false =>
                  subst hmn
                  go_wp2
                  go_ret2
                  exact ⟨⟨_, by rw [hf.out]; rfl, fun h => by rw [hf.out] at h; cases h⟩, rfl⟩
              · have hbigI : ¬ (4294967296 : Int) < (v : Int) := by omega
                cases hmn : mn with
                | true =>
                  by_cases hv : v = 0
                  · have hf : Hid (OK = false) := Lib.hid (by rw [HOK.out, hmn, decide_eq_true hv]; simp)
                    subst hmn
                    subst hv
                    go_wp2
                    go_ret2
                    exact ⟨⟨_, by rw [hf.out]; rfl, fun h => by rw [hf.out] at h; cases h⟩, rfl⟩
                  · have hf : Hid (OK = true) := Lib.hid (by rw [HOK.out, hmn, HMG.out, HLZ.out, decide_eq_true (by omega : v ≤ 4294967296), decide_eq_false hv]; rfl)
                    have hv0 : ¬ (v : Int) = 0 := by omega
                    have hv1 : ((v : Int) == 0) = false := by simpa using hv0
                    have hr := HR.out
                    rw [hmn] at hr
                    have HR2 := Lib.hid hr
                    clear hr HR
                    subst hmn
                    go_wp2
                    go_ret2
                    exact ⟨⟨-(v : Int), by rw [hf.out]; go_num, fun h => by simpa using HR2.out h⟩, rfl⟩
                | false =>
                  have hf : Hid (OK = true) := Lib.hid (by rw [HOK.out, hmn, HMG.out, HLZ.out, decide_eq_true (by omega : v ≤ 4294967296)]; rfl)
                  have hr := HR.out
                  rw [hmn] at hr
                  have HR2 := Lib.hid hr
                  clear hr HR
                  subst hmn
                  go_wp2
                  go_ret2
                  exact ⟨⟨(v : Int), by rw [hf.out]; go_num, fun h => by simpa using HR2.out h⟩, rfl⟩

theorem rg_nil : rgB [] = false := by unfold rgB; rfl
theorem numOk_nil : numOk [] = false := by decide
theorem rg_one (c : UInt8) : rgB [c] = false := by
  unfold rgB
  by_cases h : c = 120
  · subst h
    have e : Lib.trimPrefix [120] [120] = [] := by decide
    rw [e, numOk_nil]; simp
  · have e : Lib.hasPrefix [c] [120] = false := by
      show List.isPrefixOf [120] [c] = false
      simp [List.isPrefixOf]; exact fun q => h q.symm
    rw [e]; rfl
theorem rg_cons (c : UInt8) (r : List UInt8) : rgB (c :: r) = (decide (c = 120) && (numOk r && decide (0 ≤ numV r))) ∧ (c = 120 → rgV (c :: r) = numV r) := by
  have e1 : Lib.hasPrefix (c :: r) [120] = decide (c = 120) := by
    show List.isPrefixOf [120] (c :: r) = _
    simp only [List.isPrefixOf, Bool.and_true]
    by_cases h : c = 120
    · subst h; rfl
    · rw [decide_eq_false h, beq_eq_false_iff_ne]; exact fun q => h q.symm
  by_cases h : c = 120
  · subst h
    have e2 : Lib.trimPrefix (120 :: r) [120] = r := by unfold Lib.trimPrefix; rw [e1]; rfl
    unfold rgB rgV
    rw [e1, e2]
    exact ⟨rfl, fun _ => rfl⟩
  · unfold rgB
    rw [e1, decide_eq_false h]
    exact ⟨rfl, fun q => absurd q h⟩
set_option maxHeartbeats 2000000 in
/-- ref04.reg -/
theorem rreg_any (s : List UInt8) (hs : s.length ≤ 70000) (w : World) : Calls Tryz.prog 47 #[.string (bs s)] w fun e w' => (∃ n : Int, e = .returned (.tuple #[.int .i64 n, .bool (rgB s)]) ∧ (rgB s = true → n = rgV s)) ∧ w = w' := by
  have hsz : (bs s).size = s.length := bs_size s
  obtain ⟨S, hS⟩ : ∃ S, S = bs s := ⟨_, rfl⟩
  rw [← hS] at hsz ⊢
  by_cases h2 : S.size < 2
  · have h2I : (S.size : Int) < 2 := by omega
    have hr : rgB s = false := by
      match s, hsz with
      | [], _ => exact rg_nil
      | [c], _ => exact rg_one c
      | a :: b :: r, e => simp only [List.length_cons] at e; omega
    have HR := Lib.hid hr
    rw [hr]
    clear hr hsz hS hs
    go_enter Tryz.func47, Tryz.ntmps47
    go_wp2
    go_ret2
    exact ⟨⟨_, rfl, fun h => by cases h⟩, rfl⟩
  · have h2I : ¬ (S.size : Int) < 2 := by omega
    have h0 : 0 < S.size := by omega
    cases s with
    | nil => simp only [List.length_nil] at hsz; omega
    | cons a r =>
      obtain ⟨c, hc⟩ : ∃ c, (S[0]'h0).toNat = c := ⟨_, rfl⟩
      have hca : c = a.toNat := by subst hS; rw [← hc]; rfl
      obtain ⟨g1, g2⟩ := rg_cons a r
      by_cases hx : c = 120
      · have ha : a = 120 := UInt8.toNat_inj.1 (by rw [← hca, hx]; rfl)
        have NU := Lib.hid (fun w => rnumber_any r (by simp only [List.length_cons] at hs; omega) w)
        have hg := g2 ha
        rw [ha, decide_eq_true rfl, Bool.true_and] at g1
        rw [ha] at hg
        rw [ha, g1, hg]
        have hex : S.extract 1 S.size = bs r := by rw [hS, ext_bs, bs_size]; simp
        obtain ⟨R, hR⟩ : ∃ R, R = bs r := ⟨_, rfl⟩
        rw [← hR] at NU hex
        have h1I : (1 : Int) ≤ (S.size : Int) := by omega
        clear hsz hS hs hca ha g1 g2 hg hR
        subst hx
        obtain ⟨V, hV⟩ : ∃ V, V = numV r := ⟨_, rfl⟩
        rw [← hV] at NU ⊢
        obtain ⟨OK, hOK⟩ : ∃ OK, OK = numOk r := ⟨_, rfl⟩
        rw [← hOK] at NU ⊢
        clear hV hOK
        go_enter Tryz.func47, Tryz.ntmps47
        go_upto_region 4 with (go_at_call 48; refine (NU.out _).mono ?_; rintro e w' ⟨⟨n, rfl, hn⟩, rfl⟩; have HN := Lib.hid hn; clear hn)
        cases OK with
        | false =>
          go_wp2
          go_ret2
          exact ⟨⟨_, rfl, fun h => by cases h⟩, rfl⟩
        | true =>
          obtain rfl := HN.out rfl
          by_cases hn0 : 0 ≤ n
          · go_wp2
            go_ret2
            first | exact ⟨⟨n, by rw [decide_eq_true hn0]; rfl, fun _ => rfl⟩, rfl⟩ | exact ⟨rfl, rfl⟩ | (rw [decide_eq_true hn0]; rfl)
          · have hd : decide (0 ≤ n) = false := decide_eq_false hn0
            have HD := Lib.hid hd
            clear hd
            go_wp2
            go_ret2
            first | exact ⟨⟨n, by rw [HD.out]; rfl, fun _ => rfl⟩, rfl⟩ | exact ⟨rfl, rfl⟩ | (refine ⟨?_, rfl⟩; rw [HD.out]; rfl) | (rw [HD.out]; rfl)
      · have ha : ¬ a = 120 := fun e => hx (by rw [hca, e]; rfl)
        rw [decide_eq_false ha, Bool.false_and] at g1
        rw [g1]
        have hxI : ((c : Int) != 120) = true := by simp; omega
        have hxI2 : ((c : Int) == 120) = false := by rw [beq_eq_false_iff_ne]; omega
        clear hsz hS hs hca ha g1 g2
        go_enter Tryz.func47, Tryz.ntmps47
        go_wp2
        go_ret2
        first | exact ⟨⟨_, rfl, fun h => by cases h⟩, rfl⟩ | exact ⟨⟨_, rfl⟩, rfl⟩ | exact ⟨_, rfl⟩ | rfl

theorem split_cut (r sep : List UInt8) (hs : sep ≠ []) : Lib.split r sep = if (Lib.cut r sep).2.2 = true then (Lib.cut r sep).1 :: Lib.split (Lib.cut r sep).2.1 sep else [(Lib.cut r sep).1] := by
  rcases Lib.index_spec r sep with ⟨h1, _⟩ | ⟨i, h1, h2, h3, h4⟩
  · have e : Lib.cut r sep = (r, [], false) := by unfold Lib.cut; rw [h1, if_neg (by decide)]
    rw [e, split_miss h1]; rfl
  · rw [split_hit hs h1, cut_at h2 h3 h4]; rfl
theorem cut_shorter {r sep : List UInt8} (h : (Lib.cut r sep).2.2 = true) : (Lib.cut r sep).2.1.length + sep.length ≤ r.length := by
  have e := congrArg List.length (cut_back h)
  simp only [List.length_append] at e
  omega
def RowS (w : World) (base : Nat) (v : Value) (l : List (List UInt8)) : Prop := w.ownsRow base 9 1 v l.length (l.map fun y => Value.string (bs y))
theorem RowS.mono {w : World} {b b' : Nat} {v : Value} {l : List (List UInt8)} (h : RowS w b v l) (hb : b' ≤ b) : RowS w b' v l := by
  obtain ⟨h1, h2⟩ := h
  refine ⟨h1, ?_⟩
  rcases h2 with h3 | ⟨g, cap, cur, h3, h4, h5⟩
  · exact Or.inl h3
  · exact Or.inr ⟨g, cap, cur, h3, Nat.le_trans hb h4, h5⟩
theorem news_s (w : World) (b : ByteArray) (t : TypeId) : ∀ (j : Nat) (u : Value), ([.string b] : List Value)[j]? = some u → (w.alloc (.cells #[.string b] t)).cell? ((⟨w.heap.size, 0, none⟩ : Addr).add j) = some u := by
  intro z u hz
  rcases z with _ | z
  · simp at hz; subst hz; simp [Addr.add]
  · simp at hz
/-- how much of a text is left to be parted -/
def partM (m r : Value) : Nat := match m with | .bool true => Lib.strSize r + 1 | _ => 0
set_option maxHeartbeats 4000000 in
/-- ref04.Parts -/
theorem rparts_any (s : List UInt8) (hs : s.length ≤ 70000) (w : World) : Calls Tryz.prog 28 #[.string (bs s)] w fun e w' => (∃ v, e = .returned (.tuple #[.string (bs (partsT s).1), v]) ∧ RowS w' w.heap.size v (partsT s).2) ∧ Below w.heap.size w w' := by
  have C0 := Lib.hid (fun w => rcut_any s [32] hs (by simp) (by decide) w)
  have CC := Lib.hid (fun (r : List UInt8) (hr : r.length ≤ 70000) w => rcut_any r [44, 32] hr (by simp) (by decide) w)
  have e32 : bs [32] = (⟨#[32]⟩ : ByteArray) := rfl
  have e44 : bs [44, 32] = (⟨#[44, 32]⟩ : ByteArray) := rfl
  rw [e32] at C0
  simp only [e44] at CC
  have hnm : (partsT s).1 = (Lib.cut s [32]).1 := by unfold partsT; split <;> rfl
  have hpt : (Lib.cut s [32]).2.2 = true → (partsT s).2 = Lib.split (Lib.cut s [32]).2.1 [44, 32] := fun h => by unfold partsT; rw [if_pos h]
  have hpf : (Lib.cut s [32]).2.2 = false → (partsT s).2 = [] := fun h => by unfold partsT; rw [if_neg (by rw [h]; decide)]
  have hcl : (Lib.cut s [32]).2.1.length ≤ 70000 := by
    cases h : (Lib.cut s [32]).2.2 with
    | true => have := cut_shorter h; omega
    | false => rw [cut_miss h]; simp
  rw [hnm]
  obtain ⟨A, hA⟩ : ∃ A, A = bs (Lib.cut s [32]).1 := ⟨_, rfl⟩
  rw [← hA] at C0 ⊢
  generalize (Lib.cut s [32]).2.1 = r0 at *
  generalize (Lib.cut s [32]).2.2 = m0 at *
  generalize (partsT s).2 = L at *
  have hcnt : m0 = true → L.length ≤ 70002 := fun h => by rw [hpt h]; have := split_count r0 [44, 32]; omega
  have HPT := Lib.hid hpt
  have HPF := Lib.hid hpf
  have HCN := Lib.hid hcnt
  have HCL := Lib.hid hcl
  have HI : Hid (∃ i, Tryz.prog.info? 9 = some i ∧ i.zero = some (.string ⟨#[]⟩) ∧ i.size = 1 ∧ i.bytes = 16) := Lib.hid ⟨_, rfl, rfl, rfl, rfl⟩
  clear hnm hpt hpf hA e32 e44 hcnt hcl hs
  go_enter Tryz.func28, Tryz.ntmps28
  go_upto_region 2 with (go_at_call 49; refine (C0.out _).mono ?_; rintro e w1 ⟨rfl, hb⟩; have B1 := Lib.hid hb; clear hb)
  have hb1 := B1.out.size
  go_upto_region 3 with (fail)
  go_loopw [5, 6, 7] (fun r m l wr => (∃ ds, RowS wr w1.heap.size l ds ∧ ((m = .bool true ∧ ∃ x, r = .string (bs x) ∧ x.length ≤ 70000 ∧ L = ds ++ Lib.split x [44, 32] ∧ m0 = true) ∨ (m = .bool false ∧ L = ds))) ∧ Below w1.heap.size w1 wr) (fun r m _ _ => partM m r)
  case atStart =>
    refine ⟨⟨[], World.ownsRow_nil _ _ _ _, ?_⟩, Below.refl _ _⟩
    cases hm : m0 with
    | true => exact Or.inl ⟨rfl, r0, rfl, HCL.out, HPT.out hm, rfl⟩
    | false => exact Or.inr ⟨rfl, HPF.out hm⟩
  case round =>
    obtain ⟨⟨ds, hrow, hor⟩, hbel⟩ := hrel
    have RU := Lib.hid hrow
    have BQ := Lib.hid hbel
    clear hrow hbel
    rcases hor with ⟨rfl, x, rfl, hx, hL, hm0⟩ | ⟨rfl, hL⟩
    · have CX := Lib.hid (fun w => CC.out x hx w)
      have hsc := split_cut x [44, 32] (by simp)
      have hcl := HCN.out hm0
      rw [hL] at hcl
      have hdl : ds.length ≤ 70002 := by rw [List.length_append] at hcl; omega
      have hxz : (bs x).size = x.length := bs_size x
      have hsh : (Lib.cut x [44, 32]).2.2 = true → (Lib.cut x [44, 32]).2.1.length + 2 ≤ x.length := fun h => cut_shorter h
      generalize (Lib.cut x [44, 32]).1 = y1 at *
      generalize (Lib.cut x [44, 32]).2.1 = y2 at *
      generalize (Lib.cut x [44, 32]).2.2 = m2 at *
      have HLL := Lib.hid hL
      have HSC := Lib.hid hsc
      have HSH := Lib.hid hsh
      have HM0 := Lib.hid hm0
      have HXZ := Lib.hid hxz
      obtain ⟨X, hX⟩ : ∃ X, X = bs x := ⟨_, rfl⟩
      rw [← hX] at CX HXZ ⊢
      obtain ⟨Y1, hY1⟩ : ∃ Y, Y = bs y1 := ⟨_, rfl⟩
      rw [← hY1] at CX
      have HY1 := Lib.hid hY1
      have hzl : (bs y2).size = y2.length := bs_size y2
      have HZL := Lib.hid hzl
      obtain ⟨Y2, hY2⟩ : ∃ Y, Y = bs y2 := ⟨_, rfl⟩
      rw [← hY2] at CX HZL
      have HY2 := Lib.hid hY2
      clear hL hsc hsh hm0 hxz hX hY1 hzl hY2 hcl
      go_wp2_with (first | (go_at_call 49; refine (CX.out _).mono ?_; rintro e w3 ⟨rfl, hb⟩; have B3 := Lib.hid hb; (have RU7 : Hid (World.ownsRow w3 w1.heap.size 9 1 _ _ _) := Lib.hid (World.ownsRow.kept (RU.out : World.ownsRow _ _ _ _ _ _ _) (gb_below (World.grownBy.refl wr none) hb) (Classical.em _))); have HSZ7 := Lib.hid hb.size; clear hb) | (at_builtin; (obtain ⟨i0, hi, hz0, hz1, hz3⟩ := HI.out); refine wpList_append_own _ rfl _ _ 52 rfl w1.heap.size 9 i0 (.string ⟨#[]⟩) 1 16 Tryz.underlying52 hi hz0 hz1 hz3 rfl (by decide) _ _ _ rfl (RU7.out.alloc _) ⟨w3.heap.size, 0, none⟩ 1 1 [.string Y1] rfl rfl (news_s w3 _ _) (by intro u hu; simp at hu; subst hu; rfl) (by unfold maxLen; omega) (by omega) (by have := HSZ7.out; have := BQ.out.size; simp at *; omega) ?_; intro v' w8 hown hgrow hnil; have HO1 := Lib.hid hown; have HG1 := Lib.hid hgrow; clear hown hgrow hnil hi hz0 hz1 hz3))
      go_roundw
      case rel =>
        refine ⟨⟨ds ++ [y1], ?_, ?_⟩, ?_⟩
        · have h := HO1.out
          unfold RowS
          rw [List.length_append, List.map_append, List.map_cons, List.map_nil, ← HY1.out]
          exact h
        · have hs := HSC.out
          cases hm2 : m2 with
          | true =>
            rw [hm2, if_pos rfl] at hs
            exact Or.inl ⟨rfl, y2, by rw [HY2.out], by have := HSH.out hm2; omega, by rw [HLL.out, hs, List.append_assoc]; rfl, HM0.out⟩
          | false =>
            rw [hm2, if_neg (by decide)] at hs
            exact Or.inr ⟨rfl, by rw [HLL.out, hs]⟩
        · exact ((BQ.out.trans (B3.out.mono BQ.out.size)).alloc (Nat.le_trans BQ.out.size B3.out.size) _).grown HG1.out (by have := BQ.out.size; have := B3.out.size; simp; omega) (fun k hk => (RU7.out.lt k hk).1)
      case measure =>
        cases hm2 : m2 with
        | true =>
          have := HSH.out hm2
          have := HZL.out
          have := HXZ.out
          simp [partM, Lib.strSize]; omega
        | false => simp [partM]
    · have HLL := Lib.hid hL
      clear hL
      go_wp2
      go_ret2
      exact ⟨⟨_, rfl, by rw [HLL.out]; exact RowS.mono RU.out hb1⟩, B1.out.trans (BQ.out.mono hb1)⟩

end Go.Proofs.YtkcdnhennnjneaaGreatDoor
