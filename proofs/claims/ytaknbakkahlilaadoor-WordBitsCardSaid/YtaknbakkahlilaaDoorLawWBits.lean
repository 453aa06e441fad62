import Derived.Test.YtaknbakkahlilaaDoorLawWH
import Derived.Test.YtaknbakkahlilaaDoorDoorK
import Derived.Lib.TrailingZeros
import Derived.LaidHandle
import Derived.LaidLaws
import Derived.Below
import Derived.Deep.Draws
import Derived.Deep.AppendLies
import Derived.Maps.AppendAt
import Derived.OwnWalk
import Derived.Laws.BytesArg
import Derived.Laws.MakeOwn
import Derived.Laws.OwnMore
import Derived.Deep.OwnRows
import Derived.Tactics
import Derived.Lib.ConvBytes
import Derived.Laws.Slices
import Derived.WalkKit
import Derived.KernelRfl
import Derived.RowKit3
import Derived.Deep.LoopGhost
import Derived.Deep.QuietTactic
import Derived.BigQuiet
import Derived.WideLaws
import Derived.Deep.DeepCutAuto
import Derived.Deep.CutBlock
import Derived.Deep.RegionHeld3
import Derived.Laws.Rows
import Derived.Lib.AppendStr
import Derived.ArgAppend
import Derived.Laws.IdiomCopy
import Derived.OrdersHeld
import Derived.Laws.BitsLemmas
import Derived.RowKit
import Derived.Lib.Hide
import Derived.Laws.BitsAllLaws
import Derived.WalkLawsBesides
import Derived.WalkSpells
import Derived.LaidEql
namespace Go.Proofs.YtaknbakkahlilaaDoor
open Go.RowKit
set_option maxRecDepth 100000
set_option linter.unusedVariables false
set_option linter.unusedSimpArgs false

theorem mapM_at {α β : Type} {f : α → Option β} : ∀ {l : List α} {ys : List β}, l.mapM f = some ys → ∀ {i : Nat} {a : α}, l[i]? = some a → ∃ y, f a = some y ∧ ys[i]? = some y
  | [], ys, h, i, a, hi => by simp at hi
  | x :: l, ys, h, i, a, hi => by
    rw [List.mapM_cons] at h
    cases h1 : f x with
    | none => simp [h1] at h
    | some y =>
      cases h2 : l.mapM f with
      | none => simp [h1, h2] at h
      | some ys' =>
        obtain rfl : y :: ys' = ys := by simpa [h1, h2] using h
        cases i with
        | zero => simp at hi; subst hi; exact ⟨y, h1, rfl⟩
        | succ i => simpa using mapM_at h2 (by simpa using hi)
/-- an array of cells, read as data: cell by cell -/
theorem tab_at {H : Type} {enc : TypeId × Value → H} {P : Program} {w : World} {base : Nat} {sp : Nat → Bool} {held : Bool} {fuel : Nat} {t : TypeId} {n : Nat} {e : TypeId} {cs : List Value} {ds : List (DataW H)} {p : List MemPlace}
    (ht : P.underlying t = some (.array n e)) (hc : P.cellsOf e = 1) (hct : P.cellsOf t = n) (h : DataW.trod enc P w base sp held fuel t cs = some (.agg ds, p)) :
    cs.length = n ∧ ∀ j, j < n → ∃ c fuel' y, cs[j]? = some c ∧ DataW.trod enc P w base sp held fuel' e [c] = some y ∧ ds[j]? = some y.1 := by
  cases fuel with
  | zero => simp [DataW.trod] at h
  | succ fuel =>
    simp only [DataW.trod, ht, hc, hct] at h
    split at h
    · rename_i hl
      simp only [Option.map_eq_some_iff] at h
      obtain ⟨xs, hx, he⟩ := h
      simp only [Prod.mk.injEq, DataW.agg.injEq] at he
      obtain ⟨rfl, _⟩ := he
      refine ⟨hl, fun j hj => ?_⟩
      obtain ⟨y, hy, hi⟩ := mapM_at hx (i := j) (a := j) (by simp [hj])
      have hj' : j < cs.length := by omega
      refine ⟨cs[j], fuel, y, by simp [hj'], ?_, by simp [hi]⟩
      have e1 : List.take 1 (List.drop (j * 1) cs) = [cs[j]] := by
        rw [Nat.mul_one, List.drop_eq_getElem_cons hj']; rfl
      rw [e1] at hy
      exact hy
    · cases h
theorem int_at {H : Type} {enc : TypeId × Value → H} {P : Program} {w : World} {base : Nat} {sp : Nat → Bool} {held : Bool} {fuel : Nat} {t : TypeId} {k : IntKind} {c : Value} {y : DataW H × List MemPlace}
    (ht : P.underlying t = some (.int k)) (h : DataW.trod enc P w base sp held fuel t [c] = some y) : ∃ n, c = .int k n ∧ y.1 = .lit (.int k n) := by
  cases fuel with
  | zero => simp [DataW.trod] at h
  | succ fuel =>
    cases c <;> simp [DataW.trod, ht] at h
    rename_i k' n
    obtain ⟨⟨rfl, _⟩, rfl⟩ := h
    exact ⟨n, rfl, rfl⟩
theorem str_at {H : Type} {enc : TypeId × Value → H} {P : Program} {w : World} {base : Nat} {sp : Nat → Bool} {held : Bool} {fuel : Nat} {t : TypeId} {c : Value} {y : DataW H × List MemPlace}
    (ht : P.underlying t = some .string) (h : DataW.trod enc P w base sp held fuel t [c] = some y) : ∃ s, c = .string s ∧ y.1 = .lit (.string s.data.toList) := by
  cases fuel with
  | zero => simp [DataW.trod] at h
  | succ fuel =>
    cases c <;> simp [DataW.trod, ht] at h
    rename_i s
    obtain ⟨_, rfl⟩ := h
    exact ⟨s, rfl, rfl⟩

/-- the lowest bit struck -/
theorem strike {v c : Nat} (h0 : v ≠ 0) (hv : v < 4294967296) (hc : c = Lib.ctz 32 v) : c < 32 ∧ v.testBit c = true ∧ (∀ j, j < c → v.testBit j = false) ∧ (∀ j, (v &&& (v - 1)).testBit j = (v.testBit j && decide (j ≠ c))) := by
  obtain ⟨m, hm, hk⟩ := Lib.ctzFrom_spec 32 v (by omega) hv
  have e : Lib.ctz 32 v = Lib.ctzFrom 32 v := by simp [Lib.ctz, h0]
  rw [← e, ← hc] at hm hk
  clear e hc
  have p1 : v = 2 ^ c * (2 * m + 1) + 0 := by omega
  have hp := Nat.two_pow_pos c
  have p2 : v - 1 = 2 ^ c * (2 * m) + (2 ^ c - 1) := by
    rw [hm, Nat.mul_add, Nat.mul_one]; omega
  have t1 : ∀ j, v.testBit j = if j < c then false else (2 * m + 1).testBit (j - c) := fun j => by
    rw [p1, Nat.testBit_two_pow_mul_add _ hp]
    simp
  have t2 : ∀ j, (v - 1).testBit j = if j < c then (2 ^ c - 1).testBit j else (2 * m).testBit (j - c) := fun j => by
    rw [p2, Nat.testBit_two_pow_mul_add _ (by omega)]
  refine ⟨hk, ?_, fun j hj => by rw [t1, if_pos hj], fun j => ?_⟩
  · rw [t1, if_neg (by omega), Nat.sub_self]
    simp [Nat.testBit_zero]
  · rw [Nat.testBit_and, t1, t2]
    by_cases hj : j < c
    · rw [if_pos hj, if_pos hj]; simp
    · rw [if_neg hj, if_neg hj]
      by_cases hjc : j = c
      · subst hjc
        simp [Nat.testBit_zero]
      · obtain ⟨t, ht⟩ : ∃ t, j - c = t + 1 := ⟨j - c - 1, by omega⟩
        rw [ht, Nat.testBit_succ, Nat.testBit_succ, show (2 * m + 1) / 2 = m by omega, show 2 * m / 2 = m by omega]
        simp [hjc]
theorem filter_same (p : Nat → Bool) : ∀ (d k : Nat), (∀ j, k ≤ j → j < k + d → p j = false) → (List.range (k + d)).filter p = (List.range k).filter p
  | 0, k, _ => rfl
  | d + 1, k, h => by
    rw [show k + (d + 1) = (k + d) + 1 from rfl, List.range_succ, List.filter_append, filter_same p d k (fun j h1 h2 => h j h1 (by omega))]
    simp [h (k + d) (by omega) (by omega)]
theorem filter_next (p : Nat → Bool) {k c : Nat} (hkc : k ≤ c) (h : ∀ j, k ≤ j → j < c → p j = false) (hc : p c = true) : (List.range (c + 1)).filter p = (List.range k).filter p ++ [c] := by
  obtain ⟨d, rfl⟩ := Nat.exists_eq_add_of_le hkc
  rw [List.range_succ, List.filter_append, filter_same p d k (fun j h1 h2 => h j h1 h2)]
  simp [hc]

/-- the table lies -/
def TabB (w : World) : Prop := ∀ j, j < 32 → w.cell? ⟨1, j, none⟩ = some (.int .u8 (Lib.deBruijn32tab.getD j 0))
theorem TabB.below {w w' : World} (h : TabB w) (hb : Below w.heap.size w w') : TabB w' := fun j hj => (World.cell?_of_block (a := ⟨1, j, none⟩) (hb.block _ (block_lt_of_cell (h j hj)))).trans (h j hj)
theorem tz_key (x a : Nat) (hx : x < 4294967296) (hx0 : x ≠ 0) (hlow : x &&& (4294967296 - x) = a) :
    bits BinOp.and IntKind.u32 (x : Int) (-(x : Int) % 4294967296) * 125613361 % 4294967296 / 134217728 = ((a * 125613361 % 4294967296 / 134217728 : Nat) : Int) := by
  have e1 : -(x : Int) % 4294967296 = ((4294967296 - x : Nat) : Int) := by omega
  rw [e1, Go.u32_and_nat x _ hx (by omega), hlow]
  omega
set_option maxHeartbeats 1000000 in
theorem tz_core (x k idx : Nat) (w : World) (hx0 : ((x : Int) == 0) = false)
    (key : bits BinOp.and IntKind.u32 (x : Int) (-(x : Int) % 4294967296) * 125613361 % 4294967296 / 134217728 = (idx : Int))
    (hi : idx < 32) (hk : k < 32) (hcell : w.cell? ⟨1, idx, none⟩ = some (.int .u8 k)) :
    Calls Tryd.prog 40 #[.int .u32 x] w fun e w' => e = .returned (.int .i64 k) ∧ w = w' := by
  have hx1 : ¬ x = 0 := by simpa using hx0
  go_enter Tryd.func40, Tryd.ntmps40
  go_wp2_with (simp only [key])
  go_ret
  exact ⟨rfl, rfl⟩
theorem tz_any (x : Nat) (hx : x < 4294967296) (hx0 : x ≠ 0) (w : World) (hT : TabB w) : Calls Tryd.prog 40 #[.int .u32 x] w fun e w' => e = .returned (.int .i64 (Lib.ctz 32 x)) ∧ w = w' := by
  obtain ⟨hlow, hk⟩ := Lib.lowest_bit 32 x hx0 hx
  obtain ⟨hi, htab⟩ := Lib.deBruijn32_at _ hk
  have hcell := hT _ hi
  rw [htab] at hcell
  exact tz_core x _ _ w (by simp; omega) (tz_key x _ hx hx0 hlow) hi hk hcell
theorem news_i (w : World) (v : Value) (t : TypeId) : ∀ (j : Nat) (u : Value), [v][j]? = some u → (w.alloc (.cells #[v] t)).cell? ((⟨w.heap.size, 0, none⟩ : Addr).add j) = some u := by
  intro z u hz
  rcases z with _ | z
  · simp at hz; subst hz; simp [Addr.add]
  · simp at hz
/-- the places of the bits below k -/
def below (v k : Nat) : List Nat := (List.range k).filter fun j => v.testBit j
theorem below_len (v k : Nat) : (below v k).length ≤ k := by
  unfold below
  exact Nat.le_trans (List.length_filter_le _ _) (by simp)
/-- a list of numbers in a row of the call's own -/
def RowN (w : World) (base : Nat) (v : Value) (l : List Nat) : Prop := w.ownsRow base 3 1 v l.length (l.map fun i => Value.int .i64 (i : Nat))
set_option maxHeartbeats 4000000 in
theorem bits_any (v : Nat) (hv : v < 4294967296) (w : World) (hT : TabB w) : Calls Tryd.prog 14 #[.int .u32 v] w fun e w' => ∃ r, e = .returned r ∧ RowN w' w.heap.size r (below v 32) ∧ Below w.heap.size w w' := by
  have HT := Lib.hid hT
  have HI : Hid (∃ i, Tryd.prog.info? 3 = some i ∧ i.zero = some (.int .i64 0) ∧ i.size = 1 ∧ i.bytes = 8) := Lib.hid ⟨_, rfl, rfl, rfl, rfl⟩
  clear hT
  go_enter Tryd.func14, Tryd.ntmps14
  go_upto_region 2 with (fail)
  go_loopw [0, 3] (fun x r wr => ∃ (u k : Nat), k ≤ 32 ∧ u < 4294967296 ∧ x = .int .u32 u ∧ (∀ j, u.testBit j = (v.testBit j && decide (k ≤ j))) ∧ RowN wr w.heap.size r (below v k) ∧ Below w.heap.size w wr) (fun x _ _ => (intOf x).toNat)
  case atStart => exact ⟨v, 0, by omega, hv, rfl, fun j => by simp, World.ownsRow_nil _ _ _ _, Below.refl _ _⟩
  case round =>
    rename_i wr
    obtain ⟨u, k, hk, hu, rfl, hb, hrow, hbel⟩ := hrel
    have HR := Lib.hid hrow
    have HBl := Lib.hid hbel
    have HBit := Lib.hid hb
    have hsz := hbel.size
    clear hrow hbel hb
    by_cases hu0 : u = 0
    · subst hu0
      go_wp2
      go_ret
      refine ⟨_, rfl, ?_, HBl.out⟩
      have hz : ∀ j, k ≤ j → j < k + (32 - k) → v.testBit j = false := fun j h1 _ => by
        have h := HBit.out j
        simpa [h1] using h.symm
      have he : below v 32 = below v k := by
        unfold below
        have h := filter_same (fun j => v.testBit j) (32 - k) k hz
        rwa [show k + (32 - k) = 32 by omega] at h
      rw [he]
      exact HR.out
    · have hs := strike hu0 hu rfl
      have TZ := Lib.hid (tz_any u hu hu0 wr (HT.out.below HBl.out))
      generalize Lib.ctz 32 u = c at *
      obtain ⟨u2, hu2⟩ : ∃ u2, u2 = u &&& (u - 1) := ⟨_, rfl⟩
      have hlt2 : u2 < u := by rw [hu2]; exact Nat.lt_of_le_of_lt Nat.and_le_right (by omega)
      have e2 : bits .and .u32 (u : Int) ((u : Int) - 1) = (u2 : Int) := by
        rw [hu2, ← Go.u32_and_nat u (u - 1) hu (by omega)]; congr 1; omega
      rw [← hu2] at hs
      have HS := Lib.hid hs
      have hc : c < 32 := hs.1
      have hl := below_len v k
      have hu1 : 1 ≤ (u : Int) := by omega
      clear hs hu2
      go_wp2_with (first | (go_at_call 40; refine TZ.out.mono ?_; rintro e w' ⟨rfl, rfl⟩) | (at_builtin; (obtain ⟨i0, hi, hz0, hz1, hz2⟩ := HI.out); refine wpList_append_own _ rfl _ _ 24 rfl w.heap.size 3 i0 (.int .i64 0) 1 8 Tryd.underlying24 hi hz0 hz1 hz2 rfl (by decide) _ _ _ rfl (HR.out.alloc _) ⟨wr.heap.size, 0, none⟩ 1 1 [.int .i64 (c : Nat)] rfl rfl (news_i wr _ _) (by intro u hu; simp at hu; subst hu; rfl) (by unfold maxLen; omega) (by omega) (by simp; omega) ?_; intro v' w1 hown hgrow hnil; have HO1 := Lib.hid hown; have HG1 := Lib.hid hgrow; clear hown hgrow hnil hi hz0 hz1 hz2))
      obtain ⟨_, s1, s2, s3⟩ := HS.out
      have hkc : k ≤ c ∧ v.testBit c = true := by
        have h := HBit.out c
        rw [s1] at h
        simpa [and_comm] using h.symm
      refine ⟨⟨u2, c + 1, by omega, by omega, rfl, fun j => ?_, ?_, ?_⟩, by simp [intOf]; omega⟩
      · rw [s3 j, HBit.out j]
        by_cases h1 : j < c
        · have h2 := s2 j h1
          rw [HBit.out j] at h2
          rw [h2]
          simp [show ¬ c + 1 ≤ j by omega]
        · by_cases h3 : j = c
          · subst h3; simp
          · simp [h3, show k ≤ j by omega, show c + 1 ≤ j by omega]
      · have he : below v (c + 1) = below v k ++ [c] := by
          unfold below
          refine filter_next (fun j => v.testBit j) hkc.1 (fun j h1 h2 => ?_) hkc.2
          have h := s2 j h2
          rw [HBit.out j] at h
          simpa [h1] using h
        unfold RowN
        rw [he, List.map_append, List.length_append]
        simpa using HO1.out
      · exact (HBl.out.alloc hsz _).grown HG1.out (by simp; omega) (fun k hk => (HR.out.lt k hk).1)
set_option maxHeartbeats 4000000 in
theorem rbits_any (v : Nat) (hv : v < 4294967296) (w : World) : Calls Tryd.prog 15 #[.int .u32 v] w fun e w' => ∃ r, e = .returned r ∧ RowN w' w.heap.size r (below v 32) ∧ Below w.heap.size w w' := by
  have HI : Hid (∃ i, Tryd.prog.info? 3 = some i ∧ i.zero = some (.int .i64 0) ∧ i.size = 1 ∧ i.bytes = 8) := Lib.hid ⟨_, rfl, rfl, rfl, rfl⟩
  go_enter Tryd.func15, Tryd.ntmps15
  go_upto_region 3 with (fail)
  go_loopw [3, 4] (fun r i wr => ∃ k : Nat, k ≤ 32 ∧ i = .int .i64 k ∧ RowN wr w.heap.size r (below v k) ∧ Below w.heap.size w wr) (fun _ i _ => 32 - (intOf i).toNat)
  case atStart => exact ⟨0, by omega, rfl, World.ownsRow_nil _ _ _ _, Below.refl _ _⟩
  case round =>
    rename_i wr
    obtain ⟨k, hk, rfl, hrow, hbel⟩ := hrel
    have HR := Lib.hid hrow
    have HBl := Lib.hid hbel
    have hsz := hbel.size
    clear hrow hbel
    by_cases hk32 : k < 32
    · have hkI : (k : Int) < 32 := by omega
      have hl := below_len v k
      have hbit := bitI_nat hv (k : Int)
      rw [decide_eq_true (by omega : 0 ≤ (k : Int)), Bool.true_and, Int.toNat_natCast] at hbit
      have B := Lib.hid (bit_any v hv k wr)
      rw [hbit] at B
      clear hbit
      have hfin : ∀ {w' : World} {r' : Value} {b : Bool}, v.testBit k = b → below v (k + 1) = below v k ++ (if b = true then [k] else []) := fun {w' r' b} h => by
        unfold below
        rw [List.range_succ, List.filter_append]
        congr 1
        cases b <;> simp [h]
      cases hb : v.testBit k with
      | false =>
        rw [hb] at B
        go_wp2_with (go_at_call 41; refine B.out.mono ?_; rintro e w' ⟨rfl, rfl⟩)
        refine ⟨⟨k + 1, by omega, by simp, ?_, HBl.out⟩, by simp [intOf]; omega⟩
        rw [hfin (w' := w) (r' := undef) hb]
        simpa using HR.out
      | true =>
        rw [hb] at B
        go_wp2_with (first | (go_at_call 41; refine B.out.mono ?_; rintro e w' ⟨rfl, rfl⟩) | (at_builtin; (obtain ⟨i0, hi, hz0, hz1, hz2⟩ := HI.out); refine wpList_append_own _ rfl _ _ 24 rfl w.heap.size 3 i0 (.int .i64 0) 1 8 Tryd.underlying24 hi hz0 hz1 hz2 rfl (by decide) _ _ _ rfl (HR.out.alloc _) ⟨wr.heap.size, 0, none⟩ 1 1 [.int .i64 (k : Nat)] rfl rfl (news_i wr _ _) (by intro u hu; simp at hu; subst hu; rfl) (by unfold maxLen; omega) (by omega) (by simp; omega) ?_; intro v' w1 hown hgrow hnil; have HO1 := Lib.hid hown; have HG1 := Lib.hid hgrow; clear hown hgrow hnil hi hz0 hz1 hz2))
        refine ⟨⟨k + 1, by omega, by simp, ?_, (HBl.out.alloc hsz _).grown HG1.out (by simp; omega) (fun k hk => (HR.out.lt k hk).1)⟩, by simp [intOf]; omega⟩
        unfold RowN
        rw [hfin (w' := w) (r' := undef) hb, List.map_append, List.length_append]
        simpa using HO1.out
    · obtain rfl : k = 32 := by omega
      go_wp2
      go_ret
      exact ⟨_, rfl, HR.out, HBl.out⟩

theorem RowN.below {w w' : World} {base : Nat} {v : Value} {l : List Nat} (h : RowN w base v l) (hb : Below w.heap.size w w') : RowN w' base v l := by
  obtain ⟨h0, h1⟩ := h
  refine ⟨h0, ?_⟩
  rcases h1 with h1 | ⟨g, cap, cur, rfl, h2, h3, h4⟩
  · exact .inl h1
  · exact .inr ⟨g, cap, cur, rfl, h2, (hb.block g (heap_lt h3)).trans h3, h4⟩
theorem RowN.form {w : World} {base : Nat} {v : Value} {l : List Nat} (h : RowN w base v l) : ∃ a cap, v = .slice a l.length cap ∧ (0 < l.length → ∃ B, a = some ⟨B, 0, none⟩ ∧ B < w.heap.size ∧ l.length ≤ cap ∧ ∀ j, j < l.length → w.cell? ⟨B, j, none⟩ = some (.int .i64 (l.getD j 0 : Nat))) := by
  obtain ⟨_, h1⟩ := h
  rcases h1 with ⟨rfl, h0⟩ | ⟨g, cap, cur, rfl, h2, h3, h4, _, hsz, htake⟩
  · rw [h0]; exact ⟨none, 0, rfl, fun h => by omega⟩
  · refine ⟨_, cap, rfl, fun _ => ⟨g, rfl, heap_lt h3, h4, fun j hj => ?_⟩⟩
    rw [cell_of_row _ _ _ _ _ _ h3]
    have e1 : cur[j]? = (cur.toList.take (l.length * 1))[j]? := by
      rw [List.getElem?_take_of_lt (by omega)]; simp
    rw [e1, htake, List.getElem?_map, List.getElem?_eq_getElem hj]
    simp [List.getD, List.getElem?_eq_getElem hj]
set_option maxHeartbeats 2000000 in
theorem ints_any (l : List Nat) (r1 r2 : Value) (b1 b2 : Nat) (w : World) (hl : l.length ≤ 32) (h1 : RowN w b1 r1 l) (h2 : RowN w b2 r2 l) : Calls Tryd.prog 13 #[r1, r2] w fun e w' => e = .returned (.bool true) ∧ ∃ k, w.drewN k = w' := by
  obtain ⟨a, c1, rfl, k1⟩ := h1.form
  obtain ⟨b, c2, rfl, k2⟩ := h2.form
  clear h1 h2
  by_cases h0 : l.length = 0
  · rw [h0]
    clear k1 k2 h0 hl
    go_enter Tryd.func13, Tryd.ntmps13
    go_upto_region 4 with (fail)
    refine wp_loop_rounds 1 ?_
    rw [rounds_succ]
    go_wp2
    go_ret
    exact ⟨rfl, 0, rfl⟩
  · obtain ⟨B1, rfl, hb1, hc1, hk1⟩ := k1 (by omega)
    obtain ⟨B2, rfl, hb2, hc2, hk2⟩ := k2 (by omega)
    generalize hn : l.length = n at *
    have HK1 := Lib.hid hk1
    have HK2 := Lib.hid hk2
    clear hk1 hk2 k1 k2 hn
    go_enter Tryd.func13, Tryd.ntmps13
    go_upto_region 4 with (fail)
    go_loopw [5] (fun i wr => ∃ j : Nat, j ≤ n ∧ i = .int .i64 j ∧ ∃ k, w.drewN k = wr) (fun i _ => n - (intOf i).toNat)
    case atStart => exact ⟨0, by omega, rfl, 0, rfl⟩
    case round =>
      obtain ⟨j, hj, rfl, k, rfl⟩ := hrel
      by_cases hjn : j < n
      · have hjI : (j : Int) < n := by omega
        have q1 : (w.drewN k).cell? ⟨B1, j, none⟩ = some (.int .i64 (l.getD j 0 : Nat)) := HK1.out j hjn
        have q2 : (w.drewN k).cell? ⟨B2, j, none⟩ = some (.int .i64 (l.getD j 0 : Nat)) := HK2.out j hjn
        have g1 : B1 < (w.drewN k).heap.size := hb1
        have g2 : B2 < (w.drewN k).heap.size := hb2
        obtain ⟨W, hW⟩ : ∃ W, W = w.drewN k := ⟨_, rfl⟩
        generalize l.getD j 0 = t at *
        rw [← hW] at q1 q2 g1 g2 ⊢
        have HW := Lib.hid hW
        clear hW
        go_upto_region 6 with (fail)
        go_quiet (fail)
        go_wp2
        exact ⟨⟨j + 1, by omega, by simp, k + nq, by rw [HW.out, World.drewN_drewN]⟩, by simp [intOf]; omega⟩
      · obtain rfl : j = n := by omega
        go_wp2
        go_ret
        exact ⟨rfl, k, rfl⟩
set_option maxHeartbeats 2000000 in
theorem wordBits_walk (v : Nat) (hv : v < 4294967296) (w : World) (hT : TabB w) : Calls Tryd.prog 3 #[.int .u32 v] w fun e w' => e = .returned (.bool true) ∧ Below w.heap.size w w' := by
  have P := Lib.hid (bits_any v hv w hT)
  have R := Lib.hid (fun w => rbits_any v hv w)
  have hl := below_len v 32
  generalize below v 32 = l at *
  clear hT
  go_enter Tryd.func3, Tryd.ntmps3
  go_wp2_with (first | (go_at_call 14; refine P.out.mono ?_; rintro e w1 ⟨r1, rfl, hr1, hb1⟩; have HR1 := Lib.hid hr1; have HB1 := Lib.hid hb1; clear hr1 hb1) | (go_at_call 15; refine (R.out _).mono ?_; rintro e w2 ⟨r2, rfl, hr2, hb2⟩; have HR2 := Lib.hid hr2; have HB2 := Lib.hid hb2; clear hr2 hb2) | (go_at_call 13; refine (ints_any l _ _ _ _ _ hl (HR1.out.below HB2.out) HR2.out).mono ?_; rintro e w3 ⟨rfl, q, rfl⟩) | (go_at_call 16; refine (sureW_any _).mono ?_; rintro e w4 ⟨rfl, hb⟩; have HB4 := Lib.hid hb; clear hb))
  go_ret
  have g2 := HB1.out.trans (HB2.out.mono HB1.out.size)
  have g3 := below_drewN g2 q
  exact ⟨rfl, g3.trans (HB4.out.mono g3.size)⟩
/-- what the condition gives a walk: the table -/
theorem door_tab : Tryd.prog.globalNamed "math/bits.deBruijn32tab" = some 1 := by kernel_rfl
theorem door_tabT : (Tryd.prog.globals[1]?).map (·.type) = some 94 := by kernel_rfl
def bOf (d : DataW Unit) : Int := match d with | .lit (.int _ n) => n | _ => 0
def pOf (d : DataW Unit) : List (DataW Unit) := match d with | .agg l => l | _ => []
theorem tab_tab : ∀ j, j < 32 → ((pOf Rows.laid_math_bits_deBruijn32tab).map bOf).getD j 0 = (Lib.deBruijn32tab.getD j 0 : Int) := by decide +kernel
theorem tab_of_laid {W : World} (h : laidMetH Tryd.prog [("math/bits.deBruijn32tab", Rows.laid_math_bits_deBruijn32tab)] W) : TabB W := by
  obtain ⟨ps, ⟨g, t, cs, fuel, p, q, hg, ht, hvar, hd, _, _⟩, _⟩ := h
  obtain rfl := Option.some.inj (door_tab.symm.trans hg)
  obtain rfl := Option.some.inj (door_tabT.symm.trans ht)
  have hd' : DataW.trod (fun _ => ()) Tryd.prog W 0 (fun _ => true) false fuel 94 cs.toList = some (.agg (pOf Rows.laid_math_bits_deBruijn32tab), p) := hd
  obtain ⟨_, k2⟩ := tab_at Tryd.underlying94 (by kernel_rfl) (by kernel_rfl) hd'
  intro j hj
  obtain ⟨c, f, y, hc, hy, hdj⟩ := k2 j hj
  obtain ⟨n, rfl, hy1⟩ := int_at Tryd.underlying5 hy
  have e := tab_tab j hj
  rw [hy1] at hdj
  simp only [List.getD, List.getElem?_map, hdj, Option.map_some, Option.getD_some, bOf] at e
  rw [World.var?_cell hg hvar j, ← Array.getElem?_toList, hc, e]
  rfl
def tabCells : Array Value := (Lib.deBruijn32tab.map fun n => Value.int .u8 (n : Nat)).toArray
noncomputable def laidWorldB (os : Os) : World :=
  let w0 := World.holding Tryd.prog os ⟨#[], #[], []⟩
  { w0 with heap := w0.heap.modify 1 fun
      | .cells _ t frozen => .cells tabCells t frozen
      | o => o }
theorem laidWorldB_met (os : Os) (args : Array Value) : laidMetH Tryd.prog [("math/bits.deBruijn32tab", Rows.laid_math_bits_deBruijn32tab)] ((laidWorldB os).forCall (fun _ _ => 0) ⟨#[], args, []⟩).memory :=
  laidMet_of_run' 8 (by kernel_rfl) (by kernel_rfl)

end Go.Proofs.YtaknbakkahlilaaDoor
