import Derived.Test.YtaknbakkahlilaaLawW
import Derived.Below
import Derived.Deep.Draws
import Derived.Deep.AppendLies
import Derived.Maps.AppendAt
import Derived.OwnWalk
import Derived.Laws.BytesArg
import Derived.Laws.MakeOwn
import Derived.Laws.OwnMore
import Derived.Deep.OwnRows
import Derived.Tactics
import Derived.Lib.ConvBytes
import Derived.Laws.Slices
import Derived.WalkKit
import Derived.KernelRfl
import Derived.RowKit3
import Derived.Deep.LoopGhost
import Derived.Deep.QuietTactic
import Derived.BigQuiet
import Derived.WideLaws
import Derived.Deep.DeepCutAuto
import Derived.Deep.CutBlock
import Derived.Deep.RegionHeld3
import Derived.Laws.Rows
import Derived.Lib.AppendStr
import Derived.ArgAppend
import Derived.Laws.IdiomCopy
import Derived.OrdersHeld
import Derived.Laws.BitsLemmas
import Derived.RowKit
import Derived.Lib.Hide
import Derived.Laws.BitsAllLaws
import Derived.WalkLawsBesides
import Derived.WalkSpells
import Derived.LaidEql
import Derived.Lib.SliceRun
import Derived.Lib.Walk
namespace Go.Proofs.Ytaknbakkahlilaa
open Go.RowKit
set_option maxRecDepth 100000
set_option linter.unusedVariables false
set_option linter.unusedSimpArgs false

set_option maxHeartbeats 2000000 in
/-- a copy of bytes, in a row of the call's own -/
theorem clone_own (b off n c : Nat) (xs : List Int) (w : World) (hx : xs.length = n) (hbig : n ≤ 140737488355328) (hc : ∀ i, i < n → w.cell? ⟨b, off + i, none⟩ = some (.int .u8 (xs.getD i 0))) :
    Calls Try.prog 16 #[.slice (some ⟨b, off, none⟩) n c] w fun e w' => ∃ v', e = .returned v' ∧ w'.ownsRow w.heap.size 5 1 v' n (xs.map (Value.int .u8)) ∧ Below w.heap.size w w' := by
  have q22 : ∀ (w : World) (a : Option Addr) (n c n' c' : Nat), (binOp .eql 27 (.slice a n c) (.slice none n' c')).run Try.prog w = .ok (.bool a.isNone) w := fun w a n c n' c' => Go.Lib.run_eql_slice_nil w _ _ a n c n' c' Try.underlying27
  obtain ⟨i0, hi, hz0, hz1, hz2⟩ : ∃ i, Try.prog.info? 5 = some i ∧ i.zero = some (.int .u8 0) ∧ i.size = 1 ∧ i.bytes = 1 := ⟨_, rfl, rfl, rfl, rfl⟩
  have HC := Lib.hid hc
  clear hc
  go_enter Try.func16, Try.ntmps16
  go_wp2_with (at_builtin; refine wpList_append_own _ rfl _ _ 27 rfl w.heap.size 5 i0 (.int .u8 0) 1 1 Try.underlying27 hi hz0 hz1 hz2 rfl (by decide) _ _ _ rfl (World.ownsRow_made w #[] 0 (Nat.le_refl _) (Nat.zero_le _) rfl) ⟨b, off, none⟩ n c (xs.map (Value.int .u8)) rfl ?qc1 ?qc2 ?qc3 ?qc4 ?qc5 ?qc6 ?_)
  case qc1 => simp; omega
  case qc2 =>
    intro j u hj
    have hjn : j < n := by
      have := (List.getElem?_eq_some_iff.1 hj).1
      simp at this
      omega
    have ha : (⟨b, off, none⟩ : Addr).add j = ⟨b, off + j, none⟩ := by
      by_cases hj0 : j = 0
      · subst hj0; simp [Addr.add]
      · simp [Addr.add, hj0]
    rw [ha]
    refine Go.Lib.cell?_alloc_some _ ?_
    rw [HC.out j hjn]
    have e : (xs.map (Value.int .u8))[j]? = some (Value.int .u8 (xs.getD j 0)) := by simp [List.getD, List.getElem?_eq_getElem (show j < xs.length by omega)]
    rw [e] at hj
    exact hj
  case qc3 => intro u hu; obtain ⟨x, _, rfl⟩ := List.mem_map.1 hu; rfl
  case qc4 => unfold maxLen; omega
  case qc5 => omega
  case qc6 => simp
  intro v' w1 hown hgrow hnil
  go_wp2
  go_ret
  refine ⟨v', rfl, by simpa using hown, ?_⟩
  exact ((Below.refl _ w).alloc (Nat.le_refl _) _).grown hgrow (by simp) (by intro k hk; simp [Value.ownBlock] at hk; omega)

/-- a row of bytes -/
def RowB (w : World) (B len cap : Nat) (g : Nat → Nat) : Prop := ∃ cs : Array Value, w.heap[B]? = some (.cells cs 5 (0, 0)) ∧ len ≤ cap ∧ (∀ j, j < len → cs[j]? = some (.int .u8 (g j : Nat)))
theorem RowB.cell {w : World} {B len cap : Nat} {g : Nat → Nat} (h : RowB w B len cap g) {j : Nat} (hj : j < len) : w.cell? ⟨B, j, none⟩ = some (.int .u8 (g j : Nat)) := by
  obtain ⟨cs, h1, _, h3⟩ := h
  rw [cell_of_row _ _ _ _ _ _ h1]; exact h3 j hj
theorem RowB.frozen {w : World} {B len cap : Nat} {g : Nat → Nat} (h : RowB w B len cap g) (j : Nat) : w.frozen? ⟨B, j, none⟩ = false := by
  obtain ⟨cs, h1, _, _⟩ := h
  exact frozen_of_row _ _ _ _ _ h1
theorem RowB.lt {w : World} {B len cap : Nat} {g : Nat → Nat} (h : RowB w B len cap g) : B < w.heap.size := by
  obtain ⟨cs, h1, _, _⟩ := h
  exact heap_lt h1
theorem RowB.set {w : World} {B len cap : Nat} {g : Nat → Nat} (h : RowB w B len cap g) (k : Nat) (x : Nat) : RowB (w.setCell ⟨B, k, none⟩ (.int .u8 (x : Nat))) B len cap (fun j => if j = k then x else g j) := by
  obtain ⟨cs, h1, h2, h3⟩ := h
  refine ⟨_, heap_setCell_same _ _ _ _ _ _ h1, h2, fun j hj => ?_⟩
  by_cases e : j = k
  · subst e
    have hs : j < cs.size := (Array.getElem?_eq_some_iff.1 (h3 j hj)).1
    simp [Array.getElem?_setIfInBounds, hs]
  · simp only [if_neg e]
    rw [Array.getElem?_setIfInBounds_ne (Ne.symm e)]
    exact h3 j hj
theorem RowB.below {w w' : World} {B len cap : Nat} {g : Nat → Nat} (h : RowB w B len cap g) (hb : Below w.heap.size w w') : RowB w' B len cap g := by
  obtain ⟨cs, h1, h2⟩ := h
  exact ⟨cs, (hb.block B (heap_lt h1)).trans h1, h2⟩
theorem RowB.drew {w : World} {B len cap : Nat} {g : Nat → Nat} (h : RowB w B len cap g) (k : Nat) : RowB (w.drewN k) B len cap g := h
theorem rowB_of_own {w : World} {base n : Nat} {v : Value} {xs : List Int} (h : w.ownsRow base 5 1 v n (xs.map (Value.int .u8))) (hx : xs.length = n) (hn : 0 < n) (g : Nat → Nat) (hg : ∀ j, j < n → xs.getD j 0 = (g j : Int)) :
    ∃ B cap, v = .slice (some ⟨B, 0, none⟩) n cap ∧ base ≤ B ∧ n ≤ cap ∧ RowB w B n cap g := by
  obtain ⟨_, h⟩ := h
  rcases h with ⟨_, h0⟩ | ⟨B, cap, cur, rfl, hb, hrow, hcap, _, hsz, htake⟩
  · omega
  · refine ⟨B, cap, rfl, hb, hcap, cur, hrow, hcap, fun j hj => ?_⟩
    have e1 : cur[j]? = (cur.toList.take (n * 1))[j]? := by
      rw [List.getElem?_take_of_lt (by omega)]; simp
    rw [e1, htake, List.getElem?_map, List.getElem?_eq_getElem (show j < xs.length by omega)]
    have e2 := hg j hj
    rw [show xs.getD j 0 = xs[j]'(by omega) from by simp [List.getD, List.getElem?_eq_getElem (show j < xs.length by omega)]] at e2
    simp [e2]
theorem RowB.congr {w : World} {B len cap : Nat} {g g' : Nat → Nat} (h : RowB w B len cap g) (e : ∀ j, j < len → g j = g' j) : RowB w B len cap g' := by
  obtain ⟨cs, h1, h2, h3⟩ := h
  exact ⟨cs, h1, h2, fun j hj => by rw [← e j hj]; exact h3 j hj⟩
/-- the bytes with a number put in -/
def withG (f : Nat → Nat) (k n v : Nat) : Nat → Nat := fun j => if k ≤ j ∧ j < k + n then v / 256 ^ (j - k) % 256 else f j
theorem clone_row (b off n c : Nat) (f : Nat → Nat) (hf : ∀ j, f j < 256) (w : World) (hn : 0 < n) (hbig : n ≤ 140737488355328) (hc : ∀ i, i < n → w.cell? ⟨b, off + i, none⟩ = some (.int .u8 (f i : Nat))) :
    Calls Try.prog 16 #[.slice (some ⟨b, off, none⟩) n c] w fun e w' => ∃ B cap, e = .returned (.slice (some ⟨B, 0, none⟩) n cap) ∧ w.heap.size ≤ B ∧ n ≤ cap ∧ RowB w' B n cap f ∧ Below w.heap.size w w' := by
  have hx : ∀ i, i < n → (((List.range n).map fun i => ((f i : Nat) : Int)).getD i 0) = (f i : Int) := fun i hi => by simp [List.getD, hi]
  refine (clone_own b off n c ((List.range n).map fun i => ((f i : Nat) : Int)) w (by simp) hbig (fun i hi => by rw [hx i hi]; exact hc i hi)).mono ?_
  rintro e w' ⟨v', rfl, hown, hb⟩
  obtain ⟨B, cap, rfl, h1, h2, h3⟩ := rowB_of_own hown (by simp) hn f hx
  exact ⟨B, cap, rfl, h1, h2, h3, hb⟩
theorem with_err (A : Option Addr) (len cap : Nat) (at_ n : Int) (v : Nat) (hlen : len ≤ 140737488351232) (w : World) (h : chk len at_ n ≠ 0) :
    Calls Try.prog 8 #[.slice A len cap, .int .i64 at_, .int .i64 n, .int .u32 v] w fun e w' => e = .returned (.tuple #[.slice none 0 0, errV (chk len at_ n)]) ∧ w = w' := by
  have C := Lib.hid (fun w => check_any A len cap at_ n hlen w)
  generalize chk len at_ n = c at C h ⊢
  have hE : errV c = .iface 51 (.int .i64 c) := by unfold errV; rw [if_neg h]
  rw [hE] at C ⊢
  go_enter Try.func8, Try.ntmps8
  go_wp2_with (go_at_call 15; refine (C.out _).mono ?_; rintro e w' ⟨rfl, rfl⟩)
  go_ret2
  exact ⟨rfl, rfl⟩
set_option maxHeartbeats 2000000 in
theorem with_1 (b off len cap : Nat) (f : Nat → Nat) (hf : ∀ j, f j < 256) (k : Nat) (hlen : len ≤ 140737488351232) (v : Nat) (hv : v < 4294967296) (w : World) (hk : k + 1 ≤ len) (hc0 : chk len k 1 = 0)
    (hc : ∀ j, j < len → w.cell? ⟨b, off + j, none⟩ = some (.int .u8 (f j : Nat))) :
    Calls Try.prog 8 #[.slice (some ⟨b, off, none⟩) len cap, .int .i64 k, .int .i64 1, .int .u32 v] w fun e w' => ∃ B cap', e = .returned (.tuple #[.slice (some ⟨B, 0, none⟩) len cap', .nilIface]) ∧ w.heap.size ≤ B ∧ len ≤ cap' ∧ RowB w' B len cap' (withG f k 1 v) ∧ Below w.heap.size w w' := by
  have C := Lib.hid (fun w => check_any (some ⟨b, off, none⟩) len cap k 1 hlen w)
  rw [hc0] at C
  have hE : errV 0 = .nilIface := rfl
  rw [hE] at C
  clear hE hc0
  have L := Lib.hid (clone_row b off len cap f hf w (by omega) (by omega) hc)
  obtain ⟨x0, hx0⟩ : ∃ x : Nat, x = v / 1 % 256 := ⟨_, rfl⟩
  have y0 : (v : Int) % 256 = (x0 : Int) := by omega
  have hI : (k : Int) + 1 ≤ len := by omega
  have HX0 := Lib.hid hx0
  clear hc hf hx0
  go_enter Try.func8, Try.ntmps8
  go_wp2_with (first | (go_at_call 15; refine (C.out _).mono ?_; rintro e w' ⟨rfl, rfl⟩) | (go_at_call 16; refine L.out.mono ?_; rintro e w1 ⟨B, cap', rfl, hB, hcap', R, hb⟩; have c0 := R.cell (j := k) (by omega); have fr := fun j => R.frozen j; have lt := R.lt; have RR := Lib.hid R; have HBb := Lib.hid hb; clear R hb))
  refine wp_loop_rounds 2 ?_
  rw [rounds_succ]
  go_wp2
  rw [rounds_succ]
  go_wp2
  go_ret2
  refine ⟨B, cap', rfl, hB, hcap', (RR.out.set k x0).congr ?_, (HBb.out.setCell (p := ⟨B, k, none⟩) hB _)⟩
  intro j hj
  unfold withG
  by_cases hin : k ≤ j ∧ j < k + 1
  · rw [if_pos hin]
    obtain rfl : j = k := by omega
    simp [HX0.out]
  · rw [if_neg hin]
    rw [if_neg (by omega)]
set_option maxHeartbeats 2000000 in
theorem with_2 (b off len cap : Nat) (f : Nat → Nat) (hf : ∀ j, f j < 256) (k : Nat) (hlen : len ≤ 140737488351232) (v : Nat) (hv : v < 4294967296) (w : World) (hk : k + 2 ≤ len) (hc0 : chk len k 2 = 0)
    (hc : ∀ j, j < len → w.cell? ⟨b, off + j, none⟩ = some (.int .u8 (f j : Nat))) :
    Calls Try.prog 8 #[.slice (some ⟨b, off, none⟩) len cap, .int .i64 k, .int .i64 2, .int .u32 v] w fun e w' => ∃ B cap', e = .returned (.tuple #[.slice (some ⟨B, 0, none⟩) len cap', .nilIface]) ∧ w.heap.size ≤ B ∧ len ≤ cap' ∧ RowB w' B len cap' (withG f k 2 v) ∧ Below w.heap.size w w' := by
  have C := Lib.hid (fun w => check_any (some ⟨b, off, none⟩) len cap k 2 hlen w)
  rw [hc0] at C
  have hE : errV 0 = .nilIface := rfl
  rw [hE] at C
  clear hE hc0
  have L := Lib.hid (clone_row b off len cap f hf w (by omega) (by omega) hc)
  obtain ⟨x0, hx0⟩ : ∃ x : Nat, x = v / 1 % 256 := ⟨_, rfl⟩
  have y0 : (v : Int) % 256 = (x0 : Int) := by omega
  obtain ⟨x1, hx1⟩ : ∃ x : Nat, x = v / 256 % 256 := ⟨_, rfl⟩
  have y1 : (v : Int) / 256 % 256 = (x1 : Int) := by omega
  have hI : (k : Int) + 2 ≤ len := by omega
  have HX0 := Lib.hid hx0
  have HX1 := Lib.hid hx1
  clear hc hf hx0 hx1
  go_enter Try.func8, Try.ntmps8
  go_wp2_with (first | (go_at_call 15; refine (C.out _).mono ?_; rintro e w' ⟨rfl, rfl⟩) | (go_at_call 16; refine L.out.mono ?_; rintro e w1 ⟨B, cap', rfl, hB, hcap', R, hb⟩; have c0 := R.cell (j := k) (by omega); have c1 := R.cell (j := k + 1) (by omega); have fr := fun j => R.frozen j; have lt := R.lt; have RR := Lib.hid R; have HBb := Lib.hid hb; clear R hb))
  refine wp_loop_rounds 3 ?_
  rw [rounds_succ]
  go_wp2
  rw [rounds_succ]
  go_wp2
  rw [rounds_succ]
  go_wp2
  go_ret2
  refine ⟨B, cap', rfl, hB, hcap', ((RR.out.set k x0).set (k + 1) x1).congr ?_, ((HBb.out.setCell (p := ⟨B, k, none⟩) hB _).setCell (p := ⟨B, k + 1, none⟩) hB _)⟩
  intro j hj
  unfold withG
  by_cases hin : k ≤ j ∧ j < k + 2
  · rw [if_pos hin]
    have hcs : j = k ∨ j = k + 1 := by omega
    rcases hcs with rfl | rfl
    · simp [HX0.out]
    · simp [HX1.out]
  · rw [if_neg hin]
    rw [if_neg (by omega)]; rw [if_neg (by omega)]
set_option maxHeartbeats 2000000 in
theorem with_4 (b off len cap : Nat) (f : Nat → Nat) (hf : ∀ j, f j < 256) (k : Nat) (hlen : len ≤ 140737488351232) (v : Nat) (hv : v < 4294967296) (w : World) (hk : k + 4 ≤ len) (hc0 : chk len k 4 = 0)
    (hc : ∀ j, j < len → w.cell? ⟨b, off + j, none⟩ = some (.int .u8 (f j : Nat))) :
    Calls Try.prog 8 #[.slice (some ⟨b, off, none⟩) len cap, .int .i64 k, .int .i64 4, .int .u32 v] w fun e w' => ∃ B cap', e = .returned (.tuple #[.slice (some ⟨B, 0, none⟩) len cap', .nilIface]) ∧ w.heap.size ≤ B ∧ len ≤ cap' ∧ RowB w' B len cap' (withG f k 4 v) ∧ Below w.heap.size w w' := by
  have C := Lib.hid (fun w => check_any (some ⟨b, off, none⟩) len cap k 4 hlen w)
  rw [hc0] at C
  have hE : errV 0 = .nilIface := rfl
  rw [hE] at C
  clear hE hc0
  have L := Lib.hid (clone_row b off len cap f hf w (by omega) (by omega) hc)
  obtain ⟨x0, hx0⟩ : ∃ x : Nat, x = v / 1 % 256 := ⟨_, rfl⟩
  have y0 : (v : Int) % 256 = (x0 : Int) := by omega
  obtain ⟨x1, hx1⟩ : ∃ x : Nat, x = v / 256 % 256 := ⟨_, rfl⟩
  have y1 : (v : Int) / 256 % 256 = (x1 : Int) := by omega
  obtain ⟨x2, hx2⟩ : ∃ x : Nat, x = v / 65536 % 256 := ⟨_, rfl⟩
  have y2 : (v : Int) / 65536 % 256 = (x2 : Int) := by omega
  obtain ⟨x3, hx3⟩ : ∃ x : Nat, x = v / 16777216 % 256 := ⟨_, rfl⟩
  have y3 : (v : Int) / 16777216 % 256 = (x3 : Int) := by omega
  have y3b : (v : Int) / 16777216 = (x3 : Int) := by omega
  have hI : (k : Int) + 4 ≤ len := by omega
  have HX0 := Lib.hid hx0
  have HX1 := Lib.hid hx1
  have HX2 := Lib.hid hx2
  have HX3 := Lib.hid hx3
  clear hc hf hx0 hx1 hx2 hx3
  go_enter Try.func8, Try.ntmps8
  go_wp2_with (first | (go_at_call 15; refine (C.out _).mono ?_; rintro e w' ⟨rfl, rfl⟩) | (go_at_call 16; refine L.out.mono ?_; rintro e w1 ⟨B, cap', rfl, hB, hcap', R, hb⟩; have c0 := R.cell (j := k) (by omega); have c1 := R.cell (j := k + 1) (by omega); have c2 := R.cell (j := k + 2) (by omega); have c3 := R.cell (j := k + 3) (by omega); have fr := fun j => R.frozen j; have lt := R.lt; have RR := Lib.hid R; have HBb := Lib.hid hb; clear R hb))
  refine wp_loop_rounds 5 ?_
  rw [rounds_succ]
  go_wp2
  rw [rounds_succ]
  go_wp2
  rw [rounds_succ]
  go_wp2
  rw [rounds_succ]
  go_wp2
  rw [rounds_succ]
  go_wp2
  go_ret2
  refine ⟨B, cap', rfl, hB, hcap', ((((RR.out.set k x0).set (k + 1) x1).set (k + 2) x2).set (k + 3) x3).congr ?_, ((((HBb.out.setCell (p := ⟨B, k, none⟩) hB _).setCell (p := ⟨B, k + 1, none⟩) hB _).setCell (p := ⟨B, k + 2, none⟩) hB _).setCell (p := ⟨B, k + 3, none⟩) hB _)⟩
  intro j hj
  unfold withG
  by_cases hin : k ≤ j ∧ j < k + 4
  · rw [if_pos hin]
    have hcs : j = k ∨ j = k + 1 ∨ j = k + 2 ∨ j = k + 3 := by omega
    rcases hcs with rfl | rfl | rfl | rfl
    · simp [HX0.out]
    · simp [HX1.out]
    · simp [HX2.out]
    · simp [HX3.out]
  · rw [if_neg hin]
    rw [if_neg (by omega)]; rw [if_neg (by omega)]; rw [if_neg (by omega)]; rw [if_neg (by omega)]

theorem back_set {v x : Nat} (lo n : Nat) (hn : lo + n ≤ 32) : fromN (fieldB (fromN (setB v lo n x) 32) lo n) 32 = fromN (fieldB x 0 n) 32 := by
  refine fromN_congr fun i hi => ?_
  unfold fieldB
  by_cases h : (i : Int) < n
  · have hS : fromN (setB v lo n x) 32 < 4294967296 := fromN_lt _ 32
    simp only [h, decide_true, Bool.true_and]
    rw [bitI_nat hS, decide_eq_true (by omega), Bool.true_and, show ((lo : Int) + (i : Int)).toNat = lo + i by omega, testBit_fromN, decide_eq_true (by omega), Bool.true_and]
    unfold setB
    rw [if_pos (by omega)]
    congr 1
    try omega
  · simp [h]
theorem back_stay {v x : Nat} (hv : v < 4294967296) (lo n k : Nat) (hk : k < 32) (ho : k < lo ∨ lo + n ≤ k) : fromN (fieldB (fromN (setB v lo n x) 32) k 1) 32 = fromN (fieldB v k 1) 32 := by
  refine fromN_congr fun i hi => ?_
  unfold fieldB
  by_cases h : (i : Int) < 1
  · obtain rfl : i = 0 := by omega
    have hS : fromN (setB v lo n x) 32 < 4294967296 := fromN_lt _ 32
    simp only [h, decide_true, Bool.true_and]
    rw [bitI_nat hS, decide_eq_true (by omega), Bool.true_and, show ((k : Int) + ((0 : Nat) : Int)).toNat = k by omega, testBit_fromN, decide_eq_true hk, Bool.true_and]
    unfold setB
    rw [if_neg (by omega)]
    congr 1
  · simp [h]
theorem low_field {x : Nat} (hx : x < 4294967296) (n : Nat) (hn : n ≤ 32) : fromN (fieldB x 0 n) 32 = x % 2 ^ n := by
  refine (eq_fromN (n := 32) (Nat.lt_of_le_of_lt (Nat.mod_le _ _) hx) ?_).symm
  intro i hi
  unfold fieldB
  rw [Nat.testBit_mod_two_pow, bitI_nat hx, decide_eq_true (by omega : 0 ≤ (0 : Int) + (i : Int)), Bool.true_and, show ((0 : Int) + (i : Int)).toNat = i by omega]
  by_cases h : i < n
  · rw [decide_eq_true h, decide_eq_true (by omega : (i : Int) < n)]
  · rw [decide_eq_false h, decide_eq_false (by omega : ¬ (i : Int) < n)]
theorem withG_lt {f : Nat → Nat} (hf : ∀ j, f j < 256) (k n v j : Nat) : withG f k n v j < 256 := by
  unfold withG; split
  · exact Nat.mod_lt _ (by decide)
  · exact hf j
theorem ofNat_toNat {x : Nat} (h : x < 256) : (UInt8.ofNat x).toNat = x := by rw [UInt8.toNat_ofNat']; omega
theorem withG_at (f : Nat → Nat) (k n x i : Nat) (h : i < n) : withG f k n x (k + i) = x / 256 ^ i % 256 := by
  unfold withG
  rw [if_pos (by omega), show k + i - k = i by omega]
theorem get_with {f : Nat → Nat} (hf : ∀ j, f j < 256) (k n x : Nat) (hx : x < 4294967296) (hn : n = 1 ∨ n = 2 ∨ n = 4) : getN (fun j => UInt8.ofNat (withG f k n x j)) k n = x % 2 ^ (8 * n) := by
  have e : ∀ i, i < n → (UInt8.ofNat (withG f k n x (k + i))).toNat = x / 256 ^ i % 256 := fun i hi => by rw [ofNat_toNat (withG_lt hf k n x _), withG_at f k n x i hi]
  generalize hF : (fun j => UInt8.ofNat (withG f k n x j)) = F
  have eF : ∀ i, i < n → (F (k + i)).toNat = x / 256 ^ i % 256 := fun i hi => by rw [← hF]; exact e i hi
  clear e hF
  have p0 : (256 : Nat) ^ 0 = 1 := rfl
  have p1 : (256 : Nat) ^ 1 = 256 := rfl
  have p2 : (256 : Nat) ^ 2 = 65536 := by decide
  have p3 : (256 : Nat) ^ 3 = 16777216 := by decide
  have q1 : (2 : Nat) ^ (8 * 1) = 256 := by decide
  have q2 : (2 : Nat) ^ (8 * 2) = 65536 := by decide
  have q4 : (2 : Nat) ^ (8 * 4) = 4294967296 := by decide
  rcases hn with rfl | rfl | rfl
  · have f0 := eF 0 (by omega)
    rw [p0, Nat.add_zero] at f0
    rw [q1]
    simp only [getN]
    omega
  · have f0 := eF 0 (by omega)
    have f1 := eF 1 (by omega)
    rw [p0, Nat.add_zero] at f0
    rw [p1] at f1
    rw [q2]
    simp only [getN]
    omega
  · have f0 := eF 0 (by omega)
    have f1 := eF 1 (by omega)
    have f2 := eF 2 (by omega)
    have f3 := eF 3 (by omega)
    rw [p0, Nat.add_zero] at f0
    rw [p1] at f1
    rw [p2] at f2
    rw [p3] at f3
    rw [q4]
    simp only [getN, show k + 1 + 1 = k + 2 from rfl, show k + 2 + 1 = k + 3 from rfl]
    omega

theorem wrapq (a : Int) (q : Nat) (hq : 0 < q) (hq2 : q ≤ 4294967296) : ∃ (A : Int) (i : Nat), IntKind.u64.wrap a = A ∧ i < q ∧ wrap64 (A.tmod q) = (i : Int) := by
  have h0 : 0 ≤ a % 18446744073709551616 := Int.emod_nonneg _ (by decide)
  have h1 := Int.emod_nonneg (a % 18446744073709551616) (show (q : Int) ≠ 0 by omega)
  have h2 := Int.emod_lt_of_pos (a % 18446744073709551616) (show (0 : Int) < q by omega)
  refine ⟨_, (a % 18446744073709551616 % q).toNat, rfl, by omega, ?_⟩
  rw [Go.IntKind.wrap_u64, Int.tmod_eq_emod_of_nonneg h0]
  unfold wrap64
  omega
theorem chk_1 : ∀ i, i < 8 → chk 8 ((i * 1 : Nat) : Int) 1 = 0 := by decide +kernel
theorem chk_2 : ∀ i, i < 4 → chk 8 ((i * 2 : Nat) : Int) 2 = 0 := by decide +kernel
theorem chk_4 : ∀ i, i < 2 → chk 8 ((i * 4 : Nat) : Int) 4 = 0 := by decide +kernel
theorem back_with (n i : Nat) (hni : (n = 1 ∧ i < 8) ∨ (n = 2 ∧ i < 4) ∨ (n = 4 ∧ i < 2)) (B cap : Nat) (f : Nat → Nat) (hf : ∀ j, f j < 256) (x : Nat) (hx : x < 4294967296) (a m : Int) (ha : a = ((i * n : Nat) : Int)) (hm : m = (n : Int)) (w : World) (hR : RowB w B 8 cap f) :
    Calls Try.prog 8 #[.slice (some ⟨B, 0, none⟩) 8 cap, .int .i64 a, .int .i64 m, .int .u32 x] w fun e w' => ∃ B2 cap2, e = .returned (.tuple #[.slice (some ⟨B2, 0, none⟩) 8 cap2, .nilIface]) ∧ 8 ≤ cap2 ∧ RowB w' B2 8 cap2 (withG f (i * n) n x) ∧ Below w.heap.size w w' := by
  subst ha hm
  have hc : ∀ j, j < 8 → w.cell? ⟨B, 0 + j, none⟩ = some (.int .u8 (f j : Nat)) := fun j hj => by rw [Nat.zero_add]; exact hR.cell hj
  have key : ∀ (e : Ending) (w' : World), (∃ B2 cap2, e = .returned (.tuple #[.slice (some ⟨B2, 0, none⟩) 8 cap2, .nilIface]) ∧ w.heap.size ≤ B2 ∧ 8 ≤ cap2 ∧ RowB w' B2 8 cap2 (withG f (i * n) n x) ∧ Below w.heap.size w w') → ∃ B2 cap2, e = .returned (.tuple #[.slice (some ⟨B2, 0, none⟩) 8 cap2, .nilIface]) ∧ 8 ≤ cap2 ∧ RowB w' B2 8 cap2 (withG f (i * n) n x) ∧ Below w.heap.size w w' := by
    rintro e w' ⟨B2, cap2, h1, _, h2, h3, h4⟩
    exact ⟨B2, cap2, h1, h2, h3, h4⟩
  rcases hni with ⟨rfl, hi⟩ | ⟨rfl, hi⟩ | ⟨rfl, hi⟩
  · exact (with_1 B 0 8 cap f hf (i * 1) (by omega) x hx w (by omega) (chk_1 i hi) hc).mono key
  · exact (with_2 B 0 8 cap f hf (i * 2) (by omega) x hx w (by omega) (chk_2 i hi) hc).mono key
  · exact (with_4 B 0 8 cap f hf (i * 4) (by omega) x hx w (by omega) (chk_4 i hi) hc).mono key
theorem back_get (n i : Nat) (hni : (n = 1 ∧ i < 8) ∨ (n = 2 ∧ i < 4) ∨ (n = 4 ∧ i < 2)) (B cap : Nat) (f : Nat → Nat) (hf : ∀ j, f j < 256) (x : Nat) (hx : x < 4294967296) (a m : Int) (ha : a = ((i * n : Nat) : Int)) (hm : m = (n : Int)) (hcap : 8 ≤ cap) (w : World) (hR : RowB w B 8 cap (withG f (i * n) n x)) :
    Calls Try.prog 9 #[.slice (some ⟨B, 0, none⟩) 8 cap, .int .i64 a, .int .i64 m] w fun e w' => e = .returned (.tuple #[.int .u32 (x % 2 ^ (8 * n) : Nat), .nilIface]) ∧ Below w.heap.size w w' := by
  subst ha hm
  have hn : n = 1 ∨ n = 2 ∨ n = 4 := by omega
  have hc : ∀ j, j < 8 → w.cell? ⟨B, 0 + j, none⟩ = some (.int .u8 (((fun j => UInt8.ofNat (withG f (i * n) n x j)) j).toNat : Int)) := fun j hj => by
    rw [Nat.zero_add, hR.cell hj]
    show some (Value.int .u8 ((withG f (i * n) n x j : Nat) : Int)) = some (Value.int .u8 (((UInt8.ofNat (withG f (i * n) n x j)).toNat : Nat) : Int))
    rw [ofNat_toNat (withG_lt hf _ _ _ _)]
  have hk : i * n + n ≤ 8 := by rcases hni with ⟨rfl, hi⟩ | ⟨rfl, hi⟩ | ⟨rfl, hi⟩ <;> omega
  have h0 : chk 8 ((i * n : Nat) : Int) n = 0 := by
    rcases hni with ⟨rfl, hi⟩ | ⟨rfl, hi⟩ | ⟨rfl, hi⟩
    · exact chk_1 i hi
    · exact chk_2 i hi
    · exact chk_4 i hi
  refine (get_any B 0 8 cap _ (i * n) n (by omega) hcap w hn hk h0 hR.lt hc).mono ?_
  rintro e w' ⟨rfl, hb⟩
  rw [get_with hf (i * n) n x hx hn]
  exact ⟨rfl, hb⟩
theorem news_one (w : World) (v : Value) (t : TypeId) : ∀ (j : Nat) (u : Value), [v][j]? = some u → (w.alloc (.cells #[v] t)).cell? ((⟨w.heap.size, 0, none⟩ : Addr).add j) = some u := by
  intro z u hz
  rcases z with _ | z
  · simp at hz; subst hz; simp [Addr.add]
  · simp at hz
set_option maxHeartbeats 4000000 in
theorem wordBack_core (v : Nat) (hv : v < 4294967296) (x : Nat) (hx : x < 4294967296) (a0 a1 a2 a3 : Int) (A0 A1 A2 A3 : Int) (lo m n0 k : Nat) (h0 : IntKind.u64.wrap a0 = A0) (h1 : IntKind.u64.wrap a1 = A1) (h2 : IntKind.u64.wrap a2 = A2) (h3 : IntKind.u64.wrap a3 = A3)
    (e0 : wrap64 (A0.tmod 32) = (lo : Int)) (em : wrap64 (32 - (lo : Int)) = (m : Int)) (ew : IntKind.u64.wrap (m : Int) = (m : Int)) (hm : 0 < m) (e1 : wrap64 (A1.tmod m) = (n0 : Int)) (n : Nat) (hn : n = 1 + n0) (hnl : lo + n ≤ 32) (e2 : wrap64 (A2.tmod 32) = (k : Int)) (hk : k < 32) (e4 : ∀ q : Nat, 0 < q → q ≤ 4294967296 → ∃ i : Nat, i < q ∧ wrap64 (A2.tmod q) = (i : Int)) (e3 : wrap64 (A3.tmod 3) = 0 ∨ wrap64 (A3.tmod 3) = 1 ∨ wrap64 (A3.tmod 3) = 2) (w : World) :
    Calls Try.prog 3 #[.int .u32 v, .int .u32 x, .agg #[.int .i64 a0, .int .i64 a1, .int .i64 a2, .int .i64 a3]] w fun e w' => e = .returned (.bool true) ∧ Below w.heap.size w w' := by
  have bn : (n : Int) < 9223372036854775808 := by clear e0 em ew e1 e2 h0 h1 h2 h3; omega
  have bl : (lo : Int) < 9223372036854775808 := by clear e0 em ew e1 e2 h0 h1 h2 h3; omega
  have bl0 : -9223372036854775808 ≤ (lo : Int) := by clear e0 em ew e1 e2 h0 h1 h2 h3; omega
  have bk : (k : Int) < 9223372036854775808 := by clear e0 em ew e1 e2 h0 h1 h2 h3; omega
  have bk0 : -9223372036854775808 ≤ (k : Int) := by clear e0 em ew e1 e2 h0 h1 h2 h3; omega
  have e1' : wrap64 (1 + (n0 : Int)) = (n : Int) := by clear e0 em ew e1 e2 h0 h1 h2 h3; unfold wrap64; omega
  have e1'' : 1 + (n0 : Int) = (n : Int) := by clear e0 em ew e1 e2 h0 h1 h2 h3 e1'; omega
  obtain ⟨s, hs⟩ : ∃ s : Nat, fromN (setB v lo n x) 32 = s := ⟨_, rfl⟩
  have hsl : s < 4294967296 := by rw [← hs]; exact fromN_lt _ 32
  obtain ⟨r, hr⟩ : ∃ r : Nat, fromN (fieldB x 0 n) 32 = r := ⟨_, rfl⟩
  obtain ⟨r2, hr2⟩ : ∃ r2 : Nat, fromN (fieldB v k 1) 32 = r2 := ⟨_, rfl⟩
  have PS : Hid (∀ w : World, Calls Try.prog 6 #[.int .u32 v, .int .i64 lo, .int .i64 n, .int .u32 x] w fun e w' => e = .returned (.int .u32 s) ∧ ∃ q, w.drewN q = w') := Lib.hid (fun w => by have h := pset_any v hv lo n x hx bl0 bn w; rw [hs] at h; exact h)
  have F1 : Hid (∀ w : World, Calls Try.prog 7 #[.int .u32 s, .int .i64 lo, .int .i64 n] w fun e w' => e = .returned (.int .u32 r) ∧ ∃ q, w.drewN q = w') := Lib.hid (fun w => by have h := pfield_any s hsl lo n bl0 bl bn w; rw [← hs, back_set lo n hnl, hr, hs] at h; exact h)
  have F2 : Hid (∀ w : World, Calls Try.prog 7 #[.int .u32 x, .int .i64 0, .int .i64 n] w fun e w' => e = .returned (.int .u32 r) ∧ ∃ q, w.drewN q = w') := Lib.hid (fun w => by have h := pfield_any x hx 0 n (by decide) (by decide) bn w; rw [hr] at h; exact h)
  have F4 : Hid (∀ w : World, Calls Try.prog 7 #[.int .u32 v, .int .i64 k, .int .i64 1] w fun e w' => e = .returned (.int .u32 r2) ∧ ∃ q, w.drewN q = w') := Lib.hid (fun w => by have h := pfield_any v hv k 1 bk0 bk (by decide) w; rw [hr2] at h; exact h)
  have F3 : Hid (k < lo ∨ lo + n ≤ k → ∀ w : World, Calls Try.prog 7 #[.int .u32 s, .int .i64 k, .int .i64 1] w fun e w' => e = .returned (.int .u32 r2) ∧ ∃ q, w.drewN q = w') := Lib.hid (fun ho w => by have h := pfield_any s hsl k 1 bk0 bk (by decide) w; rw [← hs, back_stay hv lo n k hk ho, hr2, hs] at h; exact h)
  have e9 : wrap64 ((lo : Int) + (n : Int)) = (lo : Int) + (n : Int) := by clear e0 em ew e1 e2 h0 h1 h2 h3 e1' e1''; unfold wrap64; omega
  have HN := Lib.hid hn
  have HNL := Lib.hid hnl
  have hm0 : ((m : Int) == 0) = false := by simp; omega
  have hm1 : ¬ (m : Int) = 0 := by omega
  clear hn hnl hs hr hr2 hsl bn bl bl0 bk bk0
  clear e1'' hm0 hk HNL
  have H4 := Lib.hid e4
  clear e4
  go_enter Try.func3, Try.ntmps3
  go_upto_region 2 with (fail)
  simp only [e0]
  clear e0
  go_upto_region 3 with (fail)
  simp only [e1']
  clear e1' em ew hm hm1 e1
  go_upto_region 7 with (first | (go_at_call 6; refine (PS.out _).mono ?_; rintro e w' ⟨rfl, q1, rfl⟩) | (go_at_call 7; (with_reducible refine (F1.out _).mono ?_); rintro e w' ⟨rfl, q2, rfl⟩) | (go_at_call 7; (with_reducible refine (F2.out _).mono ?_); rintro e w' ⟨rfl, q3, rfl⟩))
  simp only [e2]
  clear e2 h0 h1 PS F1 F2 HN
  go_cut [69] (fun bb w' => bb = .bool false ∧ ∃ q, w' = (w.alloc (.cells #[.int .i64 a0, .int .i64 a1, .int .i64 a2, .int .i64 a3] 23)).drewN q)
  case first =>
    by_cases c1 : (k : Int) < lo
    · have G3 := Lib.hid (F3.out (.inl (by omega)))
      clear F3
      go_wp2_with (first | (go_at_call 7; (with_reducible refine (G3.out _).mono ?_); rintro e w' ⟨rfl, q4, rfl⟩) | (go_at_call 7; (with_reducible refine (F4.out _).mono ?_); rintro e w' ⟨rfl, q5, rfl⟩))
      go_meet
      exact ⟨rfl, _, rfl⟩
    · by_cases c2 : (lo : Int) + n ≤ k
      · have G3 := Lib.hid (F3.out (.inr (by omega)))
        clear F3
        go_wp2_with (first | (go_at_call 7; (with_reducible refine (G3.out _).mono ?_); rintro e w' ⟨rfl, q4, rfl⟩) | (go_at_call 7; (with_reducible refine (F4.out _).mono ?_); rintro e w' ⟨rfl, q5, rfl⟩))
        go_meet
        exact ⟨rfl, _, rfl⟩
      · clear F3 F4
        go_wp2
        go_meet
        exact ⟨rfl, _, rfl⟩
  case rest =>
    obtain ⟨rfl, q, rfl⟩ := hcut
    clear F3 F4 e9
    go_upto_region 11 with (fail)
    have hv2 := Lib.hid hv
    have HI : Hid (∃ i, Try.prog.info? 5 = some i ∧ i.zero = some (.int .u8 0) ∧ i.size = 1 ∧ i.bytes = 1) := Lib.hid ⟨_, rfl, rfl, rfl, rfl⟩
    have hW : Below w.heap.size w ((w.alloc (.cells #[.int .i64 a0, .int .i64 a1, .int .i64 a2, .int .i64 a3] 23)).drewN q) := below_drewN ((Below.refl _ _).alloc (Nat.le_refl _) _) q
    have hWs : ((w.alloc (.cells #[.int .i64 a0, .int .i64 a1, .int .i64 a2, .int .i64 a3] 23)).drewN q).heap.size = w.heap.size + 1 := by simp
    have k2 : ((w.alloc (.cells #[.int .i64 a0, .int .i64 a1, .int .i64 a2, .int .i64 a3] 23)).drewN q).cell? ⟨w.heap.size, 2, none⟩ = some (.int .i64 a2) := by simp
    have k3 : ((w.alloc (.cells #[.int .i64 a0, .int .i64 a1, .int .i64 a2, .int .i64 a3] 23)).drewN q).cell? ⟨w.heap.size, 3, none⟩ = some (.int .i64 a3) := by simp
    generalize (w.alloc (.cells #[.int .i64 a0, .int .i64 a1, .int .i64 a2, .int .i64 a3] 23)).drewN q = W0 at *
    have HK := Lib.hid (And.intro hW (And.intro hWs (And.intro k2 k3)))
    clear hW hWs k2 k3
    go_loopw [11, 12] (fun bs i wr => ∃ j : Nat, j ≤ 8 ∧ i = .int .i64 j ∧ wr.ownsRow W0.heap.size 5 1 bs j (((List.range j).map fun i => ((v / 2 ^ i % 256 : Nat) : Int)).map (Value.int .u8)) ∧ Below W0.heap.size W0 wr) (fun _ i _ => 8 - (intOf i).toNat)
    case atStart => exact ⟨0, by omega, rfl, World.ownsRow_nil _ _ _ _, Below.refl _ _⟩
    case round =>
      rename_i wr
      obtain ⟨j, hj, rfl, hown, hbel⟩ := hrel
      have HO := Lib.hid hown
      have HBl := Lib.hid hbel
      clear hown hbel
      by_cases hlt : j < 8
      · have hsz0 : W0.heap.size ≤ wr.heap.size := HBl.out.size
        go_wp2_with (at_builtin; (obtain ⟨i0, hi, hz0, hz1, hz2⟩ := HI.out); refine wpList_append_own _ rfl _ _ 27 rfl W0.heap.size 5 i0 (.int .u8 0) 1 1 Try.underlying27 hi hz0 hz1 hz2 rfl (by decide) _ _ _ rfl (HO.out.alloc _) ⟨wr.heap.size, 0, none⟩ 1 1 [.int .u8 ((v : Int) / 2 ^ j % 256)] rfl rfl (news_one wr _ _) (by intro u hu; simp at hu; subst hu; rfl) (by unfold maxLen; omega) (by omega) (by simp; omega) ?_; intro v' w1 hown hgrow hnil; have HO1 := Lib.hid hown; have HG1 := Lib.hid hgrow; clear hown hgrow hnil)
        have HBa := (HBl.out.alloc hsz0 (.cells #[.int .u8 ((v : Int) / 2 ^ j % 256)] 5)).grown HG1.out (by simp; omega) (fun k hk => (HO.out.lt k hk).1)
        refine ⟨⟨j + 1, by omega, by simp, ?_, HBa⟩, by simp [intOf]; omega⟩
        have h := HO1.out
        rw [List.range_succ, List.map_append, List.map_append]
        simpa using h
      · obtain rfl : j = 8 := by omega
        go_upto_region 14 with (fail)
        obtain ⟨B, cap, rfl, hB1, hcap, R⟩ := rowB_of_own HO.out (by simp) (by omega) (fun i => v / 2 ^ i % 256) (fun i hi => by simp [List.getD, hi])
        have hBW : B < wr.heap.size := R.lt
        have hW2 := HBl.out
        have k2 : wr.cell? ⟨w.heap.size, 2, none⟩ = some (.int .i64 a2) := (World.cell?_of_block (hW2.block w.heap.size (by rw [HK.out.2.1]; omega))).trans HK.out.2.2.1
        have k3 : wr.cell? ⟨w.heap.size, 3, none⟩ = some (.int .i64 a3) := (World.cell?_of_block (hW2.block w.heap.size (by rw [HK.out.2.1]; omega))).trans HK.out.2.2.2
        have hl : w.heap.size < wr.heap.size := by have := hW2.size; have := HK.out.2.1; omega
        have k3' : (wr.alloc (.cells #[.int .i64 1, .int .i64 2, .int .i64 4] 3)).cell? ⟨w.heap.size, 3, none⟩ = some (.int .i64 a3) := Go.Lib.cell?_alloc_some _ k3
        have RR := Lib.hid R
        clear R hW2 HO hlt
        have HE4 := H4
        rcases e3 with e3 | e3 | e3
        · obtain ⟨i, hi, e4⟩ := HE4.out 8 (by decide) (by decide)
          have E4 : Hid (wrap64 (A2.tmod 8) = (i : Int)) := Lib.hid e4
          clear e4
          have e5 : wrap64 (i : Int) = (i : Int) := by clear e3 h2 h3; unfold wrap64; omega
          have WT := Lib.hid (back_with 1 i (.inl ⟨rfl, hi⟩) B cap (fun i => v / 2 ^ i % 256) (fun j => Nat.mod_lt _ (by decide)) x hx)
          have GT := Lib.hid (fun B2 cap2 => back_get 1 i (.inl ⟨rfl, hi⟩) B2 cap2 (fun i => v / 2 ^ i % 256) (fun j => Nat.mod_lt _ (by decide)) x hx)
          have F5 : Hid (∀ w : World, Calls Try.prog 7 #[.int .u32 x, .int .i64 0, .int .i64 8] w fun e w' => e = .returned (.int .u32 (x % 2 ^ (8 * 1) : Nat)) ∧ ∃ q, w.drewN q = w') := Lib.hid (fun w => by have h := pfield_any x hx 0 8 (by decide) (by decide) (by decide) w; rw [show ((8 : Int)) = ((8 : Nat) : Int) from rfl, low_field hx 8 (by decide)] at h; exact h)
          obtain ⟨y, hy⟩ : ∃ y, y = x % 2 ^ (8 * 1) := ⟨_, rfl⟩
          rw [← hy] at GT F5
          clear hy
          have hiI : (i : Int) < 8 := by exact_mod_cast hi
          go_upto_region 15 with (fail)
          clear e3 h3
          have E5 := Lib.hid e5
          clear e5
          go_quiet (fail)
          simp only [E4.out, E5.out]
          clear h2
          have RA : RowB ((wr.alloc (.cells #[.int .i64 1, .int .i64 2, .int .i64 4] 3)).drewN nq) B 8 cap (fun i => v / 2 ^ i % 256) := (RR.out.below ((Below.refl _ _).alloc (Nat.le_refl _) _)).drew _
          have HA : Below w.heap.size w ((wr.alloc (.cells #[.int .i64 1, .int .i64 2, .int .i64 4] 3)).drewN nq) := below_drewN ((HK.out.1.trans (HBl.out.mono HK.out.1.size)).alloc (by omega) _) _
          generalize (wr.alloc (.cells #[.int .i64 1, .int .i64 2, .int .i64 4] 3)).drewN nq = W2 at *
          have HR := Lib.hid RA
          have HAA := Lib.hid HA
          clear RA HA k2 k3 k3' hl HBl HK RR
          go_wp2_with (first | (go_at_call 8; (refine (WT.out _ _ (by simp) (by simp) _ HR.out).mono ?_; rintro e w1 ⟨B2, cap2, rfl, hc2, R2, hb2⟩); have HR2 := Lib.hid R2; have HB2 := Lib.hid hb2; clear R2 hb2) | (go_at_call 9; refine (GT.out _ _ _ _ (by simp) (by simp) hc2 _ HR2.out).mono ?_; rintro e w2 ⟨rfl, hb3⟩; have HB3 := Lib.hid hb3; clear hb3) | (go_at_call 7; refine (F5.out _).mono ?_; rintro e w3 ⟨rfl, q4, rfl⟩) | (go_at_call 10; (refine (sureW_any _).mono ?_; rintro e w4 ⟨rfl, hb4⟩; have HB4 := Lib.hid hb4; clear hb4)))
          go_ret
          have g1 := HAA.out.trans (HB2.out.mono HAA.out.size)
          have g2 := g1.trans (HB3.out.mono g1.size)
          have g3 := below_drewN g2 q4
          exact ⟨rfl, g3.trans (HB4.out.mono g3.size)⟩
        · obtain ⟨i, hi, e4⟩ := HE4.out 4 (by decide) (by decide)
          have E4 : Hid (wrap64 (A2.tmod 4) = (i : Int)) := Lib.hid e4
          clear e4
          have e5 : wrap64 ((i : Int) * 2) = (i : Int) * 2 := by clear e3 h2 h3; unfold wrap64; omega
          have WT := Lib.hid (back_with 2 i (.inr (.inl ⟨rfl, hi⟩)) B cap (fun i => v / 2 ^ i % 256) (fun j => Nat.mod_lt _ (by decide)) x hx)
          have GT := Lib.hid (fun B2 cap2 => back_get 2 i (.inr (.inl ⟨rfl, hi⟩)) B2 cap2 (fun i => v / 2 ^ i % 256) (fun j => Nat.mod_lt _ (by decide)) x hx)
          have F5 : Hid (∀ w : World, Calls Try.prog 7 #[.int .u32 x, .int .i64 0, .int .i64 16] w fun e w' => e = .returned (.int .u32 (x % 2 ^ (8 * 2) : Nat)) ∧ ∃ q, w.drewN q = w') := Lib.hid (fun w => by have h := pfield_any x hx 0 16 (by decide) (by decide) (by decide) w; rw [show ((16 : Int)) = ((16 : Nat) : Int) from rfl, low_field hx 16 (by decide)] at h; exact h)
          obtain ⟨y, hy⟩ : ∃ y, y = x % 2 ^ (8 * 2) := ⟨_, rfl⟩
          rw [← hy] at GT F5
          clear hy
          have hiI : (i : Int) < 4 := by exact_mod_cast hi
          go_upto_region 15 with (fail)
          clear e3 h3
          have E5 := Lib.hid e5
          clear e5
          go_quiet (fail)
          simp only [E4.out, E5.out]
          clear h2
          have RA : RowB ((wr.alloc (.cells #[.int .i64 1, .int .i64 2, .int .i64 4] 3)).drewN nq) B 8 cap (fun i => v / 2 ^ i % 256) := (RR.out.below ((Below.refl _ _).alloc (Nat.le_refl _) _)).drew _
          have HA : Below w.heap.size w ((wr.alloc (.cells #[.int .i64 1, .int .i64 2, .int .i64 4] 3)).drewN nq) := below_drewN ((HK.out.1.trans (HBl.out.mono HK.out.1.size)).alloc (by omega) _) _
          generalize (wr.alloc (.cells #[.int .i64 1, .int .i64 2, .int .i64 4] 3)).drewN nq = W2 at *
          have HR := Lib.hid RA
          have HAA := Lib.hid HA
          clear RA HA k2 k3 k3' hl HBl HK RR
          go_wp2_with (first | (go_at_call 8; (refine (WT.out _ _ (by simp) (by simp) _ HR.out).mono ?_; rintro e w1 ⟨B2, cap2, rfl, hc2, R2, hb2⟩); have HR2 := Lib.hid R2; have HB2 := Lib.hid hb2; clear R2 hb2) | (go_at_call 9; refine (GT.out _ _ _ _ (by simp) (by simp) hc2 _ HR2.out).mono ?_; rintro e w2 ⟨rfl, hb3⟩; have HB3 := Lib.hid hb3; clear hb3) | (go_at_call 7; refine (F5.out _).mono ?_; rintro e w3 ⟨rfl, q4, rfl⟩) | (go_at_call 10; (refine (sureW_any _).mono ?_; rintro e w4 ⟨rfl, hb4⟩; have HB4 := Lib.hid hb4; clear hb4)))
          go_ret
          have g1 := HAA.out.trans (HB2.out.mono HAA.out.size)
          have g2 := g1.trans (HB3.out.mono g1.size)
          have g3 := below_drewN g2 q4
          exact ⟨rfl, g3.trans (HB4.out.mono g3.size)⟩
        · obtain ⟨i, hi, e4⟩ := HE4.out 2 (by decide) (by decide)
          have E4 : Hid (wrap64 (A2.tmod 2) = (i : Int)) := Lib.hid e4
          clear e4
          have e5 : wrap64 ((i : Int) * 4) = (i : Int) * 4 := by clear e3 h2 h3; unfold wrap64; omega
          have WT := Lib.hid (back_with 4 i (.inr (.inr ⟨rfl, hi⟩)) B cap (fun i => v / 2 ^ i % 256) (fun j => Nat.mod_lt _ (by decide)) x hx)
          have GT := Lib.hid (fun B2 cap2 => back_get 4 i (.inr (.inr ⟨rfl, hi⟩)) B2 cap2 (fun i => v / 2 ^ i % 256) (fun j => Nat.mod_lt _ (by decide)) x hx)
          have F5 : Hid (∀ w : World, Calls Try.prog 7 #[.int .u32 x, .int .i64 0, .int .i64 32] w fun e w' => e = .returned (.int .u32 (x % 2 ^ (8 * 4) : Nat)) ∧ ∃ q, w.drewN q = w') := Lib.hid (fun w => by have h := pfield_any x hx 0 32 (by decide) (by decide) (by decide) w; rw [show ((32 : Int)) = ((32 : Nat) : Int) from rfl, low_field hx 32 (by decide)] at h; exact h)
          obtain ⟨y, hy⟩ : ∃ y, y = x % 2 ^ (8 * 4) := ⟨_, rfl⟩
          rw [← hy] at GT F5
          clear hy
          have hiI : (i : Int) < 2 := by exact_mod_cast hi
          go_upto_region 15 with (fail)
          clear e3 h3
          have E5 := Lib.hid e5
          clear e5
          go_quiet (fail)
          simp only [E4.out, E5.out]
          clear h2
          have RA : RowB ((wr.alloc (.cells #[.int .i64 1, .int .i64 2, .int .i64 4] 3)).drewN nq) B 8 cap (fun i => v / 2 ^ i % 256) := (RR.out.below ((Below.refl _ _).alloc (Nat.le_refl _) _)).drew _
          have HA : Below w.heap.size w ((wr.alloc (.cells #[.int .i64 1, .int .i64 2, .int .i64 4] 3)).drewN nq) := below_drewN ((HK.out.1.trans (HBl.out.mono HK.out.1.size)).alloc (by omega) _) _
          generalize (wr.alloc (.cells #[.int .i64 1, .int .i64 2, .int .i64 4] 3)).drewN nq = W2 at *
          have HR := Lib.hid RA
          have HAA := Lib.hid HA
          clear RA HA k2 k3 k3' hl HBl HK RR
          go_wp2_with (first | (go_at_call 8; (refine (WT.out _ _ (by simp) (by simp) _ HR.out).mono ?_; rintro e w1 ⟨B2, cap2, rfl, hc2, R2, hb2⟩); have HR2 := Lib.hid R2; have HB2 := Lib.hid hb2; clear R2 hb2) | (go_at_call 9; refine (GT.out _ _ _ _ (by simp) (by simp) hc2 _ HR2.out).mono ?_; rintro e w2 ⟨rfl, hb3⟩; have HB3 := Lib.hid hb3; clear hb3) | (go_at_call 7; refine (F5.out _).mono ?_; rintro e w3 ⟨rfl, q4, rfl⟩) | (go_at_call 10; (refine (sureW_any _).mono ?_; rintro e w4 ⟨rfl, hb4⟩; have HB4 := Lib.hid hb4; clear hb4)))
          go_ret
          have g1 := HAA.out.trans (HB2.out.mono HAA.out.size)
          have g2 := g1.trans (HB3.out.mono g1.size)
          have g3 := below_drewN g2 q4
          exact ⟨rfl, g3.trans (HB4.out.mono g3.size)⟩
theorem wordBack_walk (v : Nat) (hv : v < 4294967296) (x : Nat) (hx : x < 4294967296) (a0 a1 a2 a3 : Int) (l0 : -9223372036854775808 ≤ a0) (u0 : a0 < 9223372036854775808) (l1 : -9223372036854775808 ≤ a1) (u1 : a1 < 9223372036854775808) (l2 : -9223372036854775808 ≤ a2) (u2 : a2 < 9223372036854775808) (l3 : -9223372036854775808 ≤ a3) (u3 : a3 < 9223372036854775808) (w : World) :
    Calls Try.prog 3 #[.int .u32 v, .int .u32 x, .agg #[.int .i64 a0, .int .i64 a1, .int .i64 a2, .int .i64 a3]] w fun e w' => e = .returned (.bool true) ∧ Below w.heap.size w w' := by
  obtain ⟨A0, lo, h0, hlo, e0⟩ := wrapq a0 32 (by decide) (by decide)
  obtain ⟨m, hm⟩ : ∃ m : Nat, m = 32 - lo := ⟨_, rfl⟩
  obtain ⟨A1, n0, h1, hn0, e1⟩ := wrapq a1 m (by omega) (by omega)
  obtain ⟨A2, k, h2, hk, e2⟩ := wrapq a2 32 (by decide) (by decide)
  obtain ⟨A3, t, h3, ht, e3⟩ := wrapq a3 3 (by decide) (by decide)
  have em : wrap64 (32 - (lo : Int)) = (m : Int) := by clear e0 e1 e2 e3 h0 h1 h2 h3; unfold wrap64; omega
  have ew : IntKind.u64.wrap (m : Int) = (m : Int) := by clear e0 e1 e2 e3 h0 h1 h2 h3 em; rw [Go.IntKind.wrap_u64]; omega
  have hm0 : 0 < m := by clear e0 e1 e2 e3 h0 h1 h2 h3 em ew; omega
  have hnl : lo + (1 + n0) ≤ 32 := by clear e0 e1 e2 e3 h0 h1 h2 h3 em ew; omega
  have e4 : ∀ q : Nat, 0 < q → q ≤ 4294967296 → ∃ i : Nat, i < q ∧ wrap64 (A2.tmod q) = (i : Int) := fun q q1 q2 => by
    obtain ⟨A, i, h, hi, e⟩ := wrapq a2 q q1 q2
    rw [h2] at h
    rw [← h] at e
    exact ⟨i, hi, e⟩
  have e3' : wrap64 (A3.tmod 3) = 0 ∨ wrap64 (A3.tmod 3) = 1 ∨ wrap64 (A3.tmod 3) = 2 := by
    have e3b : wrap64 (A3.tmod 3) = (t : Int) := e3
    rw [e3b]
    clear e0 e1 e2 e3 h0 h1 h2 h3 em ew e4 e3b
    omega
  exact wordBack_core v hv x hx a0 a1 a2 a3 A0 A1 A2 A3 lo m n0 k h0 h1 h2 h3 e0 em ew hm0 e1 (1 + n0) rfl hnl e2 hk e4 e3' w

end Go.Proofs.Ytaknbakkahlilaa
