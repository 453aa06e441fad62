import Derived.Test.YtaknbakkahlilaaDoorRowBH
import Derived.Below
import Derived.Deep.Draws
import Derived.Deep.AppendLies
import Derived.Maps.AppendAt
import Derived.OwnWalk
import Derived.Laws.BytesArg
import Derived.Laws.MakeOwn
import Derived.Laws.OwnMore
import Derived.Deep.OwnRows
import Derived.Tactics
import Derived.Lib.ConvBytes
import Derived.Laws.Slices
import Derived.WalkKit
import Derived.KernelRfl
import Derived.RowKit3
import Derived.Deep.LoopGhost
import Derived.Deep.QuietTactic
import Derived.BigQuiet
import Derived.WideLaws
import Derived.Deep.DeepCutAuto
import Derived.Deep.CutBlock
import Derived.Deep.RegionHeld3
import Derived.Laws.Rows
import Derived.Lib.AppendStr
import Derived.ArgAppend
import Derived.Laws.IdiomCopy
import Derived.OrdersHeld
import Derived.Laws.BitsLemmas
import Derived.RowKit
import Derived.Lib.Hide
import Derived.Laws.BitsAllLaws
import Derived.WalkLawsBesides
import Derived.WalkSpells
import Derived.LaidEql
import Derived.Lib.SliceRun
import Derived.Lib.Walk
namespace Go.Proofs.YtaknbakkahlilaaDoor
open Go.RowKit
set_option maxRecDepth 100000
set_option linter.unusedVariables false
set_option linter.unusedSimpArgs false

set_option maxHeartbeats 2000000 in
/-- a copy of bytes, in a row of the call's own -/
theorem clone_own (b off n c : Nat) (xs : List Int) (w : World) (hx : xs.length = n) (hbig : n ≤ 140737488355328) (hc : ∀ i, i < n → w.cell? ⟨b, off + i, none⟩ = some (.int .u8 (xs.getD i 0))) :
    Calls Tryd.prog 47 #[.slice (some ⟨b, off, none⟩) n c] w fun e w' => ∃ v', e = .returned v' ∧ w'.ownsRow w.heap.size 5 1 v' n (xs.map (Value.int .u8)) ∧ Below w.heap.size w w' := by
  have q22 : ∀ (w : World) (a : Option Addr) (n c n' c' : Nat), (binOp .eql 28 (.slice a n c) (.slice none n' c')).run Tryd.prog w = .ok (.bool a.isNone) w := fun w a n c n' c' => Go.Lib.run_eql_slice_nil w _ _ a n c n' c' Tryd.underlying28
  obtain ⟨i0, hi, hz0, hz1, hz2⟩ : ∃ i, Tryd.prog.info? 5 = some i ∧ i.zero = some (.int .u8 0) ∧ i.size = 1 ∧ i.bytes = 1 := ⟨_, rfl, rfl, rfl, rfl⟩
  have HC := Lib.hid hc
  clear hc
  go_enter Tryd.func47, Tryd.ntmps47
  go_wp2_with (at_builtin; refine wpList_append_own _ rfl _ _ 28 rfl w.heap.size 5 i0 (.int .u8 0) 1 1 Tryd.underlying28 hi hz0 hz1 hz2 rfl (by decide) _ _ _ rfl (World.ownsRow_made w #[] 0 (Nat.le_refl _) (Nat.zero_le _) rfl) ⟨b, off, none⟩ n c (xs.map (Value.int .u8)) rfl ?qc1 ?qc2 ?qc3 ?qc4 ?qc5 ?qc6 ?_)
  case qc1 => simp; omega
  case qc2 =>
    intro j u hj
    have hjn : j < n := by
      have := (List.getElem?_eq_some_iff.1 hj).1
      simp at this
      omega
    have ha : (⟨b, off, none⟩ : Addr).add j = ⟨b, off + j, none⟩ := by
      by_cases hj0 : j = 0
      · subst hj0; simp [Addr.add]
      · simp [Addr.add, hj0]
    rw [ha]
    refine Go.Lib.cell?_alloc_some _ ?_
    rw [HC.out j hjn]
    have e : (xs.map (Value.int .u8))[j]? = some (Value.int .u8 (xs.getD j 0)) := by simp [List.getD, List.getElem?_eq_getElem (show j < xs.length by omega)]
    rw [e] at hj
    exact hj
  case qc3 => intro u hu; obtain ⟨x, _, rfl⟩ := List.mem_map.1 hu; rfl
  case qc4 => unfold maxLen; omega
  case qc5 => omega
  case qc6 => simp
  intro v' w1 hown hgrow hnil
  go_wp2
  go_ret
  refine ⟨v', rfl, by simpa using hown, ?_⟩
  exact ((Below.refl _ w).alloc (Nat.le_refl _) _).grown hgrow (by simp) (by intro k hk; simp [Value.ownBlock] at hk; omega)

/-- a row of bytes -/
def RowB (w : World) (B len cap : Nat) (g : Nat → Nat) : Prop := ∃ cs : Array Value, w.heap[B]? = some (.cells cs 5 (0, 0)) ∧ len ≤ cap ∧ (∀ j, j < len → cs[j]? = some (.int .u8 (g j : Nat)))
theorem RowB.cell {w : World} {B len cap : Nat} {g : Nat → Nat} (h : RowB w B len cap g) {j : Nat} (hj : j < len) : w.cell? ⟨B, j, none⟩ = some (.int .u8 (g j : Nat)) := by
  obtain ⟨cs, h1, _, h3⟩ := h
  rw [cell_of_row _ _ _ _ _ _ h1]; exact h3 j hj
theorem RowB.frozen {w : World} {B len cap : Nat} {g : Nat → Nat} (h : RowB w B len cap g) (j : Nat) : w.frozen? ⟨B, j, none⟩ = false := by
  obtain ⟨cs, h1, _, _⟩ := h
  exact frozen_of_row _ _ _ _ _ h1
theorem RowB.lt {w : World} {B len cap : Nat} {g : Nat → Nat} (h : RowB w B len cap g) : B < w.heap.size := by
  obtain ⟨cs, h1, _, _⟩ := h
  exact heap_lt h1
theorem RowB.set {w : World} {B len cap : Nat} {g : Nat → Nat} (h : RowB w B len cap g) (k : Nat) (x : Nat) : RowB (w.setCell ⟨B, k, none⟩ (.int .u8 (x : Nat))) B len cap (fun j => if j = k then x else g j) := by
  obtain ⟨cs, h1, h2, h3⟩ := h
  refine ⟨_, heap_setCell_same _ _ _ _ _ _ h1, h2, fun j hj => ?_⟩
  by_cases e : j = k
  · subst e
    have hs : j < cs.size := (Array.getElem?_eq_some_iff.1 (h3 j hj)).1
    simp [Array.getElem?_setIfInBounds, hs]
  · simp only [if_neg e]
    rw [Array.getElem?_setIfInBounds_ne (Ne.symm e)]
    exact h3 j hj
theorem RowB.below {w w' : World} {B len cap : Nat} {g : Nat → Nat} (h : RowB w B len cap g) (hb : Below w.heap.size w w') : RowB w' B len cap g := by
  obtain ⟨cs, h1, h2⟩ := h
  exact ⟨cs, (hb.block B (heap_lt h1)).trans h1, h2⟩
theorem RowB.drew {w : World} {B len cap : Nat} {g : Nat → Nat} (h : RowB w B len cap g) (k : Nat) : RowB (w.drewN k) B len cap g := h
theorem rowB_of_own {w : World} {base n : Nat} {v : Value} {xs : List Int} (h : w.ownsRow base 5 1 v n (xs.map (Value.int .u8))) (hx : xs.length = n) (hn : 0 < n) (g : Nat → Nat) (hg : ∀ j, j < n → xs.getD j 0 = (g j : Int)) :
    ∃ B cap, v = .slice (some ⟨B, 0, none⟩) n cap ∧ base ≤ B ∧ n ≤ cap ∧ RowB w B n cap g := by
  obtain ⟨_, h⟩ := h
  rcases h with ⟨_, h0⟩ | ⟨B, cap, cur, rfl, hb, hrow, hcap, _, hsz, htake⟩
  · omega
  · refine ⟨B, cap, rfl, hb, hcap, cur, hrow, hcap, fun j hj => ?_⟩
    have e1 : cur[j]? = (cur.toList.take (n * 1))[j]? := by
      rw [List.getElem?_take_of_lt (by omega)]; simp
    rw [e1, htake, List.getElem?_map, List.getElem?_eq_getElem (show j < xs.length by omega)]
    have e2 := hg j hj
    rw [show xs.getD j 0 = xs[j]'(by omega) from by simp [List.getD, List.getElem?_eq_getElem (show j < xs.length by omega)]] at e2
    simp [e2]
theorem RowB.congr {w : World} {B len cap : Nat} {g g' : Nat → Nat} (h : RowB w B len cap g) (e : ∀ j, j < len → g j = g' j) : RowB w B len cap g' := by
  obtain ⟨cs, h1, h2, h3⟩ := h
  exact ⟨cs, h1, h2, fun j hj => by rw [← e j hj]; exact h3 j hj⟩
/-- the bytes with a number put in -/
def withG (f : Nat → Nat) (k n v : Nat) : Nat → Nat := fun j => if k ≤ j ∧ j < k + n then v / 256 ^ (j - k) % 256 else f j
theorem clone_row (b off n c : Nat) (f : Nat → Nat) (hf : ∀ j, f j < 256) (w : World) (hn : 0 < n) (hbig : n ≤ 140737488355328) (hc : ∀ i, i < n → w.cell? ⟨b, off + i, none⟩ = some (.int .u8 (f i : Nat))) :
    Calls Tryd.prog 47 #[.slice (some ⟨b, off, none⟩) n c] w fun e w' => ∃ B cap, e = .returned (.slice (some ⟨B, 0, none⟩) n cap) ∧ w.heap.size ≤ B ∧ n ≤ cap ∧ RowB w' B n cap f ∧ Below w.heap.size w w' := by
  have hx : ∀ i, i < n → (((List.range n).map fun i => ((f i : Nat) : Int)).getD i 0) = (f i : Int) := fun i hi => by simp [List.getD, hi]
  refine (clone_own b off n c ((List.range n).map fun i => ((f i : Nat) : Int)) w (by simp) hbig (fun i hi => by rw [hx i hi]; exact hc i hi)).mono ?_
  rintro e w' ⟨v', rfl, hown, hb⟩
  obtain ⟨B, cap, rfl, h1, h2, h3⟩ := rowB_of_own hown (by simp) hn f hx
  exact ⟨B, cap, rfl, h1, h2, h3, hb⟩
theorem with_err (A : Option Addr) (len cap : Nat) (at_ n : Int) (v : Nat) (hlen : len ≤ 140737488351232) (w : World) (h : chk len at_ n ≠ 0) :
    Calls Tryd.prog 20 #[.slice A len cap, .int .i64 at_, .int .i64 n, .int .u32 v] w fun e w' => e = .returned (.tuple #[.slice none 0 0, errV (chk len at_ n)]) ∧ w = w' := by
  have C := Lib.hid (fun w => check_any A len cap at_ n hlen w)
  generalize chk len at_ n = c at C h ⊢
  have hE : errV c = .iface 78 (.int .i64 c) := by unfold errV; rw [if_neg h]
  rw [hE] at C ⊢
  go_enter Tryd.func20, Tryd.ntmps20
  go_wp2_with (go_at_call 43; refine (C.out _).mono ?_; rintro e w' ⟨rfl, rfl⟩)
  go_ret2
  exact ⟨rfl, rfl⟩
set_option maxHeartbeats 2000000 in
theorem with_1 (b off len cap : Nat) (f : Nat → Nat) (hf : ∀ j, f j < 256) (k : Nat) (hlen : len ≤ 140737488351232) (v : Nat) (hv : v < 4294967296) (w : World) (hk : k + 1 ≤ len) (hc0 : chk len k 1 = 0)
    (hc : ∀ j, j < len → w.cell? ⟨b, off + j, none⟩ = some (.int .u8 (f j : Nat))) :
    Calls Tryd.prog 20 #[.slice (some ⟨b, off, none⟩) len cap, .int .i64 k, .int .i64 1, .int .u32 v] w fun e w' => ∃ B cap', e = .returned (.tuple #[.slice (some ⟨B, 0, none⟩) len cap', .nilIface]) ∧ w.heap.size ≤ B ∧ len ≤ cap' ∧ RowB w' B len cap' (withG f k 1 v) ∧ Below w.heap.size w w' := by
  have C := Lib.hid (fun w => check_any (some ⟨b, off, none⟩) len cap k 1 hlen w)
  rw [hc0] at C
  have hE : errV 0 = .nilIface := rfl
  rw [hE] at C
  clear hE hc0
  have L := Lib.hid (clone_row b off len cap f hf w (by omega) (by omega) hc)
  obtain ⟨x0, hx0⟩ : ∃ x : Nat, x = v / 1 % 256 := ⟨_, rfl⟩
  have y0 : (v : Int) % 256 = (x0 : Int) := by omega
  have hI : (k : Int) + 1 ≤ len := by omega
  have HX0 := Lib.hid hx0
  clear hc hf hx0
  go_enter Tryd.func20, Tryd.ntmps20
  go_wp2_with (first | (go_at_call 43; refine (C.out _).mono ?_; rintro e w' ⟨rfl, rfl⟩) | (go_at_call 47; refine L.out.mono ?_; rintro e w1 ⟨B, cap', rfl, hB, hcap', R, hb⟩; have c0 := R.cell (j := k) (by omega); have fr := fun j => R.frozen j; have lt := R.lt; have RR := Lib.hid R; have HBb := Lib.hid hb; clear R hb))
  refine wp_loop_rounds 2 ?_
  rw [rounds_succ]
  go_wp2
  rw [rounds_succ]
  go_wp2
  go_ret2
  refine ⟨B, cap', rfl, hB, hcap', (RR.out.set k x0).congr ?_, (HBb.out.setCell (p := ⟨B, k, none⟩) hB _)⟩
  intro j hj
  unfold withG
  by_cases hin : k ≤ j ∧ j < k + 1
  · rw [if_pos hin]
    obtain rfl : j = k := by omega
    simp [HX0.out]
  · rw [if_neg hin]
    rw [if_neg (by omega)]
set_option maxHeartbeats 2000000 in
theorem with_2 (b off len cap : Nat) (f : Nat → Nat) (hf : ∀ j, f j < 256) (k : Nat) (hlen : len ≤ 140737488351232) (v : Nat) (hv : v < 4294967296) (w : World) (hk : k + 2 ≤ len) (hc0 : chk len k 2 = 0)
    (hc : ∀ j, j < len → w.cell? ⟨b, off + j, none⟩ = some (.int .u8 (f j : Nat))) :
    Calls Tryd.prog 20 #[.slice (some ⟨b, off, none⟩) len cap, .int .i64 k, .int .i64 2, .int .u32 v] w fun e w' => ∃ B cap', e = .returned (.tuple #[.slice (some ⟨B, 0, none⟩) len cap', .nilIface]) ∧ w.heap.size ≤ B ∧ len ≤ cap' ∧ RowB w' B len cap' (withG f k 2 v) ∧ Below w.heap.size w w' := by
  have C := Lib.hid (fun w => check_any (some ⟨b, off, none⟩) len cap k 2 hlen w)
  rw [hc0] at C
  have hE : errV 0 = .nilIface := rfl
  rw [hE] at C
  clear hE hc0
  have L := Lib.hid (clone_row b off len cap f hf w (by omega) (by omega) hc)
  obtain ⟨x0, hx0⟩ : ∃ x : Nat, x = v / 1 % 256 := ⟨_, rfl⟩
  have y0 : (v : Int) % 256 = (x0 : Int) := by omega
  obtain ⟨x1, hx1⟩ : ∃ x : Nat, x = v / 256 % 256 := ⟨_, rfl⟩
  have y1 : (v : Int) / 256 % 256 = (x1 : Int) := by omega
  have hI : (k : Int) + 2 ≤ len := by omega
  have HX0 := Lib.hid hx0
  have HX1 := Lib.hid hx1
  clear hc hf hx0 hx1
  go_enter Tryd.func20, Tryd.ntmps20
  go_wp2_with (first | (go_at_call 43; refine (C.out _).mono ?_; rintro e w' ⟨rfl, rfl⟩) | (go_at_call 47; refine L.out.mono ?_; rintro e w1 ⟨B, cap', rfl, hB, hcap', R, hb⟩; have c0 := R.cell (j := k) (by omega); have c1 := R.cell (j := k + 1) (by omega); have fr := fun j => R.frozen j; have lt := R.lt; have RR := Lib.hid R; have HBb := Lib.hid hb; clear R hb))
  refine wp_loop_rounds 3 ?_
  rw [rounds_succ]
  go_wp2
  rw [rounds_succ]
  go_wp2
  rw [rounds_succ]
  go_wp2
  go_ret2
  refine ⟨B, cap', rfl, hB, hcap', ((RR.out.set k x0).set (k + 1) x1).congr ?_, ((HBb.out.setCell (p := ⟨B, k, none⟩) hB _).setCell (p := ⟨B, k + 1, none⟩) hB _)⟩
  intro j hj
  unfold withG
  by_cases hin : k ≤ j ∧ j < k + 2
  · rw [if_pos hin]
    have hcs : j = k ∨ j = k + 1 := by omega
    rcases hcs with rfl | rfl
    · simp [HX0.out]
    · simp [HX1.out]
  · rw [if_neg hin]
    rw [if_neg (by omega)]; rw [if_neg (by omega)]
set_option maxHeartbeats 2000000 in
theorem with_4 (b off len cap : Nat) (f : Nat → Nat) (hf : ∀ j, f j < 256) (k : Nat) (hlen : len ≤ 140737488351232) (v : Nat) (hv : v < 4294967296) (w : World) (hk : k + 4 ≤ len) (hc0 : chk len k 4 = 0)
    (hc : ∀ j, j < len → w.cell? ⟨b, off + j, none⟩ = some (.int .u8 (f j : Nat))) :
    Calls Tryd.prog 20 #[.slice (some ⟨b, off, none⟩) len cap, .int .i64 k, .int .i64 4, .int .u32 v] w fun e w' => ∃ B cap', e = .returned (.tuple #[.slice (some ⟨B, 0, none⟩) len cap', .nilIface]) ∧ w.heap.size ≤ B ∧ len ≤ cap' ∧ RowB w' B len cap' (withG f k 4 v) ∧ Below w.heap.size w w' := by
  have C := Lib.hid (fun w => check_any (some ⟨b, off, none⟩) len cap k 4 hlen w)
  rw [hc0] at C
  have hE : errV 0 = .nilIface := rfl
  rw [hE] at C
  clear hE hc0
  have L := Lib.hid (clone_row b off len cap f hf w (by omega) (by omega) hc)
  obtain ⟨x0, hx0⟩ : ∃ x : Nat, x = v / 1 % 256 := ⟨_, rfl⟩
  have y0 : (v : Int) % 256 = (x0 : Int) := by omega
  obtain ⟨x1, hx1⟩ : ∃ x : Nat, x = v / 256 % 256 := ⟨_, rfl⟩
  have y1 : (v : Int) / 256 % 256 = (x1 : Int) := by omega
  obtain ⟨x2, hx2⟩ : ∃ x : Nat, x = v / 65536 % 256 := ⟨_, rfl⟩
  have y2 : (v : Int) / 65536 % 256 = (x2 : Int) := by omega
  obtain ⟨x3, hx3⟩ : ∃ x : Nat, x = v / 16777216 % 256 := ⟨_, rfl⟩
  have y3 : (v : Int) / 16777216 % 256 = (x3 : Int) := by omega
  have y3b : (v : Int) / 16777216 = (x3 : Int) := by omega
  have hI : (k : Int) + 4 ≤ len := by omega
  have HX0 := Lib.hid hx0
  have HX1 := Lib.hid hx1
  have HX2 := Lib.hid hx2
  have HX3 := Lib.hid hx3
  clear hc hf hx0 hx1 hx2 hx3
  go_enter Tryd.func20, Tryd.ntmps20
  go_wp2_with (first | (go_at_call 43; refine (C.out _).mono ?_; rintro e w' ⟨rfl, rfl⟩) | (go_at_call 47; refine L.out.mono ?_; rintro e w1 ⟨B, cap', rfl, hB, hcap', R, hb⟩; have c0 := R.cell (j := k) (by omega); have c1 := R.cell (j := k + 1) (by omega); have c2 := R.cell (j := k + 2) (by omega); have c3 := R.cell (j := k + 3) (by omega); have fr := fun j => R.frozen j; have lt := R.lt; have RR := Lib.hid R; have HBb := Lib.hid hb; clear R hb))
  refine wp_loop_rounds 5 ?_
  rw [rounds_succ]
  go_wp2
  rw [rounds_succ]
  go_wp2
  rw [rounds_succ]
  go_wp2
  rw [rounds_succ]
  go_wp2
  rw [rounds_succ]
  go_wp2
  go_ret2
  refine ⟨B, cap', rfl, hB, hcap', ((((RR.out.set k x0).set (k + 1) x1).set (k + 2) x2).set (k + 3) x3).congr ?_, ((((HBb.out.setCell (p := ⟨B, k, none⟩) hB _).setCell (p := ⟨B, k + 1, none⟩) hB _).setCell (p := ⟨B, k + 2, none⟩) hB _).setCell (p := ⟨B, k + 3, none⟩) hB _)⟩
  intro j hj
  unfold withG
  by_cases hin : k ≤ j ∧ j < k + 4
  · rw [if_pos hin]
    have hcs : j = k ∨ j = k + 1 ∨ j = k + 2 ∨ j = k + 3 := by omega
    rcases hcs with rfl | rfl | rfl | rfl
    · simp [HX0.out]
    · simp [HX1.out]
    · simp [HX2.out]
    · simp [HX3.out]
  · rw [if_neg hin]
    rw [if_neg (by omega)]; rw [if_neg (by omega)]; rw [if_neg (by omega)]; rw [if_neg (by omega)]

end Go.Proofs.YtaknbakkahlilaaDoor
