import Derived.Test.YtaknbakkahlilaaDoorWithM
import Derived.Laws.BytesArg
import Derived.Below
import Derived.Deep.Draws
import Derived.Deep.AppendLies
import Derived.Maps.AppendAt
import Derived.OwnWalk
import Derived.Laws.MakeOwn
import Derived.Laws.OwnMore
import Derived.Deep.OwnRows
import Derived.Tactics
import Derived.Lib.ConvBytes
import Derived.Laws.Slices
import Derived.WalkKit
import Derived.KernelRfl
import Derived.RowKit3
import Derived.Deep.LoopGhost
import Derived.Deep.QuietTactic
import Derived.BigQuiet
import Derived.WideLaws
import Derived.Deep.DeepCutAuto
import Derived.Deep.CutBlock
import Derived.Deep.RegionHeld3
import Derived.Laws.Rows
import Derived.Lib.AppendStr
import Derived.ArgAppend
import Derived.Laws.IdiomCopy
import Derived.OrdersHeld
import Derived.Laws.BitsLemmas
import Derived.RowKit
import Derived.Lib.Hide
import Derived.Laws.BitsAllLaws
import Derived.WalkLawsBesides
import Derived.WalkSpells
import Derived.LaidEql
namespace Go.Proofs.YtaknbakkahlilaaDoor
open Go.RowKit
set_option maxRecDepth 100000
set_option linter.unusedVariables false
set_option linter.unusedSimpArgs false

theorem news_bytes {w : World} {b off n : Nat} {f : Nat → Nat} (hc : ∀ i, i < n → w.cell? ⟨b, off + i, none⟩ = some (.int .u8 (f i : Nat))) : ∀ (j : Nat) (u : Value), (((List.range n).map fun i => ((f i : Nat) : Int)).map (Value.int .u8))[j]? = some u → w.cell? ((⟨b, off, none⟩ : Addr).add j) = some u := by
  intro j u hj
  have hjn : j < n := by
    have := (List.getElem?_eq_some_iff.1 hj).1
    simpa using this
  have ha : (⟨b, off, none⟩ : Addr).add j = ⟨b, off + j, none⟩ := by
    by_cases hj0 : j = 0
    · subst hj0; simp [Addr.add]
    · simp [Addr.add, hj0]
  rw [ha, hc j hjn]
  simp [hjn] at hj
  rw [← hj]
theorem nums_getD (n : Nat) (f : Nat → Nat) : ∀ j, j < n → ((List.range n).map fun i => ((f i : Nat) : Int)).getD j 0 = (f j : Int) := fun j hj => by simp [List.getD, hj]
theorem rwith_err (A : Option Addr) (len cap : Nat) (at_ n : Int) (v : Nat) (hlen : len ≤ 140737488351232) (w : World) (h : chk len at_ n ≠ 0) :
    Calls Tryd.prog 21 #[.slice A len cap, .int .i64 at_, .int .i64 n, .int .u32 v] w fun e w' => e = .returned (.tuple #[.slice none 0 0, .int .i64 (chk len at_ n)]) ∧ w = w' := by
  have C := Lib.hid (fun w => rcheck_any A len cap at_ n hlen w)
  generalize chk len at_ n = c at C h ⊢
  have h2 : (c == 0) = false := by simp [h]
  go_enter Tryd.func21, Tryd.ntmps21
  go_wp2_with (go_at_call 45; refine (C.out _).mono ?_; rintro e w' ⟨rfl, rfl⟩)
  go_ret2
  exact ⟨rfl, rfl⟩
set_option maxHeartbeats 4000000 in
theorem rwith_1 (b off len cap : Nat) (f : Nat → Nat) (hf : ∀ j, f j < 256) (k : Nat) (hlen : len ≤ 140737488351232) (v : Nat) (hv : v < 4294967296) (w : World) (hk : k + 1 ≤ len) (hc0 : chk len k 1 = 0)
    (hc : ∀ j, j < len → w.cell? ⟨b, off + j, none⟩ = some (.int .u8 (f j : Nat))) :
    Calls Tryd.prog 21 #[.slice (some ⟨b, off, none⟩) len cap, .int .i64 k, .int .i64 1, .int .u32 v] w fun e w' => ∃ B cap', e = .returned (.tuple #[.slice (some ⟨B, 0, none⟩) len cap', .int .i64 0]) ∧ w.heap.size ≤ B ∧ len ≤ cap' ∧ RowB w' B len cap' (withG f k 1 v) ∧ Below w.heap.size w w' := by
  have C := Lib.hid (fun w => rcheck_any (some ⟨b, off, none⟩) len cap k 1 hlen w)
  rw [hc0] at C
  clear hc0
  have HI : Hid (∃ i, Tryd.prog.info? 5 = some i ∧ i.zero = some (.int .u8 0) ∧ i.size = 1 ∧ i.bytes = 1) := Lib.hid ⟨_, rfl, rfl, rfl, rfl⟩
  have HC := Lib.hid hc
  obtain ⟨x0, hx0⟩ : ∃ x : Nat, x = v / 1 % 256 := ⟨_, rfl⟩
  have y0 : (v : Int) % 256 = (x0 : Int) := by omega
  have xl0 : x0 < 256 := by omega
  obtain ⟨v0, hv0⟩ : ∃ q : Nat, q = v / 256 := ⟨_, rfl⟩
  have z0 : (v : Int) / 256 = (v0 : Int) := by omega
  have HX0 := Lib.hid hx0
  have hI : (k : Int) + 1 ≤ len := by omega
  clear hc hf hx0 hv0
  go_enter Tryd.func21, Tryd.ntmps21
  go_wp2_with (first | (go_at_call 45; refine (C.out _).mono ?_; rintro e w' ⟨rfl, rfl⟩) | (at_builtin; (obtain ⟨i0, hi, hz0, hz1, hz2⟩ := HI.out); refine wpList_append_own _ rfl _ _ 28 rfl w.heap.size 5 i0 (.int .u8 0) 1 1 Tryd.underlying28 hi hz0 hz1 hz2 rfl (by decide) _ _ _ rfl (World.ownsRow_nil _ _ _ _) ⟨b, off, none⟩ len cap (((List.range len).map fun i => ((f i : Nat) : Int)).map (Value.int .u8)) rfl (by simp) (news_bytes HC.out) (by intro u hu; obtain ⟨x, _, rfl⟩ := List.mem_map.1 hu; rfl) (by unfold maxLen; omega) (by omega) (Nat.le_refl _) ?_; intro v' w1 hown hgrow hnil; (obtain ⟨B, cap', rfl, hB, hcap', R⟩ := rowB_of_own (n := len) (by simpa using hown) (by simp) (by omega) f (nums_getD len f)); have c0 := R.cell (j := k) (by omega); have fr := fun j => R.frozen j; have lt := R.lt; have RR := Lib.hid R; have HBb := Lib.hid ((Below.refl w.heap.size w).grown hgrow (Nat.le_refl _) (by intro j hj; cases hj)); clear R hown hgrow hnil hi hz0 hz1 hz2))
  refine wp_loop_rounds 2 ?_
  rw [rounds_succ]
  go_wp2
  rw [rounds_succ]
  go_wp2
  go_ret2
  refine ⟨B, cap', rfl, hB, hcap', (RR.out.set k x0).congr ?_, (HBb.out.setCell (p := ⟨B, k, none⟩) hB _)⟩
  intro j hj
  unfold withG
  by_cases hin : k ≤ j ∧ j < k + 1
  · rw [if_pos hin]
    obtain rfl : j = k := by omega
    simp [HX0.out]
  · rw [if_neg hin]
    rw [if_neg (by omega)]
set_option maxHeartbeats 4000000 in
theorem rwith_2 (b off len cap : Nat) (f : Nat → Nat) (hf : ∀ j, f j < 256) (k : Nat) (hlen : len ≤ 140737488351232) (v : Nat) (hv : v < 4294967296) (w : World) (hk : k + 2 ≤ len) (hc0 : chk len k 2 = 0)
    (hc : ∀ j, j < len → w.cell? ⟨b, off + j, none⟩ = some (.int .u8 (f j : Nat))) :
    Calls Tryd.prog 21 #[.slice (some ⟨b, off, none⟩) len cap, .int .i64 k, .int .i64 2, .int .u32 v] w fun e w' => ∃ B cap', e = .returned (.tuple #[.slice (some ⟨B, 0, none⟩) len cap', .int .i64 0]) ∧ w.heap.size ≤ B ∧ len ≤ cap' ∧ RowB w' B len cap' (withG f k 2 v) ∧ Below w.heap.size w w' := by
  have C := Lib.hid (fun w => rcheck_any (some ⟨b, off, none⟩) len cap k 2 hlen w)
  rw [hc0] at C
  clear hc0
  have HI : Hid (∃ i, Tryd.prog.info? 5 = some i ∧ i.zero = some (.int .u8 0) ∧ i.size = 1 ∧ i.bytes = 1) := Lib.hid ⟨_, rfl, rfl, rfl, rfl⟩
  have HC := Lib.hid hc
  obtain ⟨x0, hx0⟩ : ∃ x : Nat, x = v / 1 % 256 := ⟨_, rfl⟩
  have y0 : (v : Int) % 256 = (x0 : Int) := by omega
  have xl0 : x0 < 256 := by omega
  obtain ⟨v0, hv0⟩ : ∃ q : Nat, q = v / 256 := ⟨_, rfl⟩
  have z0 : (v : Int) / 256 = (v0 : Int) := by omega
  obtain ⟨x1, hx1⟩ : ∃ x : Nat, x = v / 256 % 256 := ⟨_, rfl⟩
  have y1 : (v0 : Int) % 256 = (x1 : Int) := by omega
  have xl1 : x1 < 256 := by omega
  obtain ⟨v1, hv1⟩ : ∃ q : Nat, q = v / 65536 := ⟨_, rfl⟩
  have z1 : (v0 : Int) / 256 = (v1 : Int) := by omega
  have HX0 := Lib.hid hx0
  have HX1 := Lib.hid hx1
  have hI : (k : Int) + 2 ≤ len := by omega
  clear hc hf hx0 hv0 hx1 hv1
  go_enter Tryd.func21, Tryd.ntmps21
  go_wp2_with (first | (go_at_call 45; refine (C.out _).mono ?_; rintro e w' ⟨rfl, rfl⟩) | (at_builtin; (obtain ⟨i0, hi, hz0, hz1, hz2⟩ := HI.out); refine wpList_append_own _ rfl _ _ 28 rfl w.heap.size 5 i0 (.int .u8 0) 1 1 Tryd.underlying28 hi hz0 hz1 hz2 rfl (by decide) _ _ _ rfl (World.ownsRow_nil _ _ _ _) ⟨b, off, none⟩ len cap (((List.range len).map fun i => ((f i : Nat) : Int)).map (Value.int .u8)) rfl (by simp) (news_bytes HC.out) (by intro u hu; obtain ⟨x, _, rfl⟩ := List.mem_map.1 hu; rfl) (by unfold maxLen; omega) (by omega) (Nat.le_refl _) ?_; intro v' w1 hown hgrow hnil; (obtain ⟨B, cap', rfl, hB, hcap', R⟩ := rowB_of_own (n := len) (by simpa using hown) (by simp) (by omega) f (nums_getD len f)); have c0 := R.cell (j := k) (by omega); have c1 := R.cell (j := k + 1) (by omega); have fr := fun j => R.frozen j; have lt := R.lt; have RR := Lib.hid R; have HBb := Lib.hid ((Below.refl w.heap.size w).grown hgrow (Nat.le_refl _) (by intro j hj; cases hj)); clear R hown hgrow hnil hi hz0 hz1 hz2))
  refine wp_loop_rounds 3 ?_
  rw [rounds_succ]
  go_wp2
  rw [rounds_succ]
  go_wp2
  rw [rounds_succ]
  go_wp2
  go_ret2
  refine ⟨B, cap', rfl, hB, hcap', ((RR.out.set k x0).set (k + 1) x1).congr ?_, ((HBb.out.setCell (p := ⟨B, k, none⟩) hB _).setCell (p := ⟨B, k + 1, none⟩) hB _)⟩
  intro j hj
  unfold withG
  by_cases hin : k ≤ j ∧ j < k + 2
  · rw [if_pos hin]
    have hcs : j = k ∨ j = k + 1 := by omega
    rcases hcs with rfl | rfl
    · simp [HX0.out]
    · simp [HX1.out]
  · rw [if_neg hin]
    rw [if_neg (by omega)]; rw [if_neg (by omega)]
set_option maxHeartbeats 4000000 in
theorem rwith_4 (b off len cap : Nat) (f : Nat → Nat) (hf : ∀ j, f j < 256) (k : Nat) (hlen : len ≤ 140737488351232) (v : Nat) (hv : v < 4294967296) (w : World) (hk : k + 4 ≤ len) (hc0 : chk len k 4 = 0)
    (hc : ∀ j, j < len → w.cell? ⟨b, off + j, none⟩ = some (.int .u8 (f j : Nat))) :
    Calls Tryd.prog 21 #[.slice (some ⟨b, off, none⟩) len cap, .int .i64 k, .int .i64 4, .int .u32 v] w fun e w' => ∃ B cap', e = .returned (.tuple #[.slice (some ⟨B, 0, none⟩) len cap', .int .i64 0]) ∧ w.heap.size ≤ B ∧ len ≤ cap' ∧ RowB w' B len cap' (withG f k 4 v) ∧ Below w.heap.size w w' := by
  have C := Lib.hid (fun w => rcheck_any (some ⟨b, off, none⟩) len cap k 4 hlen w)
  rw [hc0] at C
  clear hc0
  have HI : Hid (∃ i, Tryd.prog.info? 5 = some i ∧ i.zero = some (.int .u8 0) ∧ i.size = 1 ∧ i.bytes = 1) := Lib.hid ⟨_, rfl, rfl, rfl, rfl⟩
  have HC := Lib.hid hc
  obtain ⟨x0, hx0⟩ : ∃ x : Nat, x = v / 1 % 256 := ⟨_, rfl⟩
  have y0 : (v : Int) % 256 = (x0 : Int) := by omega
  have xl0 : x0 < 256 := by omega
  obtain ⟨v0, hv0⟩ : ∃ q : Nat, q = v / 256 := ⟨_, rfl⟩
  have z0 : (v : Int) / 256 = (v0 : Int) := by omega
  obtain ⟨x1, hx1⟩ : ∃ x : Nat, x = v / 256 % 256 := ⟨_, rfl⟩
  have y1 : (v0 : Int) % 256 = (x1 : Int) := by omega
  have xl1 : x1 < 256 := by omega
  obtain ⟨v1, hv1⟩ : ∃ q : Nat, q = v / 65536 := ⟨_, rfl⟩
  have z1 : (v0 : Int) / 256 = (v1 : Int) := by omega
  obtain ⟨x2, hx2⟩ : ∃ x : Nat, x = v / 65536 % 256 := ⟨_, rfl⟩
  have y2 : (v1 : Int) % 256 = (x2 : Int) := by omega
  have xl2 : x2 < 256 := by omega
  obtain ⟨v2, hv2⟩ : ∃ q : Nat, q = v / 16777216 := ⟨_, rfl⟩
  have z2 : (v1 : Int) / 256 = (v2 : Int) := by omega
  obtain ⟨x3, hx3⟩ : ∃ x : Nat, x = v / 16777216 % 256 := ⟨_, rfl⟩
  have y3 : (v2 : Int) % 256 = (x3 : Int) := by omega
  have xl3 : x3 < 256 := by omega
  obtain ⟨v3, hv3⟩ : ∃ q : Nat, q = v / 4294967296 := ⟨_, rfl⟩
  have z3 : (v2 : Int) / 256 = (v3 : Int) := by omega
  have HX0 := Lib.hid hx0
  have HX1 := Lib.hid hx1
  have HX2 := Lib.hid hx2
  have HX3 := Lib.hid hx3
  have hI : (k : Int) + 4 ≤ len := by omega
  clear hc hf hx0 hv0 hx1 hv1 hx2 hv2 hx3 hv3
  go_enter Tryd.func21, Tryd.ntmps21
  go_wp2_with (first | (go_at_call 45; refine (C.out _).mono ?_; rintro e w' ⟨rfl, rfl⟩) | (at_builtin; (obtain ⟨i0, hi, hz0, hz1, hz2⟩ := HI.out); refine wpList_append_own _ rfl _ _ 28 rfl w.heap.size 5 i0 (.int .u8 0) 1 1 Tryd.underlying28 hi hz0 hz1 hz2 rfl (by decide) _ _ _ rfl (World.ownsRow_nil _ _ _ _) ⟨b, off, none⟩ len cap (((List.range len).map fun i => ((f i : Nat) : Int)).map (Value.int .u8)) rfl (by simp) (news_bytes HC.out) (by intro u hu; obtain ⟨x, _, rfl⟩ := List.mem_map.1 hu; rfl) (by unfold maxLen; omega) (by omega) (Nat.le_refl _) ?_; intro v' w1 hown hgrow hnil; (obtain ⟨B, cap', rfl, hB, hcap', R⟩ := rowB_of_own (n := len) (by simpa using hown) (by simp) (by omega) f (nums_getD len f)); have c0 := R.cell (j := k) (by omega); have c1 := R.cell (j := k + 1) (by omega); have c2 := R.cell (j := k + 2) (by omega); have c3 := R.cell (j := k + 3) (by omega); have fr := fun j => R.frozen j; have lt := R.lt; have RR := Lib.hid R; have HBb := Lib.hid ((Below.refl w.heap.size w).grown hgrow (Nat.le_refl _) (by intro j hj; cases hj)); clear R hown hgrow hnil hi hz0 hz1 hz2))
  refine wp_loop_rounds 5 ?_
  rw [rounds_succ]
  go_wp2
  rw [rounds_succ]
  go_wp2
  rw [rounds_succ]
  go_wp2
  rw [rounds_succ]
  go_wp2
  rw [rounds_succ]
  go_wp2
  go_ret2
  refine ⟨B, cap', rfl, hB, hcap', ((((RR.out.set k x0).set (k + 1) x1).set (k + 2) x2).set (k + 3) x3).congr ?_, ((((HBb.out.setCell (p := ⟨B, k, none⟩) hB _).setCell (p := ⟨B, k + 1, none⟩) hB _).setCell (p := ⟨B, k + 2, none⟩) hB _).setCell (p := ⟨B, k + 3, none⟩) hB _)⟩
  intro j hj
  unfold withG
  by_cases hin : k ≤ j ∧ j < k + 4
  · rw [if_pos hin]
    have hcs : j = k ∨ j = k + 1 ∨ j = k + 2 ∨ j = k + 3 := by omega
    rcases hcs with rfl | rfl | rfl | rfl
    · simp [HX0.out]
    · simp [HX1.out]
    · simp [HX2.out]
    · simp [HX3.out]
  · rw [if_neg hin]
    rw [if_neg (by omega)]; rw [if_neg (by omega)]; rw [if_neg (by omega)]; rw [if_neg (by omega)]

theorem run_append_empty (w : World) (ty : TypeId) (A : Option Addr) (cap : Nat) : (Builtin.append_ #[28, 28] ty #[.slice none 0 0, .slice A 0 cap]).run Tryd.prog w = .ok (.slice none 0 0) w := by
  obtain ⟨i0, hi, hz0, hz1, hz2⟩ : ∃ i, Tryd.prog.info? 5 = some i ∧ i.zero = some (.int .u8 0) ∧ i.size = 1 ∧ i.bytes = 1 := ⟨_, rfl, rfl, rfl, rfl⟩
  cases A <;> simp [Builtin.append_, run_underlying Tryd.underlying28, sizeOf, typeInfo, hi, storeCells, Builtin.firstCells, Builtin.lenOf, hz1, loadCells, loadCellsFrom]
theorem wpList_append_empty {w : World} {ops : Array Oper} {rest : List Oper} {o : Oper} {a : Act} {Q : Exit → Act → World → Prop} (hgd : o.guard = none) (s x : Operand)
    (ho : o.op = .call { callee := .builtin .append, args := #[s, x], argTypes := #[28, 28] }) (A : Option Addr) (cap : Nat) (hs : a.eval s = .slice none 0 0) (hx : a.eval x = .slice A 0 cap)
    (h : wpList Tryd.prog ops Q rest (a.put o.dst (.slice none 0 0)) w) : wpList Tryd.prog ops Q (o :: rest) a w :=
  wpList_plain hgd fun _ hK => by
    unfold Oper.wp execOp
    simp only [ho, resolve, invoke, builtin, Sem.run_bind, Sem.run_pure, Result.andThen_ok, List.map_toArray, List.map_cons, List.map_nil, hs, hx, run_append_empty]
    exact hK _ _ h
/-- the bytes as a text -/
def txt (n : Nat) (f : Nat → Nat) : ByteArray := strOfNums ((List.range n).map fun i => ((f i : Nat) : Int))
theorem cv_arg {w : World} {b off len cap : Nat} {f : Nat → Nat} (hc : ∀ i, i < len → w.cell? ⟨b, off + i, none⟩ = some (.int .u8 (f i : Nat))) : ∀ dst, Tryd.prog.underlying dst = some .string → (convert 28 dst (.slice (some ⟨b, off, none⟩) len cap)).run Tryd.prog w = .ok (.string (txt len f)) w :=
  run_convert_bytes_arg w 28 5 Tryd.underlying28 Tryd.underlying5 b off len cap _ (by simp) fun i hi => by rw [nums_getD len f i hi]; exact hc i hi
theorem cv_row {w : World} {B len cap cap' : Nat} {f : Nat → Nat} (R : RowB w B len cap f) : ∀ dst, Tryd.prog.underlying dst = some .string → (convert 28 dst (.slice (some ⟨B, 0, none⟩) len cap')).run Tryd.prog w = .ok (.string (txt len f)) w :=
  cv_arg fun i hi => by rw [Nat.zero_add]; exact R.cell hi
theorem cv_nil {w : World} (l c : Nat) : ∀ dst, Tryd.prog.underlying dst = some .string → (convert 28 dst (.slice none l c)).run Tryd.prog w = .ok (.string ByteArray.empty) w :=
  run_convert_bytes_nil w 28 5 Tryd.underlying28 Tryd.underlying5 l c
set_option maxHeartbeats 2000000 in
theorem ww_big (A : Option Addr) (len cap : Nat) (a0 a1 : Int) (v : Nat) (hl : 100000 < len) (w : World) :
    Calls Tryd.prog 5 #[.slice A len cap, .agg #[.int .i64 a0, .int .i64 a1], .int .u32 v] w fun e w' => e = .returned (.bool true) ∧ Below w.heap.size w w' := by
  have h1 : (100000 : Int) < len := by omega
  go_enter Tryd.func5, Tryd.ntmps5
  go_wp2_with (go_at_call 16; refine (sureW_any _).mono ?_; rintro e w1 ⟨rfl, hb⟩)
  go_ret
  exact ⟨rfl, ((Below.refl _ w).alloc (Nat.le_refl _) _).trans (hb.mono (by simp))⟩
set_option maxHeartbeats 4000000 in
theorem ww_empty (A : Option Addr) (cap : Nat) (a0 a1 : Int) (v : Nat) (c : Int) (hc : chk 0 a0 a1 = c) (hc0 : c ≠ 0) (w : World) (hg : w.cell? ⟨2, 0, none⟩ = some errTy) :
    Calls Tryd.prog 5 #[.slice A 0 cap, .agg #[.int .i64 a0, .int .i64 a1], .int .u32 v] w fun e w' => e = .returned (.bool true) ∧ Below w.heap.size w w' := by
  have P := Lib.hid (fun w => with_err none 0 0 a0 a1 v (by decide) w (by rw [hc]; exact hc0))
  have R := Lib.hid (fun w => rwith_err A 0 cap a0 a1 v (by decide) w (by rw [hc]; exact hc0))
  rw [hc] at P R
  have NU := Lib.hid (fun w' (hb : Below w.heap.size w w') => num_any c w' ((World.cell?_of_block (a := ⟨2, 0, none⟩) (hb.block _ (block_lt_of_cell hg))).trans hg))
  have hbs := (Below.refl w.heap.size w).alloc (Nat.le_refl _) (.cells #[.int .i64 a0, .int .i64 a1] 37)
  have HS := Lib.hid hbs
  generalize errV c = ev at *
  have b0 : (w.alloc (.cells #[.int .i64 a0, .int .i64 a1] 37)).cell? ⟨w.heap.size, 0, none⟩ = some (.int .i64 a0) := by simp
  have b1 : (w.alloc (.cells #[.int .i64 a0, .int .i64 a1] 37)).cell? ⟨w.heap.size, 1, none⟩ = some (.int .i64 a1) := by simp
  have n1 := fun (w : World) => cv_nil (w := w) 0 0
  have n2 : ∀ (w : World) (A : Option Addr) (cap : Nat), ∀ dst, Tryd.prog.underlying dst = some .string → (convert 28 dst (.slice A 0 cap)).run Tryd.prog w = .ok (.string ByteArray.empty) w := fun w A cap => by
    cases A with
    | none => exact cv_nil 0 cap
    | some a =>
      intro dst hd
      rw [run_convert_bytes_string w _ dst 5 _ 0 cap Tryd.underlying28 Tryd.underlying5 hd]
      simp [Conv.bytesToString, loadCells, loadCellsFrom]
  clear hbs hc hc0 hg
  go_enter Tryd.func5, Tryd.ntmps5
  go_upto_region 1 with (fail)
  generalize w.alloc (.cells #[.int .i64 a0, .int .i64 a1] 37) = W0 at *
  go_wp2_with (first | (at_builtin; refine wpList_append_empty rfl _ _ rfl A cap rfl rfl ?_) | (go_at_call 20; refine (P.out _).mono ?_; rintro e w' ⟨rfl, rfl⟩) | (go_at_call 21; refine (R.out _).mono ?_; rintro e w' ⟨rfl, rfl⟩) | (go_at_call 19; refine (NU.out _ HS.out).mono ?_; rintro e w1 ⟨rfl, hb⟩; have G1 := Lib.hid (HS.out.trans (hb.mono HS.out.size)); clear hb) | (go_at_call 16; refine (sureW_any _).mono ?_; rintro e w2 ⟨rfl, hb⟩; have G2 := Lib.hid (G1.out.trans (hb.mono G1.out.size)); clear hb))
  go_ret
  exact ⟨rfl, G2.out⟩

theorem YRow.below {w w' : World} {B : Nat} {o : Obj} (h : w.heap[B]? = some o) (hb : Below w.heap.size w w') : w'.heap[B]? = some o := (hb.block B (heap_lt h)).trans h
theorem cells_below {w w' : World} {b off len : Nat} {f : Nat → Nat} (hc : ∀ i, i < len → w.cell? ⟨b, off + i, none⟩ = some (.int .u8 (f i : Nat))) (hb : Below w.heap.size w w') : ∀ i, i < len → w'.cell? ⟨b, off + i, none⟩ = some (.int .u8 (f i : Nat)) := fun i hi =>
  (World.cell?_of_block (a := ⟨b, off + i, none⟩) (hb.block _ (block_lt_of_cell (hc i hi)))).trans (hc i hi)
set_option maxHeartbeats 4000000 in
theorem ww_err (b off len cap : Nat) (f : Nat → Nat) (h0 : 0 < len) (hl : len ≤ 100000) (a0 a1 : Int) (v : Nat) (c : Int) (hc : chk len a0 a1 = c) (hc0 : c ≠ 0) (w : World) (hcell : ∀ i, i < len → w.cell? ⟨b, off + i, none⟩ = some (.int .u8 (f i : Nat))) (hg : w.cell? ⟨2, 0, none⟩ = some errTy) :
    Calls Tryd.prog 5 #[.slice (some ⟨b, off, none⟩) len cap, .agg #[.int .i64 a0, .int .i64 a1], .int .u32 v] w fun e w' => e = .returned (.bool true) ∧ Below w.heap.size w w' := by
  have P := Lib.hid (fun A cap w => with_err A len cap a0 a1 v (by omega) w (by rw [hc]; exact hc0))
  have R := Lib.hid (fun A cap w => rwith_err A len cap a0 a1 v (by omega) w (by rw [hc]; exact hc0))
  rw [hc] at P R
  have NU := Lib.hid (fun w' (hb : Below w.heap.size w w') => num_any c w' ((World.cell?_of_block (a := ⟨2, 0, none⟩) (hb.block _ (block_lt_of_cell hg))).trans hg))
  have hbs := (Below.refl w.heap.size w).alloc (Nat.le_refl _) (.cells #[.int .i64 a0, .int .i64 a1] 37)
  have HS := Lib.hid (And.intro hbs (And.intro (heap_alloc_new w (.cells #[.int .i64 a0, .int .i64 a1] 37)) (cells_below hcell hbs)))
  have HI : Hid (∃ i, Tryd.prog.info? 5 = some i ∧ i.zero = some (.int .u8 0) ∧ i.size = 1 ∧ i.bytes = 1) := Lib.hid ⟨_, rfl, rfl, rfl, rfl⟩
  generalize errV c = ev at *
  have n1 := fun (w : World) => cv_nil (w := w) 0 0
  have hlI : (len : Int) ≤ 100000 := by omega
  clear hbs hc hc0 hg hcell
  go_enter Tryd.func5, Tryd.ntmps5
  go_upto_region 1 with (fail)
  generalize w.alloc (.cells #[.int .i64 a0, .int .i64 a1] 37) = W0 at *
  go_wp2_with (first | (at_builtin; (obtain ⟨i0, hi, hz0, hz1, hz2⟩ := HI.out); refine wpList_append_own _ rfl _ _ 28 rfl W0.heap.size 5 i0 (.int .u8 0) 1 1 Tryd.underlying28 hi hz0 hz1 hz2 rfl (by decide) _ _ _ rfl (World.ownsRow_nil _ _ _ _) ⟨b, off, none⟩ len cap (((List.range len).map fun i => ((f i : Nat) : Int)).map (Value.int .u8)) rfl (by simp) (news_bytes HS.out.2.2) (by intro u hu; obtain ⟨x, _, rfl⟩ := List.mem_map.1 hu; rfl) (by unfold maxLen; omega) (by omega) (Nat.le_refl _) ?_; intro v' w1 hown hgrow hnil; (obtain ⟨B, cap', rfl, hB, hcap', R1⟩ := rowB_of_own (n := len) (by simpa using hown) (by simp) (by omega) f (nums_getD len f)); have hb1 := (Below.refl W0.heap.size W0).grown hgrow (Nat.le_refl _) (by intro j hj; cases hj); have hr := YRow.below HS.out.2.1 hb1; have b0 : w1.cell? ⟨w.heap.size, 0, none⟩ = some (.int .i64 a0) := cell_of_row _ _ _ _ _ _ hr; have b1 : w1.cell? ⟨w.heap.size, 1, none⟩ = some (.int .i64 a1) := cell_of_row _ _ _ _ _ _ hr; have HB1 := Lib.hid (And.intro hb1 R1); clear R1 hown hgrow hnil hi hz0 hz1 hz2 hr hb1) | (go_at_call 20; refine (P.out _ _ _).mono ?_; rintro e w' ⟨rfl, rfl⟩) | (go_at_call 21; refine (R.out _ _ _).mono ?_; rintro e w' ⟨rfl, rfl⟩) | (go_at_call 19; refine (NU.out _ (HS.out.1.trans (HB1.out.1.mono HS.out.1.size))).mono ?_; rintro e w2 ⟨rfl, hb⟩; have hbb := HB1.out.1.trans (hb.mono HB1.out.1.size); have q1 := cv_row (cap' := cap') (HB1.out.2.below hb); have q2 := cv_arg (cap := cap) (cells_below HS.out.2.2 hbb); have G2 := Lib.hid (HS.out.1.trans (hbb.mono HS.out.1.size)); clear hb hbb) | (go_at_call 16; refine (sureW_any _).mono ?_; rintro e w3 ⟨rfl, hb⟩; have G3 := Lib.hid (G2.out.trans (hb.mono G2.out.size)); clear hb))
  go_ret
  exact ⟨rfl, G3.out⟩
set_option maxHeartbeats 4000000 in
theorem ww_ok (b off len cap : Nat) (f g : Nat → Nat) (h0 : 0 < len) (hl : len ≤ 100000) (a0 a1 : Int) (v : Nat)
    (P : Hid (∀ (B cap : Nat) (w : World), RowB w B len cap f → Calls Tryd.prog 20 #[.slice (some ⟨B, 0, none⟩) len cap, .int .i64 a0, .int .i64 a1, .int .u32 v] w fun e w' => ∃ B' cap', e = .returned (.tuple #[.slice (some ⟨B', 0, none⟩) len cap', .nilIface]) ∧ RowB w' B' len cap' g ∧ Below w.heap.size w w'))
    (R : Hid (∀ w : World, (∀ i, i < len → w.cell? ⟨b, off + i, none⟩ = some (.int .u8 (f i : Nat))) → Calls Tryd.prog 21 #[.slice (some ⟨b, off, none⟩) len cap, .int .i64 a0, .int .i64 a1, .int .u32 v] w fun e w' => ∃ B' cap', e = .returned (.tuple #[.slice (some ⟨B', 0, none⟩) len cap', .int .i64 0]) ∧ RowB w' B' len cap' g ∧ Below w.heap.size w w'))
    (w : World) (hcell : ∀ i, i < len → w.cell? ⟨b, off + i, none⟩ = some (.int .u8 (f i : Nat))) :
    Calls Tryd.prog 5 #[.slice (some ⟨b, off, none⟩) len cap, .agg #[.int .i64 a0, .int .i64 a1], .int .u32 v] w fun e w' => e = .returned (.bool true) ∧ Below w.heap.size w w' := by
  have hbs := (Below.refl w.heap.size w).alloc (Nat.le_refl _) (.cells #[.int .i64 a0, .int .i64 a1] 37)
  have HS := Lib.hid (And.intro hbs (And.intro (heap_alloc_new w (.cells #[.int .i64 a0, .int .i64 a1] 37)) (cells_below hcell hbs)))
  have HI : Hid (∃ i, Tryd.prog.info? 5 = some i ∧ i.zero = some (.int .u8 0) ∧ i.size = 1 ∧ i.bytes = 1) := Lib.hid ⟨_, rfl, rfl, rfl, rfl⟩
  have hlI : (len : Int) ≤ 100000 := by omega
  clear hbs hcell
  go_enter Tryd.func5, Tryd.ntmps5
  go_upto_region 1 with (fail)
  generalize w.alloc (.cells #[.int .i64 a0, .int .i64 a1] 37) = W0 at *
  go_wp2_with (first | (at_builtin; (obtain ⟨i0, hi, hz0, hz1, hz2⟩ := HI.out); refine wpList_append_own _ rfl _ _ 28 rfl W0.heap.size 5 i0 (.int .u8 0) 1 1 Tryd.underlying28 hi hz0 hz1 hz2 rfl (by decide) _ _ _ rfl (World.ownsRow_nil _ _ _ _) ⟨b, off, none⟩ len cap (((List.range len).map fun i => ((f i : Nat) : Int)).map (Value.int .u8)) rfl (by simp) (news_bytes HS.out.2.2) (by intro u hu; obtain ⟨x, _, rfl⟩ := List.mem_map.1 hu; rfl) (by unfold maxLen; omega) (by omega) (Nat.le_refl _) ?_; intro v' w1 hown hgrow hnil; (obtain ⟨B, cap', rfl, hB, hcap', R1⟩ := rowB_of_own (n := len) (by simpa using hown) (by simp) (by omega) f (nums_getD len f)); have hb1 := (Below.refl W0.heap.size W0).grown hgrow (Nat.le_refl _) (by intro j hj; cases hj); have hr := YRow.below HS.out.2.1 hb1; have b0 : w1.cell? ⟨w.heap.size, 0, none⟩ = some (.int .i64 a0) := cell_of_row _ _ _ _ _ _ hr; have b1 : w1.cell? ⟨w.heap.size, 1, none⟩ = some (.int .i64 a1) := cell_of_row _ _ _ _ _ _ hr; have HB1 := Lib.hid (And.intro hb1 R1); clear R1 hown hgrow hnil hi hz0 hz1 hz2 hr hb1) | (go_at_call 20; refine (P.out _ _ _ HB1.out.2).mono ?_; rintro e w2 ⟨B2, cap2, rfl, R2, hb⟩; have hb2 := HB1.out.1.trans (hb.mono HB1.out.1.size); have hr := YRow.below HS.out.2.1 hb2; have c0 : w2.cell? ⟨w.heap.size, 0, none⟩ = some (.int .i64 a0) := cell_of_row _ _ _ _ _ _ hr; have c1 : w2.cell? ⟨w.heap.size, 1, none⟩ = some (.int .i64 a1) := cell_of_row _ _ _ _ _ _ hr; have HB2 := Lib.hid (And.intro hb2 (And.intro R2 (HB1.out.2.below hb))); clear R2 hb hb2 hr) | (go_at_call 21; refine (R.out _ (cells_below HS.out.2.2 HB2.out.1)).mono ?_; rintro e w3 ⟨B3, cap3, rfl, R3, hb⟩; have hb3 := HB2.out.1.trans (hb.mono HB2.out.1.size); have q1 := cv_row (cap' := cap2) (HB2.out.2.1.below hb); have q2 := cv_row (cap' := cap3) R3; have HB3 := Lib.hid (And.intro hb3 (HB2.out.2.2.below hb)); clear R3 hb hb3) | (go_at_call 19; refine (num_nil _).mono ?_; rintro e w4 ⟨rfl, hb⟩; have hb4 := HB3.out.1.trans (hb.mono HB3.out.1.size); have q3 := cv_row (cap' := cap') (HB3.out.2.below hb); have q4 := cv_arg (cap := cap) (cells_below HS.out.2.2 hb4); have G4 := Lib.hid (HS.out.1.trans (hb4.mono HS.out.1.size)); clear hb hb4) | (go_at_call 16; refine (sureW_any _).mono ?_; rintro e w5 ⟨rfl, hb⟩; have G5 := Lib.hid (G4.out.trans (hb.mono G4.out.size)); clear hb))
  go_ret
  exact ⟨rfl, G5.out⟩
theorem chk_n {len : Nat} {a0 a1 : Int} (h : chk len a0 a1 = 0) : (a1 = 1 ∨ a1 = 2 ∨ a1 = 4) ∧ 0 ≤ a0 ∧ a0 ≤ len - a1 := by
  unfold chk at h
  split at h
  · omega
  · split at h
    · omega
    · split at h
      · omega
      · omega
theorem wordWith_walk (A : Option Addr) (len cap : Nat) (f : Nat → UInt8) (a0 a1 : Int) (_l0 : -9223372036854775808 ≤ a0) (_u0 : a0 < 9223372036854775808) (_l1 : -9223372036854775808 ≤ a1) (_u1 : a1 < 9223372036854775808) (v : Nat) (hv : v < 4294967296) (w : World) (hA : BytesAt w A len cap f) (hg : w.cell? ⟨2, 0, none⟩ = some errTy) :
    Calls Tryd.prog 5 #[.slice A len cap, .agg #[.int .i64 a0, .int .i64 a1], .int .u32 v] w fun e w' => e = .returned (.bool true) ∧ Below w.heap.size w w' := by
  by_cases hbig : 100000 < len
  · exact ww_big A len cap a0 a1 v hbig w
  obtain ⟨_, _, h⟩ := hA
  by_cases h0 : len = 0
  · subst h0
    refine ww_empty A cap a0 a1 v _ rfl (fun h => ?_) w hg
    have := chk_n h
    omega
  rcases h with h | ⟨b, off, rfl, _, hc⟩
  · exact absurd h h0
  by_cases hk : chk len a0 a1 = 0
  · obtain ⟨hn, hk0, hk1⟩ := chk_n hk
    obtain ⟨k, rfl⟩ := Int.eq_ofNat_of_zero_le hk0
    have hf : ∀ j, (fun j => (f j).toNat) j < 256 := fun j => (f j).toNat_lt
    rcases hn with rfl | rfl | rfl
    · refine ww_ok b off len cap (fun j => (f j).toNat) (withG (fun j => (f j).toNat) k 1 v) (by omega) (by omega) k 1 v (Lib.hid fun B cap w hR => ?_) (Lib.hid fun w hc => ?_) w hc
      · refine (with_1 B 0 len cap _ hf k (by omega) v hv w (by omega) hk (fun j hj => by rw [Nat.zero_add]; exact hR.cell hj)).mono ?_
        rintro e w' ⟨B', cap', h1, _, _, h4, h5⟩
        exact ⟨B', cap', h1, h4, h5⟩
      · refine (rwith_1 b off len cap _ hf k (by omega) v hv w (by omega) hk hc).mono ?_
        rintro e w' ⟨B', cap', h1, _, _, h4, h5⟩
        exact ⟨B', cap', h1, h4, h5⟩
    · refine ww_ok b off len cap (fun j => (f j).toNat) (withG (fun j => (f j).toNat) k 2 v) (by omega) (by omega) k 2 v (Lib.hid fun B cap w hR => ?_) (Lib.hid fun w hc => ?_) w hc
      · refine (with_2 B 0 len cap _ hf k (by omega) v hv w (by omega) hk (fun j hj => by rw [Nat.zero_add]; exact hR.cell hj)).mono ?_
        rintro e w' ⟨B', cap', h1, _, _, h4, h5⟩
        exact ⟨B', cap', h1, h4, h5⟩
      · refine (rwith_2 b off len cap _ hf k (by omega) v hv w (by omega) hk hc).mono ?_
        rintro e w' ⟨B', cap', h1, _, _, h4, h5⟩
        exact ⟨B', cap', h1, h4, h5⟩
    · refine ww_ok b off len cap (fun j => (f j).toNat) (withG (fun j => (f j).toNat) k 4 v) (by omega) (by omega) k 4 v (Lib.hid fun B cap w hR => ?_) (Lib.hid fun w hc => ?_) w hc
      · refine (with_4 B 0 len cap _ hf k (by omega) v hv w (by omega) hk (fun j hj => by rw [Nat.zero_add]; exact hR.cell hj)).mono ?_
        rintro e w' ⟨B', cap', h1, _, _, h4, h5⟩
        exact ⟨B', cap', h1, h4, h5⟩
      · refine (rwith_4 b off len cap _ hf k (by omega) v hv w (by omega) hk hc).mono ?_
        rintro e w' ⟨B', cap', h1, _, _, h4, h5⟩
        exact ⟨B', cap', h1, h4, h5⟩
  · exact ww_err b off len cap (fun j => (f j).toNat) (by omega) (by omega) a0 a1 v _ rfl hk w hc hg

end Go.Proofs.YtaknbakkahlilaaDoor
