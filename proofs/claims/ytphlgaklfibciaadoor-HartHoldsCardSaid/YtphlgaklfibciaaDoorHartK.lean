import Derived.Test.YtphlgaklfibciaaDoorHartJ
import Derived.Test.YtphlgaklfibciaaDoorCsrHB
import Derived.Below
import Derived.Deep.Draws
import Derived.Deep.AppendLies
import Derived.Maps.AppendAt
import Derived.OwnWalk
import Derived.Laws.BytesArg
import Derived.Laws.MakeOwn
import Derived.Laws.OwnMore
import Derived.Deep.OwnRows
import Derived.Tactics
import Derived.Lib.ConvBytes
import Derived.Laws.Slices
import Derived.WalkKit
import Derived.KernelRfl
import Derived.RowKit3
import Derived.Deep.LoopGhost
import Derived.Deep.QuietTactic
import Derived.BigQuiet
import Derived.WideLaws
import Derived.Deep.DeepCutAuto
import Derived.Deep.CutBlock
import Derived.Deep.RegionHeld3
import Derived.Laws.Rows
import Derived.Lib.AppendStr
import Derived.ArgAppend
import Derived.Laws.IdiomCopy
import Derived.OrdersHeld
import Derived.Laws.BitsLemmas
import Derived.RowKit
import Derived.Lib.Hide
import Derived.Laws.BitsAllLaws
import Derived.WalkLawsBesides
import Derived.WalkSpells
import Derived.LaidEql
namespace Go.Proofs.YtphlgaklfibciaaDoor
open Go.RowKit
set_option maxRecDepth 100000
set_option linter.unusedVariables false
set_option linter.unusedSimpArgs false

def Z42 : Array Value := #[.int .u32 0, .int .u32 0, .int .u32 0, .int .u32 0, .int .u32 0, .int .u32 0, .int .u32 0, .int .u32 0, .int .u32 0, .int .u32 0, .int .u32 0, .int .u32 0, .int .u32 0, .int .u32 0, .int .u32 0, .int .u32 0, .int .u32 0, .int .u32 0, .int .u32 0, .int .u32 0, .int .u32 0, .int .u32 0, .int .u32 0, .int .u32 0, .int .u32 0, .int .u32 0, .int .u32 0, .int .u32 0, .int .u32 0, .int .u32 0, .int .u32 0, .int .u32 0, .int .u32 0, .bool false, .int .u32 0, .int .u32 0, .int .u32 0, .int .u32 0, .int .u32 0, .int .u32 0, .int .u32 0, .int .u64 0]
theorem range_part {w : World} {b : Nat} {h : HS} {t : TypeId} {fr : Nat × Nat} (R : w.heap[b]? = some (.cells h.cells.toArray t fr)) (o n : Nat) : w.rangeAt b o ((h.cells.drop o).take n) := fun j v hv => by
  rw [cell_of_row _ _ _ _ _ _ R, List.getElem?_toArray]
  rw [List.getElem?_take] at hv
  split at hv
  · rw [List.getElem?_drop] at hv; exact hv
  · cases hv
theorem HAt.part {w : World} {b : Nat} {h : HS} (H : HAt w b h) (o n : Nat) : w.rangeAt b o ((h.cells.drop o).take n) := fun j v hv => by
  rw [List.getElem?_take] at hv
  split at hv
  · rw [List.getElem?_drop] at hv
    obtain ⟨hj, e⟩ := h.of_at hv
    rw [H.1 _ hj, e]
  · cases hv
theorem wpList_load_cell {P : Program} {ops : Array Oper} {rest : List Oper} {o : Oper} {a : Act} {w : World} {Q : Exit → Act → World → Prop} (hgd : o.guard = none) (ty : TypeId) (x : Operand) (ho : o.op = .load ty x)
    (ad : Addr) (hx : a.eval x = .pointer (some ad)) (v : Value) (hc : w.cell? ad = some v) (hagg : (isAgg ty).run P w = .ok false w)
    (h : wpList P ops Q rest (a.put o.dst v) w) : wpList P ops Q (o :: rest) a w :=
  wpList_plain hgd fun _ hK => by
    unfold Oper.wp execOp
    simp only [ho, hx, Instr.loadAt, Instr.sureAddr, Sem.run_bind, Sem.run_pure, Result.andThen_ok, loadVar, hagg, Bool.false_eq_true, if_false]
    have e : (load ad).run P w = .ok v w := by simp [hc]
    rw [e]
    exact hK _ _ h
theorem built_g (h : HS) : Tryd.prog.built 44 [(0, .int .u32 h.pc), (1, .agg ((h.cells.drop 1).take 32).toArray), (2, .bool h.wait), (3, .agg ((h.cells.drop 34).take 8).toArray)] = some h.cells.toArray := by kernel_rfl
set_option maxHeartbeats 8000000 in
theorem give_any (h : HS) (w : World) : Calls Tryd.prog 10 #[.agg h.cells.toArray] w fun e w' => e = .returned (.agg h.cells.toArray) ∧ Below w.heap.size w w' := by
  obtain ⟨cs, hcs⟩ : ∃ cs, cs = h.cells.toArray := ⟨_, rfl⟩
  have HC := Lib.hid hcs
  rw [← hcs]
  clear hcs
  go_enter Tryd.func10, Tryd.ntmps10
  go_upto_region 1 with (fail)
  generalize hW : World.alloc (World.alloc w _) _ = W
  have r0 : W.heap[w.heap.size]? = some (.cells h.cells.toArray 40 (0, 0)) := by rw [← hW, ← HC.out]; exact heap_alloc2_old w _ _
  have r1 : W.heap[w.heap.size + 1]? = some (.cells Z42 44 (0, 0)) := by rw [← hW]; exact heap_alloc2_new w _ _
  have bw : Below w.heap.size w W := by rw [← hW]; exact ((Below.refl _ w).alloc (Nat.le_refl _) _).alloc (by simp) _
  have h0 := HAt.of_row (h := h) (r := []) (by rw [List.append_nil]; exact r0)
  clear hW
  obtain ⟨xs, hxs⟩ : ∃ xs, xs = (h.cells.drop 1).take 32 := ⟨_, rfl⟩
  obtain ⟨ys, hys⟩ : ∃ ys, ys = (h.cells.drop 34).take 8 := ⟨_, rfl⟩
  have BD := built_g h
  have rx := h0.part 1 32
  have ry := h0.part 34 8
  have lx : xs.length = 32 := by rw [hxs, List.length_take, List.length_drop, h.len]; rfl
  have ly : ys.length = 8 := by rw [hys, List.length_take, List.length_drop, h.len]; rfl
  have cw : W.cell? ⟨w.heap.size, 33, none⟩ = some (.bool h.wait) := h0.1 33 (by decide)
  have c0 := h0.pc_
  have hsz := hs_size h
  have hone := hs_one h
  rw [← hxs, ← hys, ← HC.out] at BD
  rw [← hxs] at rx
  rw [← hys] at ry
  rw [← HC.out] at hsz hone
  clear hxs hys h0
  generalize h.wait = wt at *
  generalize h.pc = pc at *
  refine wp_region_lit ?_
  refine Go.Great.wpList_runTo rfl (some 3) rfl (.pointer (some ⟨w.heap.size, 0, none⟩)) W (by kernel_rfl) ?_
  refine wpList_load_cell rfl _ _ rfl ⟨w.heap.size, 0, none⟩ rfl (.int .u32 pc) c0 (by kernel_rfl) ?_
  try simp only [Act.put, List.setIfInBounds_toArray, List.set_cons_zero, List.set_cons_succ]
  refine Go.Great.wpList_runTo rfl (some 5) rfl (.pointer (some ⟨w.heap.size, 1, none⟩)) W (by kernel_rfl) ?_
  refine wpList_load_mid rfl 35 _ rfl w.heap.size 1 rfl xs _ rx Tryd.underlying35 rfl (by rw [lx]; kernel_rfl) ?_
  try simp only [Act.put, List.setIfInBounds_toArray, List.set_cons_zero, List.set_cons_succ]
  refine Go.Great.wpList_runTo rfl (some 7) rfl (.pointer (some ⟨w.heap.size, 33, none⟩)) W (by kernel_rfl) ?_
  refine wpList_load_cell rfl _ _ rfl ⟨w.heap.size, 33, none⟩ rfl (.bool wt) cw (by kernel_rfl) ?_
  try simp only [Act.put, List.setIfInBounds_toArray, List.set_cons_zero, List.set_cons_succ]
  refine Go.Great.wpList_runTo rfl (some 9) rfl (.pointer (some ⟨w.heap.size, 34, none⟩)) W (by kernel_rfl) ?_
  refine wpList_load_mid rfl 38 _ rfl w.heap.size 34 rfl ys _ ry Tryd.underlying38 rfl (by rw [ly]; kernel_rfl) ?_
  try simp only [Act.put, List.setIfInBounds_toArray, List.set_cons_zero, List.set_cons_succ]
  refine Go.wpList_buildTo rfl 44 _ rfl (some 11) rfl cs (Eq.trans (b := Tryd.prog.built 44 [(0, .int .u32 pc), (1, .agg xs.toArray), (2, .bool wt), (3, .agg ys.toArray)]) (by kernel_rfl) BD) ?_
  try simp only [Act.put, List.setIfInBounds_toArray, List.set_cons_zero, List.set_cons_succ]
  refine Go.wpList_store_rowTo rfl 44 _ _ rfl rfl (w.heap.size + 1) cs rfl rfl _ _ r1 (by rw [hsz]; kernel_rfl) (by rw [hsz]; rfl) hone ?_
  try simp only [Act.put, List.setIfInBounds_toArray, List.set_cons_zero, List.set_cons_succ]
  have F1 := Lib.hid (setRow_heap _ _ _ cs _ _ r1)
  have FB := Lib.hid (below_setRow bw (by omega : w.heap.size ≤ w.heap.size + 1) cs)
  have HZ := Lib.hid hsz
  clear r0 r1 bw hsz hone BD rx ry lx ly cw c0
  go_wp2
  refine bodyPost_ret (results_cell_row (p := 2) (ty := 44) (by kernel_rfl) _ _ (w.heap.size + 1) _ _ _ _ rfl F1.out Tryd.underlying44 rfl (by rw [HZ.out]; kernel_rfl)) rfl ⟨rfl, FB.out⟩

def resetH (p : Nat) : HS := ⟨clr p 3, fun _ => 0, false, St.zero⟩
theorem resetH_ok {p : Nat} (h : p < 4294967296) : (resetH p).ok := by
  refine ⟨clr_lt h, fun _ _ => ?_, ⟨?_, ?_, ?_, ?_, ?_, ?_, ?_, ?_⟩⟩
  · show (0 : Nat) < _; decide
  all_goals (show (0 : Nat) < _; decide)
theorem built_r (p : Nat) : Tryd.prog.built 44 [(0, .int .u32 (clr p 3 : Nat))] = some (resetH p).cells.toArray := by kernel_rfl
set_option maxHeartbeats 4000000 in
theorem reset_any (p : Nat) (hp : p < 4294967296) (w : World) : Calls Tryd.prog 20 #[.int .u32 p] w fun e w' => e = .returned (.agg (resetH p).cells.toArray) ∧ Below w.heap.size w w' := by
  have e1 : Go.bits .andNot .u32 (p : Int) 3 = (clr p 3 : Nat) := u32c_andNot 3 hp (by omega)
  have BD := built_r p
  have hsz := hs_size (resetH p)
  have hone := hs_one (resetH p)
  generalize (resetH p).cells.toArray = cs at *
  generalize clr p 3 = q at *
  go_enter Tryd.func20, Tryd.ntmps20
  go_upto_region 1 with (fail)
  generalize hW : World.alloc w _ = W
  have r1 : W.heap[w.heap.size]? = some (.cells Z42 44 (0, 0)) := by rw [← hW]; exact heap_alloc_new w _
  have bw : Below w.heap.size w W := by rw [← hW]; exact (Below.refl _ w).alloc (Nat.le_refl _) _
  clear hW
  refine wp_region_lit ?_
  refine Go.Great.wpList_runTo rfl (some 3) rfl (.int .u32 p) W (by kernel_rfl) ?_
  try simp only [Act.put, List.setIfInBounds_toArray, List.set_cons_zero, List.set_cons_succ]
  refine Go.Great.wpList_runTo rfl (some 4) rfl (.int .u32 (q : Nat)) W (by rw [← e1]; kernel_rfl) ?_
  try simp only [Act.put, List.setIfInBounds_toArray, List.set_cons_zero, List.set_cons_succ]
  refine Go.wpList_buildTo rfl 44 _ rfl (some 5) rfl cs (Eq.trans (b := Tryd.prog.built 44 [(0, .int .u32 (q : Nat))]) (by kernel_rfl) BD) ?_
  try simp only [Act.put, List.setIfInBounds_toArray, List.set_cons_zero, List.set_cons_succ]
  refine Go.wpList_store_rowTo rfl 44 _ _ rfl rfl w.heap.size cs rfl rfl _ _ r1 (by rw [hsz]; kernel_rfl) (by rw [hsz]; rfl) hone ?_
  have F1 := Lib.hid (setRow_heap _ _ _ cs _ _ r1)
  have FB := Lib.hid (below_setRow bw (Nat.le_refl _) cs)
  have HZ := Lib.hid hsz
  clear r1 bw hsz hone BD
  go_wp2
  exact bodyPost_ret (results_cell_row (p := 2) (ty := 44) (by kernel_rfl) _ _ w.heap.size _ _ _ _ rfl F1.out Tryd.underlying44 rfl (by rw [HZ.out]; kernel_rfl)) rfl ⟨rfl, FB.out⟩
def mayH (h : HS) : Bool := decide (h.pc % 4 = 0) && (decide (h.x 0 = 0) && mayB h.c)

set_option maxHeartbeats 4000000 in
theorem hcheck_yes (h : HS) (hk : h.ok) (hp : h.pc % 4 = 0) (hx : h.x 0 = 0) (hc : mayB h.c = true) (w : World) : Calls Tryd.prog 11 #[.agg h.cells.toArray] w fun e w' => e = .returned .nilIface ∧ Below w.heap.size w w' := by
  have e3 := and3 hk.pc
  rw [hp] at e3
  have CK := Lib.hid (fun w => csrCheck_any h.c hk.c w)
  unfold St.v St.cells at CK
  simp only [hc, if_true] at CK
  have hE : errV 0 = .nilIface := rfl
  rw [hE] at CK
  clear hE
  obtain ⟨cs, hcs⟩ : ∃ cs, cs = h.cells.toArray := ⟨_, rfl⟩
  rw [← hcs]
  have R0 := heap_alloc_new w (.cells cs 44)
  rw [hcs] at R0
  have H0 := HAt.of_row (h := h) (r := []) (by rw [List.append_nil]; exact R0)
  rw [← hcs] at H0
  obtain ⟨W, hW⟩ : ∃ W, W = w.alloc (.cells cs 44) := ⟨_, rfl⟩
  have BW := Lib.hid (show Below w.heap.size w W by rw [hW]; exact (Below.refl _ _).alloc (Nat.le_refl _) _)
  rw [← hW] at H0
  have c0 := H0.pc_
  have c1 : W.cell? ⟨w.heap.size, 1, none⟩ = some (.int .u32 (h.x 0 : Nat)) := H0.1 1 (by decide)
  rw [hx] at c1
  have c34 : W.cell? ⟨w.heap.size, 34, none⟩ = some (.int .u32 h.c.status) := H0.1 34 (by decide)
  have c35 : W.cell? ⟨w.heap.size, 35, none⟩ = some (.int .u32 h.c.enable) := H0.1 35 (by decide)
  have c36 : W.cell? ⟨w.heap.size, 36, none⟩ = some (.int .u32 h.c.vector) := H0.1 36 (by decide)
  have c37 : W.cell? ⟨w.heap.size, 37, none⟩ = some (.int .u32 h.c.scratch) := H0.1 37 (by decide)
  have c38 : W.cell? ⟨w.heap.size, 38, none⟩ = some (.int .u32 h.c.epc) := H0.1 38 (by decide)
  have c39 : W.cell? ⟨w.heap.size, 39, none⟩ = some (.int .u32 h.c.cause) := H0.1 39 (by decide)
  have c40 : W.cell? ⟨w.heap.size, 40, none⟩ = some (.int .u32 h.c.value) := H0.1 40 (by decide)
  have c41 : W.cell? ⟨w.heap.size, 41, none⟩ = some (.int .u64 h.c.count) := H0.1 41 (by decide)
  have HW := Lib.hid hW
  clear H0 R0 hcs hk hp hW
  go_enter Tryd.func11, Tryd.ntmps11
  go_upto_region 1 with (fail)
  rw [← HW.out]
  go_wp2_with (go_at_call 30; refine (CK.out _).mono ?_; rintro e w1 ⟨rfl, hb⟩; have G1 := Lib.hid (BW.out.trans (hb.mono BW.out.size)); clear hb)
  go_ret
  exact ⟨rfl, G1.out⟩
set_option maxHeartbeats 4000000 in
theorem hcheck_c (h : HS) (hk : h.ok) (hp : h.pc % 4 = 0) (hx : h.x 0 = 0) (hc : mayB h.c = false) (w : World) : Calls Tryd.prog 11 #[.agg h.cells.toArray] w fun e w' => e = .returned (errV 1) ∧ Below w.heap.size w w' := by
  have e3 := and3 hk.pc
  rw [hp] at e3
  have CK := Lib.hid (fun w => csrCheck_any h.c hk.c w)
  unfold St.v St.cells at CK
  simp only [hc, Bool.false_eq_true, if_false] at CK
  have hE : errV 1 = .iface 64 (.int .i64 1) := rfl
  rw [hE] at CK
  clear hE
  have hE1 : errV 1 = .iface 64 (.int .i64 1) := rfl
  rw [hE1]
  clear hE1
  obtain ⟨cs, hcs⟩ : ∃ cs, cs = h.cells.toArray := ⟨_, rfl⟩
  rw [← hcs]
  have R0 := heap_alloc_new w (.cells cs 44)
  rw [hcs] at R0
  have H0 := HAt.of_row (h := h) (r := []) (by rw [List.append_nil]; exact R0)
  rw [← hcs] at H0
  obtain ⟨W, hW⟩ : ∃ W, W = w.alloc (.cells cs 44) := ⟨_, rfl⟩
  have BW := Lib.hid (show Below w.heap.size w W by rw [hW]; exact (Below.refl _ _).alloc (Nat.le_refl _) _)
  rw [← hW] at H0
  have c0 := H0.pc_
  have c1 : W.cell? ⟨w.heap.size, 1, none⟩ = some (.int .u32 (h.x 0 : Nat)) := H0.1 1 (by decide)
  rw [hx] at c1
  have c34 : W.cell? ⟨w.heap.size, 34, none⟩ = some (.int .u32 h.c.status) := H0.1 34 (by decide)
  have c35 : W.cell? ⟨w.heap.size, 35, none⟩ = some (.int .u32 h.c.enable) := H0.1 35 (by decide)
  have c36 : W.cell? ⟨w.heap.size, 36, none⟩ = some (.int .u32 h.c.vector) := H0.1 36 (by decide)
  have c37 : W.cell? ⟨w.heap.size, 37, none⟩ = some (.int .u32 h.c.scratch) := H0.1 37 (by decide)
  have c38 : W.cell? ⟨w.heap.size, 38, none⟩ = some (.int .u32 h.c.epc) := H0.1 38 (by decide)
  have c39 : W.cell? ⟨w.heap.size, 39, none⟩ = some (.int .u32 h.c.cause) := H0.1 39 (by decide)
  have c40 : W.cell? ⟨w.heap.size, 40, none⟩ = some (.int .u32 h.c.value) := H0.1 40 (by decide)
  have c41 : W.cell? ⟨w.heap.size, 41, none⟩ = some (.int .u64 h.c.count) := H0.1 41 (by decide)
  have HW := Lib.hid hW
  clear H0 R0 hcs hk hp hW
  go_enter Tryd.func11, Tryd.ntmps11
  go_upto_region 1 with (fail)
  rw [← HW.out]
  go_wp2_with (go_at_call 30; refine (CK.out _).mono ?_; rintro e w1 ⟨rfl, hb⟩; have G1 := Lib.hid (BW.out.trans (hb.mono BW.out.size)); clear hb)
  go_ret
  exact ⟨rfl, G1.out⟩
set_option maxHeartbeats 4000000 in
theorem hcheck_x (h : HS) (hk : h.ok) (hp : h.pc % 4 = 0) (hx : ¬ h.x 0 = 0) (w : World) : Calls Tryd.prog 11 #[.agg h.cells.toArray] w fun e w' => e = .returned (errV 1) ∧ Below w.heap.size w w' := by
  have e3 := and3 hk.pc
  rw [hp] at e3
  have hx2 : ((h.x 0 : Int) != 0) = true := by simpa using hx
  have hx3 : ((h.x 0 : Int) == 0) = false := by simpa using hx
  have hE1 : errV 1 = .iface 64 (.int .i64 1) := rfl
  rw [hE1]
  clear hE1
  obtain ⟨cs, hcs⟩ : ∃ cs, cs = h.cells.toArray := ⟨_, rfl⟩
  rw [← hcs]
  have R0 := heap_alloc_new w (.cells cs 44)
  rw [hcs] at R0
  have H0 := HAt.of_row (h := h) (r := []) (by rw [List.append_nil]; exact R0)
  rw [← hcs] at H0
  obtain ⟨W, hW⟩ : ∃ W, W = w.alloc (.cells cs 44) := ⟨_, rfl⟩
  have BW := Lib.hid (show Below w.heap.size w W by rw [hW]; exact (Below.refl _ _).alloc (Nat.le_refl _) _)
  rw [← hW] at H0
  have c0 := H0.pc_
  have c1 : W.cell? ⟨w.heap.size, 1, none⟩ = some (.int .u32 (h.x 0 : Nat)) := H0.1 1 (by decide)
  have HW := Lib.hid hW
  clear H0 R0 hcs hk hp hW
  go_enter Tryd.func11, Tryd.ntmps11
  go_upto_region 1 with (fail)
  rw [← HW.out]
  go_wp2
  go_ret
  exact ⟨rfl, BW.out⟩
set_option maxHeartbeats 4000000 in
theorem hcheck_p (h : HS) (hk : h.ok) (hp : ¬ h.pc % 4 = 0) (w : World) : Calls Tryd.prog 11 #[.agg h.cells.toArray] w fun e w' => e = .returned (errV 1) ∧ Below w.heap.size w w' := by
  have e3 := and3 hk.pc
  obtain ⟨q, hq⟩ : ∃ q, h.pc % 4 = q := ⟨_, rfl⟩
  rw [hq] at e3 hp
  have hp2 : ((q : Int) != 0) = true := by simpa using hp
  have hp3 : ((q : Int) == 0) = false := by simpa using hp
  have hE1 : errV 1 = .iface 64 (.int .i64 1) := rfl
  rw [hE1]
  clear hE1
  obtain ⟨cs, hcs⟩ : ∃ cs, cs = h.cells.toArray := ⟨_, rfl⟩
  rw [← hcs]
  have R0 := heap_alloc_new w (.cells cs 44)
  rw [hcs] at R0
  have H0 := HAt.of_row (h := h) (r := []) (by rw [List.append_nil]; exact R0)
  rw [← hcs] at H0
  obtain ⟨W, hW⟩ : ∃ W, W = w.alloc (.cells cs 44) := ⟨_, rfl⟩
  have BW := Lib.hid (show Below w.heap.size w W by rw [hW]; exact (Below.refl _ _).alloc (Nat.le_refl _) _)
  rw [← hW] at H0
  have c0 := H0.pc_
  have HW := Lib.hid hW
  clear H0 R0 hcs hk hW
  go_enter Tryd.func11, Tryd.ntmps11
  go_upto_region 1 with (fail)
  rw [← HW.out]
  go_wp2
  go_ret
  exact ⟨rfl, BW.out⟩
theorem hcheck_ok (h : HS) (hk : h.ok) (hm : mayH h = true) (w : World) : Calls Tryd.prog 11 #[.agg h.cells.toArray] w fun e w' => e = .returned .nilIface ∧ Below w.heap.size w w' := by
  unfold mayH at hm
  simp only [Bool.and_eq_true, decide_eq_true_eq] at hm
  exact hcheck_yes h hk hm.1 hm.2.1 hm.2.2 w
theorem hcheck_no (h : HS) (hk : h.ok) (hm : mayH h = false) (w : World) : Calls Tryd.prog 11 #[.agg h.cells.toArray] w fun e w' => e = .returned (errV 1) ∧ Below w.heap.size w w' := by
  unfold mayH at hm
  by_cases hp : h.pc % 4 = 0
  · by_cases hx : h.x 0 = 0
    · exact hcheck_c h hk hp hx (by simpa [hp, hx] using hm) w
    · exact hcheck_x h hk hp hx w
  · exact hcheck_p h hk hp w

end Go.Proofs.YtphlgaklfibciaaDoor
