import Derived.Test.YtoincdfijeipjaaDoorHartO
import Derived.Test.YtoincdfijeipjaaDoorHbS
import Derived.Below
import Derived.Deep.Draws
import Derived.Deep.AppendLies
import Derived.Maps.AppendAt
import Derived.OwnWalk
import Derived.Laws.BytesArg
import Derived.Laws.MakeOwn
import Derived.Laws.OwnMore
import Derived.Deep.OwnRows
import Derived.Tactics
import Derived.Lib.ConvBytes
import Derived.Laws.Slices
import Derived.WalkKit
import Derived.KernelRfl
import Derived.RowKit3
import Derived.Deep.LoopGhost
import Derived.Deep.QuietTactic
import Derived.BigQuiet
import Derived.WideLaws
import Derived.Deep.DeepCutAuto
import Derived.Deep.CutBlock
import Derived.Deep.RegionHeld3
import Derived.Laws.Rows
import Derived.Lib.AppendStr
import Derived.ArgAppend
import Derived.Laws.IdiomCopy
import Derived.OrdersHeld
import Derived.Laws.BitsLemmas
import Derived.RowKit
import Derived.Lib.Hide
import Derived.Laws.BitsAllLaws
import Derived.WalkLawsBesides
import Derived.WalkSpells
import Derived.LaidEql
namespace Go.Proofs.YtoincdfijeipjaaDoor
open Go.RowKit
set_option maxRecDepth 100000
set_option linter.unusedVariables false
set_option linter.unusedSimpArgs false

set_option maxHeartbeats 4000000 in
theorem rcheck8_yes (h : HS) (hk : h.ok) (hp : h.pc % 4 = 0) (hx : h.x 0 = 0) (hc : mayB h.c = true) (w : World) : Calls Tryd.prog 36 #[.agg h.cells.toArray] w fun e w' => e = .returned (.int .i64 0) ∧ Below w.heap.size w w' := by
  obtain ⟨q, hq⟩ : ∃ q, h.pc % 4 = q := ⟨_, rfl⟩
  have e3 : (h.pc : Int) % 4 = (q : Int) := by omega
  rw [hq] at hp
  subst hp
  have CK := Lib.hid (fun w => rcheck_any h.c hk.c w)
  unfold St.v St.cells at CK
  simp only [hc, if_true] at CK
  obtain ⟨cs, hcs⟩ : ∃ cs, cs = h.cells.toArray := ⟨_, rfl⟩
  rw [← hcs]
  have R0 := heap_alloc_new w (.cells cs 65)
  rw [hcs] at R0
  have H0 := HAt.of_row (h := h) (r := []) (by rw [List.append_nil]; exact R0)
  rw [← hcs] at H0
  obtain ⟨W, hW⟩ : ∃ W, W = w.alloc (.cells cs 65) := ⟨_, rfl⟩
  have BW := Lib.hid (show Below w.heap.size w W by rw [hW]; exact (Below.refl _ _).alloc (Nat.le_refl _) _)
  rw [← hW] at H0
  have c0 := H0.pc_
  have c1 : W.cell? ⟨w.heap.size, 1, none⟩ = some (.int .u32 (h.x 0 : Nat)) := H0.1 1 (by decide)
  rw [hx] at c1
  have c34 : W.cell? ⟨w.heap.size, 34, none⟩ = some (.int .u32 h.c.status) := H0.1 34 (by decide)
  have c35 : W.cell? ⟨w.heap.size, 35, none⟩ = some (.int .u32 h.c.enable) := H0.1 35 (by decide)
  have c36 : W.cell? ⟨w.heap.size, 36, none⟩ = some (.int .u32 h.c.vector) := H0.1 36 (by decide)
  have c37 : W.cell? ⟨w.heap.size, 37, none⟩ = some (.int .u32 h.c.scratch) := H0.1 37 (by decide)
  have c38 : W.cell? ⟨w.heap.size, 38, none⟩ = some (.int .u32 h.c.epc) := H0.1 38 (by decide)
  have c39 : W.cell? ⟨w.heap.size, 39, none⟩ = some (.int .u32 h.c.cause) := H0.1 39 (by decide)
  have c40 : W.cell? ⟨w.heap.size, 40, none⟩ = some (.int .u32 h.c.value) := H0.1 40 (by decide)
  have c41 : W.cell? ⟨w.heap.size, 41, none⟩ = some (.int .u64 h.c.count) := H0.1 41 (by decide)
  have HW := Lib.hid hW
  clear H0 R0 hcs hk hW
  generalize h.pc = pc at *
  go_enter Tryd.func36, Tryd.ntmps36
  go_upto_region 1 with (fail)
  rw [← HW.out]
  go_wp2_with (go_at_call 63; refine (CK.out _).mono ?_; rintro e w1 ⟨rfl, hb⟩; have G1 := Lib.hid (BW.out.trans (hb.mono BW.out.size)); clear hb)
  go_ret
  exact ⟨rfl, G1.out⟩
set_option maxHeartbeats 4000000 in
theorem rcheck8_c (h : HS) (hk : h.ok) (hp : h.pc % 4 = 0) (hx : h.x 0 = 0) (hc : mayB h.c = false) (w : World) : Calls Tryd.prog 36 #[.agg h.cells.toArray] w fun e w' => e = .returned (.int .i64 1) ∧ Below w.heap.size w w' := by
  obtain ⟨q, hq⟩ : ∃ q, h.pc % 4 = q := ⟨_, rfl⟩
  have e3 : (h.pc : Int) % 4 = (q : Int) := by omega
  rw [hq] at hp
  subst hp
  have CK := Lib.hid (fun w => rcheck_any h.c hk.c w)
  unfold St.v St.cells at CK
  simp only [hc, Bool.false_eq_true, if_false] at CK
  obtain ⟨cs, hcs⟩ : ∃ cs, cs = h.cells.toArray := ⟨_, rfl⟩
  rw [← hcs]
  have R0 := heap_alloc_new w (.cells cs 65)
  rw [hcs] at R0
  have H0 := HAt.of_row (h := h) (r := []) (by rw [List.append_nil]; exact R0)
  rw [← hcs] at H0
  obtain ⟨W, hW⟩ : ∃ W, W = w.alloc (.cells cs 65) := ⟨_, rfl⟩
  have BW := Lib.hid (show Below w.heap.size w W by rw [hW]; exact (Below.refl _ _).alloc (Nat.le_refl _) _)
  rw [← hW] at H0
  have c0 := H0.pc_
  have c1 : W.cell? ⟨w.heap.size, 1, none⟩ = some (.int .u32 (h.x 0 : Nat)) := H0.1 1 (by decide)
  rw [hx] at c1
  have c34 : W.cell? ⟨w.heap.size, 34, none⟩ = some (.int .u32 h.c.status) := H0.1 34 (by decide)
  have c35 : W.cell? ⟨w.heap.size, 35, none⟩ = some (.int .u32 h.c.enable) := H0.1 35 (by decide)
  have c36 : W.cell? ⟨w.heap.size, 36, none⟩ = some (.int .u32 h.c.vector) := H0.1 36 (by decide)
  have c37 : W.cell? ⟨w.heap.size, 37, none⟩ = some (.int .u32 h.c.scratch) := H0.1 37 (by decide)
  have c38 : W.cell? ⟨w.heap.size, 38, none⟩ = some (.int .u32 h.c.epc) := H0.1 38 (by decide)
  have c39 : W.cell? ⟨w.heap.size, 39, none⟩ = some (.int .u32 h.c.cause) := H0.1 39 (by decide)
  have c40 : W.cell? ⟨w.heap.size, 40, none⟩ = some (.int .u32 h.c.value) := H0.1 40 (by decide)
  have c41 : W.cell? ⟨w.heap.size, 41, none⟩ = some (.int .u64 h.c.count) := H0.1 41 (by decide)
  have HW := Lib.hid hW
  clear H0 R0 hcs hk hW
  generalize h.pc = pc at *
  go_enter Tryd.func36, Tryd.ntmps36
  go_upto_region 1 with (fail)
  rw [← HW.out]
  go_wp2_with (go_at_call 63; refine (CK.out _).mono ?_; rintro e w1 ⟨rfl, hb⟩; have G1 := Lib.hid (BW.out.trans (hb.mono BW.out.size)); clear hb)
  go_ret
  exact ⟨rfl, G1.out⟩
set_option maxHeartbeats 4000000 in
theorem rcheck8_x (h : HS) (hk : h.ok) (hp : h.pc % 4 = 0) (hx : ¬ h.x 0 = 0) (w : World) : Calls Tryd.prog 36 #[.agg h.cells.toArray] w fun e w' => e = .returned (.int .i64 1) ∧ Below w.heap.size w w' := by
  obtain ⟨q, hq⟩ : ∃ q, h.pc % 4 = q := ⟨_, rfl⟩
  have e3 : (h.pc : Int) % 4 = (q : Int) := by omega
  rw [hq] at hp
  subst hp
  have hx2 : ((h.x 0 : Int) != 0) = true := by simpa using hx
  have hx3 : ((h.x 0 : Int) == 0) = false := by simpa using hx
  obtain ⟨cs, hcs⟩ : ∃ cs, cs = h.cells.toArray := ⟨_, rfl⟩
  rw [← hcs]
  have R0 := heap_alloc_new w (.cells cs 65)
  rw [hcs] at R0
  have H0 := HAt.of_row (h := h) (r := []) (by rw [List.append_nil]; exact R0)
  rw [← hcs] at H0
  obtain ⟨W, hW⟩ : ∃ W, W = w.alloc (.cells cs 65) := ⟨_, rfl⟩
  have BW := Lib.hid (show Below w.heap.size w W by rw [hW]; exact (Below.refl _ _).alloc (Nat.le_refl _) _)
  rw [← hW] at H0
  have c0 := H0.pc_
  have c1 : W.cell? ⟨w.heap.size, 1, none⟩ = some (.int .u32 (h.x 0 : Nat)) := H0.1 1 (by decide)
  have HW := Lib.hid hW
  clear H0 R0 hcs hk hW
  generalize h.pc = pc at *
  go_enter Tryd.func36, Tryd.ntmps36
  go_upto_region 1 with (fail)
  rw [← HW.out]
  go_wp2
  go_ret
  exact ⟨rfl, BW.out⟩
set_option maxHeartbeats 4000000 in
theorem rcheck8_p (h : HS) (hk : h.ok) (hp : ¬ h.pc % 4 = 0) (w : World) : Calls Tryd.prog 36 #[.agg h.cells.toArray] w fun e w' => e = .returned (.int .i64 1) ∧ Below w.heap.size w w' := by
  obtain ⟨q, hq⟩ : ∃ q, h.pc % 4 = q := ⟨_, rfl⟩
  have e3 : (h.pc : Int) % 4 = (q : Int) := by omega
  rw [hq] at hp
  have hp2 : ((q : Int) != 0) = true := by simpa using hp
  have hp3 : ((q : Int) == 0) = false := by simpa using hp
  obtain ⟨cs, hcs⟩ : ∃ cs, cs = h.cells.toArray := ⟨_, rfl⟩
  rw [← hcs]
  have R0 := heap_alloc_new w (.cells cs 65)
  rw [hcs] at R0
  have H0 := HAt.of_row (h := h) (r := []) (by rw [List.append_nil]; exact R0)
  rw [← hcs] at H0
  obtain ⟨W, hW⟩ : ∃ W, W = w.alloc (.cells cs 65) := ⟨_, rfl⟩
  have BW := Lib.hid (show Below w.heap.size w W by rw [hW]; exact (Below.refl _ _).alloc (Nat.le_refl _) _)
  rw [← hW] at H0
  have c0 := H0.pc_
  have HW := Lib.hid hW
  clear H0 R0 hcs hk hW
  generalize h.pc = pc at *
  go_enter Tryd.func36, Tryd.ntmps36
  go_upto_region 1 with (fail)
  rw [← HW.out]
  go_wp2
  go_ret
  exact ⟨rfl, BW.out⟩
theorem rcheck8_any (h : HS) (hk : h.ok) (w : World) : Calls Tryd.prog 36 #[.agg h.cells.toArray] w fun e w' => e = .returned (.int .i64 (if mayH h = true then 0 else 1)) ∧ Below w.heap.size w w' := by
  by_cases hp : h.pc % 4 = 0
  · by_cases hx : h.x 0 = 0
    · by_cases hc : mayB h.c = true
      · rw [if_pos (by unfold mayH; simp [hp, hx, hc])]; exact rcheck8_yes h hk hp hx hc w
      · rw [if_neg (by unfold mayH; simp [hp, hx, hc])]; exact rcheck8_c h hk hp hx (by simpa using hc) w
    · rw [if_neg (by unfold mayH; simp [hp, hx])]; exact rcheck8_x h hk hp hx w
  · rw [if_neg (by unfold mayH; simp [hp])]; exact rcheck8_p h hk hp w
theorem built_r8 (p : Nat) : Tryd.prog.built 65 [(0, .int .u32 (clr p 3 : Nat))] = some (resetH p).cells.toArray := by kernel_rfl
theorem clr3_div {p : Nat} (hp : p < 4294967296) : clr p 3 = p / 4 * 4 := by
  refine word_ext (clr_lt hp) (by omega) fun j hj => ?_
  rw [tb_clr (by decide) hj, show p / 4 * 4 = p / 2 ^ 2 * 2 ^ 2 from rfl, Nat.testBit_mul_two_pow, Nat.testBit_div_two_pow]
  by_cases h : 2 ≤ j
  · rw [show j - 2 + 2 = j by omega]
    have : (3 : Nat).testBit j = false := by rw [show (3 : Nat) = 2 ^ 2 - 1 from rfl, Nat.testBit_two_pow_sub_one]; simp; omega
    simp [this, h]
  · have h01 : j = 0 ∨ j = 1 := by omega
    rcases h01 with rfl | rfl
    · have t : (3 : Nat).testBit 0 = true := by decide
      simp [t]
    · have t : (3 : Nat).testBit 1 = true := by decide
      simp [t]
set_option maxHeartbeats 4000000 in
theorem rreset8_any (p : Nat) (hp : p < 4294967296) (w : World) : Calls Tryd.prog 37 #[.int .u32 p] w fun e w' => e = .returned (.agg (resetH p).cells.toArray) ∧ Below w.heap.size w w' := by
  have e1 : (p : Int) / 4 * 4 % 4294967296 = (clr p 3 : Nat) := by rw [clr3_div hp]; omega
  have e2 : (p : Int) / 4 * 4 = (clr p 3 : Nat) := by rw [clr3_div hp]; omega
  have e4 : IntKind.u32.wrap ((p : Int) / 4) = (p : Int) / 4 := by rw [Go.IntKind.wrap_u32]; omega
  have e5 : IntKind.u32.wrap ((clr p 3 : Nat) : Int) = ((clr p 3 : Nat) : Int) := by have := clr_lt (m := 3) hp; rw [Go.IntKind.wrap_u32]; omega
  have BD := built_r8 p
  have hsz := hs_size (resetH p)
  have hone := hs_one (resetH p)
  generalize (resetH p).cells.toArray = cs at *
  go_enter Tryd.func37, Tryd.ntmps37
  go_upto_region 1 with (fail)
  have r1 : (w.alloc (.cells Z42 65)).heap[w.heap.size]? = some (.cells Z42 65 (0, 0)) := heap_alloc_new w _
  have bw : Below w.heap.size w (w.alloc (.cells Z42 65)) := (Below.refl _ w).alloc (Nat.le_refl _) _
  generalize hW : World.alloc w _ = W
  have r1' : W.heap[w.heap.size]? = some (.cells Z42 65 (0, 0)) := by rw [← hW]; exact r1
  have bw' : Below w.heap.size w W := by rw [← hW]; exact bw
  clear hW r1 bw
  refine wp_region_lit ?_
  refine Go.Great.wpList_runTo rfl (some 3) rfl (.int .u32 (p : Nat)) W (by kernel_rfl) ?_
  try simp only [Act.put, List.setIfInBounds_toArray, List.set_cons_zero, List.set_cons_succ]
  refine Go.Great.wpList_runTo rfl (some 4) rfl (.int .u32 ((p : Int) / 4)) W (by first | (go_simp; done) | (go_simp; exact e4)) ?_
  try simp only [Act.put, List.setIfInBounds_toArray, List.set_cons_zero, List.set_cons_succ]
  refine Go.Great.wpList_runTo rfl (some 5) rfl (.int .u32 (clr p 3 : Nat)) W (by first | (go_simp; done) | (go_simp; rw [e2]; done) | (go_simp; rw [e2]; exact e5)) ?_
  try simp only [Act.put, List.setIfInBounds_toArray, List.set_cons_zero, List.set_cons_succ]
  refine Go.wpList_buildTo rfl 65 _ rfl (some 6) rfl cs (Eq.trans (b := Tryd.prog.built 65 [(0, .int .u32 (clr p 3 : Nat))]) (by kernel_rfl) BD) ?_
  try simp only [Act.put, List.setIfInBounds_toArray, List.set_cons_zero, List.set_cons_succ]
  refine Go.wpList_store_rowTo rfl 65 _ _ rfl rfl w.heap.size cs rfl rfl _ _ r1' (by rw [hsz]; kernel_rfl) (by rw [hsz]; rfl) hone ?_
  try simp only [Act.put, List.setIfInBounds_toArray, List.set_cons_zero, List.set_cons_succ]
  have F1 := Lib.hid (setRow_heap _ _ _ cs _ _ r1')
  have FB := Lib.hid (below_setRow bw' (Nat.le_refl _) cs)
  have HZ := Lib.hid hsz
  clear r1' bw' hsz hone BD e1 e2 e4 e5
  go_wp2
  refine bodyPost_ret (results_cell_row (p := 2) (ty := 65) (by kernel_rfl) _ _ w.heap.size _ _ _ _ rfl F1.out Tryd.underlying65 rfl (by rw [HZ.out]; kernel_rfl)) rfl ⟨rfl, FB.out⟩

end Go.Proofs.YtoincdfijeipjaaDoor
