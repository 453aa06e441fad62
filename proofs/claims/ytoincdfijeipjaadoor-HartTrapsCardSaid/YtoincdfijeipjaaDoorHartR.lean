import Derived.Test.YtoincdfijeipjaaDoorHartO
import Derived.Below
import Derived.Deep.Draws
import Derived.Deep.AppendLies
import Derived.Maps.AppendAt
import Derived.OwnWalk
import Derived.Laws.BytesArg
import Derived.Laws.MakeOwn
import Derived.Laws.OwnMore
import Derived.Deep.OwnRows
import Derived.Tactics
import Derived.Lib.ConvBytes
import Derived.Laws.Slices
import Derived.WalkKit
import Derived.KernelRfl
import Derived.RowKit3
import Derived.Deep.LoopGhost
import Derived.Deep.QuietTactic
import Derived.BigQuiet
import Derived.WideLaws
import Derived.Deep.DeepCutAuto
import Derived.Deep.CutBlock
import Derived.Deep.RegionHeld3
import Derived.Laws.Rows
import Derived.Lib.AppendStr
import Derived.ArgAppend
import Derived.Laws.IdiomCopy
import Derived.OrdersHeld
import Derived.Laws.BitsLemmas
import Derived.RowKit
import Derived.Lib.Hide
import Derived.Laws.BitsAllLaws
import Derived.WalkLawsBesides
import Derived.WalkSpells
import Derived.LaidEql
namespace Go.Proofs.YtoincdfijeipjaaDoor
open Go.RowKit
set_option maxRecDepth 100000
set_option linter.unusedVariables false
set_option linter.unusedSimpArgs false

theorem wpList_load_midW {P : Program} {ops : Array Oper} {rest : List Oper} {op : Oper} {a : Act} {w : World} {Q : Exit → Act → World → Prop} (hw : Region.wanted op (yielded ops a.tmps) = true) (ty : TypeId) (x : Operand) (ho : op.op = .load ty x)
    (b o : Nat) (hx : a.eval x = .pointer (some ⟨b, o, none⟩)) (cs : List Value) (d : TypeDesc) (hc : w.rangeAt b o cs)
    (hu : P.underlying ty = some d) (hd : d.isRow = true) (hi : (P.info? ty).map (·.size) = some cs.length)
    (h : wpList P ops Q rest (a.put op.dst (.agg cs.toArray)) w) : wpList P ops Q (op :: rest) a w :=
  wpList_step fun K hK => by
    rw [if_pos hw]
    exact wp_load_mid ty x ho b o hx cs d hc hu hd hi (hK _ _ h)

set_option maxHeartbeats 8000000 in
theorem traps_no (h : HS) (hk : h.ok) (ww : Nat) (hm : mayH h = false) (w : World) (hT : TabW w) : Calls Tryd.prog 7 #[.agg h.cells.toArray, .int .u32 ww] w fun e w' => e = .returned (.bool true) ∧ Below w.heap.size w w' := by
  have GV := Lib.hid (fun w => give_any h w)
  have SU := Lib.hid (fun w hT => hsure_any w hT)
  have CK := Lib.hid (fun w => hcheck_no h hk hm w)
  have hE1 : errV 1 = .iface 84 (.int .i64 1) := rfl
  rw [hE1] at CK
  clear hE1
  have hsz := hs_size h
  have hone := hs_one h
  obtain ⟨cs, hcs⟩ : ∃ cs, cs = h.cells.toArray := ⟨_, rfl⟩
  rw [← hcs] at GV
  rw [← hcs] at CK
  rw [← hcs] at hsz
  rw [← hcs] at hone
  rw [← hcs]
  have HC := Lib.hid hcs
  clear hcs
  go_enter Tryd.func7, Tryd.ntmps7
  go_upto_region 1 with (fail)
  generalize hW : World.alloc w _ = W0
  have q0 : W0.heap[w.heap.size]? = some (.cells cs 65 (0, 0)) := by rw [← hW]; exact heap_alloc_new w _
  have b0 : Below w.heap.size w W0 := by rw [← hW]; exact (Below.refl _ w).alloc (Nat.le_refl _) _
  clear hW
  refine wp_region_lit ?_
  refine wpList_load_row rfl 65 _ rfl w.heap.size rfl _ cs (0, 0) _ q0 Tryd.underlying65 rfl (by rw [hsz]; kernel_rfl) ?_
  try simp only [Act.put, List.setIfInBounds_toArray, List.set_cons_zero, List.set_cons_succ]
  refine wpList_callR rfl (some 11) rfl 28 #[.agg cs] (by kernel_rfl) (.agg cs) (Below W0.heap.size W0) (GV.out _) ?_
  intro w1 hb1
  try simp only [Act.put, List.setIfInBounds_toArray, List.set_cons_zero, List.set_cons_succ]
  refine Go.Great.wpList_allocTo rfl (some 5) rfl (.pointer (some ⟨w1.heap.size, 0, none⟩)) (.cells Z42 55) rfl ?_
  try simp only [Act.put, List.setIfInBounds_toArray, List.set_cons_zero, List.set_cons_succ]
  refine Go.wpList_store_rowTo rfl 55 _ _ rfl rfl w1.heap.size cs rfl rfl _ _ (heap_alloc_new _ _) (by rw [hsz]; kernel_rfl) (by rw [hsz]; rfl) hone ?_
  rw [World.setRow_alloc_new]
  have rX0 := heap_alloc_new w1 (.cells cs 55)
  have bw2 : Below w.heap.size w (w1.alloc (.cells cs 55)) := (b0.trans (hb1.mono b0.size)).alloc (b0.trans (hb1.mono b0.size)).size _
  have hXw : w.heap.size ≤ w1.heap.size := (b0.trans (hb1.mono b0.size)).size
  have bw02 : Below W0.heap.size W0 (w1.alloc (.cells cs 55)) := hb1.alloc hb1.size _
  generalize w1.alloc (.cells cs 55) = w2 at rX0 bw2 bw02 ⊢
  obtain ⟨X, hX⟩ : ∃ X, X = w1.heap.size := ⟨_, rfl⟩
  rw [← hX] at rX0 hXw ⊢
  clear hX hb1 q0
  go_upto_region 2 with (fail)
  refine wp_region_lit ?_
  refine wpList_load_row rfl 55 _ rfl X rfl _ cs (0, 0) _ rX0 Tryd.underlying55 rfl (by rw [hsz]; kernel_rfl) ?_
  try simp only [Act.put, List.setIfInBounds_toArray, List.set_cons_zero, List.set_cons_succ]
  refine wpList_callR rfl (some 13) rfl 29 #[.agg cs] (by kernel_rfl) (.iface 84 (.int .i64 1)) (Below w2.heap.size w2) (CK.out _) ?_
  intro w3 hb3
  try simp only [Act.put, List.setIfInBounds_toArray, List.set_cons_zero, List.set_cons_succ]
  have rX := (hb3.block X (heap_lt rX0)).trans rX0
  have bw3 := bw2.trans (hb3.mono bw2.size)
  have bw03 := bw02.trans (hb3.mono bw02.size)
  clear rX0 bw2 hb3
  have T3 := Lib.hid (hT.below bw3)
  have G3 := Lib.hid bw3
  clear hsz hone hT b0 rX bw3 bw02 bw03 hXw hk hm
  go_wp2_with (go_at_call 27; refine (SU.out _ T3.out).mono ?_; rintro e w4 ⟨rfl, hb⟩; have G4 := Lib.hid (G3.out.trans (hb.mono G3.out.size)); clear hb)
  go_ret
  exact ⟨rfl, G4.out⟩
set_option maxHeartbeats 8000000 in
theorem traps_yes (h : HS) (hk : h.ok) (ww : Nat) (hm : mayH h = true) (w : World) (hT : TabW w) : Calls Tryd.prog 7 #[.agg h.cells.toArray, .int .u32 ww] w fun e w' => e = .returned (.bool true) ∧ Below w.heap.size w w' := by
  have GV := Lib.hid (fun w => give_any h w)
  have SU := Lib.hid (fun w hT => hsure_any w hT)
  have CK := Lib.hid (fun w => hcheck_ok h hk hm w)
  obtain ⟨h1, h1e⟩ : ∃ h1, h1 = ({ h with c := { h.c with vector := clr h.c.vector 1 } } : HS) := ⟨_, rfl⟩
  have hk1 : h1.ok := by rw [h1e]; exact ⟨hk.pc, hk.x, { hk.c with vector := clr_lt hk.c.vector }⟩
  obtain ⟨s, hse⟩ : ∃ s, s = trapH h1 2 4294967295 := ⟨_, rfl⟩
  have hks : s.ok := by rw [hse]; exact trapH_ok hk1 (by decide) (by decide)
  obtain ⟨z, hze⟩ : ∃ z, z = mretH s := ⟨_, rfl⟩
  have D1 := Lib.hid (fun w hT => do_bad h1 hk1 4294967295 0 (by decide) (Lib.hid fun w hT => decode_none 4294967295 (by decide) trap_none w hT) w hT)
  have D2 : Hid (∀ w : World, TabW w → Calls Tryd.prog 26 #[.agg s.cells.toArray, .int .u32 ((807403635 : Nat) : Int), .int .u32 ww] w fun e w' => e = .returned (.tuple #[.agg (mretH s).cells.toArray, .agg acc0]) ∧ Below w.heap.size w w') := Lib.hid (fun w hT => do_gone s hks 807403635 ww mret_de (mretH s) (a0 := 0) (a1 := 0) (a2 := 0) (a3 := false) (a4 := 0) (a5 := 0) (Lib.hid fun b w H D => one_mret s hks b (by decide) (by decide) (by decide) w H D) w hT)
  rw [← hse] at D1
  rw [← hze] at D2
  have MA := Lib.hid (traps_math h hk hm h1 h1e s hse z hze)
  have e36 : Go.bits .andNot .u32 (h.c.vector : Int) 1 = ((clr h.c.vector 1 : Nat) : Int) := u32c_andNot 1 hk.c.vector (by decide)
  have H1E := Lib.hid h1e
  have hvl := hk.c.vector
  clear h1e hse hze hm hk1
  have hsz := hs_size h
  have hone := hs_one h
  obtain ⟨cs, hcs⟩ : ∃ cs, cs = h.cells.toArray := ⟨_, rfl⟩
  rw [← hcs] at GV
  rw [← hcs] at CK
  rw [← hcs] at hsz
  rw [← hcs] at hone
  rw [← hcs]
  have HC := Lib.hid hcs
  clear hcs
  go_enter Tryd.func7, Tryd.ntmps7
  go_upto_region 1 with (fail)
  generalize hW : World.alloc w _ = W0
  have q0 : W0.heap[w.heap.size]? = some (.cells cs 65 (0, 0)) := by rw [← hW]; exact heap_alloc_new w _
  have b0 : Below w.heap.size w W0 := by rw [← hW]; exact (Below.refl _ w).alloc (Nat.le_refl _) _
  clear hW
  refine wp_region_lit ?_
  refine wpList_load_row rfl 65 _ rfl w.heap.size rfl _ cs (0, 0) _ q0 Tryd.underlying65 rfl (by rw [hsz]; kernel_rfl) ?_
  try simp only [Act.put, List.setIfInBounds_toArray, List.set_cons_zero, List.set_cons_succ]
  refine wpList_callR rfl (some 11) rfl 28 #[.agg cs] (by kernel_rfl) (.agg cs) (Below W0.heap.size W0) (GV.out _) ?_
  intro w1 hb1
  try simp only [Act.put, List.setIfInBounds_toArray, List.set_cons_zero, List.set_cons_succ]
  refine Go.Great.wpList_allocTo rfl (some 5) rfl (.pointer (some ⟨w1.heap.size, 0, none⟩)) (.cells Z42 55) rfl ?_
  try simp only [Act.put, List.setIfInBounds_toArray, List.set_cons_zero, List.set_cons_succ]
  refine Go.wpList_store_rowTo rfl 55 _ _ rfl rfl w1.heap.size cs rfl rfl _ _ (heap_alloc_new _ _) (by rw [hsz]; kernel_rfl) (by rw [hsz]; rfl) hone ?_
  rw [World.setRow_alloc_new]
  have rX0 := heap_alloc_new w1 (.cells cs 55)
  have bw2 : Below w.heap.size w (w1.alloc (.cells cs 55)) := (b0.trans (hb1.mono b0.size)).alloc (b0.trans (hb1.mono b0.size)).size _
  have hXw : w.heap.size ≤ w1.heap.size := (b0.trans (hb1.mono b0.size)).size
  have bw02 : Below W0.heap.size W0 (w1.alloc (.cells cs 55)) := hb1.alloc hb1.size _
  generalize w1.alloc (.cells cs 55) = w2 at rX0 bw2 bw02 ⊢
  obtain ⟨X, hX⟩ : ∃ X, X = w1.heap.size := ⟨_, rfl⟩
  rw [← hX] at rX0 hXw ⊢
  clear hX hb1 q0
  go_upto_region 2 with (fail)
  refine wp_region_lit ?_
  refine wpList_load_row rfl 55 _ rfl X rfl _ cs (0, 0) _ rX0 Tryd.underlying55 rfl (by rw [hsz]; kernel_rfl) ?_
  try simp only [Act.put, List.setIfInBounds_toArray, List.set_cons_zero, List.set_cons_succ]
  refine wpList_callR rfl (some 13) rfl 29 #[.agg cs] (by kernel_rfl) (.nilIface) (Below w2.heap.size w2) (CK.out _) ?_
  intro w3 hb3
  try simp only [Act.put, List.setIfInBounds_toArray, List.set_cons_zero, List.set_cons_succ]
  have rX := (hb3.block X (heap_lt rX0)).trans rX0
  have bw3 := bw2.trans (hb3.mono bw2.size)
  have bw03 := bw02.trans (hb3.mono bw02.size)
  clear rX0 bw2 hb3
  have HX3 := HAt.of_row (h := h) (r := []) (by rw [List.append_nil, ← HC.out]; exact rX)
  have c36 : w3.cell? ⟨X, 36, none⟩ = some (.int .u32 h.c.vector) := HX3.1 36 (by decide)
  have cf := HX3.fz
  have HX := Lib.hid HX3
  have B3 := Lib.hid bw3
  have HTT := Lib.hid hT
  clear HX3 bw3 hT rX b0 bw02 bw03 hsz hone
  go_upto_region 5 with (fail)
  have HX4 : HAt (w3.setCell ⟨X, 36, none⟩ (.int .u32 (clr h.c.vector 1 : Nat))) X h1 := by
    rw [H1E.out]
    exact GAt.ext (GAt.set HX.out (k := 36) (by decide) _) (get_ext rfl (fun j a b => by simp [HS.get, show j ≠ 0 by omega, show j ≠ 36 by omega, b]) ⟨rfl, rfl, rfl, rfl, rfl, rfl, rfl, rfl, rfl⟩)
  have B4 : Below w.heap.size w (w3.setCell ⟨X, 36, none⟩ (.int .u32 (clr h.c.vector 1 : Nat))) := B3.out.setCell (p := ⟨X, 36, none⟩) hXw _
  generalize w3.setCell ⟨X, 36, none⟩ (.int .u32 (clr h.c.vector 1 : Nat)) = w4 at HX4 B4 ⊢
  clear c36 cf HX e36
  have l1 := h1.len
  have rg1 := HX4.range
  obtain ⟨ys, hys⟩ : ∃ ys, ys = h1.cells := ⟨_, rfl⟩
  rw [← hys] at l1 rg1 D1
  have hsz5 := hs_size s
  have hone5 := hs_one s
  obtain ⟨ss, hss⟩ : ∃ ss, ss = s.cells.toArray := ⟨_, rfl⟩
  rw [← hss] at D1 hsz5 hone5
  refine wp_region_lit ?_
  refine wpList_load_mid rfl 55 _ rfl X 0 rfl ys _ rg1 Tryd.underlying55 rfl (by rw [l1]; kernel_rfl) ?_
  try simp only [Act.put, List.setIfInBounds_toArray, List.set_cons_zero, List.set_cons_succ]
  refine wpList_callR rfl (some 24) rfl 26 #[.agg ys.toArray, .int .u32 4294967295, .int .u32 0] (by kernel_rfl) (.tuple #[.agg ss, .agg acc0]) (Below w4.heap.size w4) (D1.out _ (HTT.out.below B4)) ?_
  intro w5 hb5
  try simp only [Act.put, List.setIfInBounds_toArray, List.set_cons_zero, List.set_cons_succ]
  refine Go.Great.wpList_runTo rfl (some 22) rfl (.tuple #[.agg ss, .agg acc0]) w5 (by kernel_rfl) ?_
  try simp only [Act.put, List.setIfInBounds_toArray, List.set_cons_zero, List.set_cons_succ]
  refine Go.Great.wpList_runTo rfl (some 25) rfl (.agg ss) w5 (by kernel_rfl) ?_
  try simp only [Act.put, List.setIfInBounds_toArray, List.set_cons_zero, List.set_cons_succ]
  refine Go.Great.wpList_runTo rfl (some 26) rfl (.agg acc0) w5 (by kernel_rfl) ?_
  try simp only [Act.put, List.setIfInBounds_toArray, List.set_cons_zero, List.set_cons_succ]
  refine Go.Great.wpList_allocTo rfl (some 6) rfl (.pointer (some ⟨w5.heap.size, 0, none⟩)) (.cells Z42 55) rfl ?_
  try simp only [Act.put, List.setIfInBounds_toArray, List.set_cons_zero, List.set_cons_succ]
  refine Go.Great.wpList_allocTo rfl (some 7) rfl (.pointer (some ⟨w5.heap.size + 1, 0, none⟩)) (.cells acc0 59) (alloc_run (by simp) (by kernel_rfl)) ?_
  try simp only [Act.put, List.setIfInBounds_toArray, List.set_cons_zero, List.set_cons_succ]
  have stw6 := TwoB.start w5
  generalize World.alloc (World.alloc w5 _) _ = wzw6 at stw6 ⊢
  refine Go.wpList_store_rowTo rfl 55 _ _ rfl rfl w5.heap.size ss rfl rfl _ _ stw6.s (by rw [hsz5]; kernel_rfl) (by rw [hsz5]; rfl) hone5 ?_
  refine Go.wpList_store_rowTo rfl 59 _ _ rfl rfl (w5.heap.size + 1) acc0 rfl rfl _ _ (setRow_row stw6.a (by omega)) (by kernel_rfl) rfl (by kernel_rfl) ?_
  have tb := TwoB.sets (cs' := ss) (acc' := acc0) stw6
  generalize World.setRow (World.setRow wzw6 _ _) _ _ = w6 at tb ⊢
  clear stw6
  have hb46 := hb5.trans (tb.b.mono hb5.size)
  have B6 := B4.trans (hb46.mono B4.size)
  have HX6 := HX4.below hb46
  have rs6 := tb.s
  rw [hss] at rs6
  have HS6 := HAt.of_row (h := s) (r := []) (by rw [List.append_nil]; exact rs6)
  obtain ⟨⟨a0, _⟩, _⟩ := acc0_facts tb.a
  obtain ⟨Y, hY⟩ : ∃ Y, Y = w5.heap.size := ⟨_, rfl⟩
  obtain ⟨AA, hAA⟩ : ∃ AA, AA = w5.heap.size + 1 := ⟨_, rfl⟩
  rw [← hAA] at a0 ⊢
  rw [← hY] at HS6 ⊢
  clear tb hY hAA hb46 hb5 B4 HX4 rg1 l1 rs6 hsz5 hone5 D1
  have y0 : w6.cell? ⟨Y, 0, none⟩ = some (.int .u32 ((h1.c.vector : Nat) : Int)) := by have hq : w6.cell? ⟨Y, 0, none⟩ = some (.int .u32 (s.pc : Nat)) := HS6.1 0 (by decide); rw [MA.out.1] at hq; exact hq
  have y38 : w6.cell? ⟨Y, 38, none⟩ = some (.int .u32 ((h.pc : Nat) : Int)) := by have hq : w6.cell? ⟨Y, 38, none⟩ = some (.int .u32 (s.c.epc : Nat)) := HS6.1 38 (by decide); rw [MA.out.2.1] at hq; exact hq
  have y39 : w6.cell? ⟨Y, 39, none⟩ = some (.int .u32 ((2 : Nat) : Int)) := by have hq : w6.cell? ⟨Y, 39, none⟩ = some (.int .u32 (s.c.cause : Nat)) := HS6.1 39 (by decide); rw [MA.out.2.2.1] at hq; exact hq
  have y40 : w6.cell? ⟨Y, 40, none⟩ = some (.int .u32 ((4294967295 : Nat) : Int)) := by have hq : w6.cell? ⟨Y, 40, none⟩ = some (.int .u32 (s.c.value : Nat)) := HS6.1 40 (by decide); rw [MA.out.2.2.2.1] at hq; exact hq
  have y41 : w6.cell? ⟨Y, 41, none⟩ = some (.int .u64 ((h.c.count : Nat) : Int)) := by have hq : w6.cell? ⟨Y, 41, none⟩ = some (.int .u64 (s.c.count : Nat)) := HS6.1 41 (by decide); rw [MA.out.2.2.2.2.1] at hq; exact hq
  have x0 : w6.cell? ⟨X, 0, none⟩ = some (.int .u32 (h.pc : Nat)) := by have hq := HX6.pc_; rw [H1E.out] at hq; exact hq
  have x36 : w6.cell? ⟨X, 36, none⟩ = some (.int .u32 (h1.c.vector : Nat)) := HX6.1 36 (by decide)
  have x41 : w6.cell? ⟨X, 41, none⟩ = some (.int .u64 (h.c.count : Nat)) := by have hq : w6.cell? ⟨X, 41, none⟩ = some (.int .u64 (h1.c.count : Nat)) := HX6.1 41 (by decide); rw [show h1.c.count = h.c.count by rw [H1E.out]] at hq; exact hq
  have yx := HS6.xs
  rw [MA.out.2.2.2.2.2.1] at yx
  have xx := HX6.xs
  rw [show h1.x = h.x by rw [H1E.out]] at xx
  have ES := xv_self h.x
  have XL := xv_len h.x
  obtain ⟨xl, hxl⟩ : ∃ xl, xl = xv h.x := ⟨_, rfl⟩
  rw [← hxl] at yx xx ES XL
  have YX := Lib.hid yx
  have XX := Lib.hid xx
  have XLL := Lib.hid XL
  have H6 := Lib.hid HX6
  have S6 := Lib.hid HS6
  have BB6 := Lib.hid B6
  have HXL := Lib.hid hxl
  have HSS := Lib.hid hss
  have HK := Lib.hid hk
  clear yx xx XL HX6 HS6 B6 hxl hss hys hks hvl hk
  generalize hvv : h1.c.vector = vv at *
  generalize hpp : h.pc = pc at *
  generalize hcc : h.c.count = co at *
  clear hvv hcc
  go_upto_region 8 with (first | (refine wp_load_mid 50 _ rfl Y 1 rfl xl _ YX.out Tryd.underlying50 rfl (by rw [XLL.out]; kernel_rfl) ?_) | (refine wp_load_mid 50 _ rfl X 1 rfl xl _ XX.out Tryd.underlying50 rfl (by rw [XLL.out]; kernel_rfl) ?_) | (refine wpList_load_mid rfl 50 _ rfl Y 1 rfl xl _ YX.out Tryd.underlying50 rfl (by rw [XLL.out]; kernel_rfl) ?_) | (refine wpList_load_mid rfl 50 _ rfl X 1 rfl xl _ XX.out Tryd.underlying50 rfl (by rw [XLL.out]; kernel_rfl) ?_))
  have l6 := s.len
  have rg6 := S6.out.range
  obtain ⟨qs, hqs⟩ : ∃ qs, qs = s.cells := ⟨_, rfl⟩
  rw [← hqs] at l6 rg6 D2
  have hsz7 := hs_size z
  have hone7 := hs_one z
  obtain ⟨zs, hzs⟩ : ∃ zs, zs = z.cells.toArray := ⟨_, rfl⟩
  rw [← hzs] at D2 hsz7 hone7
  refine wp_region_lit ?_
  refine wpList_load_mid rfl 55 _ rfl Y 0 rfl qs _ rg6 Tryd.underlying55 rfl (by rw [l6]; kernel_rfl) ?_
  try simp only [Act.put, List.setIfInBounds_toArray, List.set_cons_zero, List.set_cons_succ]
  refine Go.Great.wpList_runTo rfl (some 76) rfl (.int .u32 ww) w6 (by kernel_rfl) ?_
  try simp only [Act.put, List.setIfInBounds_toArray, List.set_cons_zero, List.set_cons_succ]
  refine wpList_callR rfl (some 77) rfl 26 #[.agg qs.toArray, .int .u32 ((807403635 : Nat) : Int), .int .u32 ww] (by kernel_rfl) (.tuple #[.agg zs, .agg acc0]) (Below w6.heap.size w6) (D2.out _ (HTT.out.below BB6.out)) ?_
  intro w7 hb7
  try simp only [Act.put, List.setIfInBounds_toArray, List.set_cons_zero, List.set_cons_succ]
  refine Go.Great.wpList_runTo rfl (some 74) rfl (.tuple #[.agg zs, .agg acc0]) w7 (by kernel_rfl) ?_
  try simp only [Act.put, List.setIfInBounds_toArray, List.set_cons_zero, List.set_cons_succ]
  refine Go.Great.wpList_runTo rfl (some 78) rfl (.agg zs) w7 (by kernel_rfl) ?_
  try simp only [Act.put, List.setIfInBounds_toArray, List.set_cons_zero, List.set_cons_succ]
  refine Go.Great.wpList_runTo rfl (some 79) rfl (.agg acc0) w7 (by kernel_rfl) ?_
  try simp only [Act.put, List.setIfInBounds_toArray, List.set_cons_zero, List.set_cons_succ]
  refine Go.Great.wpList_allocTo rfl (some 8) rfl (.pointer (some ⟨w7.heap.size, 0, none⟩)) (.cells Z42 55) rfl ?_
  try simp only [Act.put, List.setIfInBounds_toArray, List.set_cons_zero, List.set_cons_succ]
  refine Go.Great.wpList_allocTo rfl (some 9) rfl (.pointer (some ⟨w7.heap.size + 1, 0, none⟩)) (.cells acc0 59) (alloc_run (by simp) (by kernel_rfl)) ?_
  try simp only [Act.put, List.setIfInBounds_toArray, List.set_cons_zero, List.set_cons_succ]
  have stw8 := TwoB.start w7
  generalize World.alloc (World.alloc w7 _) _ = wzw8 at stw8 ⊢
  refine Go.wpList_store_rowTo rfl 55 _ _ rfl rfl w7.heap.size zs rfl rfl _ _ stw8.s (by rw [hsz7]; kernel_rfl) (by rw [hsz7]; rfl) hone7 ?_
  refine Go.wpList_store_rowTo rfl 59 _ _ rfl rfl (w7.heap.size + 1) acc0 rfl rfl _ _ (setRow_row stw8.a (by omega)) (by kernel_rfl) rfl (by kernel_rfl) ?_
  have td := TwoB.sets (cs' := zs) (acc' := acc0) stw8
  generalize World.setRow (World.setRow wzw8 _ _) _ _ = w8 at td ⊢
  clear stw8
  have hb68 := hb7.trans (td.b.mono hb7.size)
  have B8 := BB6.out.trans (hb68.mono BB6.out.size)
  have HX8 := H6.out.below hb68
  have rs8 := td.s
  rw [hzs] at rs8
  have HZ8 := HAt.of_row (h := z) (r := []) (by rw [List.append_nil]; exact rs8)
  obtain ⟨Z, hZ⟩ : ∃ Z, Z = w7.heap.size := ⟨_, rfl⟩
  rw [← hZ] at HZ8 ⊢
  have z0 : w8.cell? ⟨Z, 0, none⟩ = some (.int .u32 (pc : Nat)) := by have hq := HZ8.pc_; rw [MA.out.2.2.2.2.2.2.1] at hq; exact hq
  obtain ⟨zst, hzst⟩ : ∃ zst, zst = z.c.status := ⟨_, rfl⟩
  obtain ⟨xst, hxst⟩ : ∃ xst, xst = h.c.status := ⟨_, rfl⟩
  have z34 : w8.cell? ⟨Z, 34, none⟩ = some (.int .u32 (zst : Nat)) := by rw [hzst]; exact HZ8.1 34 (by decide)
  have x0b : w8.cell? ⟨X, 0, none⟩ = some (.int .u32 (pc : Nat)) := by have hq := HX8.pc_; rw [H1E.out] at hq; exact hq
  have x34 : w8.cell? ⟨X, 34, none⟩ = some (.int .u32 (xst : Nat)) := by have hq : w8.cell? ⟨X, 34, none⟩ = some (.int .u32 (h1.c.status : Nat)) := HX8.1 34 (by decide); rw [show h1.c.status = h.c.status by rw [H1E.out], ← hxst] at hq; exact hq
  have ezx : z.c.status = retStatus (trapStatus h.c.status) := MA.out.2.2.2.2.2.2.2.2
  rw [← hxst, ← hzst] at ezx
  have hxl2 : xst < 4294967296 := by rw [hxst]; exact HK.out.c.status
  have e8x : Go.bits .and .u32 (xst : Int) 8 = if xst.testBit 3 = true then 8 else 0 := u32c_bit (v := xst) 3 hxl2 (by decide)
  have t3 : zst.testBit 3 = xst.testBit 3 := by rw [ezx, tb_retStatus (trapStatus_lt hxl2) (by decide), if_neg (by decide), if_pos rfl, tb_trapStatus hxl2 (by decide), if_neg (by decide), if_pos rfl]
  have e8z : Go.bits .and .u32 (zst : Int) 8 = if xst.testBit 3 = true then 8 else 0 := by
    have hb := u32c_bit (v := zst) 3 (by rw [ezx]; exact retStatus_lt (trapStatus_lt hxl2)) (by decide)
    rw [t3] at hb; exact hb
  clear t3
  generalize (if xst.testBit 3 = true then (8 : Int) else 0) = a8 at e8x e8z
  have zx := HZ8.xs
  rw [MA.out.2.2.2.2.2.2.2.1, ← HXL.out] at zx
  have xx8 := HX8.xs
  rw [show h1.x = h.x by rw [H1E.out], ← HXL.out] at xx8
  have ZX := Lib.hid zx
  have XX8 := Lib.hid xx8
  have BB8 := Lib.hid B8
  have T8 := Lib.hid (HTT.out.below B8)
  clear zx xx8 HZ8 HX8 B8 hb68 hb7 td rs8 hzs hqs l6 rg6 hsz7 hone7 ezx hzst hxst hZ x0 x36 x41 y0 y38 y39 y40 y41 a0 D2 hxl2
  go_wp2_with (first | (go_at_call 27; refine (SU.out _ T8.out).mono ?_; rintro e w9 ⟨rfl, hb⟩; have G9 := Lib.hid (BB8.out.trans (hb.mono BB8.out.size)); clear hb) | (refine wp_load_mid 50 _ rfl Z 1 rfl xl _ ZX.out Tryd.underlying50 rfl (by rw [XLL.out]; kernel_rfl) ?_) | (refine wp_load_mid 50 _ rfl X 1 rfl xl _ XX8.out Tryd.underlying50 rfl (by rw [XLL.out]; kernel_rfl) ?_) | (refine wpList_load_midW (by rfl) 50 _ rfl Z 1 rfl xl _ ZX.out Tryd.underlying50 rfl (by rw [XLL.out]; kernel_rfl) ?_) | (refine wpList_load_midW (by rfl) 50 _ rfl X 1 rfl xl _ XX8.out Tryd.underlying50 rfl (by rw [XLL.out]; kernel_rfl) ?_))
  go_ret
  exact ⟨rfl, G9.out⟩
theorem hartTraps_h (h : HS) (hk : h.ok) (ww : Nat) (hw : ww < 4294967296) (w : World) (hT : TabW w) : Calls Tryd.prog 7 #[.agg h.cells.toArray, .int .u32 ww] w fun e w' => e = .returned (.bool true) ∧ Below w.heap.size w w' := by
  by_cases hm : mayH h = true
  · exact traps_yes h hk ww hm w hT
  · exact traps_no h hk ww (by simpa using hm) w hT

end Go.Proofs.YtoincdfijeipjaaDoor
