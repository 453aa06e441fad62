import Derived.Test.YtoincdfijeipjaaDoorHartO
import Derived.Below
import Derived.Deep.Draws
import Derived.Deep.AppendLies
import Derived.Maps.AppendAt
import Derived.OwnWalk
import Derived.Laws.BytesArg
import Derived.Laws.MakeOwn
import Derived.Laws.OwnMore
import Derived.Deep.OwnRows
import Derived.Tactics
import Derived.Lib.ConvBytes
import Derived.Laws.Slices
import Derived.WalkKit
import Derived.KernelRfl
import Derived.RowKit3
import Derived.Deep.LoopGhost
import Derived.Deep.QuietTactic
import Derived.BigQuiet
import Derived.WideLaws
import Derived.Deep.DeepCutAuto
import Derived.Deep.CutBlock
import Derived.Deep.RegionHeld3
import Derived.Laws.Rows
import Derived.Lib.AppendStr
import Derived.ArgAppend
import Derived.Laws.IdiomCopy
import Derived.OrdersHeld
import Derived.Laws.BitsLemmas
import Derived.RowKit
import Derived.Lib.Hide
import Derived.Laws.BitsAllLaws
import Derived.WalkLawsBesides
import Derived.WalkSpells
import Derived.LaidEql
namespace Go.Proofs.YtoincdfijeipjaaDoor
open Go.RowKit
set_option maxRecDepth 100000
set_option linter.unusedVariables false
set_option linter.unusedSimpArgs false

theorem wpList_load_midW {P : Program} {ops : Array Oper} {rest : List Oper} {op : Oper} {a : Act} {w : World} {Q : Exit → Act → World → Prop} (hw : Region.wanted op (yielded ops a.tmps) = true) (ty : TypeId) (x : Operand) (ho : op.op = .load ty x)
    (b o : Nat) (hx : a.eval x = .pointer (some ⟨b, o, none⟩)) (cs : List Value) (d : TypeDesc) (hc : w.rangeAt b o cs)
    (hu : P.underlying ty = some d) (hd : d.isRow = true) (hi : (P.info? ty).map (·.size) = some cs.length)
    (h : wpList P ops Q rest (a.put op.dst (.agg cs.toArray)) w) : wpList P ops Q (op :: rest) a w :=
  wpList_step fun K hK => by
    rw [if_pos hw]
    exact wp_load_mid ty x ho b o hx cs d hc hu hd hi (hK _ _ h)

set_option maxHeartbeats 8000000 in
theorem makes_no (h : HS) (hk : h.ok) (op o0 o1 o2 : Int) (hm : mayH h = false) (w : World) (hT : TabW w) : Calls Tryd.prog 8 #[.agg h.cells.toArray, .int .i64 op, .agg #[.int .i64 o0, .int .i64 o1, .int .i64 o2]] w fun e w' => e = .returned (.bool true) ∧ Below w.heap.size w w' := by
  have GV := Lib.hid (fun w => give_any h w)
  have SU := Lib.hid (fun w hT => hsure_any w hT)
  have CK := Lib.hid (fun w => hcheck_no h hk hm w)
  have hE1 : errV 1 = .iface 84 (.int .i64 1) := rfl
  rw [hE1] at CK
  clear hE1
  have hsz := hs_size h
  have hone := hs_one h
  obtain ⟨cs, hcs⟩ : ∃ cs, cs = h.cells.toArray := ⟨_, rfl⟩
  rw [← hcs] at GV
  rw [← hcs] at CK
  rw [← hcs] at hsz
  rw [← hcs] at hone
  rw [← hcs]
  have HC := Lib.hid hcs
  clear hcs
  go_enter Tryd.func8, Tryd.ntmps8
  go_upto_region 1 with (fail)
  generalize hW : World.alloc (World.alloc w _) _ = W0
  have q0 : W0.heap[w.heap.size]? = some (.cells cs 65 (0, 0)) := by rw [← hW]; exact heap_alloc2_old w _ _
  have b0 : Below w.heap.size w W0 := by rw [← hW]; exact ((Below.refl _ w).alloc (Nat.le_refl _) _).alloc (by simp) _
  clear hW
  refine wp_region_lit ?_
  refine wpList_load_row rfl 65 _ rfl w.heap.size rfl _ cs (0, 0) _ q0 Tryd.underlying65 rfl (by rw [hsz]; kernel_rfl) ?_
  try simp only [Act.put, List.setIfInBounds_toArray, List.set_cons_zero, List.set_cons_succ]
  refine wpList_callR rfl (some 19) rfl 28 #[.agg cs] (by kernel_rfl) (.agg cs) (Below W0.heap.size W0) (GV.out _) ?_
  intro w1 hb1
  try simp only [Act.put, List.setIfInBounds_toArray, List.set_cons_zero, List.set_cons_succ]
  refine Go.Great.wpList_allocTo rfl (some 7) rfl (.pointer (some ⟨w1.heap.size, 0, none⟩)) (.cells Z42 55) rfl ?_
  try simp only [Act.put, List.setIfInBounds_toArray, List.set_cons_zero, List.set_cons_succ]
  refine Go.wpList_store_rowTo rfl 55 _ _ rfl rfl w1.heap.size cs rfl rfl _ _ (heap_alloc_new _ _) (by rw [hsz]; kernel_rfl) (by rw [hsz]; rfl) hone ?_
  rw [World.setRow_alloc_new]
  have rX0 := heap_alloc_new w1 (.cells cs 55)
  have bw2 : Below w.heap.size w (w1.alloc (.cells cs 55)) := (b0.trans (hb1.mono b0.size)).alloc (b0.trans (hb1.mono b0.size)).size _
  have hXw : w.heap.size ≤ w1.heap.size := (b0.trans (hb1.mono b0.size)).size
  have bw02 : Below W0.heap.size W0 (w1.alloc (.cells cs 55)) := hb1.alloc hb1.size _
  generalize w1.alloc (.cells cs 55) = w2 at rX0 bw2 bw02 ⊢
  obtain ⟨X, hX⟩ : ∃ X, X = w1.heap.size := ⟨_, rfl⟩
  rw [← hX] at rX0 hXw ⊢
  clear hX hb1 q0
  go_upto_region 2 with (fail)
  refine wp_region_lit ?_
  refine wpList_load_row rfl 55 _ rfl X rfl _ cs (0, 0) _ rX0 Tryd.underlying55 rfl (by rw [hsz]; kernel_rfl) ?_
  try simp only [Act.put, List.setIfInBounds_toArray, List.set_cons_zero, List.set_cons_succ]
  refine wpList_callR rfl (some 21) rfl 29 #[.agg cs] (by kernel_rfl) (.iface 84 (.int .i64 1)) (Below w2.heap.size w2) (CK.out _) ?_
  intro w3 hb3
  try simp only [Act.put, List.setIfInBounds_toArray, List.set_cons_zero, List.set_cons_succ]
  have rX := (hb3.block X (heap_lt rX0)).trans rX0
  have bw3 := bw2.trans (hb3.mono bw2.size)
  have bw03 := bw02.trans (hb3.mono bw02.size)
  clear rX0 bw2 hb3
  have T3 := Lib.hid (hT.below bw3)
  have G3 := Lib.hid bw3
  clear hsz hone hT b0 rX bw3 bw02 bw03 hXw hk hm
  go_wp2_with (go_at_call 27; refine (SU.out _ T3.out).mono ?_; rintro e w4 ⟨rfl, hb⟩; have G4 := Lib.hid (G3.out.trans (hb.mono G3.out.size)); clear hb)
  go_ret
  exact ⟨rfl, G4.out⟩
set_option maxHeartbeats 8000000 in
theorem makes_yes (h : HS) (hk : h.ok) (op o0 o1 o2 : Int) (hm : mayH h = true) (K A0 A1 A2 : Int) (k rd ra rb : Nat) (hK : IntKind.u64.wrap op = K) (hk18 : k < 18) (eK : wrap64 (K.tmod 18) = (k : Int)) (hA0 : IntKind.u64.wrap o0 = A0) (hrd : rd < 32) (eA0 : wrap64 (A0.tmod 32) = (rd : Int)) (hA1 : IntKind.u64.wrap o1 = A1) (hra : ra < 32) (eA1 : wrap64 (A1.tmod 32) = (ra : Int)) (hA2 : IntKind.u64.wrap o2 = A2) (hrb : rb < 32) (eA2 : wrap64 (A2.tmod 32) = (rb : Int)) (w : World) (hT : TabW w) : Calls Tryd.prog 8 #[.agg h.cells.toArray, .int .i64 op, .agg #[.int .i64 o0, .int .i64 o1, .int .i64 o2]] w fun e w' => e = .returned (.bool true) ∧ Below w.heap.size w w' := by
  have GV := Lib.hid (fun w => give_any h w)
  have SU := Lib.hid (fun w hT => hsure_any w hT)
  have CK := Lib.hid (fun w => hcheck_ok h hk hm w)
  have hsz := hs_size h
  have hone := hs_one h
  obtain ⟨cs, hcs⟩ : ∃ cs, cs = h.cells.toArray := ⟨_, rfl⟩
  rw [← hcs] at GV
  rw [← hcs] at CK
  rw [← hcs] at hsz
  rw [← hcs] at hone
  rw [← hcs]
  have HC := Lib.hid hcs
  clear hcs
  go_enter Tryd.func8, Tryd.ntmps8
  go_upto_region 1 with (fail)
  generalize hW : World.alloc (World.alloc w _) _ = W0
  have q0 : W0.heap[w.heap.size]? = some (.cells cs 65 (0, 0)) := by rw [← hW]; exact heap_alloc2_old w _ _
  have b0 : Below w.heap.size w W0 := by rw [← hW]; exact ((Below.refl _ w).alloc (Nat.le_refl _) _).alloc (by simp) _
  have qo : W0.heap[w.heap.size + 1]? = some (.cells #[.int .i64 o0, .int .i64 o1, .int .i64 o2] 69 (0, 0)) := by rw [← hW]; exact heap_alloc2_new w _ _
  clear hW
  refine wp_region_lit ?_
  refine wpList_load_row rfl 65 _ rfl w.heap.size rfl _ cs (0, 0) _ q0 Tryd.underlying65 rfl (by rw [hsz]; kernel_rfl) ?_
  try simp only [Act.put, List.setIfInBounds_toArray, List.set_cons_zero, List.set_cons_succ]
  refine wpList_callR rfl (some 19) rfl 28 #[.agg cs] (by kernel_rfl) (.agg cs) (Below W0.heap.size W0) (GV.out _) ?_
  intro w1 hb1
  try simp only [Act.put, List.setIfInBounds_toArray, List.set_cons_zero, List.set_cons_succ]
  refine Go.Great.wpList_allocTo rfl (some 7) rfl (.pointer (some ⟨w1.heap.size, 0, none⟩)) (.cells Z42 55) rfl ?_
  try simp only [Act.put, List.setIfInBounds_toArray, List.set_cons_zero, List.set_cons_succ]
  refine Go.wpList_store_rowTo rfl 55 _ _ rfl rfl w1.heap.size cs rfl rfl _ _ (heap_alloc_new _ _) (by rw [hsz]; kernel_rfl) (by rw [hsz]; rfl) hone ?_
  rw [World.setRow_alloc_new]
  have rX0 := heap_alloc_new w1 (.cells cs 55)
  have bw2 : Below w.heap.size w (w1.alloc (.cells cs 55)) := (b0.trans (hb1.mono b0.size)).alloc (b0.trans (hb1.mono b0.size)).size _
  have hXw : w.heap.size ≤ w1.heap.size := (b0.trans (hb1.mono b0.size)).size
  have bw02 : Below W0.heap.size W0 (w1.alloc (.cells cs 55)) := hb1.alloc hb1.size _
  generalize w1.alloc (.cells cs 55) = w2 at rX0 bw2 bw02 ⊢
  obtain ⟨X, hX⟩ : ∃ X, X = w1.heap.size := ⟨_, rfl⟩
  rw [← hX] at rX0 hXw ⊢
  clear hX hb1 q0
  go_upto_region 2 with (fail)
  refine wp_region_lit ?_
  refine wpList_load_row rfl 55 _ rfl X rfl _ cs (0, 0) _ rX0 Tryd.underlying55 rfl (by rw [hsz]; kernel_rfl) ?_
  try simp only [Act.put, List.setIfInBounds_toArray, List.set_cons_zero, List.set_cons_succ]
  refine wpList_callR rfl (some 21) rfl 29 #[.agg cs] (by kernel_rfl) (.nilIface) (Below w2.heap.size w2) (CK.out _) ?_
  intro w3 hb3
  try simp only [Act.put, List.setIfInBounds_toArray, List.set_cons_zero, List.set_cons_succ]
  have rX := (hb3.block X (heap_lt rX0)).trans rX0
  have bw3 := bw2.trans (hb3.mono bw2.size)
  have bw03 := bw02.trans (hb3.mono bw02.size)
  clear rX0 bw2 hb3
  have qo3 := (bw03.block _ (heap_lt qo)).trans qo
  have o0c : w3.cell? ⟨w.heap.size + 1, 0, none⟩ = some (.int .i64 o0) := cell_of_row _ _ _ _ _ _ qo3
  have o1c : w3.cell? ⟨w.heap.size + 1, 1, none⟩ = some (.int .i64 o1) := cell_of_row _ _ _ _ _ _ qo3
  have o2c : w3.cell? ⟨w.heap.size + 1, 2, none⟩ = some (.int .i64 o2) := cell_of_row _ _ _ _ _ _ qo3
  have HX3 := Lib.hid (HAt.of_row (h := h) (r := []) (by rw [List.append_nil, ← HC.out]; exact rX))
  have B3 := Lib.hid bw3
  have HTT := Lib.hid hT
  have HK := Lib.hid hk
  have HM := Lib.hid hm
  clear qo qo3 bw3 hT rX b0 bw02 bw03 hsz hone hk hm
  go_upto_region 5 with (fail)
  go_region
  simp only [eK, eA0, eA1, eA2]
  have HX4 := HX3.out.drew1
  have B4 := B3.out.drew
  generalize w3.drew = w4 at HX4 B4 ⊢
  clear eK eA0 eA1 eA2 hK hA0 hA1 hA2 o0c o1c o2c HX3 B3
  have hkI : (k : Int) < 18 := by omega
  go_upto_region 6 with (fail)
  refine wp_region_lit ?_
  refine Go.Great.wpList_allocTo rfl (some 43) rfl (.slice (some ⟨w4.heap.size, 0, none⟩) 18 18) (.cells (ws f3T) 22) (by kernel_rfl) ?_
  try simp only [Act.put, List.setIfInBounds_toArray, List.set_cons_zero, List.set_cons_succ]
  have hc6 : (w4.alloc (.cells (ws f3T) 22)).cell? ⟨w4.heap.size, k, none⟩ = some (.int .u32 (f3N k : Nat)) := (cell_of_row _ _ _ _ _ _ (heap_alloc_new w4 _)).trans (ws_at f3T k (by simpa [f3T] using hk18))
  have HX5 := HX4.allocK (.cells (ws f3T) 22)
  have B5 := B4.alloc B4.size (.cells (ws f3T) 22)
  generalize w4.alloc (.cells (ws f3T) 22) = w5 at hc6 HX5 B5 ⊢
  have KX := Lib.hid HX5
  have KB := Lib.hid B5
  clear HX5 B5 HX4 B4
  obtain ⟨f3, hf3⟩ : ∃ f3, f3 = f3N k := ⟨_, rfl⟩
  rw [← hf3] at hc6
  have HF3 := Lib.hid hf3
  clear hf3
  go_upto_region 7 with (fail)
  have HX5 := KX.out
  have B5 := KB.out
  clear KX KB hc6

  refine wp_region_lit ?_
  refine Go.Great.wpList_allocTo rfl (some 47) rfl (.slice (some ⟨w5.heap.size, 0, none⟩) 18 18) (.cells (ws f7T) 22) (by kernel_rfl) ?_
  try simp only [Act.put, List.setIfInBounds_toArray, List.set_cons_zero, List.set_cons_succ]
  have hc7 : (w5.alloc (.cells (ws f7T) 22)).cell? ⟨w5.heap.size, k, none⟩ = some (.int .u32 (f7N k : Nat)) := (cell_of_row _ _ _ _ _ _ (heap_alloc_new w5 _)).trans (ws_at f7T k (by simpa [f7T] using hk18))
  have HX6 := HX5.allocK (.cells (ws f7T) 22)
  have B6 := B5.alloc B5.size (.cells (ws f7T) 22)
  generalize w5.alloc (.cells (ws f7T) 22) = w6 at hc7 HX6 B6 ⊢
  have KX := Lib.hid HX6
  have KB := Lib.hid B6
  clear HX6 B6 HX5 B5
  obtain ⟨f7, hf7⟩ : ∃ f7, f7 = f7N k := ⟨_, rfl⟩
  rw [← hf7] at hc7
  have HF7 := Lib.hid hf7
  clear hf7
  go_upto_region 8 with (fail)
  have HX6 := KX.out
  have B6 := KB.out
  clear KX KB hc7
  have rgx := HX6.range
  have lx := h.len
  obtain ⟨xs, hxs⟩ : ∃ xs, xs = h.cells := ⟨_, rfl⟩
  rw [← hxs] at rgx lx
  refine wp_region_lit ?_
  refine wpList_load_mid rfl 55 _ rfl X 0 rfl xs _ rgx Tryd.underlying55 rfl (by rw [lx]; kernel_rfl) ?_
  try simp only [Act.put, List.setIfInBounds_toArray, List.set_cons_zero, List.set_cons_succ]
  have q3 : f3 < 8 := by rw [HF3.out]; exact f3_lt k hk18
  have q7 : f7 < 64 := by rw [HF7.out]; exact f7_lt k hk18
  have KX := Lib.hid HX6
  have KB := Lib.hid B6
  have KR := Lib.hid rgx
  have KL := Lib.hid lx
  have KXS := Lib.hid hxs
  clear HX6 B6 rgx lx hxs
  have hp4 : h.pc % 4 = 0 := by have hm2 := HM.out; unfold mayH at hm2; simp only [Bool.and_eq_true, decide_eq_true_eq] at hm2; exact hm2.1
  obtain ⟨v, hv, AL⟩ := alu_ex k hk18 (h.x ra) (h.x rb) (HK.out.x ra hra) (HK.out.x rb hrb)
  have hx0 : wN (27 + k) + rd * 128 + ra * 32768 + rb * 1048576 < 4294967296 := by rw [f_word k hk18, ← HF3.out, ← HF7.out]; omega
  obtain ⟨x, hx⟩ : ∃ x, x = wN (27 + k) + rd * 128 + ra * 32768 + rb * 1048576 := ⟨_, rfl⟩
  have DE := make_de k rd ra rb x hk18 hrd hra hrb hx
  obtain ⟨s, hs⟩ : ∃ s, s = toH (setH h rd v) ((h.pc + 4) % 4294967296) := ⟨_, rfl⟩
  have D : Hid (∀ w : World, TabW w → Calls Tryd.prog 26 #[.agg xs.toArray, .int .u32 x, .int .u32 0] w fun e w' => e = .returned (.tuple #[.agg s.cells.toArray, .agg acc0]) ∧ Below w.heap.size w w') := Lib.hid (fun w hT => by rw [KXS.out, hs]; exact do_reg h HK.out x 0 k v hk18 hv hrd hra hrb DE AL w hT)
  have ex := make_or f7 f3 rd ra rb q7 q3 hrd hra hrb
  rw [show f7 * 33554432 + f3 * 4096 + 51 + rd * 128 + ra * 32768 + rb * 1048576 = x by rw [hx, f_word k hk18, HF3.out, HF7.out]] at ex
  have hsz7 := hs_size s
  have hone7 := hs_one s
  obtain ⟨ss, hss⟩ : ∃ ss, ss = s.cells.toArray := ⟨_, rfl⟩
  rw [← hss] at D hsz7 hone7
  have HSS := Lib.hid hss
  have HS := Lib.hid hs
  have HXX := Lib.hid hx
  have Z7 := Lib.hid hsz7
  have O7 := Lib.hid hone7
  have EX := Lib.hid ex
  clear hss hs hx hsz7 hone7 DE hx0 ex
  go_wp2_with fail
  rw [EX.out]
  refine (D.out _ (HTT.out.below KB.out)).mono ?_
  rintro e w7 ⟨rfl, hb7⟩
  rename_i hKK
  refine hKK _ _ ?_
  try simp only [Act.put, List.setIfInBounds_toArray, List.set_cons_zero, List.set_cons_succ]
  have hsz7 := Z7.out
  have hone7 := O7.out
  refine Go.Great.wpList_runTo rfl (some 51) rfl (.tuple #[.agg ss, .agg acc0]) w7 (by kernel_rfl) ?_
  try simp only [Act.put, List.setIfInBounds_toArray, List.set_cons_zero, List.set_cons_succ]
  refine Go.Great.wpList_runTo rfl (some 72) rfl (.agg ss) w7 (by kernel_rfl) ?_
  try simp only [Act.put, List.setIfInBounds_toArray, List.set_cons_zero, List.set_cons_succ]
  refine Go.Great.wpList_runTo rfl (some 73) rfl (.agg acc0) w7 (by kernel_rfl) ?_
  try simp only [Act.put, List.setIfInBounds_toArray, List.set_cons_zero, List.set_cons_succ]
  refine Go.Great.wpList_allocTo rfl (some 14) rfl (.pointer (some ⟨w7.heap.size, 0, none⟩)) (.cells Z42 55) rfl ?_
  try simp only [Act.put, List.setIfInBounds_toArray, List.set_cons_zero, List.set_cons_succ]
  refine Go.Great.wpList_allocTo rfl (some 15) rfl (.pointer (some ⟨w7.heap.size + 1, 0, none⟩)) (.cells acc0 59) (alloc_run (by simp) (by kernel_rfl)) ?_
  try simp only [Act.put, List.setIfInBounds_toArray, List.set_cons_zero, List.set_cons_succ]
  have stw8 := TwoB.start w7
  generalize World.alloc (World.alloc w7 _) _ = wzw8 at stw8 ⊢
  refine Go.wpList_store_rowTo rfl 55 _ _ rfl rfl w7.heap.size ss rfl rfl _ _ stw8.s (by rw [hsz7]; kernel_rfl) (by rw [hsz7]; rfl) hone7 ?_
  refine Go.wpList_store_rowTo rfl 59 _ _ rfl rfl (w7.heap.size + 1) acc0 rfl rfl _ _ (setRow_row stw8.a (by omega)) (by kernel_rfl) rfl (by kernel_rfl) ?_
  have td := TwoB.sets (cs' := ss) (acc' := acc0) stw8
  generalize World.setRow (World.setRow wzw8 _ _) _ _ = w8 at td ⊢
  clear stw8
  try simp only [Act.put, List.setIfInBounds_toArray, List.set_cons_zero, List.set_cons_succ]
  have hb78 := hb7.trans (td.b.mono hb7.size)
  have B8 := KB.out.trans (hb78.mono KB.out.size)
  have HX8 := KX.out.below hb78
  have rY := td.s
  obtain ⟨⟨a0, _⟩, _⟩ := acc0_facts td.a
  obtain ⟨Y, hY⟩ : ∃ Y, Y = w7.heap.size := ⟨_, rfl⟩
  obtain ⟨AA, hAA⟩ : ∃ AA, AA = w7.heap.size + 1 := ⟨_, rfl⟩
  have hXY : X < Y := by rw [hY]; exact Nat.lt_of_lt_of_le KX.out.2.2 hb7.size
  have hAY : Y < AA := by omega
  have hAl : AA < w8.heap.size := by rw [hAA]; exact heap_lt td.a
  rw [← hAA] at a0 ⊢
  rw [← hY] at rY ⊢
  have cra := HX8.x_ hra
  have crb := HX8.x_ hrb
  have KX8 := Lib.hid HX8
  have KB8 := Lib.hid B8
  have RY := Lib.hid rY
  have A0c := Lib.hid a0
  clear td hY hAA hb78 hb7 HX8 B8 rY hsz7 hone7 a0 D
  have hraI : (ra : Int) < 32 := by omega
  have hrbI : (rb : Int) < 32 := by omega
  have hrdI : (rd : Int) < 32 := by omega
  generalize h.x ra = xa at *
  generalize h.x rb = xb at *
  go_upto_region 9 with (fail)
  go_region_with (go_at_call 30; refine (AL.out _).mono ?_; rintro e w9 ⟨rfl, hb⟩; have hb := (Below.drew (Below.refl w8.heap.size w8)).trans hb; have HX9 := Lib.hid (KX8.out.below hb); have B9 := Lib.hid (KB8.out.trans (hb.mono KB8.out.size)); have RY9 := Lib.hid ((hb.block _ (heap_lt RY.out)).trans RY.out); have a9 := (hb.cell (p := ⟨AA, 0, none⟩) hAl).trans A0c.out; clear hb)
  all_goals
    have hnx : (h.pc + 4) % 4294967296 < 4294967296 := by omega
    have hpl := HK.out.pc
    have hcl : h.c.count < 18446744073709551616 := HK.out.c.count
    have hn4 : (h.pc + 4) % 4294967296 % 4 = 0 := by omega
    obtain ⟨cn, hcn⟩ : ∃ cn, cn = (h.c.count + 1) % 18446744073709551616 := ⟨_, rfl⟩
    have ec : IntKind.u64.wrap ((h.c.count : Int) + 1) = (cn : Int) := by rw [Go.IntKind.wrap_u64, hcn]; omega
    obtain ⟨nx, hnxe⟩ : ∃ nx, nx = (h.pc + 4) % 4294967296 := ⟨_, rfl⟩
    have e4 : ((h.pc : Int) + 4) % 4294967296 = (nx : Int) := by rw [hnxe]; omega
    rw [← hnxe] at hn4
    have hse : s = { setH h rd v with pc := nx, c := { h.c with count := cn } } := by rw [HS.out, ← hnxe, hcn]; unfold toH; rw [if_pos hn4]; unfold setH; split <;> rfl
    have c0 := HX9.out.pc_
    have c41 : w9.cell? ⟨X, 41, none⟩ = some (.int .u64 h.c.count) := HX9.out.1 41 (by decide)
    have cf := HX9.out.fz
    have crd := HX9.out.x_ hrd
    have HSE := Lib.hid hse
    clear hse hcn hnxe hnx hn4 hp4 hcl hpl cra crb
    generalize hcc : h.c.count = co at c41 ec
    generalize hpp : h.pc = pc at c0 e4
    clear hcc hpp
    by_cases hr0 : rd = 0
    · subst hr0
      go_upto_region 14 with (fail)
      have HXf := HX9.out.next nx cn
      have es : s = { h with pc := nx, c := { h.c with count := cn } } := HSE.out
      rw [← es] at HXf
      have Bf : Below w.heap.size w ((w9.setCell ⟨X, 0, none⟩ (.int .u32 nx)).setCell ⟨X, 41, none⟩ (.int .u64 cn)) := (B9.out.setCell (p := ⟨X, 0, none⟩) hXw _).setCell (p := ⟨X, 41, none⟩) hXw _
      have RYf : ((w9.setCell ⟨X, 0, none⟩ (.int .u32 nx)).setCell ⟨X, 41, none⟩ (.int .u64 cn)).heap[Y]? = some (.cells ss 55 (0, 0)) := row_set (row_set RY9.out (by omega)) (by omega)
      have af : ((w9.setCell ⟨X, 0, none⟩ (.int .u32 nx)).setCell ⟨X, 41, none⟩ (.int .u64 cn)).cell? ⟨AA, 0, none⟩ = some (.int .i64 0) := (World.cell?_setCell_other _ _ _ _ (fun e => absurd (congrArg Addr.block e) (show ¬ X = AA by omega))).trans ((World.cell?_setCell_other _ _ _ _ (fun e => absurd (congrArg Addr.block e) (show ¬ X = AA by omega))).trans a9)
      generalize (w9.setCell ⟨X, 0, none⟩ (.int .u32 nx)).setCell ⟨X, 41, none⟩ (.int .u64 cn) = w10 at HXf Bf RYf af ⊢
      have RG1 := HXf.range
      have RG2 := range_row RYf
      have RL := s.len
      rw [HSS.out] at RG2
      have ES := st_self s
      simp only [List.toList_toArray] at RG2
      generalize s.cells = qs at RG1 RG2 RL ES
      have K1 := Lib.hid RG1
      have K2 := Lib.hid RG2
      have K3 := Lib.hid RL
      have T10 := Lib.hid (HTT.out.below Bf)
      have KBf := Lib.hid Bf
      clear RG1 RG2 RL Bf HXf es RYf a9 crd c0 c41 cf ec e4
      go_wp2_with (first | (refine wpList_load_midW (by rfl) 55 _ rfl Y 0 rfl qs _ K2.out Tryd.underlying55 rfl (by rw [K3.out]; kernel_rfl) ?_) | (refine wpList_load_midW (by rfl) 55 _ rfl X 0 rfl qs _ K1.out Tryd.underlying55 rfl (by rw [K3.out]; kernel_rfl) ?_) | (go_at_call 27; refine (SU.out _ T10.out).mono ?_; rintro e w11 ⟨rfl, hb⟩; have G11 := Lib.hid (KBf.out.trans (hb.mono KBf.out.size)); clear hb))
      go_ret
      exact ⟨rfl, G11.out⟩
    · have hr1 : ((rd : Int) == 0) = false := by simpa using hr0
      have n1 : ¬ (1 + rd = 0) := by omega
      have n2 : ¬ (1 + rd = 41) := by omega
      have n3 : ¬ (0 = 1 + rd) := by omega
      have n4 : ¬ (41 = 1 + rd) := by omega
      go_upto_region 14 with (fail)
      have HXf := (HX9.out.setX hrd hr0 v).next nx cn
      have es : s = { setH h rd v with pc := nx, c := { (setH h rd v).c with count := cn } } := by rw [HSE.out]; unfold setH; split <;> rfl
      rw [← es] at HXf
      have Bf : Below w.heap.size w (((w9.setCell ⟨X, 1 + rd, none⟩ (.int .u32 v)).setCell ⟨X, 0, none⟩ (.int .u32 nx)).setCell ⟨X, 41, none⟩ (.int .u64 cn)) := ((B9.out.setCell (p := ⟨X, 1 + rd, none⟩) hXw _).setCell (p := ⟨X, 0, none⟩) hXw _).setCell (p := ⟨X, 41, none⟩) hXw _
      have RYf : (((w9.setCell ⟨X, 1 + rd, none⟩ (.int .u32 v)).setCell ⟨X, 0, none⟩ (.int .u32 nx)).setCell ⟨X, 41, none⟩ (.int .u64 cn)).heap[Y]? = some (.cells ss 55 (0, 0)) := row_set (row_set (row_set RY9.out (by omega)) (by omega)) (by omega)
      have af : (((w9.setCell ⟨X, 1 + rd, none⟩ (.int .u32 v)).setCell ⟨X, 0, none⟩ (.int .u32 nx)).setCell ⟨X, 41, none⟩ (.int .u64 cn)).cell? ⟨AA, 0, none⟩ = some (.int .i64 0) := (World.cell?_setCell_other _ _ _ _ (fun e => absurd (congrArg Addr.block e) (show ¬ X = AA by omega))).trans ((World.cell?_setCell_other _ _ _ _ (fun e => absurd (congrArg Addr.block e) (show ¬ X = AA by omega))).trans ((World.cell?_setCell_other _ _ _ _ (fun e => absurd (congrArg Addr.block e) (show ¬ X = AA by omega))).trans a9))
      generalize ((w9.setCell ⟨X, 1 + rd, none⟩ (.int .u32 v)).setCell ⟨X, 0, none⟩ (.int .u32 nx)).setCell ⟨X, 41, none⟩ (.int .u64 cn) = w10 at HXf Bf RYf af ⊢
      have RG1 := HXf.range
      have RG2 := range_row RYf
      have RL := s.len
      rw [HSS.out] at RG2
      have ES := st_self s
      simp only [List.toList_toArray] at RG2
      generalize s.cells = qs at RG1 RG2 RL ES
      have K1 := Lib.hid RG1
      have K2 := Lib.hid RG2
      have K3 := Lib.hid RL
      have T10 := Lib.hid (HTT.out.below Bf)
      have KBf := Lib.hid Bf
      clear RG1 RG2 RL Bf HXf es RYf a9 crd c0 c41 cf ec e4
      go_wp2_with (first | (refine wpList_load_midW (by rfl) 55 _ rfl Y 0 rfl qs _ K2.out Tryd.underlying55 rfl (by rw [K3.out]; kernel_rfl) ?_) | (refine wpList_load_midW (by rfl) 55 _ rfl X 0 rfl qs _ K1.out Tryd.underlying55 rfl (by rw [K3.out]; kernel_rfl) ?_) | (go_at_call 27; refine (SU.out _ T10.out).mono ?_; rintro e w11 ⟨rfl, hb⟩; have G11 := Lib.hid (KBf.out.trans (hb.mono KBf.out.size)); clear hb))
      go_ret
      exact ⟨rfl, G11.out⟩
theorem hartMakes_h (h : HS) (hk : h.ok) (op o0 o1 o2 : Int) (w : World) (hT : TabW w) : Calls Tryd.prog 8 #[.agg h.cells.toArray, .int .i64 op, .agg #[.int .i64 o0, .int .i64 o1, .int .i64 o2]] w fun e w' => e = .returned (.bool true) ∧ Below w.heap.size w w' := by
  by_cases hm : mayH h = true
  · obtain ⟨K, k, hK, hk18, eK⟩ := wrapq op 18 (by decide) (by decide)
    obtain ⟨A0, rd, hA0, hrd, eA0⟩ := wrapq o0 32 (by decide) (by decide)
    obtain ⟨A1, ra, hA1, hra, eA1⟩ := wrapq o1 32 (by decide) (by decide)
    obtain ⟨A2, rb, hA2, hrb, eA2⟩ := wrapq o2 32 (by decide) (by decide)
    exact makes_yes h hk op o0 o1 o2 hm K A0 A1 A2 k rd ra rb hK hk18 eK hA0 hrd eA0 hA1 hra eA1 hA2 hrb eA2 w hT
  · exact makes_no h hk op o0 o1 o2 (by simpa using hm) w hT

end Go.Proofs.YtoincdfijeipjaaDoor
