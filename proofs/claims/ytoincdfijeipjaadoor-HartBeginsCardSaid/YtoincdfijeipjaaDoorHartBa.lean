import Derived.Test.YtoincdfijeipjaaDoorHartO
import Derived.Test.YtoincdfijeipjaaDoorHbR
import Derived.Below
import Derived.Deep.Draws
import Derived.Deep.AppendLies
import Derived.Maps.AppendAt
import Derived.OwnWalk
import Derived.Laws.BytesArg
import Derived.Laws.MakeOwn
import Derived.Laws.OwnMore
import Derived.Deep.OwnRows
import Derived.Tactics
import Derived.Lib.ConvBytes
import Derived.Laws.Slices
import Derived.WalkKit
import Derived.KernelRfl
import Derived.RowKit3
import Derived.Deep.LoopGhost
import Derived.Deep.QuietTactic
import Derived.BigQuiet
import Derived.WideLaws
import Derived.Deep.DeepCutAuto
import Derived.Deep.CutBlock
import Derived.Deep.RegionHeld3
import Derived.Laws.Rows
import Derived.Lib.AppendStr
import Derived.ArgAppend
import Derived.Laws.IdiomCopy
import Derived.OrdersHeld
import Derived.Laws.BitsLemmas
import Derived.RowKit
import Derived.Lib.Hide
import Derived.Laws.BitsAllLaws
import Derived.WalkLawsBesides
import Derived.WalkSpells
import Derived.LaidEql
namespace Go.Proofs.YtoincdfijeipjaaDoor
open Go.RowKit
set_option maxRecDepth 100000
set_option linter.unusedVariables false
set_option linter.unusedSimpArgs false

theorem row_setK {w : World} {c T k : Nat} {v : Value} {o : Obj} (h : w.heap[T]? = some o) (hc : T ≠ c) : (w.setCell ⟨c, k, none⟩ v).heap[T]? = some o := (heap_setCell_other _ _ _ _ hc).trans h
theorem results_cell_tmp {P : Program} {fn : Func} {p q : Tmp} {t : TypeId} (h : fn.results = #[.cell p t, .tmp q]) (tmps : Array Value) (w : World) (a1 : Addr) (v1 v2 : Value)
    (hp : tmps.getD p undef = .pointer (some a1)) (hq : tmps.getD q undef = v2) (h1 : (loadVar t a1).run P w = .ok v1 w) :
    (results fn tmps).run P w = .ok (.tuple #[v1, v2]) w := by
  have hp' : tmps[p]?.getD undef = .pointer (some a1) := by simpa using hp
  have hq' : tmps[q]?.getD undef = v2 := by simpa using hq
  simp [results, h, hp', hq', asAddr, h1]
/-- hart.Begin's hart -/
def beginH (h : HS) (ln : Nat) : HS := if asksS h.c ln = 0 then { h with wait := false } else trapH { h with wait := false } (asksS h.c ln) 0
def stayB (h : HS) (ln : Nat) : Bool := h.wait && decide (ln &&& h.c.enable &&& 2184 = 0)
set_option maxHeartbeats 8000000 in
theorem begin_no (h : HS) (hk : h.ok) (ln : Nat) (hl : ln < 4294967296) (hw : h.wait = true) (h0 : ln &&& h.c.enable &&& 2184 = 0) (w : World) : Calls Tryd.prog 31 #[.agg h.cells.toArray, .int .u32 ln] w fun e w' => e = .returned (.tuple #[.agg h.cells.toArray, .bool false]) ∧ Below w.heap.size w w' := by
  have e1 : Go.bits .and .u32 (ln : Int) (h.c.enable : Int) = ((ln &&& h.c.enable : Nat) : Int) := Go.u32_and_nat _ _ hl hk.c.enable
  have e2 : Go.bits .and .u32 ((ln &&& h.c.enable : Nat) : Int) 2184 = 0 := by
    rw [show (2184 : Int) = ((2184 : Nat) : Int) from rfl, Go.u32_and_nat _ _ (Nat.lt_of_le_of_lt Nat.and_le_left hl) (by decide), h0]; rfl
  obtain ⟨cs, hcs⟩ : ∃ cs, cs = h.cells.toArray := ⟨_, rfl⟩
  have HC := Lib.hid hcs
  have hsz := hs_size h
  have hone := hs_one h
  rw [← hcs] at hsz hone
  rw [← hcs]
  clear hcs hk
  go_enter Tryd.func31, Tryd.ntmps31
  go_upto_region 1 with (fail)
  generalize hW : World.alloc (World.alloc w _) _ = W
  have r0 : W.heap[w.heap.size]? = some (.cells cs 55 (0, 0)) := by rw [← hW]; exact heap_alloc2_old w _ _
  have r1 : W.heap[w.heap.size + 1]? = some (.cells Z42 55 (0, 0)) := by rw [← hW]; exact heap_alloc2_new w _ _
  have bw : Below w.heap.size w W := by rw [← hW]; exact ((Below.refl _ w).alloc (Nat.le_refl _) _).alloc (by simp) _
  have H0 := HAt.of_row (h := h) (r := []) (by rw [List.append_nil, ← HC.out]; exact r0)
  clear hW
  have c33 : W.cell? ⟨w.heap.size, 33, none⟩ = some (.bool true) := by rw [← hw]; exact H0.1 33 (by decide)
  have c35 : W.cell? ⟨w.heap.size, 35, none⟩ = some (.int .u32 h.c.enable) := H0.1 35 (by decide)
  have cf := H0.fz
  generalize h.c.enable = en at *
  have R0 := Lib.hid r0
  have R1 := Lib.hid r1
  have BW := Lib.hid bw
  have HZ := Lib.hid hsz
  have HO := Lib.hid hone
  clear r0 r1 bw H0 hsz hone hw
  go_upto_region 2 with (fail)
  refine wp_region_lit ?_
  refine wpList_load_row rfl 55 _ rfl w.heap.size rfl _ cs (0, 0) _ R0.out Tryd.underlying55 rfl (by rw [HZ.out]; kernel_rfl) ?_
  try simp only [Act.put, List.setIfInBounds_toArray, List.set_cons_zero, List.set_cons_succ]
  refine Go.wpList_store_rowTo rfl 55 _ _ rfl rfl (w.heap.size + 1) cs rfl rfl _ _ R1.out (by rw [HZ.out]; kernel_rfl) (by rw [HZ.out]; rfl) HO.out ?_
  try simp only [Act.put, List.setIfInBounds_toArray, List.set_cons_zero, List.set_cons_succ]
  have F1 := Lib.hid (setRow_heap _ _ _ cs _ _ R1.out)
  have FB := Lib.hid (below_setRow BW.out (by omega : w.heap.size ≤ w.heap.size + 1) cs)
  clear c33 c35 cf e1 e2
  go_wp2
  refine bodyPost_ret (results_cell_tmp (p := 4) (q := 5) (t := 55) (by kernel_rfl) _ _ ⟨w.heap.size + 1, 0, none⟩ _ (.bool false) rfl rfl (run_loadVar_row _ _ _ _ _ _ _ F1.out Tryd.underlying55 rfl (by rw [HZ.out]; kernel_rfl))) rfl ⟨rfl, FB.out⟩

theorem asksS_lt (s : St) (ln : Nat) : asksS s ln < 4294967296 := by
  unfold asksS
  split
  · split
    · decide
    · split
      · decide
      · split <;> decide
  · decide
theorem HAt.wait0 {w : World} {b : Nat} {h : HS} (H : HAt w b h) : HAt (w.setCell ⟨b, 33, none⟩ (.bool false)) b { h with wait := false } :=
  GAt.ext (GAt.set H (k := 33) (by decide) _) (get_ext rfl (fun j a b => by simp [HS.get, show j ≠ 0 by omega, show j ≠ 33 by omega, b]) ⟨rfl, rfl, rfl, rfl, rfl, rfl, rfl, rfl, rfl⟩)
set_option maxHeartbeats 8000000 in
theorem begin_wt (h : HS) (hk : h.ok) (ln : Nat) (hl : ln < 4294967296) (hw : h.wait = true) (h0 : ¬ ln &&& h.c.enable &&& 2184 = 0) (ha : ¬ asksS h.c ln = 0) (w : World) : Calls Tryd.prog 31 #[.agg h.cells.toArray, .int .u32 ln] w fun e w' => e = .returned (.tuple #[.agg (trapH { h with wait := false } (asksS h.c ln) 0).cells.toArray, .bool true]) ∧ Below w.heap.size w w' := by
  have e1 : Go.bits .and .u32 (ln : Int) (h.c.enable : Int) = ((ln &&& h.c.enable : Nat) : Int) := Go.u32_and_nat _ _ hl hk.c.enable
  obtain ⟨q, hq⟩ : ∃ q, q = ln &&& h.c.enable &&& 2184 := ⟨_, rfl⟩
  have e2 : Go.bits .and .u32 ((ln &&& h.c.enable : Nat) : Int) 2184 = (q : Int) := by
    rw [show (2184 : Int) = ((2184 : Nat) : Int) from rfl, Go.u32_and_nat _ _ (Nat.lt_of_le_of_lt Nat.and_le_left hl) (by decide), hq]
  have e3 : ((q : Int) == 0) = false := by rw [← hq] at h0; simpa using h0
  clear hq h0
  have AK := Lib.hid (fun w => asks_any h.c hk.c ln hl w)
  have hal := asksS_lt h.c ln
  obtain ⟨g, hg⟩ : ∃ g, g = ({ h with wait := false } : HS) := ⟨_, rfl⟩
  have hgk : g.ok := by rw [hg]; exact ⟨hk.pc, hk.x, hk.c⟩
  have TR := Lib.hid (fun b w H => htrap_any g hgk b (asksS h.c ln) 0 hal (by decide) w H)
  rw [← hg]
  generalize asksS h.c ln = ca at *
  have ha1 : ((ca : Int) != 0) = true := by simpa using ha
  generalize trapH g ca 0 = z at TR ⊢
  obtain ⟨cs, hcs⟩ : ∃ cs, cs = h.cells.toArray := ⟨_, rfl⟩
  have HC := Lib.hid hcs
  have HG := Lib.hid hg
  rw [← hcs]
  clear hcs hk hgk ha hg
  obtain ⟨zs, hzs⟩ : ∃ zs, zs = (z).cells := ⟨_, rfl⟩
  have HZS := Lib.hid hzs
  rw [← hzs]
  clear hzs
  go_enter Tryd.func31, Tryd.ntmps31
  go_upto_region 1 with (fail)
  generalize hW : World.alloc (World.alloc w _) _ = W
  have r0 : W.heap[w.heap.size]? = some (.cells cs 55 (0, 0)) := by rw [← hW]; exact heap_alloc2_old w _ _
  have r1 : W.heap[w.heap.size + 1]? = some (.cells Z42 55 (0, 0)) := by rw [← hW]; exact heap_alloc2_new w _ _
  have bw : Below w.heap.size w W := by rw [← hW]; exact ((Below.refl _ w).alloc (Nat.le_refl _) _).alloc (by simp) _
  have H0 := HAt.of_row (h := h) (r := []) (by rw [List.append_nil, ← HC.out]; exact r0)
  clear hW
  have c33 : W.cell? ⟨w.heap.size, 33, none⟩ = some (.bool true) := by rw [← hw]; exact H0.1 33 (by decide)
  have c34 : W.cell? ⟨w.heap.size, 34, none⟩ = some (.int .u32 h.c.status) := H0.1 34 (by decide)
  have c35 : W.cell? ⟨w.heap.size, 35, none⟩ = some (.int .u32 h.c.enable) := H0.1 35 (by decide)
  have c36 : W.cell? ⟨w.heap.size, 36, none⟩ = some (.int .u32 h.c.vector) := H0.1 36 (by decide)
  have c37 : W.cell? ⟨w.heap.size, 37, none⟩ = some (.int .u32 h.c.scratch) := H0.1 37 (by decide)
  have c38 : W.cell? ⟨w.heap.size, 38, none⟩ = some (.int .u32 h.c.epc) := H0.1 38 (by decide)
  have c39 : W.cell? ⟨w.heap.size, 39, none⟩ = some (.int .u32 h.c.cause) := H0.1 39 (by decide)
  have c40 : W.cell? ⟨w.heap.size, 40, none⟩ = some (.int .u32 h.c.value) := H0.1 40 (by decide)
  have c41 : W.cell? ⟨w.heap.size, 41, none⟩ = some (.int .u64 h.c.count) := H0.1 41 (by decide)
  have cf := H0.fz
  have H1 := Lib.hid (H0.wait0)
  rw [← HG.out] at H1
  have R1 : Hid ((W.setCell ⟨w.heap.size, 33, none⟩ (.bool false)).heap[w.heap.size + 1]? = some (.cells Z42 55 (0, 0))) := Lib.hid (row_setK r1 (by omega))
  have BW := Lib.hid (bw.setCell (p := ⟨w.heap.size, 33, none⟩) (Nat.le_refl _) (.bool false))
  clear r0 r1 bw H0 hw
  unfold St.v St.cells at AK
  generalize h.c.status = u0 at *
  generalize h.c.enable = u1 at *
  generalize h.c.vector = u2 at *
  generalize h.c.scratch = u3 at *
  generalize h.c.epc = u4 at *
  generalize h.c.cause = u5 at *
  generalize h.c.value = u6 at *
  generalize h.c.count = u7 at *
  go_upto_region 7 with (first | (go_at_call 55; refine (AK.out _).mono ?_; rintro e w1 ⟨rfl, hb1⟩; have HH1 := Lib.hid (H1.out.below hb1); have RR1 := Lib.hid ((hb1.block _ (heap_lt R1.out)).trans R1.out); have BB1 := Lib.hid (BW.out.trans (hb1.mono BW.out.size)); clear hb1 c33 c34 c35 c36 c37 c38 c39 c40 c41 cf) | (go_at_call 56; refine (TR.out _ _ HH1.out).mono ?_; rintro e w2 ⟨rfl, h2, o2⟩; have HF := Lib.hid h2; have RF := Lib.hid ((o2.over _ (by omega) (heap_lt RR1.out)).trans RR1.out); have BF := Lib.hid (BB1.out.trans (o2.below)); clear h2 o2))
  have hsz := hs_size z
  have hone := hs_one z
  have hrg := HF.out.range
  have hlen := HS.len z
  rw [← HZS.out] at hsz hone hrg hlen
  have HZ := Lib.hid hsz
  have HO := Lib.hid hone
  have HRG := Lib.hid hrg
  have HL := Lib.hid hlen
  clear hsz hone hrg hlen
  refine wp_region_lit ?_
  refine wpList_load_mid rfl 55 _ rfl w.heap.size 0 rfl zs _ HRG.out Tryd.underlying55 rfl (by rw [HL.out]; kernel_rfl) ?_
  try simp only [Act.put, List.setIfInBounds_toArray, List.set_cons_zero, List.set_cons_succ]
  refine Go.wpList_store_rowTo rfl 55 _ _ rfl rfl (w.heap.size + 1) zs.toArray rfl rfl _ _ RF.out (by rw [HZ.out]; kernel_rfl) (by rw [HZ.out]; rfl) HO.out ?_
  try simp only [Act.put, List.setIfInBounds_toArray, List.set_cons_zero, List.set_cons_succ]
  have F1 := Lib.hid (setRow_heap _ _ _ zs.toArray _ _ RF.out)
  have FB := Lib.hid (below_setRow BF.out (by omega : w.heap.size ≤ w.heap.size + 1) zs.toArray)
  go_wp2
  refine bodyPost_ret (results_cell_tmp (p := 4) (q := 5) (t := 55) (by kernel_rfl) _ _ ⟨w.heap.size + 1, 0, none⟩ _ (.bool true) rfl rfl (run_loadVar_row _ _ _ _ _ _ _ F1.out Tryd.underlying55 rfl (by rw [HZ.out]; kernel_rfl))) rfl ⟨rfl, FB.out⟩
set_option maxHeartbeats 8000000 in
theorem begin_wn (h : HS) (hk : h.ok) (ln : Nat) (hl : ln < 4294967296) (hw : h.wait = true) (h0 : ¬ ln &&& h.c.enable &&& 2184 = 0) (ha : asksS h.c ln = 0) (w : World) : Calls Tryd.prog 31 #[.agg h.cells.toArray, .int .u32 ln] w fun e w' => e = .returned (.tuple #[.agg (({ h with wait := false } : HS)).cells.toArray, .bool true]) ∧ Below w.heap.size w w' := by
  have e1 : Go.bits .and .u32 (ln : Int) (h.c.enable : Int) = ((ln &&& h.c.enable : Nat) : Int) := Go.u32_and_nat _ _ hl hk.c.enable
  obtain ⟨q, hq⟩ : ∃ q, q = ln &&& h.c.enable &&& 2184 := ⟨_, rfl⟩
  have e2 : Go.bits .and .u32 ((ln &&& h.c.enable : Nat) : Int) 2184 = (q : Int) := by
    rw [show (2184 : Int) = ((2184 : Nat) : Int) from rfl, Go.u32_and_nat _ _ (Nat.lt_of_le_of_lt Nat.and_le_left hl) (by decide), hq]
  have e3 : ((q : Int) == 0) = false := by rw [← hq] at h0; simpa using h0
  clear hq h0
  have AK := Lib.hid (fun w => asks_any h.c hk.c ln hl w)
  have hal := asksS_lt h.c ln
  obtain ⟨g, hg⟩ : ∃ g, g = ({ h with wait := false } : HS) := ⟨_, rfl⟩
  have hgk : g.ok := by rw [hg]; exact ⟨hk.pc, hk.x, hk.c⟩
  rw [← hg]
  rw [ha] at AK
  obtain ⟨cs, hcs⟩ : ∃ cs, cs = h.cells.toArray := ⟨_, rfl⟩
  have HC := Lib.hid hcs
  have HG := Lib.hid hg
  rw [← hcs]
  clear hcs hk hgk ha hg
  obtain ⟨zs, hzs⟩ : ∃ zs, zs = (g).cells := ⟨_, rfl⟩
  have HZS := Lib.hid hzs
  rw [← hzs]
  clear hzs
  go_enter Tryd.func31, Tryd.ntmps31
  go_upto_region 1 with (fail)
  generalize hW : World.alloc (World.alloc w _) _ = W
  have r0 : W.heap[w.heap.size]? = some (.cells cs 55 (0, 0)) := by rw [← hW]; exact heap_alloc2_old w _ _
  have r1 : W.heap[w.heap.size + 1]? = some (.cells Z42 55 (0, 0)) := by rw [← hW]; exact heap_alloc2_new w _ _
  have bw : Below w.heap.size w W := by rw [← hW]; exact ((Below.refl _ w).alloc (Nat.le_refl _) _).alloc (by simp) _
  have H0 := HAt.of_row (h := h) (r := []) (by rw [List.append_nil, ← HC.out]; exact r0)
  clear hW
  have c33 : W.cell? ⟨w.heap.size, 33, none⟩ = some (.bool true) := by rw [← hw]; exact H0.1 33 (by decide)
  have c34 : W.cell? ⟨w.heap.size, 34, none⟩ = some (.int .u32 h.c.status) := H0.1 34 (by decide)
  have c35 : W.cell? ⟨w.heap.size, 35, none⟩ = some (.int .u32 h.c.enable) := H0.1 35 (by decide)
  have c36 : W.cell? ⟨w.heap.size, 36, none⟩ = some (.int .u32 h.c.vector) := H0.1 36 (by decide)
  have c37 : W.cell? ⟨w.heap.size, 37, none⟩ = some (.int .u32 h.c.scratch) := H0.1 37 (by decide)
  have c38 : W.cell? ⟨w.heap.size, 38, none⟩ = some (.int .u32 h.c.epc) := H0.1 38 (by decide)
  have c39 : W.cell? ⟨w.heap.size, 39, none⟩ = some (.int .u32 h.c.cause) := H0.1 39 (by decide)
  have c40 : W.cell? ⟨w.heap.size, 40, none⟩ = some (.int .u32 h.c.value) := H0.1 40 (by decide)
  have c41 : W.cell? ⟨w.heap.size, 41, none⟩ = some (.int .u64 h.c.count) := H0.1 41 (by decide)
  have cf := H0.fz
  have H1 := Lib.hid (H0.wait0)
  rw [← HG.out] at H1
  have R1 : Hid ((W.setCell ⟨w.heap.size, 33, none⟩ (.bool false)).heap[w.heap.size + 1]? = some (.cells Z42 55 (0, 0))) := Lib.hid (row_setK r1 (by omega))
  have BW := Lib.hid (bw.setCell (p := ⟨w.heap.size, 33, none⟩) (Nat.le_refl _) (.bool false))
  clear r0 r1 bw H0 hw
  unfold St.v St.cells at AK
  generalize h.c.status = u0 at *
  generalize h.c.enable = u1 at *
  generalize h.c.vector = u2 at *
  generalize h.c.scratch = u3 at *
  generalize h.c.epc = u4 at *
  generalize h.c.cause = u5 at *
  generalize h.c.value = u6 at *
  generalize h.c.count = u7 at *
  go_upto_region 7 with (go_at_call 55; refine (AK.out _).mono ?_; rintro e w1 ⟨rfl, hb1⟩; have HH1 := Lib.hid (H1.out.below hb1); have RR1 := Lib.hid ((hb1.block _ (heap_lt R1.out)).trans R1.out); have BB1 := Lib.hid (BW.out.trans (hb1.mono BW.out.size)); clear hb1 c33 c34 c35 c36 c37 c38 c39 c40 c41 cf)
  have HF := HH1
  have RF := RR1
  have BF := BB1
  have hsz := hs_size g
  have hone := hs_one g
  have hrg := HF.out.range
  have hlen := HS.len g
  rw [← HZS.out] at hsz hone hrg hlen
  have HZ := Lib.hid hsz
  have HO := Lib.hid hone
  have HRG := Lib.hid hrg
  have HL := Lib.hid hlen
  clear hsz hone hrg hlen
  refine wp_region_lit ?_
  refine wpList_load_mid rfl 55 _ rfl w.heap.size 0 rfl zs _ HRG.out Tryd.underlying55 rfl (by rw [HL.out]; kernel_rfl) ?_
  try simp only [Act.put, List.setIfInBounds_toArray, List.set_cons_zero, List.set_cons_succ]
  refine Go.wpList_store_rowTo rfl 55 _ _ rfl rfl (w.heap.size + 1) zs.toArray rfl rfl _ _ RF.out (by rw [HZ.out]; kernel_rfl) (by rw [HZ.out]; rfl) HO.out ?_
  try simp only [Act.put, List.setIfInBounds_toArray, List.set_cons_zero, List.set_cons_succ]
  have F1 := Lib.hid (setRow_heap _ _ _ zs.toArray _ _ RF.out)
  have FB := Lib.hid (below_setRow BF.out (by omega : w.heap.size ≤ w.heap.size + 1) zs.toArray)
  go_wp2
  refine bodyPost_ret (results_cell_tmp (p := 4) (q := 5) (t := 55) (by kernel_rfl) _ _ ⟨w.heap.size + 1, 0, none⟩ _ (.bool true) rfl rfl (run_loadVar_row _ _ _ _ _ _ _ F1.out Tryd.underlying55 rfl (by rw [HZ.out]; kernel_rfl))) rfl ⟨rfl, FB.out⟩
set_option maxHeartbeats 8000000 in
theorem begin_rt (h : HS) (hk : h.ok) (ln : Nat) (hl : ln < 4294967296) (hw : h.wait = false) (ha : ¬ asksS h.c ln = 0) (w : World) : Calls Tryd.prog 31 #[.agg h.cells.toArray, .int .u32 ln] w fun e w' => e = .returned (.tuple #[.agg (trapH { h with wait := false } (asksS h.c ln) 0).cells.toArray, .bool true]) ∧ Below w.heap.size w w' := by
  have AK := Lib.hid (fun w => asks_any h.c hk.c ln hl w)
  have hal := asksS_lt h.c ln
  obtain ⟨g, hg⟩ : ∃ g, g = ({ h with wait := false } : HS) := ⟨_, rfl⟩
  have hgk : g.ok := by rw [hg]; exact ⟨hk.pc, hk.x, hk.c⟩
  have TR := Lib.hid (fun b w H => htrap_any g hgk b (asksS h.c ln) 0 hal (by decide) w H)
  rw [← hg]
  generalize asksS h.c ln = ca at *
  have ha1 : ((ca : Int) != 0) = true := by simpa using ha
  generalize trapH g ca 0 = z at TR ⊢
  obtain ⟨cs, hcs⟩ : ∃ cs, cs = h.cells.toArray := ⟨_, rfl⟩
  have HC := Lib.hid hcs
  have HG := Lib.hid hg
  rw [← hcs]
  clear hcs hk hgk ha hg
  obtain ⟨zs, hzs⟩ : ∃ zs, zs = (z).cells := ⟨_, rfl⟩
  have HZS := Lib.hid hzs
  rw [← hzs]
  clear hzs
  go_enter Tryd.func31, Tryd.ntmps31
  go_upto_region 1 with (fail)
  generalize hW : World.alloc (World.alloc w _) _ = W
  have r0 : W.heap[w.heap.size]? = some (.cells cs 55 (0, 0)) := by rw [← hW]; exact heap_alloc2_old w _ _
  have r1 : W.heap[w.heap.size + 1]? = some (.cells Z42 55 (0, 0)) := by rw [← hW]; exact heap_alloc2_new w _ _
  have bw : Below w.heap.size w W := by rw [← hW]; exact ((Below.refl _ w).alloc (Nat.le_refl _) _).alloc (by simp) _
  have H0 := HAt.of_row (h := h) (r := []) (by rw [List.append_nil, ← HC.out]; exact r0)
  clear hW
  have c33 : W.cell? ⟨w.heap.size, 33, none⟩ = some (.bool false) := by rw [← hw]; exact H0.1 33 (by decide)
  have c34 : W.cell? ⟨w.heap.size, 34, none⟩ = some (.int .u32 h.c.status) := H0.1 34 (by decide)
  have c35 : W.cell? ⟨w.heap.size, 35, none⟩ = some (.int .u32 h.c.enable) := H0.1 35 (by decide)
  have c36 : W.cell? ⟨w.heap.size, 36, none⟩ = some (.int .u32 h.c.vector) := H0.1 36 (by decide)
  have c37 : W.cell? ⟨w.heap.size, 37, none⟩ = some (.int .u32 h.c.scratch) := H0.1 37 (by decide)
  have c38 : W.cell? ⟨w.heap.size, 38, none⟩ = some (.int .u32 h.c.epc) := H0.1 38 (by decide)
  have c39 : W.cell? ⟨w.heap.size, 39, none⟩ = some (.int .u32 h.c.cause) := H0.1 39 (by decide)
  have c40 : W.cell? ⟨w.heap.size, 40, none⟩ = some (.int .u32 h.c.value) := H0.1 40 (by decide)
  have c41 : W.cell? ⟨w.heap.size, 41, none⟩ = some (.int .u64 h.c.count) := H0.1 41 (by decide)
  have cf := H0.fz
  have H1 := Lib.hid (H0.wait0)
  rw [← HG.out] at H1
  have R1 : Hid ((W.setCell ⟨w.heap.size, 33, none⟩ (.bool false)).heap[w.heap.size + 1]? = some (.cells Z42 55 (0, 0))) := Lib.hid (row_setK r1 (by omega))
  have BW := Lib.hid (bw.setCell (p := ⟨w.heap.size, 33, none⟩) (Nat.le_refl _) (.bool false))
  clear r0 r1 bw H0 hw
  unfold St.v St.cells at AK
  generalize h.c.status = u0 at *
  generalize h.c.enable = u1 at *
  generalize h.c.vector = u2 at *
  generalize h.c.scratch = u3 at *
  generalize h.c.epc = u4 at *
  generalize h.c.cause = u5 at *
  generalize h.c.value = u6 at *
  generalize h.c.count = u7 at *
  go_upto_region 7 with (first | (go_at_call 55; refine (AK.out _).mono ?_; rintro e w1 ⟨rfl, hb1⟩; have HH1 := Lib.hid (H1.out.below hb1); have RR1 := Lib.hid ((hb1.block _ (heap_lt R1.out)).trans R1.out); have BB1 := Lib.hid (BW.out.trans (hb1.mono BW.out.size)); clear hb1 c33 c34 c35 c36 c37 c38 c39 c40 c41 cf) | (go_at_call 56; refine (TR.out _ _ HH1.out).mono ?_; rintro e w2 ⟨rfl, h2, o2⟩; have HF := Lib.hid h2; have RF := Lib.hid ((o2.over _ (by omega) (heap_lt RR1.out)).trans RR1.out); have BF := Lib.hid (BB1.out.trans (o2.below)); clear h2 o2))
  have hsz := hs_size z
  have hone := hs_one z
  have hrg := HF.out.range
  have hlen := HS.len z
  rw [← HZS.out] at hsz hone hrg hlen
  have HZ := Lib.hid hsz
  have HO := Lib.hid hone
  have HRG := Lib.hid hrg
  have HL := Lib.hid hlen
  clear hsz hone hrg hlen
  refine wp_region_lit ?_
  refine wpList_load_mid rfl 55 _ rfl w.heap.size 0 rfl zs _ HRG.out Tryd.underlying55 rfl (by rw [HL.out]; kernel_rfl) ?_
  try simp only [Act.put, List.setIfInBounds_toArray, List.set_cons_zero, List.set_cons_succ]
  refine Go.wpList_store_rowTo rfl 55 _ _ rfl rfl (w.heap.size + 1) zs.toArray rfl rfl _ _ RF.out (by rw [HZ.out]; kernel_rfl) (by rw [HZ.out]; rfl) HO.out ?_
  try simp only [Act.put, List.setIfInBounds_toArray, List.set_cons_zero, List.set_cons_succ]
  have F1 := Lib.hid (setRow_heap _ _ _ zs.toArray _ _ RF.out)
  have FB := Lib.hid (below_setRow BF.out (by omega : w.heap.size ≤ w.heap.size + 1) zs.toArray)
  go_wp2
  refine bodyPost_ret (results_cell_tmp (p := 4) (q := 5) (t := 55) (by kernel_rfl) _ _ ⟨w.heap.size + 1, 0, none⟩ _ (.bool true) rfl rfl (run_loadVar_row _ _ _ _ _ _ _ F1.out Tryd.underlying55 rfl (by rw [HZ.out]; kernel_rfl))) rfl ⟨rfl, FB.out⟩
set_option maxHeartbeats 8000000 in
theorem begin_rn (h : HS) (hk : h.ok) (ln : Nat) (hl : ln < 4294967296) (hw : h.wait = false) (ha : asksS h.c ln = 0) (w : World) : Calls Tryd.prog 31 #[.agg h.cells.toArray, .int .u32 ln] w fun e w' => e = .returned (.tuple #[.agg (({ h with wait := false } : HS)).cells.toArray, .bool true]) ∧ Below w.heap.size w w' := by
  have AK := Lib.hid (fun w => asks_any h.c hk.c ln hl w)
  have hal := asksS_lt h.c ln
  obtain ⟨g, hg⟩ : ∃ g, g = ({ h with wait := false } : HS) := ⟨_, rfl⟩
  have hgk : g.ok := by rw [hg]; exact ⟨hk.pc, hk.x, hk.c⟩
  rw [← hg]
  rw [ha] at AK
  obtain ⟨cs, hcs⟩ : ∃ cs, cs = h.cells.toArray := ⟨_, rfl⟩
  have HC := Lib.hid hcs
  have HG := Lib.hid hg
  rw [← hcs]
  clear hcs hk hgk ha hg
  obtain ⟨zs, hzs⟩ : ∃ zs, zs = (g).cells := ⟨_, rfl⟩
  have HZS := Lib.hid hzs
  rw [← hzs]
  clear hzs
  go_enter Tryd.func31, Tryd.ntmps31
  go_upto_region 1 with (fail)
  generalize hW : World.alloc (World.alloc w _) _ = W
  have r0 : W.heap[w.heap.size]? = some (.cells cs 55 (0, 0)) := by rw [← hW]; exact heap_alloc2_old w _ _
  have r1 : W.heap[w.heap.size + 1]? = some (.cells Z42 55 (0, 0)) := by rw [← hW]; exact heap_alloc2_new w _ _
  have bw : Below w.heap.size w W := by rw [← hW]; exact ((Below.refl _ w).alloc (Nat.le_refl _) _).alloc (by simp) _
  have H0 := HAt.of_row (h := h) (r := []) (by rw [List.append_nil, ← HC.out]; exact r0)
  clear hW
  have c33 : W.cell? ⟨w.heap.size, 33, none⟩ = some (.bool false) := by rw [← hw]; exact H0.1 33 (by decide)
  have c34 : W.cell? ⟨w.heap.size, 34, none⟩ = some (.int .u32 h.c.status) := H0.1 34 (by decide)
  have c35 : W.cell? ⟨w.heap.size, 35, none⟩ = some (.int .u32 h.c.enable) := H0.1 35 (by decide)
  have c36 : W.cell? ⟨w.heap.size, 36, none⟩ = some (.int .u32 h.c.vector) := H0.1 36 (by decide)
  have c37 : W.cell? ⟨w.heap.size, 37, none⟩ = some (.int .u32 h.c.scratch) := H0.1 37 (by decide)
  have c38 : W.cell? ⟨w.heap.size, 38, none⟩ = some (.int .u32 h.c.epc) := H0.1 38 (by decide)
  have c39 : W.cell? ⟨w.heap.size, 39, none⟩ = some (.int .u32 h.c.cause) := H0.1 39 (by decide)
  have c40 : W.cell? ⟨w.heap.size, 40, none⟩ = some (.int .u32 h.c.value) := H0.1 40 (by decide)
  have c41 : W.cell? ⟨w.heap.size, 41, none⟩ = some (.int .u64 h.c.count) := H0.1 41 (by decide)
  have cf := H0.fz
  have H1 := Lib.hid (H0.wait0)
  rw [← HG.out] at H1
  have R1 : Hid ((W.setCell ⟨w.heap.size, 33, none⟩ (.bool false)).heap[w.heap.size + 1]? = some (.cells Z42 55 (0, 0))) := Lib.hid (row_setK r1 (by omega))
  have BW := Lib.hid (bw.setCell (p := ⟨w.heap.size, 33, none⟩) (Nat.le_refl _) (.bool false))
  clear r0 r1 bw H0 hw
  unfold St.v St.cells at AK
  generalize h.c.status = u0 at *
  generalize h.c.enable = u1 at *
  generalize h.c.vector = u2 at *
  generalize h.c.scratch = u3 at *
  generalize h.c.epc = u4 at *
  generalize h.c.cause = u5 at *
  generalize h.c.value = u6 at *
  generalize h.c.count = u7 at *
  go_upto_region 7 with (go_at_call 55; refine (AK.out _).mono ?_; rintro e w1 ⟨rfl, hb1⟩; have HH1 := Lib.hid (H1.out.below hb1); have RR1 := Lib.hid ((hb1.block _ (heap_lt R1.out)).trans R1.out); have BB1 := Lib.hid (BW.out.trans (hb1.mono BW.out.size)); clear hb1 c33 c34 c35 c36 c37 c38 c39 c40 c41 cf)
  have HF := HH1
  have RF := RR1
  have BF := BB1
  have hsz := hs_size g
  have hone := hs_one g
  have hrg := HF.out.range
  have hlen := HS.len g
  rw [← HZS.out] at hsz hone hrg hlen
  have HZ := Lib.hid hsz
  have HO := Lib.hid hone
  have HRG := Lib.hid hrg
  have HL := Lib.hid hlen
  clear hsz hone hrg hlen
  refine wp_region_lit ?_
  refine wpList_load_mid rfl 55 _ rfl w.heap.size 0 rfl zs _ HRG.out Tryd.underlying55 rfl (by rw [HL.out]; kernel_rfl) ?_
  try simp only [Act.put, List.setIfInBounds_toArray, List.set_cons_zero, List.set_cons_succ]
  refine Go.wpList_store_rowTo rfl 55 _ _ rfl rfl (w.heap.size + 1) zs.toArray rfl rfl _ _ RF.out (by rw [HZ.out]; kernel_rfl) (by rw [HZ.out]; rfl) HO.out ?_
  try simp only [Act.put, List.setIfInBounds_toArray, List.set_cons_zero, List.set_cons_succ]
  have F1 := Lib.hid (setRow_heap _ _ _ zs.toArray _ _ RF.out)
  have FB := Lib.hid (below_setRow BF.out (by omega : w.heap.size ≤ w.heap.size + 1) zs.toArray)
  go_wp2
  refine bodyPost_ret (results_cell_tmp (p := 4) (q := 5) (t := 55) (by kernel_rfl) _ _ ⟨w.heap.size + 1, 0, none⟩ _ (.bool true) rfl rfl (run_loadVar_row _ _ _ _ _ _ _ F1.out Tryd.underlying55 rfl (by rw [HZ.out]; kernel_rfl))) rfl ⟨rfl, FB.out⟩
theorem hbegin_no (h : HS) (hk : h.ok) (ln : Nat) (hl : ln < 4294967296) (hs : stayB h ln = true) (w : World) : Calls Tryd.prog 31 #[.agg h.cells.toArray, .int .u32 ln] w fun e w' => e = .returned (.tuple #[.agg h.cells.toArray, .bool false]) ∧ Below w.heap.size w w' := by
  unfold stayB at hs
  simp only [Bool.and_eq_true, decide_eq_true_eq] at hs
  exact begin_no h hk ln hl hs.1 hs.2 w
theorem hbegin_on (h : HS) (hk : h.ok) (ln : Nat) (hl : ln < 4294967296) (hs : stayB h ln = false) (w : World) : Calls Tryd.prog 31 #[.agg h.cells.toArray, .int .u32 ln] w fun e w' => e = .returned (.tuple #[.agg (beginH h ln).cells.toArray, .bool true]) ∧ Below w.heap.size w w' := by
  unfold stayB at hs
  unfold beginH
  by_cases hw : h.wait = true
  · have h0 : ¬ ln &&& h.c.enable &&& 2184 = 0 := fun e => by simp [hw, e] at hs
    by_cases ha : asksS h.c ln = 0
    · rw [if_pos ha]; exact begin_wn h hk ln hl hw h0 ha w
    · rw [if_neg ha]; exact begin_wt h hk ln hl hw h0 ha w
  · have hw' : h.wait = false := by simpa using hw
    by_cases ha : asksS h.c ln = 0
    · rw [if_pos ha]; exact begin_rn h hk ln hl hw' ha w
    · rw [if_neg ha]; exact begin_rt h hk ln hl hw' ha w

set_option maxHeartbeats 4000000 in
theorem rtrap8_any (h : HS) (hk : h.ok) (cause value : Nat) (h1 : cause < 4294967296) (h2 : value < 4294967296) (w : World) :
    Calls Tryd.prog 62 #[.agg h.cells.toArray, .int .u32 cause, .int .u32 value] w fun e w' => e = .returned (.agg (trapH h cause value).cells.toArray) ∧ Below w.heap.size w w' := by
  have TR := Lib.hid (fun w => rtrap_any h.c hk.c cause value h.pc h1 h2 hk.pc w)
  obtain ⟨r, hr⟩ : ∃ r, trapH h cause value = r := ⟨_, rfl⟩
  rw [hr]
  have e1 : trapS h.c cause value h.pc = r.c := by rw [← hr]; rfl
  have e2 : trapTo h.c.vector cause = r.pc := by rw [← hr]; rfl
  have e3 : r.x = h.x ∧ r.wait = h.wait := by rw [← hr]; exact ⟨rfl, rfl⟩
  rw [e1, e2] at TR
  have E3 := Lib.hid e3
  have hlen := HS.len r
  have hsz := hs_size r
  have hone := hs_one r
  obtain ⟨zs, hzs⟩ : ∃ zs, zs = r.cells := ⟨_, rfl⟩
  have HZS := Lib.hid hzs
  rw [← hzs] at hlen hsz hone ⊢
  obtain ⟨cs, hcs⟩ : ∃ cs, cs = h.cells.toArray := ⟨_, rfl⟩
  have HC := Lib.hid hcs
  rw [← hcs]
  have HL := Lib.hid hlen
  have HZ := Lib.hid hsz
  have HO := Lib.hid hone
  clear hr e1 e2 e3 hk h1 h2 hlen hsz hone hzs hcs
  obtain ⟨pc, x, wt, ⟨st, en, ve, sc, ep, ca, va, co⟩⟩ := h
  obtain ⟨tt, x', wt', ⟨t0, t1, t2, t3, t4, t5, t6, t7⟩⟩ := r
  unfold St.v St.cells at TR
  simp only at TR E3
  go_enter Tryd.func62, Tryd.ntmps62
  go_upto_region 1 with (fail)
  generalize hW : World.alloc (World.alloc w _) _ = W
  have r0 : W.heap[w.heap.size]? = some (.cells cs 65 (0, 0)) := by rw [← hW]; exact heap_alloc2_old w _ _
  have r1 : W.heap[w.heap.size + 1]? = some (.cells Z42 65 (0, 0)) := by rw [← hW]; exact heap_alloc2_new w _ _
  have bw : Below w.heap.size w W := by rw [← hW]; exact ((Below.refl _ w).alloc (Nat.le_refl _) _).alloc (by simp) _
  have H := HAt.of_row (h := ⟨pc, x, wt, ⟨st, en, ve, sc, ep, ca, va, co⟩⟩) (r := []) (by rw [List.append_nil, ← HC.out]; exact r0)
  clear hW r0
  have c0 : W.cell? ⟨w.heap.size, 0, none⟩ = some (.int .u32 pc) := H.1 0 (by decide)
  have c34 : W.cell? ⟨w.heap.size, 34, none⟩ = some (.int .u32 st) := H.1 34 (by decide)
  have c35 : W.cell? ⟨w.heap.size, 35, none⟩ = some (.int .u32 en) := H.1 35 (by decide)
  have c36 : W.cell? ⟨w.heap.size, 36, none⟩ = some (.int .u32 ve) := H.1 36 (by decide)
  have c37 : W.cell? ⟨w.heap.size, 37, none⟩ = some (.int .u32 sc) := H.1 37 (by decide)
  have c38 : W.cell? ⟨w.heap.size, 38, none⟩ = some (.int .u32 ep) := H.1 38 (by decide)
  have c39 : W.cell? ⟨w.heap.size, 39, none⟩ = some (.int .u32 ca) := H.1 39 (by decide)
  have c40 : W.cell? ⟨w.heap.size, 40, none⟩ = some (.int .u32 va) := H.1 40 (by decide)
  have c41 : W.cell? ⟨w.heap.size, 41, none⟩ = some (.int .u64 co) := H.1 41 (by decide)
  have HH := Lib.hid H
  have R1 := Lib.hid r1
  have BW := Lib.hid bw
  clear H r1 bw
  go_upto_region 2 with (go_at_call 86; refine (TR.out _).mono ?_; rintro e w1 ⟨rfl, hb⟩; have hh := HH.out.below hb; have H1 := Lib.hid hh; have RR := Lib.hid ((hb.block _ (heap_lt R1.out)).trans R1.out); have BB := Lib.hid (BW.out.trans (hb.mono BW.out.size)); clear hb hh c0 c34 c35 c36 c37 c38 c39 c40 c41)
  have nb := heap_alloc_new w1 (.cells #[.int .u32 t0, .int .u32 t1, .int .u32 t2, .int .u32 t3, .int .u32 t4, .int .u32 t5, .int .u32 t6, .int .u64 t7] 63)
  have H2 := Lib.hid (H1.out.allocK (.cells #[.int .u32 t0, .int .u32 t1, .int .u32 t2, .int .u32 t3, .int .u32 t4, .int .u32 t5, .int .u32 t6, .int .u64 t7] 63))
  have R2 := Lib.hid (row_alloc RR.out (.cells #[.int .u32 t0, .int .u32 t1, .int .u32 t2, .int .u32 t3, .int .u32 t4, .int .u32 t5, .int .u32 t6, .int .u64 t7] 63))
  have B2 := Lib.hid (BB.out.alloc BB.out.size (.cells #[.int .u32 t0, .int .u32 t1, .int .u32 t2, .int .u32 t3, .int .u32 t4, .int .u32 t5, .int .u32 t6, .int .u64 t7] 63))
  generalize w1.alloc (.cells #[.int .u32 t0, .int .u32 t1, .int .u32 t2, .int .u32 t3, .int .u32 t4, .int .u32 t5, .int .u32 t6, .int .u64 t7] 63) = w2 at *
  have d0 : w2.cell? ⟨w1.heap.size, 0, none⟩ = some (.int .u32 t0) := cell_of_row _ _ _ _ _ _ nb
  have d1 : w2.cell? ⟨w1.heap.size, 1, none⟩ = some (.int .u32 t1) := cell_of_row _ _ _ _ _ _ nb
  have d2 : w2.cell? ⟨w1.heap.size, 2, none⟩ = some (.int .u32 t2) := cell_of_row _ _ _ _ _ _ nb
  have d3 : w2.cell? ⟨w1.heap.size, 3, none⟩ = some (.int .u32 t3) := cell_of_row _ _ _ _ _ _ nb
  have d4 : w2.cell? ⟨w1.heap.size, 4, none⟩ = some (.int .u32 t4) := cell_of_row _ _ _ _ _ _ nb
  have d5 : w2.cell? ⟨w1.heap.size, 5, none⟩ = some (.int .u32 t5) := cell_of_row _ _ _ _ _ _ nb
  have d6 : w2.cell? ⟨w1.heap.size, 6, none⟩ = some (.int .u32 t6) := cell_of_row _ _ _ _ _ _ nb
  have d7 : w2.cell? ⟨w1.heap.size, 7, none⟩ = some (.int .u64 t7) := cell_of_row _ _ _ _ _ _ nb
  have df : ∀ j, w2.frozen? ⟨w1.heap.size, j, none⟩ = false := fun j => frozen_of_row _ _ _ _ _ nb
  have cf := H2.out.fz
  clear nb
  have k0 : w2.cell? ⟨w.heap.size, 0, none⟩ = some (.int .u32 pc) := H2.out.1 0 (by decide)
  have k34 : w2.cell? ⟨w.heap.size, 34, none⟩ = some (.int .u32 st) := H2.out.1 34 (by decide)
  have k35 : w2.cell? ⟨w.heap.size, 35, none⟩ = some (.int .u32 en) := H2.out.1 35 (by decide)
  have k36 : w2.cell? ⟨w.heap.size, 36, none⟩ = some (.int .u32 ve) := H2.out.1 36 (by decide)
  have k37 : w2.cell? ⟨w.heap.size, 37, none⟩ = some (.int .u32 sc) := H2.out.1 37 (by decide)
  have k38 : w2.cell? ⟨w.heap.size, 38, none⟩ = some (.int .u32 ep) := H2.out.1 38 (by decide)
  have k39 : w2.cell? ⟨w.heap.size, 39, none⟩ = some (.int .u32 ca) := H2.out.1 39 (by decide)
  have k40 : w2.cell? ⟨w.heap.size, 40, none⟩ = some (.int .u32 va) := H2.out.1 40 (by decide)
  have k41 : w2.cell? ⟨w.heap.size, 41, none⟩ = some (.int .u64 co) := H2.out.1 41 (by decide)
  have hne : ¬ w1.heap.size = w.heap.size := by have := H1.out.2.2; omega
  go_upto_region 3 with (fail)
  obtain ⟨rfl, rfl⟩ := E3.out
  have HF : HAt (((((((((w2.setCell ⟨w.heap.size, 34, none⟩ (.int .u32 t0)).setCell ⟨w.heap.size, 35, none⟩ (.int .u32 t1)).setCell ⟨w.heap.size, 36, none⟩ (.int .u32 t2)).setCell ⟨w.heap.size, 37, none⟩ (.int .u32 t3)).setCell ⟨w.heap.size, 38, none⟩ (.int .u32 t4)).setCell ⟨w.heap.size, 39, none⟩ (.int .u32 t5)).setCell ⟨w.heap.size, 40, none⟩ (.int .u32 t6)).setCell ⟨w.heap.size, 41, none⟩ (.int .u64 t7)).setCell ⟨w.heap.size, 0, none⟩ (.int .u32 tt)) w.heap.size ⟨tt, x', wt', ⟨t0, t1, t2, t3, t4, t5, t6, t7⟩⟩ := GAt.ext (GAt.set (GAt.set (GAt.set (GAt.set (GAt.set (GAt.set (GAt.set (GAt.set (GAt.set (H2.out) (k := 34) (by decide) (.int .u32 t0)) (k := 35) (by decide) (.int .u32 t1)) (k := 36) (by decide) (.int .u32 t2)) (k := 37) (by decide) (.int .u32 t3)) (k := 38) (by decide) (.int .u32 t4)) (k := 39) (by decide) (.int .u32 t5)) (k := 40) (by decide) (.int .u32 t6)) (k := 41) (by decide) (.int .u64 t7)) (k := 0) (by decide) (.int .u32 tt)) (get_ext rfl (fun j h1 h2 => by simp [HS.get, show j ≠ 0 by omega, show j ≠ 34 by omega, show j ≠ 35 by omega, show j ≠ 36 by omega, show j ≠ 37 by omega, show j ≠ 38 by omega, show j ≠ 39 by omega, show j ≠ 40 by omega, show j ≠ 41 by omega, h2]) ⟨rfl, rfl, rfl, rfl, rfl, rfl, rfl, rfl, rfl⟩)
  have RF : (((((((((w2.setCell ⟨w.heap.size, 34, none⟩ (.int .u32 t0)).setCell ⟨w.heap.size, 35, none⟩ (.int .u32 t1)).setCell ⟨w.heap.size, 36, none⟩ (.int .u32 t2)).setCell ⟨w.heap.size, 37, none⟩ (.int .u32 t3)).setCell ⟨w.heap.size, 38, none⟩ (.int .u32 t4)).setCell ⟨w.heap.size, 39, none⟩ (.int .u32 t5)).setCell ⟨w.heap.size, 40, none⟩ (.int .u32 t6)).setCell ⟨w.heap.size, 41, none⟩ (.int .u64 t7)).setCell ⟨w.heap.size, 0, none⟩ (.int .u32 tt)).heap[w.heap.size + 1]? = some (.cells Z42 65 (0, 0)) := row_set (row_set (row_set (row_set (row_set (row_set (row_set (row_set (row_set (R2.out) (by omega)) (by omega)) (by omega)) (by omega)) (by omega)) (by omega)) (by omega)) (by omega)) (by omega)
  have BF : Below w.heap.size w (((((((((w2.setCell ⟨w.heap.size, 34, none⟩ (.int .u32 t0)).setCell ⟨w.heap.size, 35, none⟩ (.int .u32 t1)).setCell ⟨w.heap.size, 36, none⟩ (.int .u32 t2)).setCell ⟨w.heap.size, 37, none⟩ (.int .u32 t3)).setCell ⟨w.heap.size, 38, none⟩ (.int .u32 t4)).setCell ⟨w.heap.size, 39, none⟩ (.int .u32 t5)).setCell ⟨w.heap.size, 40, none⟩ (.int .u32 t6)).setCell ⟨w.heap.size, 41, none⟩ (.int .u64 t7)).setCell ⟨w.heap.size, 0, none⟩ (.int .u32 tt)) := Below.setCell (p := ⟨w.heap.size, 0, none⟩) (Below.setCell (p := ⟨w.heap.size, 41, none⟩) (Below.setCell (p := ⟨w.heap.size, 40, none⟩) (Below.setCell (p := ⟨w.heap.size, 39, none⟩) (Below.setCell (p := ⟨w.heap.size, 38, none⟩) (Below.setCell (p := ⟨w.heap.size, 37, none⟩) (Below.setCell (p := ⟨w.heap.size, 36, none⟩) (Below.setCell (p := ⟨w.heap.size, 35, none⟩) (Below.setCell (p := ⟨w.heap.size, 34, none⟩) (B2.out) (Nat.le_refl _) (.int .u32 t0)) (Nat.le_refl _) (.int .u32 t1)) (Nat.le_refl _) (.int .u32 t2)) (Nat.le_refl _) (.int .u32 t3)) (Nat.le_refl _) (.int .u32 t4)) (Nat.le_refl _) (.int .u32 t5)) (Nat.le_refl _) (.int .u32 t6)) (Nat.le_refl _) (.int .u64 t7)) (Nat.le_refl _) (.int .u32 tt)
  generalize (((((((((w2.setCell ⟨w.heap.size, 34, none⟩ (.int .u32 t0)).setCell ⟨w.heap.size, 35, none⟩ (.int .u32 t1)).setCell ⟨w.heap.size, 36, none⟩ (.int .u32 t2)).setCell ⟨w.heap.size, 37, none⟩ (.int .u32 t3)).setCell ⟨w.heap.size, 38, none⟩ (.int .u32 t4)).setCell ⟨w.heap.size, 39, none⟩ (.int .u32 t5)).setCell ⟨w.heap.size, 40, none⟩ (.int .u32 t6)).setCell ⟨w.heap.size, 41, none⟩ (.int .u64 t7)).setCell ⟨w.heap.size, 0, none⟩ (.int .u32 tt)) = wf at HF RF BF ⊢
  have hrg := HF.range
  rw [← HZS.out] at hrg
  clear d0 d1 d2 d3 d4 d5 d6 d7 df cf k0 k34 k35 k36 k37 k38 k39 k40 k41
  refine wp_region_lit ?_
  refine wpList_load_mid rfl 65 _ rfl w.heap.size 0 rfl zs _ hrg Tryd.underlying65 rfl (by rw [HL.out]; kernel_rfl) ?_
  try simp only [Act.put, List.setIfInBounds_toArray, List.set_cons_zero, List.set_cons_succ]
  refine Go.wpList_store_rowTo rfl 65 _ _ rfl rfl (w.heap.size + 1) zs.toArray rfl rfl _ _ RF (by rw [HZ.out]; kernel_rfl) (by rw [HZ.out]; rfl) HO.out ?_
  try simp only [Act.put, List.setIfInBounds_toArray, List.set_cons_zero, List.set_cons_succ]
  have F1 := Lib.hid (setRow_heap _ _ _ zs.toArray _ _ RF)
  have FB := Lib.hid (below_setRow BF (by omega : w.heap.size ≤ w.heap.size + 1) zs.toArray)
  clear HF RF BF hrg
  go_wp2
  refine bodyPost_ret (results_cell_row (p := 6) (ty := 65) (by kernel_rfl) _ _ (w.heap.size + 1) _ _ _ _ rfl F1.out Tryd.underlying65 rfl (by rw [HZ.out]; kernel_rfl)) rfl ⟨rfl, FB.out⟩

theorem belowDK {B : Nat} {a w : World} (h : Below B a w) (n : Nat) : Below B a (w.drewN n) := h.trans ⟨rfl, rfl, rfl, Nat.le_refl _, fun _ _ => rfl⟩
theorem row_setOwnK {w : World} {b i : Nat} {cs : Array Value} {T : TypeId} {fr : Nat × Nat} (hb : w.heap[b]? = some (.cells cs T fr)) (v : Value) :
    (w.setCell ⟨b, i, none⟩ v).heap[b]? = some (.cells (cs.setIfInBounds i v) T fr) := by
  simp [World.setCell, Array.getElem?_modify, hb]

def orA (y3 y7 y11 : Bool) : Nat → Bool
  | 0 => false
  | 1 => y3
  | 2 => y3 || y7
  | _ => y3 || y7 || y11
def anyB (h : HS) (ln : Nat) : Bool := (ln.testBit 3 && h.c.enable.testBit 3) || (ln.testBit 7 && h.c.enable.testBit 7) || (ln.testBit 11 && h.c.enable.testBit 11)
set_option maxHeartbeats 8000000 in
theorem rbegin_n (h : HS) (hk : h.ok) (ln : Nat) (hl : ln < 4294967296) (hw : h.wait = true) (hx : anyB h ln = false) (w : World) : Calls Tryd.prog 34 #[.agg h.cells.toArray, .int .u32 ln] w fun e w' => e = .returned (.tuple #[.agg (h).cells.toArray, .bool false]) ∧ Below w.heap.size w w' := by
  have key : ∀ (v : Nat) (_ : v < 4294967296) (i : Nat) (_ : i < 32) (w : World), Calls Tryd.prog 46 #[.int .u32 v, .int .i64 i] w fun e w' => e = .returned (.int .i64 ((v.testBit i).toNat : Nat)) ∧ w' = w :=
    fun v hv i hi w => (bit_any v hv i w).mono fun e w' h => ⟨by rw [h.1, bit_val v hv i hi], h.2.symm⟩
  have L3 : ∀ w : World, Calls Tryd.prog 46 #[.int .u32 ln, .int .i64 3] w fun e w' => e = .returned (.int .i64 ((ln.testBit 3).toNat : Nat)) ∧ w' = w := fun w => key ln hl 3 (by omega) w
  have L7 : ∀ w : World, Calls Tryd.prog 46 #[.int .u32 ln, .int .i64 7] w fun e w' => e = .returned (.int .i64 ((ln.testBit 7).toNat : Nat)) ∧ w' = w := fun w => key ln hl 7 (by omega) w
  have L11 : ∀ w : World, Calls Tryd.prog 46 #[.int .u32 ln, .int .i64 11] w fun e w' => e = .returned (.int .i64 ((ln.testBit 11).toNat : Nat)) ∧ w' = w := fun w => key ln hl 11 (by omega) w
  have E3 : ∀ w : World, Calls Tryd.prog 46 #[.int .u32 h.c.enable, .int .i64 3] w fun e w' => e = .returned (.int .i64 ((h.c.enable.testBit 3).toNat : Nat)) ∧ w' = w := fun w => key h.c.enable hk.c.enable 3 (by omega) w
  have E7 : ∀ w : World, Calls Tryd.prog 46 #[.int .u32 h.c.enable, .int .i64 7] w fun e w' => e = .returned (.int .i64 ((h.c.enable.testBit 7).toNat : Nat)) ∧ w' = w := fun w => key h.c.enable hk.c.enable 7 (by omega) w
  have E11 : ∀ w : World, Calls Tryd.prog 46 #[.int .u32 h.c.enable, .int .i64 11] w fun e w' => e = .returned (.int .i64 ((h.c.enable.testBit 11).toNat : Nat)) ∧ w' = w := fun w => key h.c.enable hk.c.enable 11 (by omega) w
  clear key
  obtain ⟨y3, hy3⟩ : ∃ y, (ln.testBit 3 && h.c.enable.testBit 3) = y := ⟨_, rfl⟩
  obtain ⟨y7, hy7⟩ : ∃ y, (ln.testBit 7 && h.c.enable.testBit 7) = y := ⟨_, rfl⟩
  obtain ⟨y11, hy11⟩ : ∃ y, (ln.testBit 11 && h.c.enable.testBit 11) = y := ⟨_, rfl⟩
  unfold anyB at hx
  rw [hy3, hy7, hy11] at hx
  generalize ln.testBit 3 = l3 at *
  generalize h.c.enable.testBit 3 = e3 at *
  generalize ln.testBit 7 = l7 at *
  generalize h.c.enable.testBit 7 = e7 at *
  generalize ln.testBit 11 = l11 at *
  generalize h.c.enable.testBit 11 = e11 at *
  have HL3 := Lib.hid L3
  have HE3 := Lib.hid E3
  have B3 := Lib.hid hy3
  have HL7 := Lib.hid L7
  have HE7 := Lib.hid E7
  have B7 := Lib.hid hy7
  have HL11 := Lib.hid L11
  have HE11 := Lib.hid E11
  have B11 := Lib.hid hy11
  clear L3 L7 L11 E3 E7 E11 hy3 hy7 hy11
  have hlen := HS.len h
  have hsz := hs_size h
  have hone := hs_one h
  obtain ⟨zs, hzs⟩ : ∃ zs, zs = (h).cells := ⟨_, rfl⟩
  have HZS := Lib.hid hzs
  rw [← hzs] at hlen hsz hone ⊢
  have HL := Lib.hid hlen
  have HZ := Lib.hid hsz
  have HO := Lib.hid hone
  clear hlen hsz hone hzs
  obtain ⟨cs, hcs⟩ : ∃ cs, cs = zs.toArray := ⟨_, rfl⟩
  have HC : Hid (cs = h.cells.toArray) := Lib.hid (by rw [hcs, HZS.out])
  rw [← hcs]
  have HCZ := Lib.hid hcs
  clear hcs
  have hcz : cs.size = 42 := by rw [HC.out]; exact hs_size h
  have HCS := Lib.hid hcz
  clear hcz hk
  go_enter Tryd.func34, Tryd.ntmps34
  go_upto_region 1 with (fail)
  generalize hW : World.alloc (World.alloc w _) _ = W
  have r0 : W.heap[w.heap.size]? = some (.cells cs 65 (0, 0)) := by rw [← hW]; exact heap_alloc2_old w _ _
  have r1 : W.heap[w.heap.size + 1]? = some (.cells Z42 65 (0, 0)) := by rw [← hW]; exact heap_alloc2_new w _ _
  have bw : Below w.heap.size w W := by rw [← hW]; exact ((Below.refl _ w).alloc (Nat.le_refl _) _).alloc (by simp) _
  clear hW
  have QR0 := Lib.hid r0
  have QR1 := Lib.hid r1
  have QBW := Lib.hid bw
  clear r0 r1 bw
  go_upto_region 3 with (fail)
  have R0 := Lib.hid (row_alloc QR0.out (.cells #[.int .i64 3, .int .i64 7, .int .i64 11] 3))
  have R1 := Lib.hid (row_alloc QR1.out (.cells #[.int .i64 3, .int .i64 7, .int .i64 11] 3))
  have BW := Lib.hid (QBW.out.alloc QBW.out.size (.cells #[.int .i64 3, .int .i64 7, .int .i64 11] 3))
  have nb := heap_alloc_new W (.cells #[.int .i64 3, .int .i64 7, .int .i64 11] 3)
  generalize W.alloc (.cells #[.int .i64 3, .int .i64 7, .int .i64 11] 3) = W3 at *
  have s0 : W3.cell? ⟨W.heap.size, 0, none⟩ = some (.int .i64 3) := cell_of_row _ _ _ _ _ _ nb
  have s1 : W3.cell? ⟨W.heap.size, 1, none⟩ = some (.int .i64 7) := cell_of_row _ _ _ _ _ _ nb
  have s2 : W3.cell? ⟨W.heap.size, 2, none⟩ = some (.int .i64 11) := cell_of_row _ _ _ _ _ _ nb
  have H0 := HAt.of_row (h := h) (r := []) (by rw [List.append_nil, ← HC.out]; exact R0.out)
  have c35 : W3.cell? ⟨w.heap.size, 35, none⟩ = some (.int .u32 h.c.enable) := H0.1 35 (by decide)
  have HH := Lib.hid H0
  clear H0 nb QR0 QR1 QBW
  go_upto_region 4 with (fail)
  go_loopw [6, 8] (fun a i wr => ∃ k m : Nat, k ≤ 3 ∧ i = .int .i64 k ∧ a = .bool (orA y3 y7 y11 k) ∧ wr = W3.drewN m) (fun _ i _ => 3 - (intOf i).toNat)
  case atStart => exact ⟨0, 0, by omega, rfl, rfl, rfl⟩
  case round =>
    obtain ⟨k, m, hk, rfl, rfl, rfl⟩ := hrel
    have hk4 : k = 0 ∨ k = 1 ∨ k = 2 ∨ k = 3 := by omega
    rcases hk4 with rfl | rfl | rfl | rfl
    · cases l3 <;> cases e3
      all_goals
        simp only [orA, Bool.or_true, Bool.true_or, Bool.or_false, Bool.false_or]
        go_wp2
        go_quiet ((first | (go_at_call 46; with_reducible exact quiet_add_same (HL3.out _)) | (go_at_call 46; with_reducible exact quiet_add_same (HE3.out _)) | (go_at_call 46; with_reducible exact quiet_add_same (HL7.out _)) | (go_at_call 46; with_reducible exact quiet_add_same (HE7.out _)) | (go_at_call 46; with_reducible exact quiet_add_same (HL11.out _)) | (go_at_call 46; with_reducible exact quiet_add_same (HE11.out _))))
        go_wp2
        go_roundw
        case rel => exact ⟨1, _, by omega, rfl, by (try rw [← B3.out]); rfl, rfl⟩
        case measure => simp [intOf]
    · cases y3 <;> cases l7 <;> cases e7
      all_goals
        simp only [orA, Bool.or_true, Bool.true_or, Bool.or_false, Bool.false_or]
        go_wp2
        go_quiet ((first | (go_at_call 46; with_reducible exact quiet_add_same (HL3.out _)) | (go_at_call 46; with_reducible exact quiet_add_same (HE3.out _)) | (go_at_call 46; with_reducible exact quiet_add_same (HL7.out _)) | (go_at_call 46; with_reducible exact quiet_add_same (HE7.out _)) | (go_at_call 46; with_reducible exact quiet_add_same (HL11.out _)) | (go_at_call 46; with_reducible exact quiet_add_same (HE11.out _))))
        go_wp2
        go_roundw
        case rel => exact ⟨2, _, by omega, rfl, by (try rw [← B7.out]); rfl, rfl⟩
        case measure => simp [intOf]
    · cases y3 <;> cases y7 <;> cases l11 <;> cases e11
      all_goals
        simp only [orA, Bool.or_true, Bool.true_or, Bool.or_false, Bool.false_or]
        go_wp2
        go_quiet ((first | (go_at_call 46; with_reducible exact quiet_add_same (HL3.out _)) | (go_at_call 46; with_reducible exact quiet_add_same (HE3.out _)) | (go_at_call 46; with_reducible exact quiet_add_same (HL7.out _)) | (go_at_call 46; with_reducible exact quiet_add_same (HE7.out _)) | (go_at_call 46; with_reducible exact quiet_add_same (HL11.out _)) | (go_at_call 46; with_reducible exact quiet_add_same (HE11.out _))))
        go_wp2
        go_roundw
        case rel => exact ⟨3, _, by omega, rfl, by (try rw [← B11.out]); rfl, rfl⟩
        case measure => simp [intOf]
    · obtain ⟨x, hxx⟩ : ∃ x, x = orA y3 y7 y11 3 := ⟨_, rfl⟩
      rw [← hxx]
      have hx3 : x = false := by rw [hxx]; exact hx
      subst hx3
      clear hxx s0 s1 s2 c35
      have HH4 := Lib.hid (HH.out.drew m)
      have R04 : Hid ((W3.drewN m).heap[w.heap.size]? = some (.cells cs 65 (0, 0))) := Lib.hid R0.out
      have R14 : Hid ((W3.drewN m).heap[w.heap.size + 1]? = some (.cells Z42 65 (0, 0))) := Lib.hid R1.out
      have B4 := Lib.hid (belowDK BW.out m)
      generalize W3.drewN m = W4 at *
      have c33 : W4.cell? ⟨w.heap.size, 33, none⟩ = some (.bool true) := by rw [← hw]; exact HH4.out.1 33 (by decide)
      have cf := HH4.out.fz
      go_upto_region 8 with (fail)
      refine wp_region_lit ?_
      refine wpList_load_row rfl 65 _ rfl w.heap.size rfl _ cs (0, 0) _ R04.out Tryd.underlying65 rfl (by rw [HCS.out]; kernel_rfl) ?_
      try simp only [Act.put, List.setIfInBounds_toArray, List.set_cons_zero, List.set_cons_succ]
      refine Go.wpList_store_rowTo rfl 65 _ _ rfl rfl (w.heap.size + 1) cs rfl rfl _ _ R14.out (by rw [HCS.out]; kernel_rfl) (by rw [HCS.out]; rfl) (by rw [HCZ.out]; exact HO.out) ?_
      try simp only [Act.put, List.setIfInBounds_toArray, List.set_cons_zero, List.set_cons_succ]
      have F1 := Lib.hid (setRow_heap _ _ _ (cs) _ _ R14.out)
      have FB := Lib.hid (below_setRow B4.out (by omega : w.heap.size ≤ w.heap.size + 1) (cs))
      clear c33 cf
      go_wp2
      refine bodyPost_ret (results_cell_tmp (p := 4) (q := 5) (t := 65) (by kernel_rfl) _ _ ⟨w.heap.size + 1, 0, none⟩ _ (.bool false) rfl rfl (run_loadVar_row _ _ _ _ _ _ _ F1.out Tryd.underlying65 rfl (by rw [HCS.out]; kernel_rfl))) rfl ⟨rfl, FB.out⟩

end Go.Proofs.YtoincdfijeipjaaDoor
