import Derived.Test.YtphlgaklfibciaaDoorHartO
import Derived.Below
import Derived.Deep.Draws
import Derived.Deep.AppendLies
import Derived.Maps.AppendAt
import Derived.OwnWalk
import Derived.Laws.BytesArg
import Derived.Laws.MakeOwn
import Derived.Laws.OwnMore
import Derived.Deep.OwnRows
import Derived.Tactics
import Derived.Lib.ConvBytes
import Derived.Laws.Slices
import Derived.WalkKit
import Derived.KernelRfl
import Derived.RowKit3
import Derived.Deep.LoopGhost
import Derived.Deep.QuietTactic
import Derived.BigQuiet
import Derived.WideLaws
import Derived.Deep.DeepCutAuto
import Derived.Deep.CutBlock
import Derived.Deep.RegionHeld3
import Derived.Laws.Rows
import Derived.Lib.AppendStr
import Derived.ArgAppend
import Derived.Laws.IdiomCopy
import Derived.OrdersHeld
import Derived.Laws.BitsLemmas
import Derived.RowKit
import Derived.Lib.Hide
import Derived.Laws.BitsAllLaws
import Derived.WalkLawsBesides
import Derived.WalkSpells
import Derived.LaidEql
namespace Go.Proofs.YtphlgaklfibciaaDoor
open Go.RowKit
set_option maxRecDepth 100000
set_option linter.unusedVariables false
set_option linter.unusedSimpArgs false

theorem row_setK {w : World} {c T k : Nat} {v : Value} {o : Obj} (h : w.heap[T]? = some o) (hc : T ≠ c) : (w.setCell ⟨c, k, none⟩ v).heap[T]? = some o := (heap_setCell_other _ _ _ _ hc).trans h
theorem results_cell_tmp {P : Program} {fn : Func} {p q : Tmp} {t : TypeId} (h : fn.results = #[.cell p t, .tmp q]) (tmps : Array Value) (w : World) (a1 : Addr) (v1 v2 : Value)
    (hp : tmps.getD p undef = .pointer (some a1)) (hq : tmps.getD q undef = v2) (h1 : (loadVar t a1).run P w = .ok v1 w) :
    (results fn tmps).run P w = .ok (.tuple #[v1, v2]) w := by
  have hp' : tmps[p]?.getD undef = .pointer (some a1) := by simpa using hp
  have hq' : tmps[q]?.getD undef = v2 := by simpa using hq
  simp [results, h, hp', hq', asAddr, h1]
/-- hart.Begin's hart -/
def beginH (h : HS) (ln : Nat) : HS := if asksS h.c ln = 0 then { h with wait := false } else trapH { h with wait := false } (asksS h.c ln) 0
def stayB (h : HS) (ln : Nat) : Bool := h.wait && decide (ln &&& h.c.enable &&& 2184 = 0)
set_option maxHeartbeats 8000000 in
theorem begin_no (h : HS) (hk : h.ok) (ln : Nat) (hl : ln < 4294967296) (hw : h.wait = true) (h0 : ln &&& h.c.enable &&& 2184 = 0) (w : World) : Calls Tryd.prog 13 #[.agg h.cells.toArray, .int .u32 ln] w fun e w' => e = .returned (.tuple #[.agg h.cells.toArray, .bool false]) ∧ Below w.heap.size w w' := by
  have e1 : Go.bits .and .u32 (ln : Int) (h.c.enable : Int) = ((ln &&& h.c.enable : Nat) : Int) := Go.u32_and_nat _ _ hl hk.c.enable
  have e2 : Go.bits .and .u32 ((ln &&& h.c.enable : Nat) : Int) 2184 = 0 := by
    rw [show (2184 : Int) = ((2184 : Nat) : Int) from rfl, Go.u32_and_nat _ _ (Nat.lt_of_le_of_lt Nat.and_le_left hl) (by decide), h0]; rfl
  obtain ⟨cs, hcs⟩ : ∃ cs, cs = h.cells.toArray := ⟨_, rfl⟩
  have HC := Lib.hid hcs
  have hsz := hs_size h
  have hone := hs_one h
  rw [← hcs] at hsz hone
  rw [← hcs]
  clear hcs hk
  go_enter Tryd.func13, Tryd.ntmps13
  go_upto_region 1 with (fail)
  generalize hW : World.alloc (World.alloc w _) _ = W
  have r0 : W.heap[w.heap.size]? = some (.cells cs 44 (0, 0)) := by rw [← hW]; exact heap_alloc2_old w _ _
  have r1 : W.heap[w.heap.size + 1]? = some (.cells Z42 44 (0, 0)) := by rw [← hW]; exact heap_alloc2_new w _ _
  have bw : Below w.heap.size w W := by rw [← hW]; exact ((Below.refl _ w).alloc (Nat.le_refl _) _).alloc (by simp) _
  have H0 := HAt.of_row (h := h) (r := []) (by rw [List.append_nil, ← HC.out]; exact r0)
  clear hW
  have c33 : W.cell? ⟨w.heap.size, 33, none⟩ = some (.bool true) := by rw [← hw]; exact H0.1 33 (by decide)
  have c35 : W.cell? ⟨w.heap.size, 35, none⟩ = some (.int .u32 h.c.enable) := H0.1 35 (by decide)
  have cf := H0.fz
  generalize h.c.enable = en at *
  have R0 := Lib.hid r0
  have R1 := Lib.hid r1
  have BW := Lib.hid bw
  have HZ := Lib.hid hsz
  have HO := Lib.hid hone
  clear r0 r1 bw H0 hsz hone hw
  go_upto_region 2 with (fail)
  refine wp_region_lit ?_
  refine wpList_load_row rfl 44 _ rfl w.heap.size rfl _ cs (0, 0) _ R0.out Tryd.underlying44 rfl (by rw [HZ.out]; kernel_rfl) ?_
  try simp only [Act.put, List.setIfInBounds_toArray, List.set_cons_zero, List.set_cons_succ]
  refine Go.wpList_store_rowTo rfl 44 _ _ rfl rfl (w.heap.size + 1) cs rfl rfl _ _ R1.out (by rw [HZ.out]; kernel_rfl) (by rw [HZ.out]; rfl) HO.out ?_
  try simp only [Act.put, List.setIfInBounds_toArray, List.set_cons_zero, List.set_cons_succ]
  have F1 := Lib.hid (setRow_heap _ _ _ cs _ _ R1.out)
  have FB := Lib.hid (below_setRow BW.out (by omega : w.heap.size ≤ w.heap.size + 1) cs)
  clear c33 c35 cf e1 e2
  go_wp2
  refine bodyPost_ret (results_cell_tmp (p := 4) (q := 5) (t := 44) (by kernel_rfl) _ _ ⟨w.heap.size + 1, 0, none⟩ _ (.bool false) rfl rfl (run_loadVar_row _ _ _ _ _ _ _ F1.out Tryd.underlying44 rfl (by rw [HZ.out]; kernel_rfl))) rfl ⟨rfl, FB.out⟩

theorem asksS_lt (s : St) (ln : Nat) : asksS s ln < 4294967296 := by
  unfold asksS
  split
  · split
    · decide
    · split
      · decide
      · split <;> decide
  · decide
theorem HAt.wait0 {w : World} {b : Nat} {h : HS} (H : HAt w b h) : HAt (w.setCell ⟨b, 33, none⟩ (.bool false)) b { h with wait := false } :=
  GAt.ext (GAt.set H (k := 33) (by decide) _) (get_ext rfl (fun j a b => by simp [HS.get, show j ≠ 0 by omega, show j ≠ 33 by omega, b]) ⟨rfl, rfl, rfl, rfl, rfl, rfl, rfl, rfl, rfl⟩)
set_option maxHeartbeats 8000000 in
theorem begin_wt (h : HS) (hk : h.ok) (ln : Nat) (hl : ln < 4294967296) (hw : h.wait = true) (h0 : ¬ ln &&& h.c.enable &&& 2184 = 0) (ha : ¬ asksS h.c ln = 0) (w : World) : Calls Tryd.prog 13 #[.agg h.cells.toArray, .int .u32 ln] w fun e w' => e = .returned (.tuple #[.agg (trapH { h with wait := false } (asksS h.c ln) 0).cells.toArray, .bool true]) ∧ Below w.heap.size w w' := by
  have e1 : Go.bits .and .u32 (ln : Int) (h.c.enable : Int) = ((ln &&& h.c.enable : Nat) : Int) := Go.u32_and_nat _ _ hl hk.c.enable
  obtain ⟨q, hq⟩ : ∃ q, q = ln &&& h.c.enable &&& 2184 := ⟨_, rfl⟩
  have e2 : Go.bits .and .u32 ((ln &&& h.c.enable : Nat) : Int) 2184 = (q : Int) := by
    rw [show (2184 : Int) = ((2184 : Nat) : Int) from rfl, Go.u32_and_nat _ _ (Nat.lt_of_le_of_lt Nat.and_le_left hl) (by decide), hq]
  have e3 : ((q : Int) == 0) = false := by rw [← hq] at h0; simpa using h0
  clear hq h0
  have AK := Lib.hid (fun w => asks_any h.c hk.c ln hl w)
  have hal := asksS_lt h.c ln
  obtain ⟨g, hg⟩ : ∃ g, g = ({ h with wait := false } : HS) := ⟨_, rfl⟩
  have hgk : g.ok := by rw [hg]; exact ⟨hk.pc, hk.x, hk.c⟩
  have TR := Lib.hid (fun b w H => htrap_any g hgk b (asksS h.c ln) 0 hal (by decide) w H)
  rw [← hg]
  generalize asksS h.c ln = ca at *
  have ha1 : ((ca : Int) != 0) = true := by simpa using ha
  generalize trapH g ca 0 = z at TR ⊢
  obtain ⟨cs, hcs⟩ : ∃ cs, cs = h.cells.toArray := ⟨_, rfl⟩
  have HC := Lib.hid hcs
  have HG := Lib.hid hg
  rw [← hcs]
  clear hcs hk hgk ha hg
  obtain ⟨zs, hzs⟩ : ∃ zs, zs = (z).cells := ⟨_, rfl⟩
  have HZS := Lib.hid hzs
  rw [← hzs]
  clear hzs
  go_enter Tryd.func13, Tryd.ntmps13
  go_upto_region 1 with (fail)
  generalize hW : World.alloc (World.alloc w _) _ = W
  have r0 : W.heap[w.heap.size]? = some (.cells cs 44 (0, 0)) := by rw [← hW]; exact heap_alloc2_old w _ _
  have r1 : W.heap[w.heap.size + 1]? = some (.cells Z42 44 (0, 0)) := by rw [← hW]; exact heap_alloc2_new w _ _
  have bw : Below w.heap.size w W := by rw [← hW]; exact ((Below.refl _ w).alloc (Nat.le_refl _) _).alloc (by simp) _
  have H0 := HAt.of_row (h := h) (r := []) (by rw [List.append_nil, ← HC.out]; exact r0)
  clear hW
  have c33 : W.cell? ⟨w.heap.size, 33, none⟩ = some (.bool true) := by rw [← hw]; exact H0.1 33 (by decide)
  have c34 : W.cell? ⟨w.heap.size, 34, none⟩ = some (.int .u32 h.c.status) := H0.1 34 (by decide)
  have c35 : W.cell? ⟨w.heap.size, 35, none⟩ = some (.int .u32 h.c.enable) := H0.1 35 (by decide)
  have c36 : W.cell? ⟨w.heap.size, 36, none⟩ = some (.int .u32 h.c.vector) := H0.1 36 (by decide)
  have c37 : W.cell? ⟨w.heap.size, 37, none⟩ = some (.int .u32 h.c.scratch) := H0.1 37 (by decide)
  have c38 : W.cell? ⟨w.heap.size, 38, none⟩ = some (.int .u32 h.c.epc) := H0.1 38 (by decide)
  have c39 : W.cell? ⟨w.heap.size, 39, none⟩ = some (.int .u32 h.c.cause) := H0.1 39 (by decide)
  have c40 : W.cell? ⟨w.heap.size, 40, none⟩ = some (.int .u32 h.c.value) := H0.1 40 (by decide)
  have c41 : W.cell? ⟨w.heap.size, 41, none⟩ = some (.int .u64 h.c.count) := H0.1 41 (by decide)
  have cf := H0.fz
  have H1 := Lib.hid (H0.wait0)
  rw [← HG.out] at H1
  have R1 : Hid ((W.setCell ⟨w.heap.size, 33, none⟩ (.bool false)).heap[w.heap.size + 1]? = some (.cells Z42 44 (0, 0))) := Lib.hid (row_setK r1 (by omega))
  have BW := Lib.hid (bw.setCell (p := ⟨w.heap.size, 33, none⟩) (Nat.le_refl _) (.bool false))
  clear r0 r1 bw H0 hw
  unfold St.v St.cells at AK
  generalize h.c.status = u0 at *
  generalize h.c.enable = u1 at *
  generalize h.c.vector = u2 at *
  generalize h.c.scratch = u3 at *
  generalize h.c.epc = u4 at *
  generalize h.c.cause = u5 at *
  generalize h.c.value = u6 at *
  generalize h.c.count = u7 at *
  go_upto_region 7 with (first | (go_at_call 31; refine (AK.out _).mono ?_; rintro e w1 ⟨rfl, hb1⟩; have HH1 := Lib.hid (H1.out.below hb1); have RR1 := Lib.hid ((hb1.block _ (heap_lt R1.out)).trans R1.out); have BB1 := Lib.hid (BW.out.trans (hb1.mono BW.out.size)); clear hb1 c33 c34 c35 c36 c37 c38 c39 c40 c41 cf) | (go_at_call 32; refine (TR.out _ _ HH1.out).mono ?_; rintro e w2 ⟨rfl, h2, o2⟩; have HF := Lib.hid h2; have RF := Lib.hid ((o2.over _ (by omega) (heap_lt RR1.out)).trans RR1.out); have BF := Lib.hid (BB1.out.trans (o2.below)); clear h2 o2))
  have hsz := hs_size z
  have hone := hs_one z
  have hrg := HF.out.range
  have hlen := HS.len z
  rw [← HZS.out] at hsz hone hrg hlen
  have HZ := Lib.hid hsz
  have HO := Lib.hid hone
  have HRG := Lib.hid hrg
  have HL := Lib.hid hlen
  clear hsz hone hrg hlen
  refine wp_region_lit ?_
  refine wpList_load_mid rfl 44 _ rfl w.heap.size 0 rfl zs _ HRG.out Tryd.underlying44 rfl (by rw [HL.out]; kernel_rfl) ?_
  try simp only [Act.put, List.setIfInBounds_toArray, List.set_cons_zero, List.set_cons_succ]
  refine Go.wpList_store_rowTo rfl 44 _ _ rfl rfl (w.heap.size + 1) zs.toArray rfl rfl _ _ RF.out (by rw [HZ.out]; kernel_rfl) (by rw [HZ.out]; rfl) HO.out ?_
  try simp only [Act.put, List.setIfInBounds_toArray, List.set_cons_zero, List.set_cons_succ]
  have F1 := Lib.hid (setRow_heap _ _ _ zs.toArray _ _ RF.out)
  have FB := Lib.hid (below_setRow BF.out (by omega : w.heap.size ≤ w.heap.size + 1) zs.toArray)
  go_wp2
  refine bodyPost_ret (results_cell_tmp (p := 4) (q := 5) (t := 44) (by kernel_rfl) _ _ ⟨w.heap.size + 1, 0, none⟩ _ (.bool true) rfl rfl (run_loadVar_row _ _ _ _ _ _ _ F1.out Tryd.underlying44 rfl (by rw [HZ.out]; kernel_rfl))) rfl ⟨rfl, FB.out⟩
set_option maxHeartbeats 8000000 in
theorem begin_wn (h : HS) (hk : h.ok) (ln : Nat) (hl : ln < 4294967296) (hw : h.wait = true) (h0 : ¬ ln &&& h.c.enable &&& 2184 = 0) (ha : asksS h.c ln = 0) (w : World) : Calls Tryd.prog 13 #[.agg h.cells.toArray, .int .u32 ln] w fun e w' => e = .returned (.tuple #[.agg (({ h with wait := false } : HS)).cells.toArray, .bool true]) ∧ Below w.heap.size w w' := by
  have e1 : Go.bits .and .u32 (ln : Int) (h.c.enable : Int) = ((ln &&& h.c.enable : Nat) : Int) := Go.u32_and_nat _ _ hl hk.c.enable
  obtain ⟨q, hq⟩ : ∃ q, q = ln &&& h.c.enable &&& 2184 := ⟨_, rfl⟩
  have e2 : Go.bits .and .u32 ((ln &&& h.c.enable : Nat) : Int) 2184 = (q : Int) := by
    rw [show (2184 : Int) = ((2184 : Nat) : Int) from rfl, Go.u32_and_nat _ _ (Nat.lt_of_le_of_lt Nat.and_le_left hl) (by decide), hq]
  have e3 : ((q : Int) == 0) = false := by rw [← hq] at h0; simpa using h0
  clear hq h0
  have AK := Lib.hid (fun w => asks_any h.c hk.c ln hl w)
  have hal := asksS_lt h.c ln
  obtain ⟨g, hg⟩ : ∃ g, g = ({ h with wait := false } : HS) := ⟨_, rfl⟩
  have hgk : g.ok := by rw [hg]; exact ⟨hk.pc, hk.x, hk.c⟩
  rw [← hg]
  rw [ha] at AK
  obtain ⟨cs, hcs⟩ : ∃ cs, cs = h.cells.toArray := ⟨_, rfl⟩
  have HC := Lib.hid hcs
  have HG := Lib.hid hg
  rw [← hcs]
  clear hcs hk hgk ha hg
  obtain ⟨zs, hzs⟩ : ∃ zs, zs = (g).cells := ⟨_, rfl⟩
  have HZS := Lib.hid hzs
  rw [← hzs]
  clear hzs
  go_enter Tryd.func13, Tryd.ntmps13
  go_upto_region 1 with (fail)
  generalize hW : World.alloc (World.alloc w _) _ = W
  have r0 : W.heap[w.heap.size]? = some (.cells cs 44 (0, 0)) := by rw [← hW]; exact heap_alloc2_old w _ _
  have r1 : W.heap[w.heap.size + 1]? = some (.cells Z42 44 (0, 0)) := by rw [← hW]; exact heap_alloc2_new w _ _
  have bw : Below w.heap.size w W := by rw [← hW]; exact ((Below.refl _ w).alloc (Nat.le_refl _) _).alloc (by simp) _
  have H0 := HAt.of_row (h := h) (r := []) (by rw [List.append_nil, ← HC.out]; exact r0)
  clear hW
  have c33 : W.cell? ⟨w.heap.size, 33, none⟩ = some (.bool true) := by rw [← hw]; exact H0.1 33 (by decide)
  have c34 : W.cell? ⟨w.heap.size, 34, none⟩ = some (.int .u32 h.c.status) := H0.1 34 (by decide)
  have c35 : W.cell? ⟨w.heap.size, 35, none⟩ = some (.int .u32 h.c.enable) := H0.1 35 (by decide)
  have c36 : W.cell? ⟨w.heap.size, 36, none⟩ = some (.int .u32 h.c.vector) := H0.1 36 (by decide)
  have c37 : W.cell? ⟨w.heap.size, 37, none⟩ = some (.int .u32 h.c.scratch) := H0.1 37 (by decide)
  have c38 : W.cell? ⟨w.heap.size, 38, none⟩ = some (.int .u32 h.c.epc) := H0.1 38 (by decide)
  have c39 : W.cell? ⟨w.heap.size, 39, none⟩ = some (.int .u32 h.c.cause) := H0.1 39 (by decide)
  have c40 : W.cell? ⟨w.heap.size, 40, none⟩ = some (.int .u32 h.c.value) := H0.1 40 (by decide)
  have c41 : W.cell? ⟨w.heap.size, 41, none⟩ = some (.int .u64 h.c.count) := H0.1 41 (by decide)
  have cf := H0.fz
  have H1 := Lib.hid (H0.wait0)
  rw [← HG.out] at H1
  have R1 : Hid ((W.setCell ⟨w.heap.size, 33, none⟩ (.bool false)).heap[w.heap.size + 1]? = some (.cells Z42 44 (0, 0))) := Lib.hid (row_setK r1 (by omega))
  have BW := Lib.hid (bw.setCell (p := ⟨w.heap.size, 33, none⟩) (Nat.le_refl _) (.bool false))
  clear r0 r1 bw H0 hw
  unfold St.v St.cells at AK
  generalize h.c.status = u0 at *
  generalize h.c.enable = u1 at *
  generalize h.c.vector = u2 at *
  generalize h.c.scratch = u3 at *
  generalize h.c.epc = u4 at *
  generalize h.c.cause = u5 at *
  generalize h.c.value = u6 at *
  generalize h.c.count = u7 at *
  go_upto_region 7 with (go_at_call 31; refine (AK.out _).mono ?_; rintro e w1 ⟨rfl, hb1⟩; have HH1 := Lib.hid (H1.out.below hb1); have RR1 := Lib.hid ((hb1.block _ (heap_lt R1.out)).trans R1.out); have BB1 := Lib.hid (BW.out.trans (hb1.mono BW.out.size)); clear hb1 c33 c34 c35 c36 c37 c38 c39 c40 c41 cf)
  have HF := HH1
  have RF := RR1
  have BF := BB1
  have hsz := hs_size g
  have hone := hs_one g
  have hrg := HF.out.range
  have hlen := HS.len g
  rw [← HZS.out] at hsz hone hrg hlen
  have HZ := Lib.hid hsz
  have HO := Lib.hid hone
  have HRG := Lib.hid hrg
  have HL := Lib.hid hlen
  clear hsz hone hrg hlen
  refine wp_region_lit ?_
  refine wpList_load_mid rfl 44 _ rfl w.heap.size 0 rfl zs _ HRG.out Tryd.underlying44 rfl (by rw [HL.out]; kernel_rfl) ?_
  try simp only [Act.put, List.setIfInBounds_toArray, List.set_cons_zero, List.set_cons_succ]
  refine Go.wpList_store_rowTo rfl 44 _ _ rfl rfl (w.heap.size + 1) zs.toArray rfl rfl _ _ RF.out (by rw [HZ.out]; kernel_rfl) (by rw [HZ.out]; rfl) HO.out ?_
  try simp only [Act.put, List.setIfInBounds_toArray, List.set_cons_zero, List.set_cons_succ]
  have F1 := Lib.hid (setRow_heap _ _ _ zs.toArray _ _ RF.out)
  have FB := Lib.hid (below_setRow BF.out (by omega : w.heap.size ≤ w.heap.size + 1) zs.toArray)
  go_wp2
  refine bodyPost_ret (results_cell_tmp (p := 4) (q := 5) (t := 44) (by kernel_rfl) _ _ ⟨w.heap.size + 1, 0, none⟩ _ (.bool true) rfl rfl (run_loadVar_row _ _ _ _ _ _ _ F1.out Tryd.underlying44 rfl (by rw [HZ.out]; kernel_rfl))) rfl ⟨rfl, FB.out⟩
set_option maxHeartbeats 8000000 in
theorem begin_rt (h : HS) (hk : h.ok) (ln : Nat) (hl : ln < 4294967296) (hw : h.wait = false) (ha : ¬ asksS h.c ln = 0) (w : World) : Calls Tryd.prog 13 #[.agg h.cells.toArray, .int .u32 ln] w fun e w' => e = .returned (.tuple #[.agg (trapH { h with wait := false } (asksS h.c ln) 0).cells.toArray, .bool true]) ∧ Below w.heap.size w w' := by
  have AK := Lib.hid (fun w => asks_any h.c hk.c ln hl w)
  have hal := asksS_lt h.c ln
  obtain ⟨g, hg⟩ : ∃ g, g = ({ h with wait := false } : HS) := ⟨_, rfl⟩
  have hgk : g.ok := by rw [hg]; exact ⟨hk.pc, hk.x, hk.c⟩
  have TR := Lib.hid (fun b w H => htrap_any g hgk b (asksS h.c ln) 0 hal (by decide) w H)
  rw [← hg]
  generalize asksS h.c ln = ca at *
  have ha1 : ((ca : Int) != 0) = true := by simpa using ha
  generalize trapH g ca 0 = z at TR ⊢
  obtain ⟨cs, hcs⟩ : ∃ cs, cs = h.cells.toArray := ⟨_, rfl⟩
  have HC := Lib.hid hcs
  have HG := Lib.hid hg
  rw [← hcs]
  clear hcs hk hgk ha hg
  obtain ⟨zs, hzs⟩ : ∃ zs, zs = (z).cells := ⟨_, rfl⟩
  have HZS := Lib.hid hzs
  rw [← hzs]
  clear hzs
  go_enter Tryd.func13, Tryd.ntmps13
  go_upto_region 1 with (fail)
  generalize hW : World.alloc (World.alloc w _) _ = W
  have r0 : W.heap[w.heap.size]? = some (.cells cs 44 (0, 0)) := by rw [← hW]; exact heap_alloc2_old w _ _
  have r1 : W.heap[w.heap.size + 1]? = some (.cells Z42 44 (0, 0)) := by rw [← hW]; exact heap_alloc2_new w _ _
  have bw : Below w.heap.size w W := by rw [← hW]; exact ((Below.refl _ w).alloc (Nat.le_refl _) _).alloc (by simp) _
  have H0 := HAt.of_row (h := h) (r := []) (by rw [List.append_nil, ← HC.out]; exact r0)
  clear hW
  have c33 : W.cell? ⟨w.heap.size, 33, none⟩ = some (.bool false) := by rw [← hw]; exact H0.1 33 (by decide)
  have c34 : W.cell? ⟨w.heap.size, 34, none⟩ = some (.int .u32 h.c.status) := H0.1 34 (by decide)
  have c35 : W.cell? ⟨w.heap.size, 35, none⟩ = some (.int .u32 h.c.enable) := H0.1 35 (by decide)
  have c36 : W.cell? ⟨w.heap.size, 36, none⟩ = some (.int .u32 h.c.vector) := H0.1 36 (by decide)
  have c37 : W.cell? ⟨w.heap.size, 37, none⟩ = some (.int .u32 h.c.scratch) := H0.1 37 (by decide)
  have c38 : W.cell? ⟨w.heap.size, 38, none⟩ = some (.int .u32 h.c.epc) := H0.1 38 (by decide)
  have c39 : W.cell? ⟨w.heap.size, 39, none⟩ = some (.int .u32 h.c.cause) := H0.1 39 (by decide)
  have c40 : W.cell? ⟨w.heap.size, 40, none⟩ = some (.int .u32 h.c.value) := H0.1 40 (by decide)
  have c41 : W.cell? ⟨w.heap.size, 41, none⟩ = some (.int .u64 h.c.count) := H0.1 41 (by decide)
  have cf := H0.fz
  have H1 := Lib.hid (H0.wait0)
  rw [← HG.out] at H1
  have R1 : Hid ((W.setCell ⟨w.heap.size, 33, none⟩ (.bool false)).heap[w.heap.size + 1]? = some (.cells Z42 44 (0, 0))) := Lib.hid (row_setK r1 (by omega))
  have BW := Lib.hid (bw.setCell (p := ⟨w.heap.size, 33, none⟩) (Nat.le_refl _) (.bool false))
  clear r0 r1 bw H0 hw
  unfold St.v St.cells at AK
  generalize h.c.status = u0 at *
  generalize h.c.enable = u1 at *
  generalize h.c.vector = u2 at *
  generalize h.c.scratch = u3 at *
  generalize h.c.epc = u4 at *
  generalize h.c.cause = u5 at *
  generalize h.c.value = u6 at *
  generalize h.c.count = u7 at *
  go_upto_region 7 with (first | (go_at_call 31; refine (AK.out _).mono ?_; rintro e w1 ⟨rfl, hb1⟩; have HH1 := Lib.hid (H1.out.below hb1); have RR1 := Lib.hid ((hb1.block _ (heap_lt R1.out)).trans R1.out); have BB1 := Lib.hid (BW.out.trans (hb1.mono BW.out.size)); clear hb1 c33 c34 c35 c36 c37 c38 c39 c40 c41 cf) | (go_at_call 32; refine (TR.out _ _ HH1.out).mono ?_; rintro e w2 ⟨rfl, h2, o2⟩; have HF := Lib.hid h2; have RF := Lib.hid ((o2.over _ (by omega) (heap_lt RR1.out)).trans RR1.out); have BF := Lib.hid (BB1.out.trans (o2.below)); clear h2 o2))
  have hsz := hs_size z
  have hone := hs_one z
  have hrg := HF.out.range
  have hlen := HS.len z
  rw [← HZS.out] at hsz hone hrg hlen
  have HZ := Lib.hid hsz
  have HO := Lib.hid hone
  have HRG := Lib.hid hrg
  have HL := Lib.hid hlen
  clear hsz hone hrg hlen
  refine wp_region_lit ?_
  refine wpList_load_mid rfl 44 _ rfl w.heap.size 0 rfl zs _ HRG.out Tryd.underlying44 rfl (by rw [HL.out]; kernel_rfl) ?_
  try simp only [Act.put, List.setIfInBounds_toArray, List.set_cons_zero, List.set_cons_succ]
  refine Go.wpList_store_rowTo rfl 44 _ _ rfl rfl (w.heap.size + 1) zs.toArray rfl rfl _ _ RF.out (by rw [HZ.out]; kernel_rfl) (by rw [HZ.out]; rfl) HO.out ?_
  try simp only [Act.put, List.setIfInBounds_toArray, List.set_cons_zero, List.set_cons_succ]
  have F1 := Lib.hid (setRow_heap _ _ _ zs.toArray _ _ RF.out)
  have FB := Lib.hid (below_setRow BF.out (by omega : w.heap.size ≤ w.heap.size + 1) zs.toArray)
  go_wp2
  refine bodyPost_ret (results_cell_tmp (p := 4) (q := 5) (t := 44) (by kernel_rfl) _ _ ⟨w.heap.size + 1, 0, none⟩ _ (.bool true) rfl rfl (run_loadVar_row _ _ _ _ _ _ _ F1.out Tryd.underlying44 rfl (by rw [HZ.out]; kernel_rfl))) rfl ⟨rfl, FB.out⟩
set_option maxHeartbeats 8000000 in
theorem begin_rn (h : HS) (hk : h.ok) (ln : Nat) (hl : ln < 4294967296) (hw : h.wait = false) (ha : asksS h.c ln = 0) (w : World) : Calls Tryd.prog 13 #[.agg h.cells.toArray, .int .u32 ln] w fun e w' => e = .returned (.tuple #[.agg (({ h with wait := false } : HS)).cells.toArray, .bool true]) ∧ Below w.heap.size w w' := by
  have AK := Lib.hid (fun w => asks_any h.c hk.c ln hl w)
  have hal := asksS_lt h.c ln
  obtain ⟨g, hg⟩ : ∃ g, g = ({ h with wait := false } : HS) := ⟨_, rfl⟩
  have hgk : g.ok := by rw [hg]; exact ⟨hk.pc, hk.x, hk.c⟩
  rw [← hg]
  rw [ha] at AK
  obtain ⟨cs, hcs⟩ : ∃ cs, cs = h.cells.toArray := ⟨_, rfl⟩
  have HC := Lib.hid hcs
  have HG := Lib.hid hg
  rw [← hcs]
  clear hcs hk hgk ha hg
  obtain ⟨zs, hzs⟩ : ∃ zs, zs = (g).cells := ⟨_, rfl⟩
  have HZS := Lib.hid hzs
  rw [← hzs]
  clear hzs
  go_enter Tryd.func13, Tryd.ntmps13
  go_upto_region 1 with (fail)
  generalize hW : World.alloc (World.alloc w _) _ = W
  have r0 : W.heap[w.heap.size]? = some (.cells cs 44 (0, 0)) := by rw [← hW]; exact heap_alloc2_old w _ _
  have r1 : W.heap[w.heap.size + 1]? = some (.cells Z42 44 (0, 0)) := by rw [← hW]; exact heap_alloc2_new w _ _
  have bw : Below w.heap.size w W := by rw [← hW]; exact ((Below.refl _ w).alloc (Nat.le_refl _) _).alloc (by simp) _
  have H0 := HAt.of_row (h := h) (r := []) (by rw [List.append_nil, ← HC.out]; exact r0)
  clear hW
  have c33 : W.cell? ⟨w.heap.size, 33, none⟩ = some (.bool false) := by rw [← hw]; exact H0.1 33 (by decide)
  have c34 : W.cell? ⟨w.heap.size, 34, none⟩ = some (.int .u32 h.c.status) := H0.1 34 (by decide)
  have c35 : W.cell? ⟨w.heap.size, 35, none⟩ = some (.int .u32 h.c.enable) := H0.1 35 (by decide)
  have c36 : W.cell? ⟨w.heap.size, 36, none⟩ = some (.int .u32 h.c.vector) := H0.1 36 (by decide)
  have c37 : W.cell? ⟨w.heap.size, 37, none⟩ = some (.int .u32 h.c.scratch) := H0.1 37 (by decide)
  have c38 : W.cell? ⟨w.heap.size, 38, none⟩ = some (.int .u32 h.c.epc) := H0.1 38 (by decide)
  have c39 : W.cell? ⟨w.heap.size, 39, none⟩ = some (.int .u32 h.c.cause) := H0.1 39 (by decide)
  have c40 : W.cell? ⟨w.heap.size, 40, none⟩ = some (.int .u32 h.c.value) := H0.1 40 (by decide)
  have c41 : W.cell? ⟨w.heap.size, 41, none⟩ = some (.int .u64 h.c.count) := H0.1 41 (by decide)
  have cf := H0.fz
  have H1 := Lib.hid (H0.wait0)
  rw [← HG.out] at H1
  have R1 : Hid ((W.setCell ⟨w.heap.size, 33, none⟩ (.bool false)).heap[w.heap.size + 1]? = some (.cells Z42 44 (0, 0))) := Lib.hid (row_setK r1 (by omega))
  have BW := Lib.hid (bw.setCell (p := ⟨w.heap.size, 33, none⟩) (Nat.le_refl _) (.bool false))
  clear r0 r1 bw H0 hw
  unfold St.v St.cells at AK
  generalize h.c.status = u0 at *
  generalize h.c.enable = u1 at *
  generalize h.c.vector = u2 at *
  generalize h.c.scratch = u3 at *
  generalize h.c.epc = u4 at *
  generalize h.c.cause = u5 at *
  generalize h.c.value = u6 at *
  generalize h.c.count = u7 at *
  go_upto_region 7 with (go_at_call 31; refine (AK.out _).mono ?_; rintro e w1 ⟨rfl, hb1⟩; have HH1 := Lib.hid (H1.out.below hb1); have RR1 := Lib.hid ((hb1.block _ (heap_lt R1.out)).trans R1.out); have BB1 := Lib.hid (BW.out.trans (hb1.mono BW.out.size)); clear hb1 c33 c34 c35 c36 c37 c38 c39 c40 c41 cf)
  have HF := HH1
  have RF := RR1
  have BF := BB1
  have hsz := hs_size g
  have hone := hs_one g
  have hrg := HF.out.range
  have hlen := HS.len g
  rw [← HZS.out] at hsz hone hrg hlen
  have HZ := Lib.hid hsz
  have HO := Lib.hid hone
  have HRG := Lib.hid hrg
  have HL := Lib.hid hlen
  clear hsz hone hrg hlen
  refine wp_region_lit ?_
  refine wpList_load_mid rfl 44 _ rfl w.heap.size 0 rfl zs _ HRG.out Tryd.underlying44 rfl (by rw [HL.out]; kernel_rfl) ?_
  try simp only [Act.put, List.setIfInBounds_toArray, List.set_cons_zero, List.set_cons_succ]
  refine Go.wpList_store_rowTo rfl 44 _ _ rfl rfl (w.heap.size + 1) zs.toArray rfl rfl _ _ RF.out (by rw [HZ.out]; kernel_rfl) (by rw [HZ.out]; rfl) HO.out ?_
  try simp only [Act.put, List.setIfInBounds_toArray, List.set_cons_zero, List.set_cons_succ]
  have F1 := Lib.hid (setRow_heap _ _ _ zs.toArray _ _ RF.out)
  have FB := Lib.hid (below_setRow BF.out (by omega : w.heap.size ≤ w.heap.size + 1) zs.toArray)
  go_wp2
  refine bodyPost_ret (results_cell_tmp (p := 4) (q := 5) (t := 44) (by kernel_rfl) _ _ ⟨w.heap.size + 1, 0, none⟩ _ (.bool true) rfl rfl (run_loadVar_row _ _ _ _ _ _ _ F1.out Tryd.underlying44 rfl (by rw [HZ.out]; kernel_rfl))) rfl ⟨rfl, FB.out⟩
theorem hbegin_no (h : HS) (hk : h.ok) (ln : Nat) (hl : ln < 4294967296) (hs : stayB h ln = true) (w : World) : Calls Tryd.prog 13 #[.agg h.cells.toArray, .int .u32 ln] w fun e w' => e = .returned (.tuple #[.agg h.cells.toArray, .bool false]) ∧ Below w.heap.size w w' := by
  unfold stayB at hs
  simp only [Bool.and_eq_true, decide_eq_true_eq] at hs
  exact begin_no h hk ln hl hs.1 hs.2 w
theorem hbegin_on (h : HS) (hk : h.ok) (ln : Nat) (hl : ln < 4294967296) (hs : stayB h ln = false) (w : World) : Calls Tryd.prog 13 #[.agg h.cells.toArray, .int .u32 ln] w fun e w' => e = .returned (.tuple #[.agg (beginH h ln).cells.toArray, .bool true]) ∧ Below w.heap.size w w' := by
  unfold stayB at hs
  unfold beginH
  by_cases hw : h.wait = true
  · have h0 : ¬ ln &&& h.c.enable &&& 2184 = 0 := fun e => by simp [hw, e] at hs
    by_cases ha : asksS h.c ln = 0
    · rw [if_pos ha]; exact begin_wn h hk ln hl hw h0 ha w
    · rw [if_neg ha]; exact begin_wt h hk ln hl hw h0 ha w
  · have hw' : h.wait = false := by simpa using hw
    by_cases ha : asksS h.c ln = 0
    · rw [if_pos ha]; exact begin_rn h hk ln hl hw' ha w
    · rw [if_neg ha]; exact begin_rt h hk ln hl hw' ha w

end Go.Proofs.YtphlgaklfibciaaDoor
