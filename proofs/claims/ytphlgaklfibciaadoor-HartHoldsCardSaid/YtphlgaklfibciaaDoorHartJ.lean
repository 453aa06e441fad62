import Derived.Test.YtphlgaklfibciaaDoorHartG
import Derived.Below
import Derived.Deep.Draws
import Derived.Deep.AppendLies
import Derived.Maps.AppendAt
import Derived.OwnWalk
import Derived.Laws.BytesArg
import Derived.Laws.MakeOwn
import Derived.Laws.OwnMore
import Derived.Deep.OwnRows
import Derived.Tactics
import Derived.Lib.ConvBytes
import Derived.Laws.Slices
import Derived.WalkKit
import Derived.KernelRfl
import Derived.RowKit3
import Derived.Deep.LoopGhost
import Derived.Deep.QuietTactic
import Derived.BigQuiet
import Derived.WideLaws
import Derived.Deep.DeepCutAuto
import Derived.Deep.CutBlock
import Derived.Deep.RegionHeld3
import Derived.Laws.Rows
import Derived.Lib.AppendStr
import Derived.ArgAppend
import Derived.Laws.IdiomCopy
import Derived.OrdersHeld
import Derived.Laws.BitsLemmas
import Derived.RowKit
import Derived.Lib.Hide
import Derived.Laws.BitsAllLaws
import Derived.WalkLawsBesides
import Derived.WalkSpells
import Derived.LaidEql
import Derived.Great.BuildSlice
import Derived.Great.Walk
import Derived.Deep.WholeRow
import Derived.Laws.CopyOwn
namespace Go.Proofs.YtphlgaklfibciaaDoor
open Go.RowKit
set_option maxRecDepth 100000
set_option linter.unusedVariables false
set_option linter.unusedSimpArgs false

theorem hs_size (h : HS) : h.cells.toArray.size = 42 := by simp [HS.len]
theorem hs_one (h : HS) : h.cells.toArray.all (·.oneCell') = true := by kernel_rfl
theorem st_info : (Tryd.prog.info? 44).map (·.size) = some 42 := by kernel_rfl
/-- the cells of a doer -/
def dcells (h : HS) (x ln : Nat) : List Value := h.cells ++ [.int .i64 0, .int .i64 0, .int .i64 0, .int .i64 0, .int .i64 0, .int .i64 0, .int .u32 x, .int .u32 ln, .bool false]
theorem built_d (h : HS) (x ln : Nat) : Tryd.prog.built 76 [(0, .agg h.cells.toArray), (2, .int .u32 x), (3, .int .u32 ln)] = some (dcells h x ln).toArray := by kernel_rfl
theorem d_info : (Tryd.prog.info? 76).map (·.size) = some 51 := by kernel_rfl
theorem d_size (h : HS) (x ln : Nat) : (dcells h x ln).toArray.size = 51 := by simp [dcells, HS.len]
theorem d_one (h : HS) (x ln : Nat) : (dcells h x ln).toArray.all (·.oneCell') = true := by kernel_rfl
theorem HAt.of_row {w : World} {b : Nat} {h : HS} {r : List Value} {t : TypeId} (hr : w.heap[b]? = some (.cells (h.cells ++ r).toArray t (0, 0))) : HAt w b h :=
  ⟨fun j hj => by rw [cell_of_row _ _ _ _ _ _ hr]; rw [List.getElem?_toArray, List.getElem?_append_left (by rw [h.len]; exact hj), h.at hj], fun j => frozen_of_row _ _ _ _ _ hr, heap_lt hr⟩
theorem DI.of_row {w : World} {b : Nat} {h : HS} {x ln : Nat} {t : TypeId} (hr : w.heap[b]? = some (.cells (dcells h x ln).toArray t (0, 0))) : DI w b 0 0 0 0 0 0 x ln false := by
  have k : ∀ j, w.cell? ⟨b, 42 + j, none⟩ = ([.int .i64 0, .int .i64 0, .int .i64 0, .int .i64 0, .int .i64 0, .int .i64 0, .int .u32 x, .int .u32 ln, .bool false] : List Value)[j]? := fun j => by
    rw [cell_of_row _ _ _ _ _ _ hr, List.getElem?_toArray]
    unfold dcells
    rw [List.getElem?_append_right (by rw [h.len]; omega), h.len, show 42 + j - 42 = j by omega]
  exact ⟨k 0, k 1, k 2, k 3, k 4, k 5, k 6, k 7, k 8⟩
theorem results_cell2 {P : Program} {fn : Func} {p q : Tmp} {t u : TypeId} (h : fn.results = #[.cell p t, .cell q u]) (tmps : Array Value) (w : World) (a1 a2 : Addr) (v1 v2 : Value)
    (hp : tmps.getD p undef = .pointer (some a1)) (hq : tmps.getD q undef = .pointer (some a2)) (h1 : (loadVar t a1).run P w = .ok v1 w) (h2 : (loadVar u a2).run P w = .ok v2 w) :
    (results fn tmps).run P w = .ok (.tuple #[v1, v2]) w := by
  have hp' : tmps[p]?.getD undef = .pointer (some a1) := by simpa using hp
  have hq' : tmps[q]?.getD undef = .pointer (some a2) := by simpa using hq
  simp [results, h, hp', hq', asAddr, h1, h2]
theorem setRow_row {w : World} {g k : Nat} {cs : Array Value} {o : Obj} (h : w.heap[k]? = some o) (hk : k ≠ g) : (w.setRow g cs).heap[k]? = some o := (setRow_other w g k cs hk).trans h
theorem HAt.setRow {w : World} {b : Nat} {h : HS} (H : HAt w b h) {g : Nat} (hg : b ≠ g) (cs : Array Value) : HAt (w.setRow g cs) b h := by
  have e := setRow_other w g b cs hg
  refine ⟨fun j hj => (World.cell?_of_block (a := ⟨b, j, none⟩) e).trans (H.1 j hj), fun j => (World.frozen?_of_block (a := ⟨b, j, none⟩) e).trans (H.2.1 j), by rw [size_setRow]; exact H.2.2⟩
/-- what holds while the results are laid -/
def DoS (w0 : World) (b A : Nat) (s : HS) (acc : Array Value) (w : World) : Prop :=
  HAt w b s ∧ w.heap[A]? = some (.cells acc 50 (0, 0)) ∧ (∃ c : Array Value, w.heap[w0.heap.size + 1]? = some (.cells c 44 (0, 0)) ∧ c.size = 42) ∧ (∃ c : Array Value, w.heap[w0.heap.size + 1 + 1]? = some (.cells c 50 (0, 0)) ∧ c.size = 6) ∧ Below w0.heap.size w0 w
theorem DoS.set1 {w0 w : World} {b A : Nat} {s : HS} {acc : Array Value} (h : DoS w0 b A s acc w) (hb : w0.heap.size + 1 < b) (hA : w0.heap.size + 1 < A) (cs : Array Value) (hc : cs.size = 42) : DoS w0 b A s acc (w.setRow (w0.heap.size + 1) cs) := by
  obtain ⟨h1, h2, ⟨c, h3, h3'⟩, ⟨d, h4, h4'⟩, h5⟩ := h
  exact ⟨h1.setRow (by omega) _, setRow_row h2 (by omega), ⟨cs, setRow_heap _ _ _ _ _ _ h3, hc⟩, ⟨d, setRow_row h4 (by omega), h4'⟩, below_setRow h5 (by omega) _⟩
theorem DoS.set2 {w0 w : World} {b A : Nat} {s : HS} {acc : Array Value} (h : DoS w0 b A s acc w) (hb : w0.heap.size + 1 + 1 < b) (hA : w0.heap.size + 1 + 1 < A) (cs : Array Value) (hc : cs.size = 6) : DoS w0 b A s acc (w.setRow (w0.heap.size + 1 + 1) cs) := by
  obtain ⟨h1, h2, ⟨c, h3, h3'⟩, ⟨d, h4, h4'⟩, h5⟩ := h
  exact ⟨h1.setRow (by omega) _, setRow_row h2 (by omega), ⟨c, setRow_row h3 (by omega), h3'⟩, ⟨cs, setRow_heap _ _ _ _ _ _ h4, hc⟩, below_setRow h5 (by omega) _⟩
theorem range_row {w : World} {g : Nat} {cs : Array Value} {t : TypeId} {fr : Nat × Nat} (h : w.heap[g]? = some (.cells cs t fr)) : w.rangeAt g 0 cs.toList := fun j v hv => by
  rw [Nat.zero_add, cell_of_row _ _ _ _ _ _ h]; simpa using hv
theorem DI.put6 {w : World} {b o0 d0 a0 b0 : Nat} {i0 c0 : Int} {ww ln : Nat} {gone : Bool} (D : DI w b o0 d0 a0 b0 i0 c0 ww ln gone) (op rd r1 r2 : Nat) (imm cs : Int) :
    DI ((((((w.setCell ⟨b, 42, none⟩ (.int .i64 op)).setCell ⟨b, 43, none⟩ (.int .i64 rd)).setCell ⟨b, 44, none⟩ (.int .i64 r1)).setCell ⟨b, 45, none⟩ (.int .i64 r2)).setCell ⟨b, 46, none⟩ (.int .i64 imm)).setCell ⟨b, 47, none⟩ (.int .i64 cs)) b op rd r1 r2 imm cs ww ln gone := by
  have q : ∀ (w : World) (j k : Nat) (u v : Value), j ≠ k → w.cell? ⟨b, j, none⟩ = some u → (w.setCell ⟨b, k, none⟩ v).cell? ⟨b, j, none⟩ = some u := fun w j k u v hj h => by
    rw [World.cell?_setCell_other _ _ _ _ (fun e => hj (by cases e; rfl))]; exact h
  have s : ∀ (w : World) (j : Nat) (u v : Value), w.cell? ⟨b, j, none⟩ = some u → (w.setCell ⟨b, j, none⟩ v).cell? ⟨b, j, none⟩ = some v := fun w j u v h => World.cell?_setCell_same _ _ _ h
  have D1 := D
  obtain ⟨e0, e1, e2, e3, e4, e5, e6, e7, e8⟩ := D
  refine ⟨?_, ?_, ?_, ?_, ?_, ?_, ?_, ?_, ?_⟩
  · exact q _ _ _ _ _ (by decide) (q _ _ _ _ _ (by decide) (q _ _ _ _ _ (by decide) (q _ _ _ _ _ (by decide) (q _ _ _ _ _ (by decide) (s _ _ _ _ e0)))))
  · exact q _ _ _ _ _ (by decide) (q _ _ _ _ _ (by decide) (q _ _ _ _ _ (by decide) (q _ _ _ _ _ (by decide) (s _ _ _ _ (q _ _ _ _ _ (by decide) e1)))))
  · exact q _ _ _ _ _ (by decide) (q _ _ _ _ _ (by decide) (q _ _ _ _ _ (by decide) (s _ _ _ _ (q _ _ _ _ _ (by decide) (q _ _ _ _ _ (by decide) e2)))))
  · exact q _ _ _ _ _ (by decide) (q _ _ _ _ _ (by decide) (s _ _ _ _ (q _ _ _ _ _ (by decide) (q _ _ _ _ _ (by decide) (q _ _ _ _ _ (by decide) e3)))))
  · exact q _ _ _ _ _ (by decide) (s _ _ _ _ (q _ _ _ _ _ (by decide) (q _ _ _ _ _ (by decide) (q _ _ _ _ _ (by decide) (q _ _ _ _ _ (by decide) e4)))))
  · exact s _ _ _ _ (q _ _ _ _ _ (by decide) (q _ _ _ _ _ (by decide) (q _ _ _ _ _ (by decide) (q _ _ _ _ _ (by decide) (q _ _ _ _ _ (by decide) e5)))))
  · exact q _ _ _ _ _ (by decide) (q _ _ _ _ _ (by decide) (q _ _ _ _ _ (by decide) (q _ _ _ _ _ (by decide) (q _ _ _ _ _ (by decide) (q _ _ _ _ _ (by decide) e6)))))
  · exact q _ _ _ _ _ (by decide) (q _ _ _ _ _ (by decide) (q _ _ _ _ _ (by decide) (q _ _ _ _ _ (by decide) (q _ _ _ _ _ (by decide) (q _ _ _ _ _ (by decide) e7)))))
  · exact q _ _ _ _ _ (by decide) (q _ _ _ _ _ (by decide) (q _ _ _ _ _ (by decide) (q _ _ _ _ _ (by decide) (q _ _ _ _ _ (by decide) (q _ _ _ _ _ (by decide) e8)))))

set_option maxHeartbeats 8000000 in
theorem do_bad (h : HS) (hk : h.ok) (x ln : Nat) (hx : x < 4294967296) (DE : Hid (∀ w : World, TabW w → Calls Tryd.prog 6 #[.int .u32 x] w fun e w' => e = .returned (.tuple #[.agg #[.int .i64 0, .int .i64 0, .int .i64 0, .int .i64 0, .int .i64 0, .int .i64 0], errV 3]) ∧ Below w.heap.size w w')) (w : World) (hT : TabW w) :
    Calls Tryd.prog 14 #[.agg h.cells.toArray, .int .u32 x, .int .u32 ln] w fun e w' => e = .returned (.tuple #[.agg (trapH h 2 x).cells.toArray, .agg acc0]) ∧ Below w.heap.size w w' := by
  have hE : errV 3 = .iface 64 (.int .i64 3) := rfl
  rw [hE] at DE
  clear hE
  have TR := Lib.hid (fun b w H D => dtrap_any h hk b 2 x (by decide) hx (op := 0) (rd := 0) (r1 := 0) (r2 := 0) (imm := 0) (cs := 0) (ww := x) (ln := ln) (gone := false) w H D)
  generalize trapH h 2 x = s at TR ⊢
  obtain ⟨cs, hcs⟩ : ∃ cs, cs = h.cells.toArray := ⟨_, rfl⟩
  have HC := Lib.hid hcs
  rw [← hcs]
  have HT := Lib.hid hT
  obtain ⟨ds, hds⟩ : ∃ ds, ds = (dcells h x ln).toArray := ⟨_, rfl⟩
  have HD := Lib.hid hds
  have BD : Hid (Tryd.prog.built 76 [(0, .agg cs), (2, .int .u32 x), (3, .int .u32 ln)] = some ds) := Lib.hid (by rw [hcs, hds]; exact built_d h x ln)
  clear hcs hT hk hds
  go_enter Tryd.func14, Tryd.ntmps14
  go_upto_region 1 with (fail)
  generalize hW : World.alloc (World.alloc (World.alloc w _) _) _ = W
  have R0 : Hid (W.heap[w.heap.size]? = some (.cells cs 44 (0, 0))) := Lib.hid (by rw [← hW]; exact row_alloc (row_alloc (heap_alloc_new w _) _) _)
  have R1 : Hid (W.heap[w.heap.size + 1]? = some (.cells #[.int .u32 0, .int .u32 0, .int .u32 0, .int .u32 0, .int .u32 0, .int .u32 0, .int .u32 0, .int .u32 0, .int .u32 0, .int .u32 0, .int .u32 0, .int .u32 0, .int .u32 0, .int .u32 0, .int .u32 0, .int .u32 0, .int .u32 0, .int .u32 0, .int .u32 0, .int .u32 0, .int .u32 0, .int .u32 0, .int .u32 0, .int .u32 0, .int .u32 0, .int .u32 0, .int .u32 0, .int .u32 0, .int .u32 0, .int .u32 0, .int .u32 0, .int .u32 0, .int .u32 0, .bool false, .int .u32 0, .int .u32 0, .int .u32 0, .int .u32 0, .int .u32 0, .int .u32 0, .int .u32 0, .int .u64 0] 44 (0, 0))) := Lib.hid (by rw [← hW]; exact row_alloc (heap_alloc2_new w _ _) _)
  have R2 : Hid (W.heap[w.heap.size + 1 + 1]? = some (.cells acc0 50 (0, 0))) := Lib.hid (by rw [← hW]; have hz := heap_alloc_new ((w.alloc (.cells cs 44)).alloc (.cells #[.int .u32 0, .int .u32 0, .int .u32 0, .int .u32 0, .int .u32 0, .int .u32 0, .int .u32 0, .int .u32 0, .int .u32 0, .int .u32 0, .int .u32 0, .int .u32 0, .int .u32 0, .int .u32 0, .int .u32 0, .int .u32 0, .int .u32 0, .int .u32 0, .int .u32 0, .int .u32 0, .int .u32 0, .int .u32 0, .int .u32 0, .int .u32 0, .int .u32 0, .int .u32 0, .int .u32 0, .int .u32 0, .int .u32 0, .int .u32 0, .int .u32 0, .int .u32 0, .int .u32 0, .bool false, .int .u32 0, .int .u32 0, .int .u32 0, .int .u32 0, .int .u32 0, .int .u32 0, .int .u32 0, .int .u64 0] 44)) (.cells acc0 50); simp only [World.size_alloc] at hz; exact hz)
  have BW : Hid (Below w.heap.size w W) := Lib.hid (by rw [← hW]; exact (((Below.refl _ w).alloc (Nat.le_refl _) _).alloc (by simp) _).alloc (by simp; omega) _)
  have hl2 := heap_lt R2.out
  clear hW
  obtain ⟨b, hb0⟩ : ∃ b, b = W.heap.size := ⟨_, rfl⟩
  have HB0 := Lib.hid hb0
  refine wp_region_lit ?_
  refine wpList_load_row rfl 44 _ rfl w.heap.size rfl _ cs (0, 0) _ R0.out Tryd.underlying44 rfl (by rw [HC.out, hs_size]; kernel_rfl) ?_
  refine Go.Great.wpList_runTo rfl (some 13) rfl (.int .u32 x) _ rfl ?_
  refine Go.Great.wpList_runTo rfl (some 14) rfl (.int .u32 ln) _ rfl ?_
  refine Go.wpList_buildTo rfl 76 _ rfl (some 15) rfl ds (Eq.trans (b := Tryd.prog.built 76 [(0, .agg cs), (2, .int .u32 x), (3, .int .u32 ln)]) (by kernel_rfl) BD.out) ?_
  refine Go.Great.wpList_allocTo rfl (some 8) rfl _ (.cells #[.int .u32 0, .int .u32 0, .int .u32 0, .int .u32 0, .int .u32 0, .int .u32 0, .int .u32 0, .int .u32 0, .int .u32 0, .int .u32 0, .int .u32 0, .int .u32 0, .int .u32 0, .int .u32 0, .int .u32 0, .int .u32 0, .int .u32 0, .int .u32 0, .int .u32 0, .int .u32 0, .int .u32 0, .int .u32 0, .int .u32 0, .int .u32 0, .int .u32 0, .int .u32 0, .int .u32 0, .int .u32 0, .int .u32 0, .int .u32 0, .int .u32 0, .int .u32 0, .int .u32 0, .bool false, .int .u32 0, .int .u32 0, .int .u32 0, .int .u32 0, .int .u32 0, .int .u32 0, .int .u32 0, .int .u64 0, .int .i64 0, .int .i64 0, .int .i64 0, .int .i64 0, .int .i64 0, .int .i64 0, .int .u32 0, .int .u32 0, .bool false] 76) rfl ?_
  refine wpList_store_row rfl 76 _ _ rfl _ ds rfl rfl _ _ (heap_alloc_new _ _) (by rw [HD.out, d_size]; kernel_rfl) (by rw [HD.out, d_size]; rfl) (by rw [HD.out]; exact d_one h x ln) ?_
  rw [World.setRow_alloc_new]
  simp only [Act.put, List.setIfInBounds_toArray, List.set_cons_zero, List.set_cons_succ]
  have BWd : Below w.heap.size w (W.alloc (.cells ds 76)) := BW.out.alloc BW.out.size _
  have TD := Lib.hid (HT.out.below BWd)
  have BD1 := Lib.hid BWd
  clear BWd
  go_upto_region 5 with (first | (go_at_call 6; refine (DE.out _ TD.out).mono ?_; rintro e w1 ⟨rfl, hb1⟩; have rd := (hb1.block W.heap.size (by simp)).trans (heap_alloc_new W _); have RD := Lib.hid rd; have rr1 := (hb1.block _ (by simp; omega)).trans (row_alloc R1.out _); have rr2 := (hb1.block _ (by simp; omega)).trans (row_alloc R2.out _); have RR1 := Lib.hid rr1; have RR2 := Lib.hid rr2; have BW1 := Lib.hid (BD1.out.trans (hb1.mono BD1.out.size)); have hl3 := heap_lt rd; clear hb1 rd rr1 rr2) | (go_at_call 33; refine (TR.out _ _ (HAt.allocK (HAt.of_row (by rw [← dcells, ← HD.out]; exact RD.out)) _) (DI.allocK (DI.of_row (by rw [← HD.out]; exact RD.out)) hl3 _)).mono ?_; rintro e w2 ⟨rfl, h2, _, o2⟩; have H2 := Lib.hid h2; have O2 := Lib.hid o2; clear h2 o2))
  have r21 := (O2.out.below.block _ (by omega)).trans (row_alloc RR1.out _)
  have r22 := (O2.out.below.block _ (by omega)).trans (row_alloc RR2.out _)
  refine wp_region_lit ?_
  refine Go.Great.wpList_runTo rfl (some 25) rfl (.pointer (some ⟨W.heap.size, 0, none⟩)) w2 (by kernel_rfl) ?_
  refine wpList_load_mid rfl 44 _ rfl W.heap.size 0 rfl s.cells _ H2.out.range Tryd.underlying44 rfl (by rw [HS.len]; kernel_rfl) ?_
  refine Go.wpList_buildTo rfl 50 _ rfl (some 27) rfl acc0 (by kernel_rfl) ?_
  refine Go.wpList_store_rowTo rfl 44 _ _ rfl rfl (w.heap.size + 1) s.cells.toArray rfl rfl _ _ r21 (by rw [hs_size]; kernel_rfl) (by rw [hs_size]; rfl) (hs_one s) ?_
  refine Go.wpList_store_rowTo rfl 50 _ _ rfl rfl (w.heap.size + 1 + 1) acc0 rfl rfl _ _ (setRow_row r22 (by omega)) (by kernel_rfl) rfl (by kernel_rfl) ?_
  simp only [Act.put, List.setIfInBounds_toArray, List.set_cons_zero, List.set_cons_succ]
  have f1 := setRow_row (g := w.heap.size + 1 + 1) (cs := acc0) (setRow_heap _ _ _ s.cells.toArray _ _ r21) (by omega)
  have f2 := setRow_heap _ _ _ acc0 _ _ (setRow_row (g := w.heap.size + 1) (cs := s.cells.toArray) r22 (by omega))
  have fb : Below w.heap.size w ((w2.setRow (w.heap.size + 1) s.cells.toArray).setRow (w.heap.size + 1 + 1) acc0) := below_setRow (below_setRow ((BW1.out.alloc (by omega) _).trans (O2.out.below.mono (by omega))) (by omega) _) (by omega) _
  go_wp2
  exact bodyPost_ret (results_cell2 (p := 6) (q := 7) (t := 44) (u := 50) (by kernel_rfl) _ _ ⟨w.heap.size + 1, 0, none⟩ ⟨w.heap.size + 1 + 1, 0, none⟩ _ _ rfl rfl (run_loadVar_row _ _ _ _ _ _ _ f1 Tryd.underlying44 rfl (by rw [hs_size]; kernel_rfl)) (run_loadVar_row _ _ _ _ _ _ _ f2 Tryd.underlying50 rfl (by kernel_rfl))) rfl ⟨rfl, fb⟩
set_option maxHeartbeats 8000000 in
theorem do_gone (h : HS) (hk : h.ok) (x ln : Nat) {op rd r1 r2 : Nat} {imm cs : Int} (DE : Hid (∀ w : World, TabW w → Calls Tryd.prog 6 #[.int .u32 x] w fun e w' => e = .returned (.tuple #[.agg #[.int .i64 op, .int .i64 rd, .int .i64 r1, .int .i64 r2, .int .i64 imm, .int .i64 cs], .nilIface]) ∧ Below w.heap.size w w')) (s : HS) {a0 : Int} {a1 : Nat} {a2 : Int} {a3 : Bool} {a4 : Int} {a5 : Nat}
    (ON : Hid (∀ (b : Nat) (w : World), HAt w b h → DI w b op rd r1 r2 imm cs x ln false → Calls Tryd.prog 34 #[.pointer (some ⟨b, 0, none⟩)] w fun e w' => e = .returned (.agg #[.int .i64 a0, .int .u32 a1, .int .i64 a2, .bool a3, .int .i64 a4, .int .u32 a5]) ∧ HAt w' b s ∧ DI w' b op rd r1 r2 imm cs x ln true ∧ OnlyD b w w')) (w : World) (hT : TabW w) :
    Calls Tryd.prog 14 #[.agg h.cells.toArray, .int .u32 x, .int .u32 ln] w fun e w' => e = .returned (.tuple #[.agg (s).cells.toArray, .agg #[.int .i64 a0, .int .u32 a1, .int .i64 a2, .bool a3, .int .i64 a4, .int .u32 a5]]) ∧ Below w.heap.size w w' := by
  generalize hcsi : cs = cq at *
  clear hcsi
  obtain ⟨cs, hcs⟩ : ∃ cs, cs = h.cells.toArray := ⟨_, rfl⟩
  have HC := Lib.hid hcs
  rw [← hcs]
  have HT := Lib.hid hT
  obtain ⟨ds, hds⟩ : ∃ ds, ds = (dcells h x ln).toArray := ⟨_, rfl⟩
  have HD := Lib.hid hds
  have BD : Hid (Tryd.prog.built 76 [(0, .agg cs), (2, .int .u32 x), (3, .int .u32 ln)] = some ds) := Lib.hid (by rw [hcs, hds]; exact built_d h x ln)
  clear hcs hT hk hds
  go_enter Tryd.func14, Tryd.ntmps14
  go_upto_region 1 with (fail)
  generalize hW : World.alloc (World.alloc (World.alloc w _) _) _ = W
  have R0 : Hid (W.heap[w.heap.size]? = some (.cells cs 44 (0, 0))) := Lib.hid (by rw [← hW]; exact row_alloc (row_alloc (heap_alloc_new w _) _) _)
  have R1 : Hid (W.heap[w.heap.size + 1]? = some (.cells #[.int .u32 0, .int .u32 0, .int .u32 0, .int .u32 0, .int .u32 0, .int .u32 0, .int .u32 0, .int .u32 0, .int .u32 0, .int .u32 0, .int .u32 0, .int .u32 0, .int .u32 0, .int .u32 0, .int .u32 0, .int .u32 0, .int .u32 0, .int .u32 0, .int .u32 0, .int .u32 0, .int .u32 0, .int .u32 0, .int .u32 0, .int .u32 0, .int .u32 0, .int .u32 0, .int .u32 0, .int .u32 0, .int .u32 0, .int .u32 0, .int .u32 0, .int .u32 0, .int .u32 0, .bool false, .int .u32 0, .int .u32 0, .int .u32 0, .int .u32 0, .int .u32 0, .int .u32 0, .int .u32 0, .int .u64 0] 44 (0, 0))) := Lib.hid (by rw [← hW]; exact row_alloc (heap_alloc2_new w _ _) _)
  have R2 : Hid (W.heap[w.heap.size + 1 + 1]? = some (.cells acc0 50 (0, 0))) := Lib.hid (by rw [← hW]; have hz := heap_alloc_new ((w.alloc (.cells cs 44)).alloc (.cells #[.int .u32 0, .int .u32 0, .int .u32 0, .int .u32 0, .int .u32 0, .int .u32 0, .int .u32 0, .int .u32 0, .int .u32 0, .int .u32 0, .int .u32 0, .int .u32 0, .int .u32 0, .int .u32 0, .int .u32 0, .int .u32 0, .int .u32 0, .int .u32 0, .int .u32 0, .int .u32 0, .int .u32 0, .int .u32 0, .int .u32 0, .int .u32 0, .int .u32 0, .int .u32 0, .int .u32 0, .int .u32 0, .int .u32 0, .int .u32 0, .int .u32 0, .int .u32 0, .int .u32 0, .bool false, .int .u32 0, .int .u32 0, .int .u32 0, .int .u32 0, .int .u32 0, .int .u32 0, .int .u32 0, .int .u64 0] 44)) (.cells acc0 50); simp only [World.size_alloc] at hz; exact hz)
  have BW : Hid (Below w.heap.size w W) := Lib.hid (by rw [← hW]; exact (((Below.refl _ w).alloc (Nat.le_refl _) _).alloc (by simp) _).alloc (by simp; omega) _)
  have hl2 := heap_lt R2.out
  clear hW
  obtain ⟨b, hb0⟩ : ∃ b, b = W.heap.size := ⟨_, rfl⟩
  have HB0 := Lib.hid hb0
  refine wp_region_lit ?_
  refine wpList_load_row rfl 44 _ rfl w.heap.size rfl _ cs (0, 0) _ R0.out Tryd.underlying44 rfl (by rw [HC.out, hs_size]; kernel_rfl) ?_
  refine Go.Great.wpList_runTo rfl (some 13) rfl (.int .u32 x) _ rfl ?_
  refine Go.Great.wpList_runTo rfl (some 14) rfl (.int .u32 ln) _ rfl ?_
  refine Go.wpList_buildTo rfl 76 _ rfl (some 15) rfl ds (Eq.trans (b := Tryd.prog.built 76 [(0, .agg cs), (2, .int .u32 x), (3, .int .u32 ln)]) (by kernel_rfl) BD.out) ?_
  refine Go.Great.wpList_allocTo rfl (some 8) rfl _ (.cells #[.int .u32 0, .int .u32 0, .int .u32 0, .int .u32 0, .int .u32 0, .int .u32 0, .int .u32 0, .int .u32 0, .int .u32 0, .int .u32 0, .int .u32 0, .int .u32 0, .int .u32 0, .int .u32 0, .int .u32 0, .int .u32 0, .int .u32 0, .int .u32 0, .int .u32 0, .int .u32 0, .int .u32 0, .int .u32 0, .int .u32 0, .int .u32 0, .int .u32 0, .int .u32 0, .int .u32 0, .int .u32 0, .int .u32 0, .int .u32 0, .int .u32 0, .int .u32 0, .int .u32 0, .bool false, .int .u32 0, .int .u32 0, .int .u32 0, .int .u32 0, .int .u32 0, .int .u32 0, .int .u32 0, .int .u64 0, .int .i64 0, .int .i64 0, .int .i64 0, .int .i64 0, .int .i64 0, .int .i64 0, .int .u32 0, .int .u32 0, .bool false] 76) rfl ?_
  refine wpList_store_row rfl 76 _ _ rfl _ ds rfl rfl _ _ (heap_alloc_new _ _) (by rw [HD.out, d_size]; kernel_rfl) (by rw [HD.out, d_size]; rfl) (by rw [HD.out]; exact d_one h x ln) ?_
  rw [World.setRow_alloc_new]
  simp only [Act.put, List.setIfInBounds_toArray, List.set_cons_zero, List.set_cons_succ]
  have BWd : Below w.heap.size w (W.alloc (.cells ds 76)) := BW.out.alloc BW.out.size _
  have TD := Lib.hid (HT.out.below BWd)
  have BD1 := Lib.hid BWd
  clear BWd
  go_upto_region 10 with (first | (go_at_call 6; refine (DE.out _ TD.out).mono ?_; rintro e w1 ⟨rfl, hb1⟩; have rd := (hb1.block W.heap.size (by simp)).trans (heap_alloc_new W _); have RD := Lib.hid rd; have rr1 := (hb1.block _ (by simp; omega)).trans (row_alloc R1.out _); have rr2 := (hb1.block _ (by simp; omega)).trans (row_alloc R2.out _); have RR1 := Lib.hid rr1; have RR2 := Lib.hid rr2; have BW1 := Lib.hid (BD1.out.trans (hb1.mono BD1.out.size)); have hl3 := heap_lt rd; have di : DI w1 W.heap.size 0 0 0 0 0 0 x ln false := DI.of_row (by rw [← HD.out]; exact rd); have g42 := di.op; have g43 := di.rd; have g44 := di.r1; have g45 := di.r2; have g46 := di.imm; have g47 := di.cs; have ha : HAt w1 W.heap.size h := HAt.of_row (by rw [← dcells, ← HD.out]; exact rd); have gf := ha.fz; have HA := Lib.hid ha; have DA := Lib.hid di; clear hb1 rd rr1 rr2 di ha) | (go_at_call 34; refine (ON.out _ _ (HAt.allocK (HAt.setTail (HAt.setTail (HAt.setTail (HAt.setTail (HAt.setTail (HAt.setTail HA.out (by decide) _) (by decide) _) (by decide) _) (by decide) _) (by decide) _) (by decide) _) _) (DI.allocK (DI.put6 DA.out op rd r1 r2 imm cq) (by simpa using hl3) _)).mono ?_; rintro e w2 ⟨rfl, h2, d2, o2⟩; have q2 : OnlyD W.heap.size w1 w2 := OnlyD.trans (OnlyD.allocK (OnlyD.set (OnlyD.set (OnlyD.set (OnlyD.set (OnlyD.set (OnlyD.set (OnlyD.refl W.heap.size w1) 42 _) 43 _) 44 _) 45 _) 46 _) 47 _) hl3 _) o2; have r21 := (q2.below.block _ (by omega)).trans RR1.out; have r22 := (q2.below.block _ (by omega)).trans RR2.out; have R21 := Lib.hid r21; have R22 := Lib.hid r22; have B2 := Lib.hid (BW1.out.trans (q2.below.mono (by omega))); have c50 := d2.gone; have c0 := h2.pc_; have hl4 := h2.2.2; have H2 := Lib.hid h2; clear h2 d2 o2 q2 r21 r22 g42 g43 g44 g45 g46 g47 gf))
  have S0 : DoS w W.heap.size w2.heap.size s #[.int .i64 a0, .int .u32 a1, .int .i64 a2, .bool a3, .int .i64 a4, .int .u32 a5] (w2.alloc (.cells #[.int .i64 a0, .int .u32 a1, .int .i64 a2, .bool a3, .int .i64 a4, .int .u32 a5] 50)).drew := by
    refine ⟨(H2.out.allocK _).drew1, heap_alloc_new w2 _, ⟨_, row_alloc R21.out _, by rfl⟩, ⟨acc0, row_alloc R22.out _, by rfl⟩, Below.drew (B2.out.alloc B2.out.size _)⟩
  have HS0 := Lib.hid S0
  clear S0
  refine wp_region_held_drew (S := DoS w W.heap.size w2.heap.size s #[.int .i64 a0, .int .u32 a1, .int .i64 a2, .bool a3, .int .i64 a4, .int .u32 a5]) (by kernel_rfl) HS0.out (fun hHeld => ?_)
  refine wpAnyH_take (i := 0) (v := ?_) rfl (by kernel_rfl) (by kernel_rfl) (by kernel_rfl) (fun _ _ _ h => h) (Or.inl ⟨by rfl, ?_⟩) (by assumption) ?_
  rotate_left
  · (intro w hSw; go_simp; try with_reducible rfl)
  simp only [Act.put, List.getElem_toArray, List.getElem_cons_zero, List.getElem_cons_succ, List.setIfInBounds_toArray, List.set_cons_zero, List.set_cons_succ]
  refine wpAnyH_take (i := 1) (v := .agg s.cells.toArray) rfl (by kernel_rfl) (by kernel_rfl) (by kernel_rfl) (fun _ _ _ h => h) ?_ (by assumption) ?_
  · exact yieldsIf_load_mid (by rfl) 44 _ rfl W.heap.size 0 rfl s.cells _ (fun w hw => hw.1.range) Tryd.underlying44 rfl (by rw [HS.len]; kernel_rfl)
  simp only [Act.put, List.getElem_toArray, List.getElem_cons_zero, List.getElem_cons_succ, List.setIfInBounds_toArray, List.set_cons_zero, List.set_cons_succ]
  refine wpAnyH_take (i := 2) (v := .agg #[.int .i64 a0, .int .u32 a1, .int .i64 a2, .bool a3, .int .i64 a4, .int .u32 a5]) rfl (by kernel_rfl) (by kernel_rfl) (by kernel_rfl) (fun _ _ _ h => h) ?_ (by assumption) ?_
  · exact yieldsIf_load_mid (by rfl) 50 _ rfl w2.heap.size 0 rfl (#[.int .i64 a0, .int .u32 a1, .int .i64 a2, .bool a3, .int .i64 a4, .int .u32 a5] : Array Value).toList _ (fun w hw => range_row hw.2.1) Tryd.underlying50 rfl (by kernel_rfl)
  simp only [Act.put, List.getElem_toArray, List.getElem_cons_zero, List.getElem_cons_succ, List.setIfInBounds_toArray, List.set_cons_zero, List.set_cons_succ]
  have S1 := hHeld
  obtain ⟨c, hc, hcz⟩ := S1.2.2.1
  obtain ⟨d, hd, hdz⟩ := S1.2.2.2.1
  refine wpAnyH_ready (rs := [3]) (by kernel_rfl) (by simp) ?_
  refine AllReadyH.cons rfl (fun K hK => ?_) AllReadyH.nil
  · refine wp_store_row 44 _ _ rfl (w.heap.size + 1) s.cells.toArray rfl rfl _ _ hc (by rw [hs_size]; kernel_rfl) (by rw [hs_size]; exact hcz) (hs_one s) ?_
    refine hK.out _ _ (DoS.set1 S1 (by omega) (by omega) _ (hs_size _)) (fun hHeld2 => ?_)
    simp only [Act.put, List.getElem_toArray, List.getElem_cons_zero, List.getElem_cons_succ, List.setIfInBounds_toArray, List.set_cons_zero, List.set_cons_succ]
    obtain ⟨c2, hc2, hcz2⟩ := hHeld2.2.2.1
    obtain ⟨d2, hd2, hdz2⟩ := hHeld2.2.2.2.1
    refine wpAnyH_ready (rs := [4]) (by kernel_rfl) (by simp) ?_
    refine AllReadyH.cons rfl (fun K2 hK2 => ?_) AllReadyH.nil
    refine wp_store_row 50 _ _ rfl (w.heap.size + 1 + 1) #[.int .i64 a0, .int .u32 a1, .int .i64 a2, .bool a3, .int .i64 a4, .int .u32 a5] rfl rfl _ _ hd2 (by kernel_rfl) (by rw [hdz2]; rfl) (by kernel_rfl) ?_
    refine hK2.out _ _ (DoS.set2 hHeld2 (by omega) (by omega) _ rfl) (fun hHeld3 => ?_)
    simp only [Act.put, List.getElem_toArray, List.getElem_cons_zero, List.getElem_cons_succ, List.setIfInBounds_toArray, List.set_cons_zero, List.set_cons_succ]
    refine wpAnyH_done (by kernel_rfl) ?_ _
    have f1 := setRow_row (g := w.heap.size + 1 + 1) (cs := #[.int .i64 a0, .int .u32 a1, .int .i64 a2, .bool a3, .int .i64 a4, .int .u32 a5]) (setRow_heap _ _ _ s.cells.toArray _ _ hc) (by omega)
    have f2 := setRow_heap _ _ _ #[.int .i64 a0, .int .u32 a1, .int .i64 a2, .bool a3, .int .i64 a4, .int .u32 a5] _ _ (setRow_row (g := w.heap.size + 1) (cs := s.cells.toArray) hd (by omega))
    have fb := hHeld3.2.2.2.2
    have F1 := Lib.hid f1
    have F2 := Lib.hid f2
    have FB := Lib.hid fb
    clear f1 f2 fb hc hd hc2 hd2 hcz hdz hcz2 hdz2
    go_wp2
    exact bodyPost_ret (results_cell2 (p := 6) (q := 7) (t := 44) (u := 50) (by kernel_rfl) _ _ ⟨w.heap.size + 1, 0, none⟩ ⟨w.heap.size + 1 + 1, 0, none⟩ _ _ rfl rfl (run_loadVar_row _ _ _ _ _ _ _ F1.out Tryd.underlying44 rfl (by rw [hs_size]; kernel_rfl)) (run_loadVar_row _ _ _ _ _ _ _ F2.out Tryd.underlying50 rfl (by kernel_rfl))) rfl ⟨rfl, FB.out⟩
set_option maxHeartbeats 8000000 in
theorem do_on (h : HS) (hk : h.ok) (x ln : Nat) {op rd r1 r2 : Nat} {imm cs : Int} (DE : Hid (∀ w : World, TabW w → Calls Tryd.prog 6 #[.int .u32 x] w fun e w' => e = .returned (.tuple #[.agg #[.int .i64 op, .int .i64 rd, .int .i64 r1, .int .i64 r2, .int .i64 imm, .int .i64 cs], .nilIface]) ∧ Below w.heap.size w w')) (s : HS) (hks : s.ok) {a0 : Int} {a1 : Nat} {a2 : Int} {a3 : Bool} {a4 : Int} {a5 : Nat}
    (ON : Hid (∀ (b : Nat) (w : World), HAt w b h → DI w b op rd r1 r2 imm cs x ln false → Calls Tryd.prog 34 #[.pointer (some ⟨b, 0, none⟩)] w fun e w' => e = .returned (.agg #[.int .i64 a0, .int .u32 a1, .int .i64 a2, .bool a3, .int .i64 a4, .int .u32 a5]) ∧ HAt w' b s ∧ DI w' b op rd r1 r2 imm cs x ln false ∧ OnlyD b w w')) (w : World) (hT : TabW w) :
    Calls Tryd.prog 14 #[.agg h.cells.toArray, .int .u32 x, .int .u32 ln] w fun e w' => e = .returned (.tuple #[.agg (toH s ((s.pc + 4) % 4294967296)).cells.toArray, .agg #[.int .i64 a0, .int .u32 a1, .int .i64 a2, .bool a3, .int .i64 a4, .int .u32 a5]]) ∧ Below w.heap.size w w' := by
  generalize hcsi : cs = cq at *
  clear hcsi
  have hpc := hks.pc
  have e1 : ((s.pc : Int) + 4) % 4294967296 = (((s.pc + 4) % 4294967296 : Nat) : Int) := by omega
  obtain ⟨nx, hnx⟩ : ∃ nx, nx = (s.pc + 4) % 4294967296 := ⟨_, rfl⟩
  have hnl : nx < 4294967296 := by omega
  rw [← hnx] at e1 ⊢
  have TO := Lib.hid (fun b w H => hto_any s hks b nx hnl w H)
  generalize toH s nx = z at TO ⊢
  clear hnx hks
  obtain ⟨cs, hcs⟩ : ∃ cs, cs = h.cells.toArray := ⟨_, rfl⟩
  have HC := Lib.hid hcs
  rw [← hcs]
  have HT := Lib.hid hT
  obtain ⟨ds, hds⟩ : ∃ ds, ds = (dcells h x ln).toArray := ⟨_, rfl⟩
  have HD := Lib.hid hds
  have BD : Hid (Tryd.prog.built 76 [(0, .agg cs), (2, .int .u32 x), (3, .int .u32 ln)] = some ds) := Lib.hid (by rw [hcs, hds]; exact built_d h x ln)
  clear hcs hT hk hds
  go_enter Tryd.func14, Tryd.ntmps14
  go_upto_region 1 with (fail)
  generalize hW : World.alloc (World.alloc (World.alloc w _) _) _ = W
  have R0 : Hid (W.heap[w.heap.size]? = some (.cells cs 44 (0, 0))) := Lib.hid (by rw [← hW]; exact row_alloc (row_alloc (heap_alloc_new w _) _) _)
  have R1 : Hid (W.heap[w.heap.size + 1]? = some (.cells #[.int .u32 0, .int .u32 0, .int .u32 0, .int .u32 0, .int .u32 0, .int .u32 0, .int .u32 0, .int .u32 0, .int .u32 0, .int .u32 0, .int .u32 0, .int .u32 0, .int .u32 0, .int .u32 0, .int .u32 0, .int .u32 0, .int .u32 0, .int .u32 0, .int .u32 0, .int .u32 0, .int .u32 0, .int .u32 0, .int .u32 0, .int .u32 0, .int .u32 0, .int .u32 0, .int .u32 0, .int .u32 0, .int .u32 0, .int .u32 0, .int .u32 0, .int .u32 0, .int .u32 0, .bool false, .int .u32 0, .int .u32 0, .int .u32 0, .int .u32 0, .int .u32 0, .int .u32 0, .int .u32 0, .int .u64 0] 44 (0, 0))) := Lib.hid (by rw [← hW]; exact row_alloc (heap_alloc2_new w _ _) _)
  have R2 : Hid (W.heap[w.heap.size + 1 + 1]? = some (.cells acc0 50 (0, 0))) := Lib.hid (by rw [← hW]; have hz := heap_alloc_new ((w.alloc (.cells cs 44)).alloc (.cells #[.int .u32 0, .int .u32 0, .int .u32 0, .int .u32 0, .int .u32 0, .int .u32 0, .int .u32 0, .int .u32 0, .int .u32 0, .int .u32 0, .int .u32 0, .int .u32 0, .int .u32 0, .int .u32 0, .int .u32 0, .int .u32 0, .int .u32 0, .int .u32 0, .int .u32 0, .int .u32 0, .int .u32 0, .int .u32 0, .int .u32 0, .int .u32 0, .int .u32 0, .int .u32 0, .int .u32 0, .int .u32 0, .int .u32 0, .int .u32 0, .int .u32 0, .int .u32 0, .int .u32 0, .bool false, .int .u32 0, .int .u32 0, .int .u32 0, .int .u32 0, .int .u32 0, .int .u32 0, .int .u32 0, .int .u64 0] 44)) (.cells acc0 50); simp only [World.size_alloc] at hz; exact hz)
  have BW : Hid (Below w.heap.size w W) := Lib.hid (by rw [← hW]; exact (((Below.refl _ w).alloc (Nat.le_refl _) _).alloc (by simp) _).alloc (by simp; omega) _)
  have hl2 := heap_lt R2.out
  clear hW
  obtain ⟨b, hb0⟩ : ∃ b, b = W.heap.size := ⟨_, rfl⟩
  have HB0 := Lib.hid hb0
  refine wp_region_lit ?_
  refine wpList_load_row rfl 44 _ rfl w.heap.size rfl _ cs (0, 0) _ R0.out Tryd.underlying44 rfl (by rw [HC.out, hs_size]; kernel_rfl) ?_
  refine Go.Great.wpList_runTo rfl (some 13) rfl (.int .u32 x) _ rfl ?_
  refine Go.Great.wpList_runTo rfl (some 14) rfl (.int .u32 ln) _ rfl ?_
  refine Go.wpList_buildTo rfl 76 _ rfl (some 15) rfl ds (Eq.trans (b := Tryd.prog.built 76 [(0, .agg cs), (2, .int .u32 x), (3, .int .u32 ln)]) (by kernel_rfl) BD.out) ?_
  refine Go.Great.wpList_allocTo rfl (some 8) rfl _ (.cells #[.int .u32 0, .int .u32 0, .int .u32 0, .int .u32 0, .int .u32 0, .int .u32 0, .int .u32 0, .int .u32 0, .int .u32 0, .int .u32 0, .int .u32 0, .int .u32 0, .int .u32 0, .int .u32 0, .int .u32 0, .int .u32 0, .int .u32 0, .int .u32 0, .int .u32 0, .int .u32 0, .int .u32 0, .int .u32 0, .int .u32 0, .int .u32 0, .int .u32 0, .int .u32 0, .int .u32 0, .int .u32 0, .int .u32 0, .int .u32 0, .int .u32 0, .int .u32 0, .int .u32 0, .bool false, .int .u32 0, .int .u32 0, .int .u32 0, .int .u32 0, .int .u32 0, .int .u32 0, .int .u32 0, .int .u64 0, .int .i64 0, .int .i64 0, .int .i64 0, .int .i64 0, .int .i64 0, .int .i64 0, .int .u32 0, .int .u32 0, .bool false] 76) rfl ?_
  refine wpList_store_row rfl 76 _ _ rfl _ ds rfl rfl _ _ (heap_alloc_new _ _) (by rw [HD.out, d_size]; kernel_rfl) (by rw [HD.out, d_size]; rfl) (by rw [HD.out]; exact d_one h x ln) ?_
  rw [World.setRow_alloc_new]
  simp only [Act.put, List.setIfInBounds_toArray, List.set_cons_zero, List.set_cons_succ]
  have BWd : Below w.heap.size w (W.alloc (.cells ds 76)) := BW.out.alloc BW.out.size _
  have TD := Lib.hid (HT.out.below BWd)
  have BD1 := Lib.hid BWd
  clear BWd
  go_upto_region 10 with (first | (go_at_call 6; refine (DE.out _ TD.out).mono ?_; rintro e w1 ⟨rfl, hb1⟩; have rd := (hb1.block W.heap.size (by simp)).trans (heap_alloc_new W _); have RD := Lib.hid rd; have rr1 := (hb1.block _ (by simp; omega)).trans (row_alloc R1.out _); have rr2 := (hb1.block _ (by simp; omega)).trans (row_alloc R2.out _); have RR1 := Lib.hid rr1; have RR2 := Lib.hid rr2; have BW1 := Lib.hid (BD1.out.trans (hb1.mono BD1.out.size)); have hl3 := heap_lt rd; have di : DI w1 W.heap.size 0 0 0 0 0 0 x ln false := DI.of_row (by rw [← HD.out]; exact rd); have g42 := di.op; have g43 := di.rd; have g44 := di.r1; have g45 := di.r2; have g46 := di.imm; have g47 := di.cs; have ha : HAt w1 W.heap.size h := HAt.of_row (by rw [← dcells, ← HD.out]; exact rd); have gf := ha.fz; have HA := Lib.hid ha; have DA := Lib.hid di; clear hb1 rd rr1 rr2 di ha) | (go_at_call 34; refine (ON.out _ _ (HAt.allocK (HAt.setTail (HAt.setTail (HAt.setTail (HAt.setTail (HAt.setTail (HAt.setTail HA.out (by decide) _) (by decide) _) (by decide) _) (by decide) _) (by decide) _) (by decide) _) _) (DI.allocK (DI.put6 DA.out op rd r1 r2 imm cq) (by simpa using hl3) _)).mono ?_; rintro e w2 ⟨rfl, h2, d2, o2⟩; have q2 : OnlyD W.heap.size w1 w2 := OnlyD.trans (OnlyD.allocK (OnlyD.set (OnlyD.set (OnlyD.set (OnlyD.set (OnlyD.set (OnlyD.set (OnlyD.refl W.heap.size w1) 42 _) 43 _) 44 _) 45 _) 46 _) 47 _) hl3 _) o2; have r21 := (q2.below.block _ (by omega)).trans RR1.out; have r22 := (q2.below.block _ (by omega)).trans RR2.out; have R21 := Lib.hid r21; have R22 := Lib.hid r22; have B2 := Lib.hid (BW1.out.trans (q2.below.mono (by omega))); have c50 := d2.gone; have c0 := h2.pc_; have hl4 := h2.2.2; have H2 := Lib.hid h2; clear h2 d2 o2 q2 r21 r22 g42 g43 g44 g45 g46 g47 gf) | (go_at_call 35; refine (TO.out _ _ (HAt.allocK H2.out _)).mono ?_; rintro e w3 ⟨rfl, h3, o3⟩; have H3 := Lib.hid h3; have O3 := Lib.hid o3; clear h3 o3))
  have S0 : DoS w W.heap.size w2.heap.size z #[.int .i64 a0, .int .u32 a1, .int .i64 a2, .bool a3, .int .i64 a4, .int .u32 a5] w3.drew := by
    refine ⟨H3.out.drew1, (O3.out.over _ hl4 (by simp)).trans (heap_alloc_new w2 _), ⟨_, (O3.out.below.block _ (by omega)).trans (row_alloc R21.out _), by rfl⟩, ⟨acc0, (O3.out.below.block _ (by omega)).trans (row_alloc R22.out _), by rfl⟩, ?_⟩
    exact Below.drew ((B2.out.alloc B2.out.size _).trans (O3.out.below.mono (by omega)))
  have HS0 := Lib.hid S0
  clear S0
  refine wp_region_held_drew (S := DoS w W.heap.size w2.heap.size z #[.int .i64 a0, .int .u32 a1, .int .i64 a2, .bool a3, .int .i64 a4, .int .u32 a5]) (by kernel_rfl) HS0.out (fun hHeld => ?_)
  refine wpAnyH_take (i := 0) (v := ?_) rfl (by kernel_rfl) (by kernel_rfl) (by kernel_rfl) (fun _ _ _ h => h) (Or.inl ⟨by rfl, ?_⟩) (by assumption) ?_
  rotate_left
  · (intro w hSw; go_simp; try with_reducible rfl)
  simp only [Act.put, List.getElem_toArray, List.getElem_cons_zero, List.getElem_cons_succ, List.setIfInBounds_toArray, List.set_cons_zero, List.set_cons_succ]
  refine wpAnyH_take (i := 1) (v := .agg z.cells.toArray) rfl (by kernel_rfl) (by kernel_rfl) (by kernel_rfl) (fun _ _ _ h => h) ?_ (by assumption) ?_
  · exact yieldsIf_load_mid (by rfl) 44 _ rfl W.heap.size 0 rfl z.cells _ (fun w hw => hw.1.range) Tryd.underlying44 rfl (by rw [HS.len]; kernel_rfl)
  simp only [Act.put, List.getElem_toArray, List.getElem_cons_zero, List.getElem_cons_succ, List.setIfInBounds_toArray, List.set_cons_zero, List.set_cons_succ]
  refine wpAnyH_take (i := 2) (v := .agg #[.int .i64 a0, .int .u32 a1, .int .i64 a2, .bool a3, .int .i64 a4, .int .u32 a5]) rfl (by kernel_rfl) (by kernel_rfl) (by kernel_rfl) (fun _ _ _ h => h) ?_ (by assumption) ?_
  · exact yieldsIf_load_mid (by rfl) 50 _ rfl w2.heap.size 0 rfl (#[.int .i64 a0, .int .u32 a1, .int .i64 a2, .bool a3, .int .i64 a4, .int .u32 a5] : Array Value).toList _ (fun w hw => range_row hw.2.1) Tryd.underlying50 rfl (by kernel_rfl)
  simp only [Act.put, List.getElem_toArray, List.getElem_cons_zero, List.getElem_cons_succ, List.setIfInBounds_toArray, List.set_cons_zero, List.set_cons_succ]
  have S1 := hHeld
  obtain ⟨c, hc, hcz⟩ := S1.2.2.1
  obtain ⟨d, hd, hdz⟩ := S1.2.2.2.1
  refine wpAnyH_ready (rs := [3]) (by kernel_rfl) (by simp) ?_
  refine AllReadyH.cons rfl (fun K hK => ?_) AllReadyH.nil
  · refine wp_store_row 44 _ _ rfl (w.heap.size + 1) z.cells.toArray rfl rfl _ _ hc (by rw [hs_size]; kernel_rfl) (by rw [hs_size]; exact hcz) (hs_one z) ?_
    refine hK.out _ _ (DoS.set1 S1 (by omega) (by omega) _ (hs_size _)) (fun hHeld2 => ?_)
    simp only [Act.put, List.getElem_toArray, List.getElem_cons_zero, List.getElem_cons_succ, List.setIfInBounds_toArray, List.set_cons_zero, List.set_cons_succ]
    obtain ⟨c2, hc2, hcz2⟩ := hHeld2.2.2.1
    obtain ⟨d2, hd2, hdz2⟩ := hHeld2.2.2.2.1
    refine wpAnyH_ready (rs := [4]) (by kernel_rfl) (by simp) ?_
    refine AllReadyH.cons rfl (fun K2 hK2 => ?_) AllReadyH.nil
    refine wp_store_row 50 _ _ rfl (w.heap.size + 1 + 1) #[.int .i64 a0, .int .u32 a1, .int .i64 a2, .bool a3, .int .i64 a4, .int .u32 a5] rfl rfl _ _ hd2 (by kernel_rfl) (by rw [hdz2]; rfl) (by kernel_rfl) ?_
    refine hK2.out _ _ (DoS.set2 hHeld2 (by omega) (by omega) _ rfl) (fun hHeld3 => ?_)
    simp only [Act.put, List.getElem_toArray, List.getElem_cons_zero, List.getElem_cons_succ, List.setIfInBounds_toArray, List.set_cons_zero, List.set_cons_succ]
    refine wpAnyH_done (by kernel_rfl) ?_ _
    have f1 := setRow_row (g := w.heap.size + 1 + 1) (cs := #[.int .i64 a0, .int .u32 a1, .int .i64 a2, .bool a3, .int .i64 a4, .int .u32 a5]) (setRow_heap _ _ _ z.cells.toArray _ _ hc) (by omega)
    have f2 := setRow_heap _ _ _ #[.int .i64 a0, .int .u32 a1, .int .i64 a2, .bool a3, .int .i64 a4, .int .u32 a5] _ _ (setRow_row (g := w.heap.size + 1) (cs := z.cells.toArray) hd (by omega))
    have fb := hHeld3.2.2.2.2
    have F1 := Lib.hid f1
    have F2 := Lib.hid f2
    have FB := Lib.hid fb
    clear f1 f2 fb hc hd hc2 hd2 hcz hdz hcz2 hdz2
    go_wp2
    exact bodyPost_ret (results_cell2 (p := 6) (q := 7) (t := 44) (u := 50) (by kernel_rfl) _ _ ⟨w.heap.size + 1, 0, none⟩ ⟨w.heap.size + 1 + 1, 0, none⟩ _ _ rfl rfl (run_loadVar_row _ _ _ _ _ _ _ F1.out Tryd.underlying44 rfl (by rw [hs_size]; kernel_rfl)) (run_loadVar_row _ _ _ _ _ _ _ F2.out Tryd.underlying50 rfl (by kernel_rfl))) rfl ⟨rfl, FB.out⟩

end Go.Proofs.YtphlgaklfibciaaDoor
