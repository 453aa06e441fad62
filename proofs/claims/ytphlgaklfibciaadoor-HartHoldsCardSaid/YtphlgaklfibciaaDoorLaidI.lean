import Derived.Test.YtphlgaklfibciaaDoorInstDM
import Derived.Test.YtphlgaklfibciaaDoorDoorK
import Derived.LaidHandle
import Derived.LaidLaws
import Derived.Below
import Derived.Deep.Draws
import Derived.Deep.AppendLies
import Derived.Maps.AppendAt
import Derived.OwnWalk
import Derived.Laws.BytesArg
import Derived.Laws.MakeOwn
import Derived.Laws.OwnMore
import Derived.Deep.OwnRows
import Derived.Tactics
import Derived.Lib.ConvBytes
import Derived.Laws.Slices
import Derived.WalkKit
import Derived.KernelRfl
import Derived.RowKit3
import Derived.Deep.LoopGhost
import Derived.Deep.QuietTactic
import Derived.BigQuiet
import Derived.WideLaws
import Derived.Deep.DeepCutAuto
import Derived.Deep.CutBlock
import Derived.Deep.RegionHeld3
import Derived.Laws.Rows
import Derived.Lib.AppendStr
import Derived.ArgAppend
import Derived.Laws.IdiomCopy
import Derived.OrdersHeld
import Derived.Laws.BitsLemmas
import Derived.RowKit
import Derived.Lib.Hide
import Derived.Laws.BitsAllLaws
import Derived.WalkLawsBesides
import Derived.WalkSpells
import Derived.LaidEql
namespace Go.Proofs.YtphlgaklfibciaaDoor
open Go.RowKit
set_option maxRecDepth 100000
set_option linter.unusedVariables false
set_option linter.unusedSimpArgs false

/-- the operations' names, as the row lists them -/
def nmTab : List (List UInt8) := match (Rows.laid_pinnace_inst_names : DataW Unit) with | .agg l => l.map (fun d => match d with | .lit (.string s) => s | _ => []) | _ => []
def TabS (w : World) : Prop := ∀ j, j < 57 → ∃ s, w.cell? ⟨2, j, none⟩ = some (.string s) ∧ s.data.toList = nmTab.getD j []
theorem TabS.below {w w' : World} (h : TabS w) (hb : Below w.heap.size w w') : TabS w' := fun j hj => by
  obtain ⟨s, h1, h2⟩ := h j hj
  exact ⟨s, (World.cell?_of_block (hb.block _ (block_lt_of_cell h1))).trans h1, h2⟩
set_option maxHeartbeats 1000000 in
theorem name_at (op : Nat) (hop : op < 57) (s : ByteArray) (w : World) (hs : w.cell? ⟨2, op, none⟩ = some (.string s)) : Calls Tryd.prog 29 #[.int .i64 op] w fun e w' => e = .returned (.string s) ∧ w = w' := by
  have I := Lib.hid (fun w => by have h' := is_any op w; rw [decide_eq_true (And.intro (by omega) (by omega))] at h'; exact h')
  have hopI : (op : Int) < 57 := by omega
  have hlt := block_lt_of_cell hs
  go_enter Tryd.func29, Tryd.ntmps29
  go_wp2_with (go_at_call 51; refine (I.out _).mono ?_; rintro e w' ⟨rfl, rfl⟩)
  go_ret
  exact ⟨rfl, rfl⟩
theorem bytes_ext {s : ByteArray} {l : List UInt8} (h : s.data.toList = l) : s = ⟨l.toArray⟩ := by
  cases s with
  | mk a => cases a with
    | mk l' => simp only at h; subst h; rfl
theorem sure_fit : Fit (kN 18) (wN 18) 5243027 := by unfold Fit; decide +kernel
set_option maxHeartbeats 2000000 in
theorem isure_any (w : World) (hT : TabW w) (hS : TabS w) : Calls Tryd.prog 9 #[] w fun e w' => e = .returned (.bool true) ∧ Below w.heap.size w w' := by
  have D := Lib.hid (by
    have h := decode_fit 5243027 (by decide) 18 (by decide) sure_fit w hT
    unfold readV instV at h
    rw [show rdOf (kN 18) 5243027 = 1 from by decide +kernel, show r1Of (kN 18) 5243027 = 0 from by decide +kernel, show r2Of (kN 18) 5243027 = 0 from by decide +kernel, show immOf (kN 18) 5243027 = 5 from by decide +kernel, show csrOf (kN 18) 5243027 = 0 from by decide +kernel] at h
    exact h)
  obtain ⟨s, hs1, hs2⟩ := hS 18 (by decide)
  obtain rfl := bytes_ext (hs2.trans (show nmTab.getD 18 [] = [97, 100, 100, 105] from by decide +kernel))
  have HS := Lib.hid hs1
  clear hs1 hs2 hT hS
  go_enter Tryd.func9, Tryd.ntmps9
  go_wp2_with (first | (go_at_call 6; refine D.out.mono ?_; rintro e w1 ⟨rfl, hb⟩; have HB1 := Lib.hid hb; have hw1 := hb.size; clear hb) | (go_at_call 29; refine (name_at 18 (by decide) _ _ (Go.Lib.cell?_alloc_some _ ((World.cell?_of_block (HB1.out.block _ (block_lt_of_cell HS.out))).trans HS.out))).mono ?_; rintro e w2 ⟨rfl, rfl⟩))
  go_ret
  exact ⟨rfl, HB1.out.alloc hw1 _⟩

theorem door_names : Tryd.prog.globalNamed "pinnace/inst.names" = some 2 := by kernel_rfl
theorem door_words : Tryd.prog.globalNamed "pinnace/inst.words" = some 0 := by kernel_rfl
theorem door_namesT : (Tryd.prog.globals[2]?).map (·.type) = some 105 := by kernel_rfl
theorem door_wordsT : (Tryd.prog.globals[0]?).map (·.type) = some 89 := by kernel_rfl
def wOf (d : DataW Unit) : Int := match d with | .lit (.int _ n) => n | _ => 0
def sOf (d : DataW Unit) : List UInt8 := match d with | .lit (.string s) => s | _ => []
def partsOf (d : DataW Unit) : List (DataW Unit) := match d with | .agg l => l | _ => []
theorem words_tab : ∀ j, j < 57 → ((partsOf Rows.laid_pinnace_inst_words).map wOf).getD j 0 = (wN j : Int) := by decide +kernel
/-- what the condition gives a walk: the two tables -/
theorem tabs_of_met {W : World} (h : laidMet Tryd.prog [("pinnace/inst.names", Rows.laid_pinnace_inst_names), ("pinnace/inst.words", Rows.laid_pinnace_inst_words)] W) : TabW W ∧ TabS W := by
  obtain ⟨ps, ⟨g, t, cs, fuel, p, q, hg, ht, hvar, hd, ⟨g2, t2, cs2, fuel2, p2, q2, hg2, ht2, hvar2, hd2, _, _⟩, _⟩, _⟩ := h
  obtain rfl := Option.some.inj (door_names.symm.trans hg)
  obtain rfl := Option.some.inj (door_namesT.symm.trans ht)
  obtain rfl := Option.some.inj (door_words.symm.trans hg2)
  obtain rfl := Option.some.inj (door_wordsT.symm.trans ht2)
  have hd' : DataW.trod (fun _ => ()) Tryd.prog W 0 (fun _ => true) false fuel 105 cs.toList = some (.agg (partsOf Rows.laid_pinnace_inst_names), p) := hd
  have hd2' : DataW.trod (fun _ => ()) Tryd.prog W 0 (fun _ => true) false fuel2 89 cs2.toList = some (.agg (partsOf Rows.laid_pinnace_inst_words), p2) := hd2
  obtain ⟨_, k1⟩ := tab_at Tryd.underlying105 (by kernel_rfl) (by kernel_rfl) hd'
  obtain ⟨_, k2⟩ := tab_at Tryd.underlying89 (by kernel_rfl) (by kernel_rfl) hd2'
  refine ⟨fun j hj => ?_, fun j hj => ?_⟩
  · obtain ⟨c, f, y, hc, hy, hdj⟩ := k2 j hj
    obtain ⟨n, rfl, hy1⟩ := int_at Tryd.underlying22 hy
    have e := words_tab j hj
    rw [hy1] at hdj
    simp only [List.getD, List.getElem?_map, hdj, Option.map_some, Option.getD_some, wOf] at e
    rw [World.var?_cell hg2 hvar2 j, ← Array.getElem?_toList, hc, e]
  · obtain ⟨c, f, y, hc, hy, hdj⟩ := k1 j hj
    obtain ⟨s, rfl, hy1⟩ := str_at Tryd.underlying9 hy
    refine ⟨s, ?_, ?_⟩
    · rw [World.var?_cell hg hvar j, ← Array.getElem?_toList, hc]
    · rw [hy1] at hdj
      have e : nmTab = (partsOf Rows.laid_pinnace_inst_names).map sOf := rfl
      rw [e]
      simp only [List.getD, List.getElem?_map, hdj, Option.map_some, Option.getD_some, sOf]
theorem tabs_of_laid2 {W : World} (h : laidMetH Tryd.prog [("pinnace/inst.names", Rows.laid_pinnace_inst_names), ("pinnace/inst.words", Rows.laid_pinnace_inst_words)] W) : TabW W ∧ TabS W := tabs_of_met h
theorem tabs_of_laid3 {W : World} (h : laidMetH Tryd.prog [("errors.errorType", Rows.laid_errors_errorType), ("pinnace/inst.names", Rows.laid_pinnace_inst_names), ("pinnace/inst.words", Rows.laid_pinnace_inst_words)] W) : TabW W ∧ TabS W ∧ W.cell? ⟨1, 0, none⟩ = some errTy := by
  have h' : laidMet Tryd.prog [("pinnace/inst.names", Rows.laid_pinnace_inst_names), ("pinnace/inst.words", Rows.laid_pinnace_inst_words)] W ∧ handlesMet Tryd.prog [("errors.errorType", Rows.laid_errors_errorType)] W := h
  obtain ⟨a, b⟩ := tabs_of_met h'.1
  refine ⟨a, b, handle_of_laid ?_⟩
  obtain ⟨ps, ⟨g, t, cs, fuel, p, q, hg, ht, hvar, hd, hr, _⟩, _⟩ := h'.1
  exact ⟨⟨[], rfl, List.nodup_nil, fun _ _ h => by cases h⟩, h'.2⟩
def nmCells : Array Value := (nmTab.map fun l => Value.string ⟨l.toArray⟩).toArray
def wCells : Array Value := ((List.range 57).map fun j => Value.int .u32 (wN j)).toArray
/-- a world that meets the conditions: all three laid -/
noncomputable def laidWorldI (os : Os) : World :=
  let w0 := laidWorld os
  { w0 with heap := (w0.heap.modify 2 fun
      | .cells _ t frozen => .cells nmCells t frozen
      | o => o).modify 0 fun
      | .cells _ t frozen => .cells wCells t frozen
      | o => o }
theorem laidWorldI_data (os : Os) (args : Array Value) : laidMet Tryd.prog [("pinnace/inst.names", Rows.laid_pinnace_inst_names), ("pinnace/inst.words", Rows.laid_pinnace_inst_words)] ((laidWorldI os).forCall (fun _ _ => 0) ⟨#[], args, []⟩).memory :=
  laidMet_of_run' 8 (by kernel_rfl) (by kernel_rfl)
theorem laidWorldI_met2 (os : Os) (args : Array Value) : laidMetH Tryd.prog [("pinnace/inst.names", Rows.laid_pinnace_inst_names), ("pinnace/inst.words", Rows.laid_pinnace_inst_words)] ((laidWorldI os).forCall (fun _ _ => 0) ⟨#[], args, []⟩).memory := laidWorldI_data os args
theorem laidWorldI_met3 (os : Os) (args : Array Value) : laidMetH Tryd.prog [("errors.errorType", Rows.laid_errors_errorType), ("pinnace/inst.names", Rows.laid_pinnace_inst_names), ("pinnace/inst.words", Rows.laid_pinnace_inst_words)] ((laidWorldI os).forCall (fun _ _ => 0) ⟨#[], args, []⟩).memory :=
  laidMetH_of_parts (laidWorldI_data os args) (by kernel_rfl)

end Go.Proofs.YtphlgaklfibciaaDoor
