import Derived.Test.YtphlgaklfibciaaDoorLaidI
import Derived.Below
import Derived.Deep.Draws
import Derived.Deep.AppendLies
import Derived.Maps.AppendAt
import Derived.OwnWalk
import Derived.Laws.BytesArg
import Derived.Laws.MakeOwn
import Derived.Laws.OwnMore
import Derived.Deep.OwnRows
import Derived.Tactics
import Derived.Lib.ConvBytes
import Derived.Laws.Slices
import Derived.WalkKit
import Derived.KernelRfl
import Derived.RowKit3
import Derived.Deep.LoopGhost
import Derived.Deep.QuietTactic
import Derived.BigQuiet
import Derived.WideLaws
import Derived.Deep.DeepCutAuto
import Derived.Deep.CutBlock
import Derived.Deep.RegionHeld3
import Derived.Laws.Rows
import Derived.Lib.AppendStr
import Derived.ArgAppend
import Derived.Laws.IdiomCopy
import Derived.OrdersHeld
import Derived.Laws.BitsLemmas
import Derived.RowKit
import Derived.Lib.Hide
import Derived.Laws.BitsAllLaws
import Derived.WalkLawsBesides
import Derived.WalkSpells
import Derived.LaidEql
import Derived.LaidHandle
import Derived.LaidLaws
namespace Go.Proofs.YtphlgaklfibciaaDoor
open Go.RowKit
set_option maxRecDepth 100000
set_option linter.unusedVariables false
set_option linter.unusedSimpArgs false

/-- what the condition gives a walk: the table of the words alone -/
theorem tabW_of_met {W : World} (h : laidMet Tryd.prog [("pinnace/inst.words", Rows.laid_pinnace_inst_words)] W) : TabW W := by
  obtain ⟨ps, ⟨g2, t2, cs2, fuel2, p2, q2, hg2, ht2, hvar2, hd2, _, _⟩, _⟩ := h
  obtain rfl := Option.some.inj (door_words.symm.trans hg2)
  obtain rfl := Option.some.inj (door_wordsT.symm.trans ht2)
  have hd2' : DataW.trod (fun _ => ()) Tryd.prog W 0 (fun _ => true) false fuel2 89 cs2.toList = some (.agg (partsOf Rows.laid_pinnace_inst_words), p2) := hd2
  obtain ⟨_, k2⟩ := tab_at Tryd.underlying89 (by kernel_rfl) (by kernel_rfl) hd2'
  intro j hj
  obtain ⟨c, f, y, hc, hy, hdj⟩ := k2 j hj
  obtain ⟨n, rfl, hy1⟩ := int_at Tryd.underlying22 hy
  have e := words_tab j hj
  rw [hy1] at hdj
  simp only [List.getD, List.getElem?_map, hdj, Option.map_some, Option.getD_some, wOf] at e
  rw [World.var?_cell hg2 hvar2 j, ← Array.getElem?_toList, hc, e]
theorem tabW_of_laid {W : World} (h : laidMetH Tryd.prog [("pinnace/inst.words", Rows.laid_pinnace_inst_words)] W) : TabW W := tabW_of_met h
theorem tabV_of_laid {W : World} (h : laidMetH Tryd.prog [("errors.errorType", Rows.laid_errors_errorType), ("pinnace/inst.words", Rows.laid_pinnace_inst_words)] W) : TabW W ∧ W.cell? ⟨1, 0, none⟩ = some errTy := by
  have h' : laidMet Tryd.prog [("pinnace/inst.words", Rows.laid_pinnace_inst_words)] W ∧ handlesMet Tryd.prog [("errors.errorType", Rows.laid_errors_errorType)] W := h
  refine ⟨tabW_of_met h'.1, handle_of_laid ?_⟩
  exact ⟨⟨[], rfl, List.nodup_nil, fun _ _ h => by cases h⟩, h'.2⟩
theorem laidWorldI_dataW (os : Os) (args : Array Value) : laidMet Tryd.prog [("pinnace/inst.words", Rows.laid_pinnace_inst_words)] ((laidWorldI os).forCall (fun _ _ => 0) ⟨#[], args, []⟩).memory :=
  laidMet_of_run' 8 (by kernel_rfl) (by kernel_rfl)
theorem laidWorldI_metW (os : Os) (args : Array Value) : laidMetH Tryd.prog [("pinnace/inst.words", Rows.laid_pinnace_inst_words)] ((laidWorldI os).forCall (fun _ _ => 0) ⟨#[], args, []⟩).memory := laidWorldI_dataW os args
theorem laidWorldI_metV (os : Os) (args : Array Value) : laidMetH Tryd.prog [("errors.errorType", Rows.laid_errors_errorType), ("pinnace/inst.words", Rows.laid_pinnace_inst_words)] ((laidWorldI os).forCall (fun _ _ => 0) ⟨#[], args, []⟩).memory :=
  laidMetH_of_parts (laidWorldI_dataW os args) (by kernel_rfl)
theorem lt32c {i : Nat} (h : i < 32) : i = 0 ∨ i = 1 ∨ i = 2 ∨ i = 3 ∨ i = 4 ∨ i = 5 ∨ i = 6 ∨ i = 7 ∨ i = 8 ∨ i = 9 ∨ i = 10 ∨ i = 11 ∨ i = 12 ∨ i = 13 ∨ i = 14 ∨ i = 15 ∨ i = 16 ∨ i = 17 ∨ i = 18 ∨ i = 19 ∨ i = 20 ∨ i = 21 ∨ i = 22 ∨ i = 23 ∨ i = 24 ∨ i = 25 ∨ i = 26 ∨ i = 27 ∨ i = 28 ∨ i = 29 ∨ i = 30 ∨ i = 31 := by omega

end Go.Proofs.YtphlgaklfibciaaDoor
