import Derived.Test.YtaknbakkahlilaaDoorRDecM
import Derived.Below
import Derived.Deep.Draws
import Derived.Deep.AppendLies
import Derived.Maps.AppendAt
import Derived.OwnWalk
import Derived.Laws.BytesArg
import Derived.Laws.MakeOwn
import Derived.Laws.OwnMore
import Derived.Deep.OwnRows
import Derived.Tactics
import Derived.Lib.ConvBytes
import Derived.Laws.Slices
import Derived.WalkKit
import Derived.KernelRfl
import Derived.RowKit3
import Derived.Deep.LoopGhost
import Derived.Deep.QuietTactic
import Derived.BigQuiet
import Derived.WideLaws
import Derived.Deep.DeepCutAuto
import Derived.Deep.CutBlock
import Derived.Deep.RegionHeld3
import Derived.Laws.Rows
import Derived.Lib.AppendStr
import Derived.ArgAppend
import Derived.Laws.IdiomCopy
import Derived.OrdersHeld
import Derived.Laws.BitsLemmas
import Derived.RowKit
import Derived.Lib.Hide
import Derived.Laws.BitsAllLaws
import Derived.WalkLawsBesides
import Derived.WalkSpells
import Derived.LaidEql
namespace Go.Proofs.YtaknbakkahlilaaDoor
open Go.RowKit
set_option maxRecDepth 100000
set_option linter.unusedVariables false
set_option linter.unusedSimpArgs false

set_option maxHeartbeats 4000000 in
theorem instDecodes_core (x : Nat) (o a1 a2 a3 a4 a5 c : Int)
    (D : Hid (∀ w : World, TabW w → Calls Tryd.prog 26 #[.int .u32 x] w fun e w' => e = .returned (.tuple #[.agg #[.int .i64 o, .int .i64 a1, .int .i64 a2, .int .i64 a3, .int .i64 a4, .int .i64 a5], errV c]) ∧ Below w.heap.size w w'))
    (R : Hid (∀ w : World, Calls Tryd.prog 33 #[.int .u32 x] w fun e w' => e = .returned (.tuple #[.agg #[.int .i64 o, .int .i64 a1, .int .i64 a2, .int .i64 a3, .int .i64 a4, .int .i64 a5], .int .i64 c]) ∧ Below w.heap.size w w'))
    (w : World) (hT : TabW w) (hN : TabS w) (hg : w.cell? ⟨2, 0, none⟩ = some errTy) :
    Calls Tryd.prog 10 #[.int .u32 x] w fun e w' => e = .returned (.bool true) ∧ Below w.heap.size w w' := by
  have NU := Lib.hid (fun w' (hb : Below w.heap.size w w') => num_any c w' ((World.cell?_of_block (a := ⟨2, 0, none⟩) (hb.block _ (block_lt_of_cell hg))).trans hg))
  have S := Lib.hid (fun w' (hb : Below w.heap.size w w') => isure_any w' (hT.below hb) (hN.below hb))
  have D0 := Lib.hid (D.out w hT)
  generalize errV c = ev at *
  clear hT hN hg D
  go_enter Tryd.func10, Tryd.ntmps10
  go_wp2_with (first | (go_at_call 26; refine D0.out.mono ?_; rintro e w1 ⟨rfl, hb⟩; have G1 := Lib.hid (hb.alloc hb.size (.cells #[.int .i64 o, .int .i64 a1, .int .i64 a2, .int .i64 a3, .int .i64 a4, .int .i64 a5] 49)); have hr1 := heap_alloc_new w1 (.cells #[.int .i64 o, .int .i64 a1, .int .i64 a2, .int .i64 a3, .int .i64 a4, .int .i64 a5] 49); have HR1 := Lib.hid hr1; clear hb hr1) | (go_at_call 33; refine (R.out _).mono ?_; rintro e w2 ⟨rfl, hb⟩; have hr2 := ZRow.below HR1.out hb; have c0 : w2.cell? ⟨w1.heap.size, 0, none⟩ = some (.int .i64 o) := cell_of_row _ _ _ _ _ _ hr2; have c1 : w2.cell? ⟨w1.heap.size, 1, none⟩ = some (.int .i64 a1) := cell_of_row _ _ _ _ _ _ hr2; have c2 : w2.cell? ⟨w1.heap.size, 2, none⟩ = some (.int .i64 a2) := cell_of_row _ _ _ _ _ _ hr2; have c3 : w2.cell? ⟨w1.heap.size, 3, none⟩ = some (.int .i64 a3) := cell_of_row _ _ _ _ _ _ hr2; have c4 : w2.cell? ⟨w1.heap.size, 4, none⟩ = some (.int .i64 a4) := cell_of_row _ _ _ _ _ _ hr2; have c5 : w2.cell? ⟨w1.heap.size, 5, none⟩ = some (.int .i64 a5) := cell_of_row _ _ _ _ _ _ hr2; have hl2 := heap_lt hr2; have g2 := G1.out.trans (hb.mono G1.out.size); have G2 := Lib.hid (g2.alloc g2.size (.cells #[.int .i64 o, .int .i64 a1, .int .i64 a2, .int .i64 a3, .int .i64 a4, .int .i64 a5] 48)); clear hb hr2 g2) | (go_at_call 34; refine (NU.out _ G2.out).mono ?_; rintro e w3 ⟨rfl, hb⟩; have G3 := Lib.hid (G2.out.trans (hb.mono G2.out.size)); clear hb) | (go_at_call 29; refine (S.out _ G3.out).mono ?_; rintro e w4 ⟨rfl, hb⟩; have G4 := Lib.hid (G3.out.trans (hb.mono G3.out.size)); clear hb))
  go_ret
  exact ⟨rfl, G4.out⟩

theorem instDecodes_walk (x : Nat) (hx : x < 4294967296) (w : World) (hT : TabW w) (hN : TabS w) (hg : w.cell? ⟨2, 0, none⟩ = some errTy) :
    Calls Tryd.prog 10 #[.int .u32 x] w fun e w' => e = .returned (.bool true) ∧ Below w.heap.size w w' := by
  by_cases hf : ∃ o, o < 57 ∧ Fit (kN o) (wN o) x
  · obtain ⟨o, ho, hf⟩ := hf
    exact instDecodes_core x o _ _ _ _ _ 0 (Lib.hid fun w hT => decode_fit x hx o ho hf w hT) (Lib.hid fun w => rdecode_fit x hx o ho hf w) w hT hN hg
  · have hf' : ∀ o, o < 57 → ¬ Fit (kN o) (wN o) x := fun o ho h => hf ⟨o, ho, h⟩
    exact instDecodes_core x 0 0 0 0 0 0 3 (Lib.hid fun w hT => decode_none x hx hf' w hT) (Lib.hid fun w => rdecode_none x hx hf' w) w hT hN hg

end Go.Proofs.YtaknbakkahlilaaDoor
