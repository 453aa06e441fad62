import Derived.Test.YtoincdfijeipjaaDoorLawIN
import Derived.Test.YtoincdfijeipjaaDoorInstDM
import Derived.Below
import Derived.Deep.Draws
import Derived.Deep.AppendLies
import Derived.Maps.AppendAt
import Derived.OwnWalk
import Derived.Laws.BytesArg
import Derived.Laws.MakeOwn
import Derived.Laws.OwnMore
import Derived.Deep.OwnRows
import Derived.Tactics
import Derived.Lib.ConvBytes
import Derived.Laws.Slices
import Derived.WalkKit
import Derived.KernelRfl
import Derived.RowKit3
import Derived.Deep.LoopGhost
import Derived.Deep.QuietTactic
import Derived.BigQuiet
import Derived.WideLaws
import Derived.Deep.DeepCutAuto
import Derived.Deep.CutBlock
import Derived.Deep.RegionHeld3
import Derived.Laws.Rows
import Derived.Lib.AppendStr
import Derived.ArgAppend
import Derived.Laws.IdiomCopy
import Derived.OrdersHeld
import Derived.Laws.BitsLemmas
import Derived.RowKit
import Derived.Lib.Hide
import Derived.Laws.BitsAllLaws
import Derived.WalkLawsBesides
import Derived.WalkSpells
import Derived.LaidEql
namespace Go.Proofs.YtoincdfijeipjaaDoor
open Go.RowKit
set_option maxRecDepth 100000
set_option linter.unusedVariables false
set_option linter.unusedSimpArgs false

/-- what holds through the law: the instruction's box, the tables, the errors' type -/
abbrev IEs (w0 : World) (op rd r1 r2 imm csr : Int) (w' : World) : Prop :=
  w'.cell? ⟨w0.heap.size, 0, none⟩ = some (.int .i64 op) ∧ w'.cell? ⟨w0.heap.size, 1, none⟩ = some (.int .i64 rd) ∧ w'.cell? ⟨w0.heap.size, 2, none⟩ = some (.int .i64 r1) ∧ w'.cell? ⟨w0.heap.size, 3, none⟩ = some (.int .i64 r2) ∧ w'.cell? ⟨w0.heap.size, 4, none⟩ = some (.int .i64 imm) ∧ w'.cell? ⟨w0.heap.size, 5, none⟩ = some (.int .i64 csr) ∧
  TabW w' ∧ TabS w' ∧ w'.cell? ⟨2, 0, none⟩ = some errTy ∧ Below w0.heap.size w0 w'
theorem IEs.below {w0 wa wb : World} {op rd r1 r2 imm csr : Int} (h : IEs w0 op rd r1 r2 imm csr wa) (hb : Below wa.heap.size wa wb) : IEs w0 op rd r1 r2 imm csr wb := by
  obtain ⟨h0, h1, h2, h3, h4, h5, hT, hS, hg, hB⟩ := h
  have hl := block_lt_of_cell h0
  have k : ∀ j v, wa.cell? ⟨w0.heap.size, j, none⟩ = some v → wb.cell? ⟨w0.heap.size, j, none⟩ = some v := fun j v h => (World.cell?_of_block (a := ⟨w0.heap.size, j, none⟩) (hb.block _ hl)).trans h
  exact ⟨k _ _ h0, k _ _ h1, k _ _ h2, k _ _ h3, k _ _ h4, k _ _ h5, hT.below hb, hS.below hb, (World.cell?_of_block (a := ⟨2, 0, none⟩) (hb.block _ (block_lt_of_cell hg))).trans hg, hB.trans (hb.mono hB.size)⟩
theorem IEs.tw {w0 wa : World} {op rd r1 r2 imm csr : Int} (h : IEs w0 op rd r1 r2 imm csr wa) : TabW wa := h.2.2.2.2.2.2.1
theorem IEs.ts {w0 wa : World} {op rd r1 r2 imm csr : Int} (h : IEs w0 op rd r1 r2 imm csr wa) : TabS wa := h.2.2.2.2.2.2.2.1
theorem IEs.hg {w0 wa : World} {op rd r1 r2 imm csr : Int} (h : IEs w0 op rd r1 r2 imm csr wa) : wa.cell? ⟨2, 0, none⟩ = some errTy := h.2.2.2.2.2.2.2.2.1
theorem IEs.drew {w0 wa : World} {op rd r1 r2 imm csr : Int} (h : IEs w0 op rd r1 r2 imm csr wa) (k : Nat) : IEs w0 op rd r1 r2 imm csr (wa.drewN k) := h.below (below_drewN (Below.refl _ _) k)
set_option maxHeartbeats 8000000 in
theorem instEncodes_core (op rd r1 r2 imm csr : Int) (y : Nat) (c : Int)
    (E1 : Hid (∀ w : World, TabW w → Calls Tryd.prog 15 #[.agg #[.int .i64 op, .int .i64 rd, .int .i64 r1, .int .i64 r2, .int .i64 imm, .int .i64 csr]] w fun e w' => e = .returned (.tuple #[.int .u32 y, errV c]) ∧ Below w.heap.size w w'))
    (E2 : Hid (∀ w : World, Calls Tryd.prog 16 #[.agg #[.int .i64 op, .int .i64 rd, .int .i64 r1, .int .i64 r2, .int .i64 imm, .int .i64 csr]] w fun e w' => e = .returned (.tuple #[.int .u32 y, .int .i64 c]) ∧ Below w.heap.size w w'))
    (C1 : Hid (∀ w : World, TabW w → Calls Tryd.prog 17 #[.agg #[.int .i64 op, .int .i64 rd, .int .i64 r1, .int .i64 r2, .int .i64 imm, .int .i64 csr]] w fun e w' => e = .returned (errV c) ∧ Below w.heap.size w w'))
    (C2 : Hid (∀ w : World, Calls Tryd.prog 18 #[.agg #[.int .i64 op, .int .i64 rd, .int .i64 r1, .int .i64 r2, .int .i64 imm, .int .i64 csr]] w fun e w' => e = .returned (.int .i64 c) ∧ Below w.heap.size w w'))
    (w : World) (hT : TabW w) (hN : TabS w) (hg : w.cell? ⟨2, 0, none⟩ = some errTy) :
    Calls Tryd.prog 4 #[.agg #[.int .i64 op, .int .i64 rd, .int .i64 r1, .int .i64 r2, .int .i64 imm, .int .i64 csr]] w fun e w' => e = .returned (.bool true) ∧ Below w.heap.size w w' := by
  have NU := Lib.hid (fun (w' : World) hg => num_any c w' hg)
  have S := Lib.hid (fun (w' : World) hT hN => isure_any w' hT hN)
  have hbs := (Below.refl w.heap.size w).alloc (Nat.le_refl _) (.cells #[.int .i64 op, .int .i64 rd, .int .i64 r1, .int .i64 r2, .int .i64 imm, .int .i64 csr] 29)
  have I0 := Lib.hid (show IEs w op rd r1 r2 imm csr (w.alloc (.cells #[.int .i64 op, .int .i64 rd, .int .i64 r1, .int .i64 r2, .int .i64 imm, .int .i64 csr] 29)) from by
    refine ⟨?_, ?_, ?_, ?_, ?_, ?_, hT.below hbs, hN.below hbs, (World.cell?_of_block (a := ⟨2, 0, none⟩) (hbs.block _ (block_lt_of_cell hg))).trans hg, hbs⟩ <;> exact cell_of_row _ _ _ _ _ _ (heap_alloc_new w _))
  have T0 := Lib.hid (show TabW _ from I0.out.2.2.2.2.2.2.1)
  generalize errV c = ev at *
  clear hT hN hg hbs
  go_enter Tryd.func4, Tryd.ntmps4
  go_upto_region 3 with (first | (go_at_call 15; (with_reducible refine (E1.out _ T0.out).mono ?_); rintro e w1 ⟨rfl, hb⟩; have i1 := I0.out.below hb; have I1 := Lib.hid i1; (obtain ⟨c0, c1, c2, c3, c4, c5, _⟩ := i1); clear hb) | (go_at_call 16; (with_reducible refine (E2.out _).mono ?_); rintro e w2 ⟨rfl, hb⟩; have I2 := Lib.hid (I1.out.below hb); clear hb c0 c1 c2 c3 c4 c5))
  go_region_held3 (fun w' => w'.cell? ⟨w.heap.size, 0, none⟩ = some (.int .i64 op) ∧ w'.cell? ⟨w.heap.size, 1, none⟩ = some (.int .i64 rd) ∧ w'.cell? ⟨w.heap.size, 2, none⟩ = some (.int .i64 r1) ∧ w'.cell? ⟨w.heap.size, 3, none⟩ = some (.int .i64 r2) ∧ w'.cell? ⟨w.heap.size, 4, none⟩ = some (.int .i64 imm) ∧ w'.cell? ⟨w.heap.size, 5, none⟩ = some (.int .i64 csr) ∧ TabW w' ∧ TabS w' ∧ w'.cell? ⟨2, 0, none⟩ = some errTy ∧ Below w.heap.size w w')
    (first | exact I2.out.drew _ | exact IEs.below (by assumption) hb)
    (first | (go_at_call 13; (with_reducible refine (NU.out _ (IEs.hg (w0 := w) (op := op) (rd := rd) (r1 := r1) (r2 := r2) (imm := imm) (csr := csr) (by assumption))).mono ?_); rintro e w' ⟨rfl, hb⟩) | (go_at_call 17; (with_reducible refine (C1.out _ (IEs.tw (w0 := w) (op := op) (rd := rd) (r1 := r1) (r2 := r2) (imm := imm) (csr := csr) (by assumption))).mono ?_); rintro e w' ⟨rfl, hb⟩) | (go_at_call 18; (with_reducible refine (C2.out _).mono ?_); rintro e w' ⟨rfl, hb⟩) | (go_at_call 14; (with_reducible refine (S.out _ (IEs.tw (w0 := w) (op := op) (rd := rd) (r1 := r1) (r2 := r2) (imm := imm) (csr := csr) (by assumption)) (IEs.ts (w0 := w) (op := op) (rd := rd) (r1 := r1) (r2 := r2) (imm := imm) (csr := csr) (by assumption))).mono ?_); rintro e w' ⟨rfl, hb⟩))
  all_goals
    go_wp2
    go_ret
    exact ⟨rfl, (by assumption : IEs w op rd r1 r2 imm csr _).2.2.2.2.2.2.2.2.2⟩

end Go.Proofs.YtoincdfijeipjaaDoor
