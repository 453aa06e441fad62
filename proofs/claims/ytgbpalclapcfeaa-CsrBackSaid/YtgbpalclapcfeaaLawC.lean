import Derived.Test.YtgbpalclapcfeaaCsrA
import Derived.Below
import Derived.Deep.Draws
import Derived.Deep.AppendLies
import Derived.Maps.AppendAt
import Derived.OwnWalk
import Derived.Laws.BytesArg
import Derived.Laws.MakeOwn
import Derived.Laws.OwnMore
import Derived.Deep.OwnRows
import Derived.Tactics
import Derived.Lib.ConvBytes
import Derived.Laws.Slices
import Derived.WalkKit
import Derived.KernelRfl
import Derived.RowKit3
import Derived.Deep.LoopGhost
import Derived.Deep.QuietTactic
import Derived.BigQuiet
import Derived.WideLaws
import Derived.Deep.DeepCutAuto
import Derived.Deep.CutBlock
import Derived.Deep.RegionHeld3
import Derived.Laws.Rows
import Derived.Lib.AppendStr
import Derived.ArgAppend
import Derived.Laws.IdiomCopy
import Derived.OrdersHeld
import Derived.Laws.BitsLemmas
import Derived.RowKit
import Derived.Lib.Hide
import Derived.Laws.BitsAllLaws
import Derived.WalkLawsBesides
import Derived.WalkSpells
import Derived.LaidEql
namespace Go.Proofs.Ytgbpalclapcfeaa
open Go.RowKit
set_option maxRecDepth 100000
set_option linter.unusedVariables false
set_option linter.unusedSimpArgs false

set_option maxHeartbeats 1000000 in
theorem sureC_any (w : World) : Calls Try.prog 14 #[] w fun e w' => e = .returned (.bool true) ∧ Below w.heap.size w w' := by
  have T : Hid (∀ w : World, Calls Try.prog 12 #[.agg #[.int .u32 0, .int .u32 0, .int .u32 2147483905, .int .u32 0, .int .u32 0, .int .u32 0, .int .u32 0, .int .u64 0], .int .u32 2147483655, .int .u32 0, .int .u32 4] w fun e w' => e = .returned (.tuple #[.agg #[.int .u32 0, .int .u32 0, .int .u32 2147483905, .int .u32 0, .int .u32 4, .int .u32 2147483655, .int .u32 0, .int .u64 0], .int .u32 2147483932]) ∧ Below w.heap.size w w') :=
    Lib.hid (fun w => (trap_any ⟨0, 0, 2147483905, 0, 0, 0, 0, 0⟩ ⟨by decide, by decide, by decide, by decide, by decide, by decide, by decide, by decide⟩ 2147483655 0 4 (by decide) (by decide) (by decide) w).mono fun e w' h => ⟨by rw [h.1, show trapTo 2147483905 2147483655 = 2147483932 from by decide +kernel, show trapS ⟨0, 0, 2147483905, 0, 0, 0, 0, 0⟩ 2147483655 0 4 = ⟨0, 0, 2147483905, 0, 4, 2147483655, 0, 0⟩ from by simp only [trapS]; congr 1]; rfl, h.2⟩)
  go_enter Try.func14, Try.ntmps14
  go_wp2_with (go_at_call 12; refine (T.out _).mono ?_; rintro e w' ⟨rfl, hb⟩)
  go_ret
  exact ⟨rfl, hb.alloc hb.size _⟩
/-- a box that holds a state, cell by cell, and what lay below stays -/
def Held8 (w0 : World) (B : Nat) (t : TypeId) (s : St) (w' : World) : Prop := w'.cell? ⟨B, 0, none⟩ = some (.int .u32 s.status) ∧ w'.cell? ⟨B, 1, none⟩ = some (.int .u32 s.enable) ∧ w'.cell? ⟨B, 2, none⟩ = some (.int .u32 s.vector) ∧ w'.cell? ⟨B, 3, none⟩ = some (.int .u32 s.scratch) ∧
    w'.cell? ⟨B, 4, none⟩ = some (.int .u32 s.epc) ∧ w'.cell? ⟨B, 5, none⟩ = some (.int .u32 s.cause) ∧ w'.cell? ⟨B, 6, none⟩ = some (.int .u32 s.value) ∧ w'.cell? ⟨B, 7, none⟩ = some (.int .u64 s.count) ∧ BoxS w' B t s ∧ Below w0.heap.size w0 w'
theorem Held8.mk_ {w0 w' : World} {B : Nat} {t : TypeId} {s : St} (h : BoxS w' B t s) (hb : Below w0.heap.size w0 w') : Held8 w0 B t s w' := by
  obtain ⟨a0, a1, a2, a3, a4, a5, a6, a7, _, _⟩ := h.facts
  exact ⟨a0, a1, a2, a3, a4, a5, a6, a7, h, hb⟩
theorem Held8.start (w : World) (t : TypeId) (s : St) : Held8 w w.heap.size t s ((w.alloc (.cells s.cells t)).drewN 1) :=
  Held8.mk_ (heap_alloc_new w _) (below_drewN ((Below.refl _ _).alloc (Nat.le_refl _) _) 1)
theorem Held8.keep {w0 wa wb : World} {B : Nat} {t : TypeId} {s : St} (h : Held8 w0 B t s wa) (hb : Below wa.heap.size wa wb) : Held8 w0 B t s wb := by
  obtain ⟨_, _, _, _, _, _, _, _, h1, h2⟩ := h
  exact Held8.mk_ (h1.below hb) (h2.trans (hb.mono h2.size))
theorem Held8.out {w0 wa : World} {B : Nat} {t : TypeId} {s : St} (h : Held8 w0 B t s wa) : Below w0.heap.size w0 wa := h.2.2.2.2.2.2.2.2.2
theorem csrAsks_walk (st en ve sc ep ca va co : Nat) (g1 : st < 4294967296) (g2 : en < 4294967296) (g3 : ve < 4294967296) (g4 : sc < 4294967296) (g5 : ep < 4294967296) (g6 : ca < 4294967296) (g7 : va < 4294967296) (g8 : co < 18446744073709551616) (ln : Nat) (hl : ln < 4294967296) (w : World) :
    Calls Try.prog 4 #[.agg #[.int .u32 st, .int .u32 en, .int .u32 ve, .int .u32 sc, .int .u32 ep, .int .u32 ca, .int .u32 va, .int .u64 co], .int .u32 ln] w fun e w' => e = .returned (.bool true) ∧ Below w.heap.size w w' := by
  have A : Hid (∀ w : World, Calls Try.prog 15 #[.agg #[.int .u32 st, .int .u32 en, .int .u32 ve, .int .u32 sc, .int .u32 ep, .int .u32 ca, .int .u32 va, .int .u64 co], .int .u32 ln] w fun e w' => e = .returned (.int .u32 (asksS ⟨st, en, ve, sc, ep, ca, va, co⟩ ln)) ∧ Below w.heap.size w w') := Lib.hid (fun w => asks_any ⟨st, en, ve, sc, ep, ca, va, co⟩ ⟨g1, g2, g3, g4, g5, g6, g7, g8⟩ ln hl w)
  have R : Hid (∀ w : World, Calls Try.prog 16 #[.agg #[.int .u32 st, .int .u32 en, .int .u32 ve, .int .u32 sc, .int .u32 ep, .int .u32 ca, .int .u32 va, .int .u64 co], .int .u32 ln] w fun e w' => e = .returned (.int .u32 (asksS ⟨st, en, ve, sc, ep, ca, va, co⟩ ln)) ∧ Below w.heap.size w w') := Lib.hid (fun w => rasks_any ⟨st, en, ve, sc, ep, ca, va, co⟩ ⟨g1, g2, g3, g4, g5, g6, g7, g8⟩ ln hl w)
  generalize asksS ⟨st, en, ve, sc, ep, ca, va, co⟩ ln = r at A R
  go_enter Try.func4, Try.ntmps4
  have HB := Lib.hid (Held8.start w 25 ⟨st, en, ve, sc, ep, ca, va, co⟩)
  go_wp2
  go_region_held3 (fun w' => w'.cell? ⟨w.heap.size, 0, none⟩ = some (.int .u32 st) ∧ w'.cell? ⟨w.heap.size, 1, none⟩ = some (.int .u32 en) ∧ w'.cell? ⟨w.heap.size, 2, none⟩ = some (.int .u32 ve) ∧ w'.cell? ⟨w.heap.size, 3, none⟩ = some (.int .u32 sc) ∧
    w'.cell? ⟨w.heap.size, 4, none⟩ = some (.int .u32 ep) ∧ w'.cell? ⟨w.heap.size, 5, none⟩ = some (.int .u32 ca) ∧ w'.cell? ⟨w.heap.size, 6, none⟩ = some (.int .u32 va) ∧ w'.cell? ⟨w.heap.size, 7, none⟩ = some (.int .u64 co) ∧ BoxS w' w.heap.size 25 ⟨st, en, ve, sc, ep, ca, va, co⟩ ∧ Below w.heap.size w w')
    (first | exact HB.out | exact Held8.keep (s := ⟨st, en, ve, sc, ep, ca, va, co⟩) (by assumption) hb)
    (first | (go_at_call 15; refine (A.out _).mono ?_; rintro e w' ⟨rfl, hb⟩) | (go_at_call 16; refine (R.out _).mono ?_; rintro e w' ⟨rfl, hb⟩) | (go_at_call 14; refine (sureC_any _).mono ?_; rintro e w' ⟨rfl, hb⟩))
  all_goals (go_wp2; go_ret; exact ⟨rfl, Held8.out (B := w.heap.size) (t := 25) (s := ⟨st, en, ve, sc, ep, ca, va, co⟩) (by assumption)⟩)

end Go.Proofs.Ytgbpalclapcfeaa
