import Derived.Test.YtoincdfijeipjaaDoorHbR
import Derived.Below
import Derived.Deep.Draws
import Derived.Deep.AppendLies
import Derived.Maps.AppendAt
import Derived.OwnWalk
import Derived.Laws.BytesArg
import Derived.Laws.MakeOwn
import Derived.Laws.OwnMore
import Derived.Deep.OwnRows
import Derived.Tactics
import Derived.Lib.ConvBytes
import Derived.Laws.Slices
import Derived.WalkKit
import Derived.KernelRfl
import Derived.RowKit3
import Derived.Deep.LoopGhost
import Derived.Deep.QuietTactic
import Derived.BigQuiet
import Derived.WideLaws
import Derived.Deep.DeepCutAuto
import Derived.Deep.CutBlock
import Derived.Deep.RegionHeld3
import Derived.Laws.Rows
import Derived.Lib.AppendStr
import Derived.ArgAppend
import Derived.Laws.IdiomCopy
import Derived.OrdersHeld
import Derived.Laws.BitsLemmas
import Derived.RowKit
import Derived.Lib.Hide
import Derived.Laws.BitsAllLaws
import Derived.WalkLawsBesides
import Derived.WalkSpells
import Derived.LaidEql
namespace Go.Proofs.YtoincdfijeipjaaDoor
open Go.RowKit
set_option maxRecDepth 100000
set_option linter.unusedVariables false
set_option linter.unusedSimpArgs false

theorem only37_at (v : Nat) (hv : v < 4294967296) (B : Nat) (w : World) (h0 : w.cell? ⟨B, 0, none⟩ = some (.int .i64 3)) (h1 : w.cell? ⟨B, 1, none⟩ = some (.int .i64 7)) :
    Calls Tryd.prog 87 #[.int .u32 v, .slice (some ⟨B, 0, none⟩) 2 2] w fun e w' => e = .returned (.int .u32 (v &&& 136 : Nat)) ∧ Below w.heap.size w w' :=
  (only_any v hv B 2 [3, 7] rfl (by omega) (by simp) w (fun j i h => by
    rcases j with _ | _ | j
    · obtain rfl : 3 = i := by simpa using h
      exact h0
    · obtain rfl : 7 = i := by simpa using h
      exact h1
    · simp at h) (block_lt_of_cell h0)).mono fun e w' h => ⟨by rw [h.1, only37 hv], h.2⟩
theorem only3711_at (v : Nat) (hv : v < 4294967296) (B : Nat) (w : World) (h0 : w.cell? ⟨B, 0, none⟩ = some (.int .i64 3)) (h1 : w.cell? ⟨B, 1, none⟩ = some (.int .i64 7)) (h2 : w.cell? ⟨B, 2, none⟩ = some (.int .i64 11)) :
    Calls Tryd.prog 87 #[.int .u32 v, .slice (some ⟨B, 0, none⟩) 3 3] w fun e w' => e = .returned (.int .u32 (v &&& 2184 : Nat)) ∧ Below w.heap.size w w' :=
  (only_any v hv B 3 [3, 7, 11] rfl (by omega) (by simp) w (fun j i h => by
    rcases j with _ | _ | _ | j
    · obtain rfl : 3 = i := by simpa using h
      exact h0
    · obtain rfl : 7 = i := by simpa using h
      exact h1
    · obtain rfl : 11 = i := by simpa using h
      exact h2
    · simp at h) (block_lt_of_cell h0)).mono fun e w' h => ⟨by rw [h.1, only3711 hv], h.2⟩
theorem but1_at (v : Nat) (hv : v < 4294967296) (B : Nat) (w : World) (h0 : w.cell? ⟨B, 0, none⟩ = some (.int .i64 1)) :
    Calls Tryd.prog 88 #[.int .u32 v, .slice (some ⟨B, 0, none⟩) 1 1] w fun e w' => e = .returned (.int .u32 (clr v 2 : Nat)) ∧ Below w.heap.size w w' :=
  (but_any v hv B 1 [1] rfl (by omega) (by simp) w (fun j i h => by
    rcases j with _ | j
    · obtain rfl : 1 = i := by simpa using h
      exact h0
    · simp at h) (block_lt_of_cell h0)).mono fun e w' h => ⟨by rw [h.1, but1 hv], h.2⟩

/-- a box that holds a state, cell by cell, and what lay below stays -/
def Held8 (w0 : World) (B : Nat) (t : TypeId) (s : St) (w' : World) : Prop := w'.cell? ⟨B, 0, none⟩ = some (.int .u32 s.status) ∧ w'.cell? ⟨B, 1, none⟩ = some (.int .u32 s.enable) ∧ w'.cell? ⟨B, 2, none⟩ = some (.int .u32 s.vector) ∧ w'.cell? ⟨B, 3, none⟩ = some (.int .u32 s.scratch) ∧
    w'.cell? ⟨B, 4, none⟩ = some (.int .u32 s.epc) ∧ w'.cell? ⟨B, 5, none⟩ = some (.int .u32 s.cause) ∧ w'.cell? ⟨B, 6, none⟩ = some (.int .u32 s.value) ∧ w'.cell? ⟨B, 7, none⟩ = some (.int .u64 s.count) ∧ BoxS w' B t s ∧ Below w0.heap.size w0 w'
theorem Held8.mk_ {w0 w' : World} {B : Nat} {t : TypeId} {s : St} (h : BoxS w' B t s) (hb : Below w0.heap.size w0 w') : Held8 w0 B t s w' := by
  obtain ⟨a0, a1, a2, a3, a4, a5, a6, a7, _, _⟩ := h.facts
  exact ⟨a0, a1, a2, a3, a4, a5, a6, a7, h, hb⟩
theorem Held8.start (w : World) (t : TypeId) (s : St) : Held8 w w.heap.size t s ((w.alloc (.cells s.cells t)).drewN 1) :=
  Held8.mk_ (heap_alloc_new w _) (below_drewN ((Below.refl _ _).alloc (Nat.le_refl _) _) 1)
theorem Held8.keep {w0 wa wb : World} {B : Nat} {t : TypeId} {s : St} (h : Held8 w0 B t s wa) (hb : Below wa.heap.size wa wb) : Held8 w0 B t s wb := by
  obtain ⟨_, _, _, _, _, _, _, _, h1, h2⟩ := h
  exact Held8.mk_ (h1.below hb) (h2.trans (hb.mono h2.size))
theorem Held8.out {w0 wa : World} {B : Nat} {t : TypeId} {s : St} (h : Held8 w0 B t s wa) : Below w0.heap.size w0 wa := h.2.2.2.2.2.2.2.2.2

theorem keep_iff {v m : Nat} (hv : v < 4294967296) (hm : m < 4294967296) : clr v m = 0 ↔ v &&& m = v := by
  constructor
  · intro h
    apply word_ext (Nat.lt_of_le_of_lt Nat.and_le_left hv) hv
    intro j hj
    have e : (clr v m).testBit j = false := by rw [h]; simp
    rw [tb_clr hm hj] at e
    rw [Nat.testBit_and]
    cases h1 : v.testBit j <;> cases h2 : m.testBit j <;> simp_all
  · intro h
    apply word_ext (clr_lt hv) (by omega)
    intro j hj
    rw [tb_clr hm hj, ← h, Nat.testBit_and]
    cases v.testBit j <;> cases m.testBit j <;> simp
theorem but_iff {v m : Nat} (hv : v < 4294967296) (hm : m < 4294967296) : v &&& m = 0 ↔ clr v m = v := by
  constructor
  · intro h
    apply word_ext (clr_lt hv) hv
    intro j hj
    have e : (v &&& m).testBit j = false := by rw [h]; simp
    rw [Nat.testBit_and] at e
    rw [tb_clr hm hj]
    cases h1 : v.testBit j <;> cases h2 : m.testBit j <;> simp_all
  · intro h
    apply word_ext (Nat.lt_of_le_of_lt Nat.and_le_left hv) (by omega)
    intro j hj
    rw [Nat.testBit_and, ← h, tb_clr hm hj]
    cases v.testBit j <;> cases m.testBit j <;> simp

end Go.Proofs.YtoincdfijeipjaaDoor
