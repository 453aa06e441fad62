import Derived.Test.YtgbpalclapcfeaaLawC
import Derived.Test.YtgbpalclapcfeaaCsrB
import Derived.Below
import Derived.Deep.Draws
import Derived.Deep.AppendLies
import Derived.Maps.AppendAt
import Derived.OwnWalk
import Derived.Laws.BytesArg
import Derived.Laws.MakeOwn
import Derived.Laws.OwnMore
import Derived.Deep.OwnRows
import Derived.Tactics
import Derived.Lib.ConvBytes
import Derived.Laws.Slices
import Derived.WalkKit
import Derived.KernelRfl
import Derived.RowKit3
import Derived.Deep.LoopGhost
import Derived.Deep.QuietTactic
import Derived.BigQuiet
import Derived.WideLaws
import Derived.Deep.DeepCutAuto
import Derived.Deep.CutBlock
import Derived.Deep.RegionHeld3
import Derived.Laws.Rows
import Derived.Lib.AppendStr
import Derived.ArgAppend
import Derived.Laws.IdiomCopy
import Derived.OrdersHeld
import Derived.Laws.BitsLemmas
import Derived.RowKit
import Derived.Lib.Hide
import Derived.Laws.BitsAllLaws
import Derived.WalkLawsBesides
import Derived.WalkSpells
import Derived.LaidEql
namespace Go.Proofs.Ytgbpalclapcfeaa
open Go.RowKit
set_option maxRecDepth 100000
set_option linter.unusedVariables false
set_option linter.unusedSimpArgs false

/-- three boxes that hold states, cell by cell, and what lay below stays -/
def Tri (w0 : World) (B0 B1 B2 : Nat) (t0 t1 t2 : TypeId) (s u v : St) (w' : World) : Prop :=
  w'.cell? ⟨B0, 0, none⟩ = some (.int .u32 s.status) ∧ w'.cell? ⟨B0, 1, none⟩ = some (.int .u32 s.enable) ∧ w'.cell? ⟨B0, 2, none⟩ = some (.int .u32 s.vector) ∧ w'.cell? ⟨B0, 3, none⟩ = some (.int .u32 s.scratch) ∧
  w'.cell? ⟨B0, 4, none⟩ = some (.int .u32 s.epc) ∧ w'.cell? ⟨B0, 5, none⟩ = some (.int .u32 s.cause) ∧ w'.cell? ⟨B0, 6, none⟩ = some (.int .u32 s.value) ∧ w'.cell? ⟨B0, 7, none⟩ = some (.int .u64 s.count) ∧
  w'.cell? ⟨B1, 0, none⟩ = some (.int .u32 u.status) ∧ w'.cell? ⟨B1, 1, none⟩ = some (.int .u32 u.enable) ∧ w'.cell? ⟨B1, 2, none⟩ = some (.int .u32 u.vector) ∧ w'.cell? ⟨B1, 3, none⟩ = some (.int .u32 u.scratch) ∧
  w'.cell? ⟨B1, 4, none⟩ = some (.int .u32 u.epc) ∧ w'.cell? ⟨B1, 5, none⟩ = some (.int .u32 u.cause) ∧ w'.cell? ⟨B1, 6, none⟩ = some (.int .u32 u.value) ∧ w'.cell? ⟨B1, 7, none⟩ = some (.int .u64 u.count) ∧
  w'.cell? ⟨B2, 0, none⟩ = some (.int .u32 v.status) ∧ w'.cell? ⟨B2, 1, none⟩ = some (.int .u32 v.enable) ∧ w'.cell? ⟨B2, 2, none⟩ = some (.int .u32 v.vector) ∧ w'.cell? ⟨B2, 3, none⟩ = some (.int .u32 v.scratch) ∧
  w'.cell? ⟨B2, 4, none⟩ = some (.int .u32 v.epc) ∧ w'.cell? ⟨B2, 5, none⟩ = some (.int .u32 v.cause) ∧ w'.cell? ⟨B2, 6, none⟩ = some (.int .u32 v.value) ∧ w'.cell? ⟨B2, 7, none⟩ = some (.int .u64 v.count) ∧
  BoxS w' B0 t0 s ∧ BoxS w' B1 t1 u ∧ BoxS w' B2 t2 v ∧ Below w0.heap.size w0 w'
theorem Tri.mk_ {w0 w' : World} {B0 B1 B2 : Nat} {t0 t1 t2 : TypeId} {s u v : St} (h0 : BoxS w' B0 t0 s) (h1 : BoxS w' B1 t1 u) (h2 : BoxS w' B2 t2 v) (hb : Below w0.heap.size w0 w') : Tri w0 B0 B1 B2 t0 t1 t2 s u v w' := by
  obtain ⟨a0, a1, a2, a3, a4, a5, a6, a7, _, _⟩ := h0.facts
  obtain ⟨b0, b1, b2, b3, b4, b5, b6, b7, _, _⟩ := h1.facts
  obtain ⟨c0, c1, c2, c3, c4, c5, c6, c7, _, _⟩ := h2.facts
  exact ⟨a0, a1, a2, a3, a4, a5, a6, a7, b0, b1, b2, b3, b4, b5, b6, b7, c0, c1, c2, c3, c4, c5, c6, c7, h0, h1, h2, hb⟩
theorem Tri.keep {w0 wa wb : World} {B0 B1 B2 : Nat} {t0 t1 t2 : TypeId} {s u v : St} (h : Tri w0 B0 B1 B2 t0 t1 t2 s u v wa) (hb : Below wa.heap.size wa wb) : Tri w0 B0 B1 B2 t0 t1 t2 s u v wb := by
  obtain ⟨_, _, _, _, _, _, _, _, _, _, _, _, _, _, _, _, _, _, _, _, _, _, _, _, h0, h1, h2, h3⟩ := h
  exact Tri.mk_ (h0.below hb) (h1.below hb) (h2.below hb) (h3.trans (hb.mono h3.size))
theorem Tri.out {w0 wa : World} {B0 B1 B2 : Nat} {t0 t1 t2 : TypeId} {s u v : St} (h : Tri w0 B0 B1 B2 t0 t1 t2 s u v wa) : Below w0.heap.size w0 wa := h.2.2.2.2.2.2.2.2.2.2.2.2.2.2.2.2.2.2.2.2.2.2.2.2.2.2.2
theorem BoxS.alloc {w : World} {B : Nat} {t : TypeId} {s : St} (h : BoxS w B t s) (o : Obj) : BoxS (w.alloc o) B t s := h.below ((Below.refl _ _).alloc (Nat.le_refl _) _)
theorem BoxS.drew {w : World} {B : Nat} {t : TypeId} {s : St} (h : BoxS w B t s) (k : Nat) : BoxS (w.drewN k) B t s := h
theorem BoxS.new (w : World) (s : St) (t : TypeId) : BoxS (w.alloc (.cells s.cells t)) w.heap.size t s := heap_alloc_new w _

set_option maxHeartbeats 2000000 in
theorem csrReturns_walk (st en ve sc ep ca va co : Nat) (g1 : st < 4294967296) (g2 : en < 4294967296) (g3 : ve < 4294967296) (g4 : sc < 4294967296) (g5 : ep < 4294967296) (g6 : ca < 4294967296) (g7 : va < 4294967296) (g8 : co < 18446744073709551616) (ln : Nat) (hl : ln < 4294967296) (w : World) :
    Calls Try.prog 5 #[.agg #[.int .u32 st, .int .u32 en, .int .u32 ve, .int .u32 sc, .int .u32 ep, .int .u32 ca, .int .u32 va, .int .u64 co], .int .u32 ln] w fun e w' => e = .returned (.bool true) ∧ Below w.heap.size w w' := by
  have A : Hid (∀ w : World, Calls Try.prog 15 #[.agg #[.int .u32 st, .int .u32 en, .int .u32 ve, .int .u32 sc, .int .u32 ep, .int .u32 ca, .int .u32 va, .int .u64 co], .int .u32 ln] w fun e w' => e = .returned (.int .u32 (asksS ⟨st, en, ve, sc, ep, ca, va, co⟩ ln)) ∧ Below w.heap.size w w') := Lib.hid (fun w => asks_any ⟨st, en, ve, sc, ep, ca, va, co⟩ ⟨g1, g2, g3, g4, g5, g6, g7, g8⟩ ln hl w)
  have R : Hid (∀ w : World, Calls Try.prog 16 #[.agg #[.int .u32 st, .int .u32 en, .int .u32 ve, .int .u32 sc, .int .u32 ep, .int .u32 ca, .int .u32 va, .int .u64 co], .int .u32 ln] w fun e w' => e = .returned (.int .u32 (asksS ⟨st, en, ve, sc, ep, ca, va, co⟩ ln)) ∧ Below w.heap.size w w') := Lib.hid (fun w => rasks_any ⟨st, en, ve, sc, ep, ca, va, co⟩ ⟨g1, g2, g3, g4, g5, g6, g7, g8⟩ ln hl w)
  have P : ∀ w : World, Calls Try.prog 17 #[.agg #[.int .u32 st, .int .u32 en, .int .u32 ve, .int .u32 sc, .int .u32 ep, .int .u32 ca, .int .u32 va, .int .u64 co]] w fun e w' => e = .returned (.tuple #[(retS ⟨st, en, ve, sc, ep, ca, va, co⟩).v, .int .u32 ep]) ∧ Below w.heap.size w w' := fun w => return_any ⟨st, en, ve, sc, ep, ca, va, co⟩ ⟨g1, g2, g3, g4, g5, g6, g7, g8⟩ w
  have Q : ∀ w : World, Calls Try.prog 18 #[.agg #[.int .u32 st, .int .u32 en, .int .u32 ve, .int .u32 sc, .int .u32 ep, .int .u32 ca, .int .u32 va, .int .u64 co]] w fun e w' => e = .returned (.tuple #[(retS ⟨st, en, ve, sc, ep, ca, va, co⟩).v, .int .u32 ep]) ∧ Below w.heap.size w w' := fun w => rreturn_any ⟨st, en, ve, sc, ep, ca, va, co⟩ ⟨g1, g2, g3, g4, g5, g6, g7, g8⟩ w
  generalize asksS ⟨st, en, ve, sc, ep, ca, va, co⟩ ln = r at A R
  obtain ⟨u, hu⟩ : ∃ u, retS ⟨st, en, ve, sc, ep, ca, va, co⟩ = u := ⟨_, rfl⟩
  rw [hu] at P Q
  clear hu
  obtain ⟨u0, u1, u2, u3, u4, u5, u6, u7⟩ := u
  unfold St.v St.cells at P Q
  simp only at P Q
  have HP := Lib.hid P
  have HQ := Lib.hid Q
  clear P Q g1 g2 g3 g4 g5 g6 g7 g8 hl
  go_enter Try.func5, Try.ntmps5
  have B0 := Lib.hid (BoxS.new w ⟨st, en, ve, sc, ep, ca, va, co⟩ 25)
  go_wp2_with (first
    | (go_at_call 17; refine (HP.out _).mono ?_; rintro e w1 ⟨rfl, hb1⟩; have B1 := Lib.hid (B0.out.below hb1); have F1 := B1.out.facts; obtain ⟨f0, f1, f2, f3, f4, f5, f6, f7, _, f9⟩ := F1; have hb1' := Lib.hid hb1; have b1 := Lib.hid (((Below.refl _ w).alloc (Nat.le_refl _) _).trans (hb1.mono (by simp))); clear hb1)
    | (go_at_call 18; refine (HQ.out _).mono ?_; rintro e w2 ⟨rfl, hb2⟩; have hb2' := Lib.hid hb2; clear hb2))
  have HB := Lib.hid (Tri.mk_ (w0 := w) (((B0.out.below hb1'.out |>.alloc (.cells (St.cells ⟨u0, u1, u2, u3, u4, u5, u6, u7⟩) 27)).below hb2'.out).alloc (.cells (St.cells ⟨u0, u1, u2, u3, u4, u5, u6, u7⟩) 25) |>.drew 1) (((BoxS.new w1 ⟨u0, u1, u2, u3, u4, u5, u6, u7⟩ 27).below hb2'.out).alloc (.cells (St.cells ⟨u0, u1, u2, u3, u4, u5, u6, u7⟩) 25) |>.drew 1) ((BoxS.new w2 ⟨u0, u1, u2, u3, u4, u5, u6, u7⟩ 25).drew 1)
    (below_drewN (((b1.out.alloc b1.out.size _).trans (hb2'.out.mono (by have := b1.out.size; simp; omega))).alloc (Nat.le_trans b1.out.size (Nat.le_trans (by simp) hb2'.out.size)) _) 1))
  go_region_held3 (fun w' => w'.cell? ⟨w.heap.size, 0, none⟩ = some (.int .u32 st) ∧ w'.cell? ⟨w.heap.size, 1, none⟩ = some (.int .u32 en) ∧ w'.cell? ⟨w.heap.size, 2, none⟩ = some (.int .u32 ve) ∧ w'.cell? ⟨w.heap.size, 3, none⟩ = some (.int .u32 sc) ∧
    w'.cell? ⟨w.heap.size, 4, none⟩ = some (.int .u32 ep) ∧ w'.cell? ⟨w.heap.size, 5, none⟩ = some (.int .u32 ca) ∧ w'.cell? ⟨w.heap.size, 6, none⟩ = some (.int .u32 va) ∧ w'.cell? ⟨w.heap.size, 7, none⟩ = some (.int .u64 co) ∧
    w'.cell? ⟨w1.heap.size, 0, none⟩ = some (.int .u32 u0) ∧ w'.cell? ⟨w1.heap.size, 1, none⟩ = some (.int .u32 u1) ∧ w'.cell? ⟨w1.heap.size, 2, none⟩ = some (.int .u32 u2) ∧ w'.cell? ⟨w1.heap.size, 3, none⟩ = some (.int .u32 u3) ∧
    w'.cell? ⟨w1.heap.size, 4, none⟩ = some (.int .u32 u4) ∧ w'.cell? ⟨w1.heap.size, 5, none⟩ = some (.int .u32 u5) ∧ w'.cell? ⟨w1.heap.size, 6, none⟩ = some (.int .u32 u6) ∧ w'.cell? ⟨w1.heap.size, 7, none⟩ = some (.int .u64 u7) ∧
    w'.cell? ⟨w2.heap.size, 0, none⟩ = some (.int .u32 u0) ∧ w'.cell? ⟨w2.heap.size, 1, none⟩ = some (.int .u32 u1) ∧ w'.cell? ⟨w2.heap.size, 2, none⟩ = some (.int .u32 u2) ∧ w'.cell? ⟨w2.heap.size, 3, none⟩ = some (.int .u32 u3) ∧
    w'.cell? ⟨w2.heap.size, 4, none⟩ = some (.int .u32 u4) ∧ w'.cell? ⟨w2.heap.size, 5, none⟩ = some (.int .u32 u5) ∧ w'.cell? ⟨w2.heap.size, 6, none⟩ = some (.int .u32 u6) ∧ w'.cell? ⟨w2.heap.size, 7, none⟩ = some (.int .u64 u7) ∧
    BoxS w' w.heap.size 25 ⟨st, en, ve, sc, ep, ca, va, co⟩ ∧ BoxS w' w1.heap.size 27 ⟨u0, u1, u2, u3, u4, u5, u6, u7⟩ ∧ BoxS w' w2.heap.size 25 ⟨u0, u1, u2, u3, u4, u5, u6, u7⟩ ∧ Below w.heap.size w w')
    (first | exact HB.out | exact Tri.keep (s := ⟨st, en, ve, sc, ep, ca, va, co⟩) (u := ⟨u0, u1, u2, u3, u4, u5, u6, u7⟩) (v := ⟨u0, u1, u2, u3, u4, u5, u6, u7⟩) (by assumption) hb)
    (first | (go_at_call 15; refine (A.out _).mono ?_; rintro e w' ⟨rfl, hb⟩) | (go_at_call 16; refine (R.out _).mono ?_; rintro e w' ⟨rfl, hb⟩) | (go_at_call 14; refine (sureC_any _).mono ?_; rintro e w' ⟨rfl, hb⟩))
  all_goals (go_wp2; go_ret; exact ⟨rfl, Tri.out (B0 := w.heap.size) (B1 := w1.heap.size) (B2 := w2.heap.size) (t0 := 25) (t1 := 27) (t2 := 25) (s := ⟨st, en, ve, sc, ep, ca, va, co⟩) (u := ⟨u0, u1, u2, u3, u4, u5, u6, u7⟩) (v := ⟨u0, u1, u2, u3, u4, u5, u6, u7⟩) (by assumption)⟩)

end Go.Proofs.Ytgbpalclapcfeaa
