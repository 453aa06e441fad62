import Derived.Test.YtgbpalclapcfeaaLawE
import Derived.Test.YtgbpalclapcfeaaCsrF
import Derived.Below
import Derived.Deep.Draws
import Derived.Deep.AppendLies
import Derived.Maps.AppendAt
import Derived.OwnWalk
import Derived.Laws.BytesArg
import Derived.Laws.MakeOwn
import Derived.Laws.OwnMore
import Derived.Deep.OwnRows
import Derived.Tactics
import Derived.Lib.ConvBytes
import Derived.Laws.Slices
import Derived.WalkKit
import Derived.KernelRfl
import Derived.RowKit3
import Derived.Deep.LoopGhost
import Derived.Deep.QuietTactic
import Derived.BigQuiet
import Derived.WideLaws
import Derived.Deep.DeepCutAuto
import Derived.Deep.CutBlock
import Derived.Deep.RegionHeld3
import Derived.Laws.Rows
import Derived.Lib.AppendStr
import Derived.ArgAppend
import Derived.Laws.IdiomCopy
import Derived.OrdersHeld
import Derived.Laws.BitsLemmas
import Derived.RowKit
import Derived.Lib.Hide
import Derived.Laws.BitsAllLaws
import Derived.WalkLawsBesides
import Derived.WalkSpells
import Derived.LaidEql
namespace Go.Proofs.Ytgbpalclapcfeaa
open Go.RowKit
set_option maxRecDepth 100000
set_option linter.unusedVariables false
set_option linter.unusedSimpArgs false

/-- the boxes that the last line of CsrHolds reads: the state, the trapped one, the one that is back, and the four numbers -/
def Quad (w0 : World) (B0 B1 B2 BO : Nat) (t : TypeId) (s u v : St) (o0 o1 o2 o3 : Nat) (w' : World) : Prop :=
  w'.cell? ⟨B0, 0, none⟩ = some (.int .u32 s.status) ∧ w'.cell? ⟨B0, 1, none⟩ = some (.int .u32 s.enable) ∧ w'.cell? ⟨B0, 2, none⟩ = some (.int .u32 s.vector) ∧ w'.cell? ⟨B0, 3, none⟩ = some (.int .u32 s.scratch) ∧ w'.cell? ⟨B0, 4, none⟩ = some (.int .u32 s.epc) ∧ w'.cell? ⟨B0, 5, none⟩ = some (.int .u32 s.cause) ∧ w'.cell? ⟨B0, 6, none⟩ = some (.int .u32 s.value) ∧ w'.cell? ⟨B0, 7, none⟩ = some (.int .u64 s.count) ∧
  w'.cell? ⟨B1, 0, none⟩ = some (.int .u32 u.status) ∧ w'.cell? ⟨B1, 1, none⟩ = some (.int .u32 u.enable) ∧ w'.cell? ⟨B1, 2, none⟩ = some (.int .u32 u.vector) ∧ w'.cell? ⟨B1, 3, none⟩ = some (.int .u32 u.scratch) ∧ w'.cell? ⟨B1, 4, none⟩ = some (.int .u32 u.epc) ∧ w'.cell? ⟨B1, 5, none⟩ = some (.int .u32 u.cause) ∧ w'.cell? ⟨B1, 6, none⟩ = some (.int .u32 u.value) ∧ w'.cell? ⟨B1, 7, none⟩ = some (.int .u64 u.count) ∧
  w'.cell? ⟨B2, 0, none⟩ = some (.int .u32 v.status) ∧ w'.cell? ⟨B2, 1, none⟩ = some (.int .u32 v.enable) ∧ w'.cell? ⟨B2, 2, none⟩ = some (.int .u32 v.vector) ∧ w'.cell? ⟨B2, 3, none⟩ = some (.int .u32 v.scratch) ∧ w'.cell? ⟨B2, 4, none⟩ = some (.int .u32 v.epc) ∧ w'.cell? ⟨B2, 5, none⟩ = some (.int .u32 v.cause) ∧ w'.cell? ⟨B2, 6, none⟩ = some (.int .u32 v.value) ∧ w'.cell? ⟨B2, 7, none⟩ = some (.int .u64 v.count) ∧
  w'.cell? ⟨BO, 0, none⟩ = some (.int .u32 o0) ∧ w'.cell? ⟨BO, 1, none⟩ = some (.int .u32 o1) ∧ w'.cell? ⟨BO, 2, none⟩ = some (.int .u32 o2) ∧ w'.cell? ⟨BO, 3, none⟩ = some (.int .u32 o3) ∧
  BoxS w' B0 t s ∧ BoxS w' B1 t u ∧ BoxS w' B2 t v ∧ BO < w'.heap.size ∧ Below w0.heap.size w0 w'
/-- the four numbers and the state, kept -/
def Hol (w0 : World) (B0 BO : Nat) (t : TypeId) (s : St) (o0 o1 o2 o3 : Nat) (w' : World) : Prop := BoxS w' B0 t s ∧ w'.cell? ⟨BO, 0, none⟩ = some (.int .u32 o0) ∧ w'.cell? ⟨BO, 1, none⟩ = some (.int .u32 o1) ∧ w'.cell? ⟨BO, 2, none⟩ = some (.int .u32 o2) ∧ w'.cell? ⟨BO, 3, none⟩ = some (.int .u32 o3) ∧ BO < w'.heap.size ∧ Below w0.heap.size w0 w'
theorem Hol.below {w0 wa wb : World} {B0 BO : Nat} {t : TypeId} {s : St} {o0 o1 o2 o3 : Nat} (h : Hol w0 B0 BO t s o0 o1 o2 o3 wa) (hb : Below wa.heap.size wa wb) : Hol w0 B0 BO t s o0 o1 o2 o3 wb := by
  obtain ⟨h0, a0, a1, a2, a3, hl, h3⟩ := h
  exact ⟨h0.below hb, (hb.cell (p := ⟨BO, 0, none⟩) hl).trans a0, (hb.cell (p := ⟨BO, 1, none⟩) hl).trans a1, (hb.cell (p := ⟨BO, 2, none⟩) hl).trans a2, (hb.cell (p := ⟨BO, 3, none⟩) hl).trans a3, Nat.lt_of_lt_of_le hl hb.size, h3.trans (hb.mono h3.size)⟩
theorem Hol.alloc {w0 wa : World} {B0 BO : Nat} {t : TypeId} {s : St} {o0 o1 o2 o3 : Nat} (h : Hol w0 B0 BO t s o0 o1 o2 o3 wa) (o : Obj) : Hol w0 B0 BO t s o0 o1 o2 o3 (wa.alloc o) := h.below ((Below.refl _ _).alloc (Nat.le_refl _) _)
theorem Quad.mk_ {w0 w' : World} {B0 B1 B2 BO : Nat} {t : TypeId} {s u v : St} {o0 o1 o2 o3 : Nat} (h : Hol w0 B0 BO t s o0 o1 o2 o3 w') (h1 : BoxS w' B1 t u) (h2 : BoxS w' B2 t v) : Quad w0 B0 B1 B2 BO t s u v o0 o1 o2 o3 w' := by
  obtain ⟨h0, q0, q1, q2, q3, hl, hb⟩ := h
  obtain ⟨a0, a1, a2, a3, a4, a5, a6, a7, _, _⟩ := h0.facts
  obtain ⟨b0, b1, b2, b3, b4, b5, b6, b7, _, _⟩ := h1.facts
  obtain ⟨c0, c1, c2, c3, c4, c5, c6, c7, _, _⟩ := h2.facts
  exact ⟨a0, a1, a2, a3, a4, a5, a6, a7, b0, b1, b2, b3, b4, b5, b6, b7, c0, c1, c2, c3, c4, c5, c6, c7, q0, q1, q2, q3, h0, h1, h2, hl, hb⟩
theorem Quad.keep {w0 wa wb : World} {B0 B1 B2 BO : Nat} {t : TypeId} {s u v : St} {o0 o1 o2 o3 : Nat} (h : Quad w0 B0 B1 B2 BO t s u v o0 o1 o2 o3 wa) (hb : Below wa.heap.size wa wb) : Quad w0 B0 B1 B2 BO t s u v o0 o1 o2 o3 wb := by
  obtain ⟨_, _, _, _, _, _, _, _, _, _, _, _, _, _, _, _, _, _, _, _, _, _, _, _, q0, q1, q2, q3, h0, h1, h2, hl, h3⟩ := h
  exact Quad.mk_ (Hol.below ⟨h0, q0, q1, q2, q3, hl, h3⟩ hb) (h1.below hb) (h2.below hb)
theorem Quad.out {w0 wa : World} {B0 B1 B2 BO : Nat} {t : TypeId} {s u v : St} {o0 o1 o2 o3 : Nat} (h : Quad w0 B0 B1 B2 BO t s u v o0 o1 o2 o3 wa) : Below w0.heap.size w0 wa := by
  obtain ⟨_, _, _, _, _, _, _, _, _, _, _, _, _, _, _, _, _, _, _, _, _, _, _, _, q0, q1, q2, q3, h0, h1, h2, hl, h3⟩ := h
  exact h3
theorem Quad.drew {w0 wa : World} {B0 B1 B2 BO : Nat} {t : TypeId} {s u v : St} {o0 o1 o2 o3 : Nat} (h : Quad w0 B0 B1 B2 BO t s u v o0 o1 o2 o3 wa) (k : Nat) : Quad w0 B0 B1 B2 BO t s u v o0 o1 o2 o3 (wa.drewN k) := by
  obtain ⟨_, _, _, _, _, _, _, _, _, _, _, _, _, _, _, _, _, _, _, _, _, _, _, _, q0, q1, q2, q3, h0, h1, h2, hl, h3⟩ := h
  exact Quad.mk_ ⟨h0.drew k, q0, q1, q2, q3, hl, below_drewN h3 k⟩ (h1.drew k) (h2.drew k)

set_option maxHeartbeats 4000000 in
theorem csrHolds_walk (st en ve sc ep ca va co : Nat) (g1 : st < 4294967296) (g2 : en < 4294967296) (g3 : ve < 4294967296) (g4 : sc < 4294967296) (g5 : ep < 4294967296) (g6 : ca < 4294967296) (g7 : va < 4294967296) (g8 : co < 18446744073709551616) (at_ : Int) (l1 : -9223372036854775808 ≤ at_) (l2 : at_ < 9223372036854775808) (o0 o1 o2 o3 : Nat) (k0 : o0 < 4294967296) (k1 : o1 < 4294967296) (k2 : o2 < 4294967296) (k3 : o3 < 4294967296) (w : World) :
    Calls Try.prog 8 #[.agg #[.int .u32 st, .int .u32 en, .int .u32 ve, .int .u32 sc, .int .u32 ep, .int .u32 ca, .int .u32 va, .int .u64 co], .int .i64 at_, .agg #[.int .u32 o0, .int .u32 o1, .int .u32 o2, .int .u32 o3]] w fun e w' => e = .returned (.bool true) ∧ Below w.heap.size w w' := by
  have hok : St.ok ⟨st, en, ve, sc, ep, ca, va, co⟩ := ⟨g1, g2, g3, g4, g5, g6, g7, g8⟩
  clear l1 l2
  have A0 := Lib.hid (show Hol w (w.heap.size + 2) (w.heap.size + 1) 27 ⟨st, en, ve, sc, ep, ca, va, co⟩ o0 o1 o2 o3 (((w.alloc (.cells (St.cells ⟨st, en, ve, sc, ep, ca, va, co⟩) 25)).alloc (.cells #[.int .u32 o0, .int .u32 o1, .int .u32 o2, .int .u32 o3] 51)).alloc (.cells (St.cells ⟨st, en, ve, sc, ep, ca, va, co⟩) 27)) from by
    have hb : Below w.heap.size w ((w.alloc (.cells (St.cells ⟨st, en, ve, sc, ep, ca, va, co⟩) 25)).alloc (.cells #[.int .u32 o0, .int .u32 o1, .int .u32 o2, .int .u32 o3] 51)) := ((Below.refl _ _).alloc (Nat.le_refl _) _).alloc (by simp) _
    refine ⟨?_, ?_, ?_, ?_, ?_, by simp, hb.alloc (by simp; try omega) _⟩
    · have h := BoxS.new ((w.alloc (.cells (St.cells ⟨st, en, ve, sc, ep, ca, va, co⟩) 25)).alloc (.cells #[.int .u32 o0, .int .u32 o1, .int .u32 o2, .int .u32 o3] 51)) ⟨st, en, ve, sc, ep, ca, va, co⟩ 27
      have e : (((w.alloc (.cells (St.cells ⟨st, en, ve, sc, ep, ca, va, co⟩) 25)).alloc (.cells #[.int .u32 o0, .int .u32 o1, .int .u32 o2, .int .u32 o3] 51))).heap.size = w.heap.size + 2 := by simp
      rw [e] at h; exact h
    · rw [World.cell?_alloc_lt _ _ ⟨w.heap.size + 1, 0, none⟩ (by simp)]; exact (cell_new_at _ _ _ _ 0 (by simp)).trans rfl
    · rw [World.cell?_alloc_lt _ _ ⟨w.heap.size + 1, 1, none⟩ (by simp)]; exact (cell_new_at _ _ _ _ 1 (by simp)).trans rfl
    · rw [World.cell?_alloc_lt _ _ ⟨w.heap.size + 1, 2, none⟩ (by simp)]; exact (cell_new_at _ _ _ _ 2 (by simp)).trans rfl
    · rw [World.cell?_alloc_lt _ _ ⟨w.heap.size + 1, 3, none⟩ (by simp)]; exact (cell_new_at _ _ _ _ 3 (by simp)).trans rfl
    )
  by_cases hm : mayB ⟨st, en, ve, sc, ep, ca, va, co⟩ = true
  · have CX : Hid (∀ w : World, Calls Try.prog 21 #[.agg #[.int .u32 st, .int .u32 en, .int .u32 ve, .int .u32 sc, .int .u32 ep, .int .u32 ca, .int .u32 va, .int .u64 co]] w fun e w' => e = .returned .nilIface ∧ Below w.heap.size w w') := Lib.hid (fun w => by have h := csrCheck_any ⟨st, en, ve, sc, ep, ca, va, co⟩ hok w; rw [if_pos hm] at h; exact h)
    have htok := trapS_ok hok k0 k1 k2
    have huok := retS_ok htok
    have hmt : mayB (trapS ⟨st, en, ve, sc, ep, ca, va, co⟩ o0 o1 o2) = true := mayB_trap hok hm k2
    have hmu := mayB_ret htok hmt
    have hA1 := asks_trap hok o0 o1 o2 o3
    have hA2 := asks_back hok o0 o1 o2 o3
    have hT := fun w => trap_any ⟨st, en, ve, sc, ep, ca, va, co⟩ hok o0 o1 o2 k0 k1 k2 w
    have hU := fun w => return_any (trapS ⟨st, en, ve, sc, ep, ca, va, co⟩ o0 o1 o2) htok w
    have hep : (trapS ⟨st, en, ve, sc, ep, ca, va, co⟩ o0 o1 o2).epc = clr o2 3 := rfl
    have e1 : Go.bits .andNot .u32 (o2 : Int) 3 = (clr o2 3 : Nat) := u32c_andNot 3 k2 (by omega)
    have hX := fun w => asks_any ⟨st, en, ve, sc, ep, ca, va, co⟩ hok o3 k3 w
    have hCt := fun w => csrCheck_any _ htok w
    have hCu := fun w => csrCheck_any _ huok w
    have hAt := fun w => asks_any _ htok o3 k3 w
    have hAu := fun w => asks_any _ huok o3 k3 w
    rw [hA1] at hAt; rw [hA2] at hAu; rw [if_pos hmt] at hCt; rw [if_pos hmu] at hCu; rw [hep] at hU
    generalize retS (trapS ⟨st, en, ve, sc, ep, ca, va, co⟩ o0 o1 o2) = u at *
    generalize trapS ⟨st, en, ve, sc, ep, ca, va, co⟩ o0 o1 o2 = t at *
    obtain ⟨r, hr⟩ : ∃ r, asksS ⟨st, en, ve, sc, ep, ca, va, co⟩ o3 = r := ⟨_, rfl⟩
    rw [hr] at hX hAu
    obtain ⟨e3, he3⟩ : ∃ e3, clr o2 3 = e3 := ⟨_, rfl⟩
    rw [he3] at hU e1
    generalize trapTo ve o0 = tt at hT
    obtain ⟨t0, t1, t2, t3, t4, t5, t6, t7⟩ := t
    obtain ⟨u0, u1, u2, u3, u4, u5, u6, u7⟩ := u
    unfold St.v St.cells at hT hU hX hCt hCu hAt hAu
    simp only at hT hU hX hCt hCu hAt hAu
    have TR : Hid (∀ w : World, Calls Try.prog 12 #[.agg #[.int .u32 st, .int .u32 en, .int .u32 ve, .int .u32 sc, .int .u32 ep, .int .u32 ca, .int .u32 va, .int .u64 co], .int .u32 o0, .int .u32 o1, .int .u32 o2] w fun e w' => e = .returned (.tuple #[.agg #[.int .u32 t0, .int .u32 t1, .int .u32 t2, .int .u32 t3, .int .u32 t4, .int .u32 t5, .int .u32 t6, .int .u64 t7], .int .u32 tt]) ∧ Below w.heap.size w w') := Lib.hid hT
    have UR : Hid (∀ w : World, Calls Try.prog 17 #[.agg #[.int .u32 t0, .int .u32 t1, .int .u32 t2, .int .u32 t3, .int .u32 t4, .int .u32 t5, .int .u32 t6, .int .u64 t7]] w fun e w' => e = .returned (.tuple #[.agg #[.int .u32 u0, .int .u32 u1, .int .u32 u2, .int .u32 u3, .int .u32 u4, .int .u32 u5, .int .u32 u6, .int .u64 u7], .int .u32 e3]) ∧ Below w.heap.size w w') := Lib.hid hU
    have CT : Hid (∀ w : World, Calls Try.prog 21 #[.agg #[.int .u32 t0, .int .u32 t1, .int .u32 t2, .int .u32 t3, .int .u32 t4, .int .u32 t5, .int .u32 t6, .int .u64 t7]] w fun e w' => e = .returned .nilIface ∧ Below w.heap.size w w') := Lib.hid hCt
    have CU : Hid (∀ w : World, Calls Try.prog 21 #[.agg #[.int .u32 u0, .int .u32 u1, .int .u32 u2, .int .u32 u3, .int .u32 u4, .int .u32 u5, .int .u32 u6, .int .u64 u7]] w fun e w' => e = .returned .nilIface ∧ Below w.heap.size w w') := Lib.hid hCu
    have AT : Hid (∀ w : World, Calls Try.prog 15 #[.agg #[.int .u32 t0, .int .u32 t1, .int .u32 t2, .int .u32 t3, .int .u32 t4, .int .u32 t5, .int .u32 t6, .int .u64 t7], .int .u32 o3] w fun e w' => e = .returned (.int .u32 0) ∧ Below w.heap.size w w') := Lib.hid hAt
    have AU : Hid (∀ w : World, Calls Try.prog 15 #[.agg #[.int .u32 u0, .int .u32 u1, .int .u32 u2, .int .u32 u3, .int .u32 u4, .int .u32 u5, .int .u32 u6, .int .u64 u7], .int .u32 o3] w fun e w' => e = .returned (.int .u32 r) ∧ Below w.heap.size w w') := Lib.hid hAu
    have AX : Hid (∀ w : World, Calls Try.prog 15 #[.agg #[.int .u32 st, .int .u32 en, .int .u32 ve, .int .u32 sc, .int .u32 ep, .int .u32 ca, .int .u32 va, .int .u64 co], .int .u32 o3] w fun e w' => e = .returned (.int .u32 r) ∧ Below w.heap.size w w') := Lib.hid hX
    have hW := fun w => write_any ⟨st, en, ve, sc, ep, ca, va, co⟩ hok at_ o0 k0 w
    have hWm := writeV_may hm at_ k0
    have hWo := writeV_ok hok at_ k0
    generalize writeV ⟨st, en, ve, sc, ep, ca, va, co⟩ at_ o0 = yy at hW hWm hWo
    obtain ⟨y, er⟩ := yy
    simp only at hWm hWo
    have hCy := fun w => csrCheck_any y hWo w
    obtain ⟨y0, y1, y2, y3, y4, y5, y6, y7⟩ := y
    unfold writeR St.v St.cells at hW; unfold St.v St.cells at hCy
    simp only at hW hCy
    clear hok hmt hmu htok huok hA1 hA2 hep hr he3 hT hU hX hCt hCu hAt hAu hWo g1 g2 g3 g4 g5 g6 g7 g8 k0 k1 k2 k3 hm
    by_cases h0 : er = 0
    · rw [if_pos (hWm h0)] at hCy; subst h0
      have WR : Hid (∀ w : World, Calls Try.prog 19 #[.agg #[.int .u32 st, .int .u32 en, .int .u32 ve, .int .u32 sc, .int .u32 ep, .int .u32 ca, .int .u32 va, .int .u64 co], .int .i64 at_, .int .u32 o0] w fun e w' => e = .returned (.tuple #[.agg #[.int .u32 y0, .int .u32 y1, .int .u32 y2, .int .u32 y3, .int .u32 y4, .int .u32 y5, .int .u32 y6, .int .u64 y7], .nilIface]) ∧ Below w.heap.size w w') := Lib.hid hW
      have CY : Hid (∀ w : World, Calls Try.prog 21 #[.agg #[.int .u32 y0, .int .u32 y1, .int .u32 y2, .int .u32 y3, .int .u32 y4, .int .u32 y5, .int .u32 y6, .int .u64 y7]] w fun e w' => e = .returned .nilIface ∧ Below w.heap.size w w') := Lib.hid hCy
      clear hW hCy hWm
      go_enter Try.func8, Try.ntmps8
      go_wp2_with (first
        | (go_at_call 19; refine (WR.out _).mono ?_; rintro e w2 ⟨rfl, hb⟩; have A2 := Lib.hid ((A1.out.below hb).alloc (.cells (St.cells ⟨y0, y1, y2, y3, y4, y5, y6, y7⟩) 27)); have F2 := A2.out; obtain ⟨bx, _, _, _, _, _, _⟩ := F2; have FX2 := bx.facts; obtain ⟨f0, f1, f2, f3, f4, f5, f6, f7, f8, f9⟩ := FX2; clear hb)
        | (go_at_call 12; refine (TR.out _).mono ?_; rintro e w4 ⟨rfl, hb⟩; have A4 := Lib.hid ((A2.out.below hb).alloc (.cells (St.cells ⟨t0, t1, t2, t3, t4, t5, t6, t7⟩) 27)); have T4 := Lib.hid (BoxS.new w4 ⟨t0, t1, t2, t3, t4, t5, t6, t7⟩ 27); clear hb)
        | (go_at_call 17; refine (UR.out _).mono ?_; rintro e w5 ⟨rfl, hb⟩; have A5 := Lib.hid ((A4.out.below hb).alloc (.cells (St.cells ⟨u0, u1, u2, u3, u4, u5, u6, u7⟩) 27)); have T5 := Lib.hid ((T4.out.below hb).alloc (.cells (St.cells ⟨u0, u1, u2, u3, u4, u5, u6, u7⟩) 27)); have U5 := Lib.hid (BoxS.new w5 ⟨u0, u1, u2, u3, u4, u5, u6, u7⟩ 27); clear hb)
        | (go_at_call 21; (with_reducible refine (CX.out _).mono ?_); rintro e w1 ⟨rfl, hb⟩; have A1 := Lib.hid (A0.out.below hb); have F1 := A1.out; obtain ⟨bx, q0, q1, q2, q3, _, _⟩ := F1; have FX1 := bx.facts; obtain ⟨f0, f1, f2, f3, f4, f5, f6, f7, f8, f9⟩ := FX1; clear hb)
        | (go_at_call 21; (with_reducible refine (CY.out _).mono ?_); rintro e w3 ⟨rfl, hb⟩; have A2 := Lib.hid (A2.out.below hb); have F3 := A2.out; obtain ⟨bx, q0, q1, q2, q3, _, _⟩ := F3; have FX3 := bx.facts; obtain ⟨f0, f1, f2, f3, f4, f5, f6, f7, f8, f9⟩ := FX3; clear hb))
      have HB := Lib.hid ((Quad.mk_ A5.out T5.out U5.out).drew 1)
      go_region_held3 (fun w' => w'.cell? ⟨w.heap.size + 1 + 1, 0, none⟩ = some (.int .u32 st) ∧ w'.cell? ⟨w.heap.size + 1 + 1, 1, none⟩ = some (.int .u32 en) ∧ w'.cell? ⟨w.heap.size + 1 + 1, 2, none⟩ = some (.int .u32 ve) ∧ w'.cell? ⟨w.heap.size + 1 + 1, 3, none⟩ = some (.int .u32 sc) ∧ w'.cell? ⟨w.heap.size + 1 + 1, 4, none⟩ = some (.int .u32 ep) ∧ w'.cell? ⟨w.heap.size + 1 + 1, 5, none⟩ = some (.int .u32 ca) ∧ w'.cell? ⟨w.heap.size + 1 + 1, 6, none⟩ = some (.int .u32 va) ∧ w'.cell? ⟨w.heap.size + 1 + 1, 7, none⟩ = some (.int .u64 co) ∧ w'.cell? ⟨w4.heap.size, 0, none⟩ = some (.int .u32 t0) ∧ w'.cell? ⟨w4.heap.size, 1, none⟩ = some (.int .u32 t1) ∧ w'.cell? ⟨w4.heap.size, 2, none⟩ = some (.int .u32 t2) ∧ w'.cell? ⟨w4.heap.size, 3, none⟩ = some (.int .u32 t3) ∧ w'.cell? ⟨w4.heap.size, 4, none⟩ = some (.int .u32 t4) ∧ w'.cell? ⟨w4.heap.size, 5, none⟩ = some (.int .u32 t5) ∧ w'.cell? ⟨w4.heap.size, 6, none⟩ = some (.int .u32 t6) ∧ w'.cell? ⟨w4.heap.size, 7, none⟩ = some (.int .u64 t7) ∧ w'.cell? ⟨w5.heap.size, 0, none⟩ = some (.int .u32 u0) ∧ w'.cell? ⟨w5.heap.size, 1, none⟩ = some (.int .u32 u1) ∧ w'.cell? ⟨w5.heap.size, 2, none⟩ = some (.int .u32 u2) ∧ w'.cell? ⟨w5.heap.size, 3, none⟩ = some (.int .u32 u3) ∧ w'.cell? ⟨w5.heap.size, 4, none⟩ = some (.int .u32 u4) ∧ w'.cell? ⟨w5.heap.size, 5, none⟩ = some (.int .u32 u5) ∧ w'.cell? ⟨w5.heap.size, 6, none⟩ = some (.int .u32 u6) ∧ w'.cell? ⟨w5.heap.size, 7, none⟩ = some (.int .u64 u7) ∧ w'.cell? ⟨w.heap.size + 1, 0, none⟩ = some (.int .u32 o0) ∧ w'.cell? ⟨w.heap.size + 1, 1, none⟩ = some (.int .u32 o1) ∧ w'.cell? ⟨w.heap.size + 1, 2, none⟩ = some (.int .u32 o2) ∧ w'.cell? ⟨w.heap.size + 1, 3, none⟩ = some (.int .u32 o3) ∧ BoxS w' (w.heap.size + 1 + 1) 27 ⟨st, en, ve, sc, ep, ca, va, co⟩ ∧ BoxS w' w4.heap.size 27 ⟨t0, t1, t2, t3, t4, t5, t6, t7⟩ ∧ BoxS w' w5.heap.size 27 ⟨u0, u1, u2, u3, u4, u5, u6, u7⟩ ∧ w.heap.size + 1 < w'.heap.size ∧ Below w.heap.size w w')
        (first | exact HB.out | exact Quad.keep (B0 := w.heap.size + 1 + 1) (B1 := w4.heap.size) (B2 := w5.heap.size) (BO := w.heap.size + 1) (t := 27) (s := ⟨st, en, ve, sc, ep, ca, va, co⟩) (u := ⟨t0, t1, t2, t3, t4, t5, t6, t7⟩) (v := ⟨u0, u1, u2, u3, u4, u5, u6, u7⟩) (by assumption) hb)
        (first | (go_at_call 21; (with_reducible refine (CT.out _).mono ?_); rintro e w' ⟨rfl, hb⟩) | (go_at_call 21; (with_reducible refine (CU.out _).mono ?_); rintro e w' ⟨rfl, hb⟩) | (go_at_call 15; (with_reducible refine (AT.out _).mono ?_); rintro e w' ⟨rfl, hb⟩) | (go_at_call 15; (with_reducible refine (AU.out _).mono ?_); rintro e w' ⟨rfl, hb⟩) | (go_at_call 15; (with_reducible refine (AX.out _).mono ?_); rintro e w' ⟨rfl, hb⟩) | (go_at_call 14; refine (sureC_any _).mono ?_; rintro e w' ⟨rfl, hb⟩))
      all_goals (go_wp2; go_ret; exact ⟨rfl, Quad.out (B0 := w.heap.size + 1 + 1) (B1 := w4.heap.size) (B2 := w5.heap.size) (BO := w.heap.size + 1) (t := 27) (s := ⟨st, en, ve, sc, ep, ca, va, co⟩) (u := ⟨t0, t1, t2, t3, t4, t5, t6, t7⟩) (v := ⟨u0, u1, u2, u3, u4, u5, u6, u7⟩) (by assumption)⟩)
    · have hE : errV er = .iface 67 (.int .i64 er) := by unfold errV; rw [if_neg h0]
      rw [hE] at hW
      have WR : Hid (∀ w : World, Calls Try.prog 19 #[.agg #[.int .u32 st, .int .u32 en, .int .u32 ve, .int .u32 sc, .int .u32 ep, .int .u32 ca, .int .u32 va, .int .u64 co], .int .i64 at_, .int .u32 o0] w fun e w' => e = .returned (.tuple #[.agg #[.int .u32 y0, .int .u32 y1, .int .u32 y2, .int .u32 y3, .int .u32 y4, .int .u32 y5, .int .u32 y6, .int .u64 y7], .iface 67 (.int .i64 er)]) ∧ Below w.heap.size w w') := Lib.hid hW
      clear hW hCy hWm hE h0
      go_enter Try.func8, Try.ntmps8
      go_wp2_with (first
        | (go_at_call 19; refine (WR.out _).mono ?_; rintro e w2 ⟨rfl, hb⟩; have A2 := Lib.hid ((A1.out.below hb).alloc (.cells (St.cells ⟨y0, y1, y2, y3, y4, y5, y6, y7⟩) 27)); have F2 := A1.out.below hb; obtain ⟨bx, q0, q1, q2, q3, _, _⟩ := F2; have FX2 := bx.facts; obtain ⟨f0, f1, f2, f3, f4, f5, f6, f7, f8, f9⟩ := FX2; clear hb)
        | (go_at_call 12; refine (TR.out _).mono ?_; rintro e w4 ⟨rfl, hb⟩; have A4 := Lib.hid ((A2.out.below hb).alloc (.cells (St.cells ⟨t0, t1, t2, t3, t4, t5, t6, t7⟩) 27)); have T4 := Lib.hid (BoxS.new w4 ⟨t0, t1, t2, t3, t4, t5, t6, t7⟩ 27); clear hb)
        | (go_at_call 17; refine (UR.out _).mono ?_; rintro e w5 ⟨rfl, hb⟩; have A5 := Lib.hid ((A4.out.below hb).alloc (.cells (St.cells ⟨u0, u1, u2, u3, u4, u5, u6, u7⟩) 27)); have T5 := Lib.hid ((T4.out.below hb).alloc (.cells (St.cells ⟨u0, u1, u2, u3, u4, u5, u6, u7⟩) 27)); have U5 := Lib.hid (BoxS.new w5 ⟨u0, u1, u2, u3, u4, u5, u6, u7⟩ 27); clear hb)
        | (go_at_call 21; (with_reducible refine (CX.out _).mono ?_); rintro e w1 ⟨rfl, hb⟩; have A1 := Lib.hid (A0.out.below hb); have F1 := A1.out; obtain ⟨bx, q0, q1, q2, q3, _, _⟩ := F1; have FX1 := bx.facts; obtain ⟨f0, f1, f2, f3, f4, f5, f6, f7, f8, f9⟩ := FX1; clear hb))
      have HB := Lib.hid ((Quad.mk_ A5.out T5.out U5.out).drew 1)
      go_region_held3 (fun w' => w'.cell? ⟨w.heap.size + 1 + 1, 0, none⟩ = some (.int .u32 st) ∧ w'.cell? ⟨w.heap.size + 1 + 1, 1, none⟩ = some (.int .u32 en) ∧ w'.cell? ⟨w.heap.size + 1 + 1, 2, none⟩ = some (.int .u32 ve) ∧ w'.cell? ⟨w.heap.size + 1 + 1, 3, none⟩ = some (.int .u32 sc) ∧ w'.cell? ⟨w.heap.size + 1 + 1, 4, none⟩ = some (.int .u32 ep) ∧ w'.cell? ⟨w.heap.size + 1 + 1, 5, none⟩ = some (.int .u32 ca) ∧ w'.cell? ⟨w.heap.size + 1 + 1, 6, none⟩ = some (.int .u32 va) ∧ w'.cell? ⟨w.heap.size + 1 + 1, 7, none⟩ = some (.int .u64 co) ∧ w'.cell? ⟨w4.heap.size, 0, none⟩ = some (.int .u32 t0) ∧ w'.cell? ⟨w4.heap.size, 1, none⟩ = some (.int .u32 t1) ∧ w'.cell? ⟨w4.heap.size, 2, none⟩ = some (.int .u32 t2) ∧ w'.cell? ⟨w4.heap.size, 3, none⟩ = some (.int .u32 t3) ∧ w'.cell? ⟨w4.heap.size, 4, none⟩ = some (.int .u32 t4) ∧ w'.cell? ⟨w4.heap.size, 5, none⟩ = some (.int .u32 t5) ∧ w'.cell? ⟨w4.heap.size, 6, none⟩ = some (.int .u32 t6) ∧ w'.cell? ⟨w4.heap.size, 7, none⟩ = some (.int .u64 t7) ∧ w'.cell? ⟨w5.heap.size, 0, none⟩ = some (.int .u32 u0) ∧ w'.cell? ⟨w5.heap.size, 1, none⟩ = some (.int .u32 u1) ∧ w'.cell? ⟨w5.heap.size, 2, none⟩ = some (.int .u32 u2) ∧ w'.cell? ⟨w5.heap.size, 3, none⟩ = some (.int .u32 u3) ∧ w'.cell? ⟨w5.heap.size, 4, none⟩ = some (.int .u32 u4) ∧ w'.cell? ⟨w5.heap.size, 5, none⟩ = some (.int .u32 u5) ∧ w'.cell? ⟨w5.heap.size, 6, none⟩ = some (.int .u32 u6) ∧ w'.cell? ⟨w5.heap.size, 7, none⟩ = some (.int .u64 u7) ∧ w'.cell? ⟨w.heap.size + 1, 0, none⟩ = some (.int .u32 o0) ∧ w'.cell? ⟨w.heap.size + 1, 1, none⟩ = some (.int .u32 o1) ∧ w'.cell? ⟨w.heap.size + 1, 2, none⟩ = some (.int .u32 o2) ∧ w'.cell? ⟨w.heap.size + 1, 3, none⟩ = some (.int .u32 o3) ∧ BoxS w' (w.heap.size + 1 + 1) 27 ⟨st, en, ve, sc, ep, ca, va, co⟩ ∧ BoxS w' w4.heap.size 27 ⟨t0, t1, t2, t3, t4, t5, t6, t7⟩ ∧ BoxS w' w5.heap.size 27 ⟨u0, u1, u2, u3, u4, u5, u6, u7⟩ ∧ w.heap.size + 1 < w'.heap.size ∧ Below w.heap.size w w')
        (first | exact HB.out | exact Quad.keep (B0 := w.heap.size + 1 + 1) (B1 := w4.heap.size) (B2 := w5.heap.size) (BO := w.heap.size + 1) (t := 27) (s := ⟨st, en, ve, sc, ep, ca, va, co⟩) (u := ⟨t0, t1, t2, t3, t4, t5, t6, t7⟩) (v := ⟨u0, u1, u2, u3, u4, u5, u6, u7⟩) (by assumption) hb)
        (first | (go_at_call 21; (with_reducible refine (CT.out _).mono ?_); rintro e w' ⟨rfl, hb⟩) | (go_at_call 21; (with_reducible refine (CU.out _).mono ?_); rintro e w' ⟨rfl, hb⟩) | (go_at_call 15; (with_reducible refine (AT.out _).mono ?_); rintro e w' ⟨rfl, hb⟩) | (go_at_call 15; (with_reducible refine (AU.out _).mono ?_); rintro e w' ⟨rfl, hb⟩) | (go_at_call 15; (with_reducible refine (AX.out _).mono ?_); rintro e w' ⟨rfl, hb⟩) | (go_at_call 14; refine (sureC_any _).mono ?_; rintro e w' ⟨rfl, hb⟩))
      all_goals (go_wp2; go_ret; exact ⟨rfl, Quad.out (B0 := w.heap.size + 1 + 1) (B1 := w4.heap.size) (B2 := w5.heap.size) (BO := w.heap.size + 1) (t := 27) (s := ⟨st, en, ve, sc, ep, ca, va, co⟩) (u := ⟨t0, t1, t2, t3, t4, t5, t6, t7⟩) (v := ⟨u0, u1, u2, u3, u4, u5, u6, u7⟩) (by assumption)⟩)
  · have CX : Hid (∀ w : World, Calls Try.prog 21 #[.agg #[.int .u32 st, .int .u32 en, .int .u32 ve, .int .u32 sc, .int .u32 ep, .int .u32 ca, .int .u32 va, .int .u64 co]] w fun e w' => e = .returned (.iface 67 (.int .i64 1)) ∧ Below w.heap.size w w') := Lib.hid (fun w => by have h := csrCheck_any ⟨st, en, ve, sc, ep, ca, va, co⟩ hok w; rw [if_neg hm] at h; exact h)
    clear hok g1 g2 g3 g4 g5 g6 g7 g8 k0 k1 k2 k3 hm
    go_enter Try.func8, Try.ntmps8
    go_wp2_with (first | (go_at_call 21; (with_reducible refine (CX.out _).mono ?_); rintro e w1 ⟨rfl, hb⟩; have A1 := Lib.hid (A0.out.below hb); clear hb) | (go_at_call 14; refine (sureC_any _).mono ?_; rintro e w2 ⟨rfl, hb2⟩))
    go_ret
    obtain ⟨_, _, _, _, _, _, hb1⟩ := A1.out
    exact ⟨rfl, hb1.trans (hb2.mono hb1.size)⟩

end Go.Proofs.Ytgbpalclapcfeaa
