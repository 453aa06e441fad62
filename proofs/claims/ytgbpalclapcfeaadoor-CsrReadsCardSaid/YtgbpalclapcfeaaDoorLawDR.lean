import Derived.Test.YtgbpalclapcfeaaDoorCsrDF
import Derived.Test.YtgbpalclapcfeaaDoorCsrDB
import Derived.Below
import Derived.Deep.Draws
import Derived.Deep.AppendLies
import Derived.Maps.AppendAt
import Derived.OwnWalk
import Derived.Laws.BytesArg
import Derived.Laws.MakeOwn
import Derived.Laws.OwnMore
import Derived.Deep.OwnRows
import Derived.Tactics
import Derived.Lib.ConvBytes
import Derived.Laws.Slices
import Derived.WalkKit
import Derived.KernelRfl
import Derived.RowKit3
import Derived.Deep.LoopGhost
import Derived.Deep.QuietTactic
import Derived.BigQuiet
import Derived.WideLaws
import Derived.Deep.DeepCutAuto
import Derived.Deep.CutBlock
import Derived.Deep.RegionHeld3
import Derived.Laws.Rows
import Derived.Lib.AppendStr
import Derived.ArgAppend
import Derived.Laws.IdiomCopy
import Derived.OrdersHeld
import Derived.Laws.BitsLemmas
import Derived.RowKit
import Derived.Lib.Hide
import Derived.Laws.BitsAllLaws
import Derived.WalkLawsBesides
import Derived.WalkSpells
import Derived.LaidEql
namespace Go.Proofs.YtgbpalclapcfeaaDoor
open Go.RowKit
set_option maxRecDepth 100000
set_option linter.unusedVariables false
set_option linter.unusedSimpArgs false

set_option maxHeartbeats 1000000 in
theorem sureC_any (w : World) : Calls Tryd.prog 31 #[] w fun e w' => e = .returned (.bool true) ∧ Below w.heap.size w w' := by
  have T : Hid (∀ w : World, Calls Tryd.prog 61 #[.agg #[.int .u32 0, .int .u32 0, .int .u32 2147483905, .int .u32 0, .int .u32 0, .int .u32 0, .int .u32 0, .int .u64 0], .int .u32 2147483655, .int .u32 0, .int .u32 4] w fun e w' => e = .returned (.tuple #[.agg #[.int .u32 0, .int .u32 0, .int .u32 2147483905, .int .u32 0, .int .u32 4, .int .u32 2147483655, .int .u32 0, .int .u64 0], .int .u32 2147483932]) ∧ Below w.heap.size w w') :=
    Lib.hid (fun w => (trap_any ⟨0, 0, 2147483905, 0, 0, 0, 0, 0⟩ ⟨by decide, by decide, by decide, by decide, by decide, by decide, by decide, by decide⟩ 2147483655 0 4 (by decide) (by decide) (by decide) w).mono fun e w' h => ⟨by rw [h.1, show trapTo 2147483905 2147483655 = 2147483932 from by decide +kernel, show trapS ⟨0, 0, 2147483905, 0, 0, 0, 0, 0⟩ 2147483655 0 4 = ⟨0, 0, 2147483905, 0, 4, 2147483655, 0, 0⟩ from by simp only [trapS]; congr 1]; rfl, h.2⟩)
  go_enter Tryd.func31, Tryd.ntmps31
  go_wp2_with (go_at_call 61; refine (T.out _).mono ?_; rintro e w' ⟨rfl, hb⟩)
  go_ret
  exact ⟨rfl, hb.alloc hb.size _⟩

theorem num_nil (w : World) : Calls Tryd.prog 28 #[.nilIface] w fun e w' => e = .returned (.int .i64 0) ∧ Below w.heap.size w w' := by
  go_enter Tryd.func28, Tryd.ntmps28
  go_wp2
  go_ret
  exact ⟨rfl, (Below.refl _ _).alloc (Nat.le_refl _) _⟩
set_option maxHeartbeats 1000000 in
theorem num_err (n : Int) (w : World) (hg : w.cell? ⟨1, 0, none⟩ = some errTy) : Calls Tryd.prog 28 #[.iface 76 (.int .i64 n)] w fun e w' => e = .returned (.int .i64 n) ∧ Below w.heap.size w w' := by
  have hgA : (w.alloc (.cells #[.int .i64 0] 76)).cell? ⟨1, 0, none⟩ = some errTy := by
    rw [World.cell?_alloc_lt _ _ ⟨1, 0, none⟩ (block_lt_of_cell hg)]; exact hg
  have htA : (w.alloc (.cells #[.int .i64 0] 76)).cell? ⟨w.heap.size, 0, none⟩ = some (.int .i64 0) := by simp
  have hfA : (w.alloc (.cells #[.int .i64 0] 76)).frozen? ⟨w.heap.size, 0, none⟩ = false := by simp
  have A := Lib.hid (as_hit n ⟨w.heap.size, 0, none⟩ (.int .i64 0) _ hgA htA hfA)
  clear hgA htA hfA hg
  go_enter Tryd.func28, Tryd.ntmps28
  go_wp2_with (go_at_call 44; refine A.out.mono ?_; rintro e w' ⟨rfl, rfl⟩)
  go_ret
  refine ⟨rfl, ?_⟩
  repeat' (first | (with_reducible exact Below.refl _ _) | (with_reducible refine Below.setCell ?_ ?_ _) | (with_reducible refine Below.alloc ?_ ?_ _) | (simp; done) | (simp; omega))
/-- an error's number, whatever the error -/
theorem num_any (n : Int) (w : World) (hg : w.cell? ⟨1, 0, none⟩ = some errTy) : Calls Tryd.prog 28 #[errV n] w fun e w' => e = .returned (.int .i64 n) ∧ Below w.heap.size w w' := by
  by_cases h : n = 0
  · subst h; exact num_nil w
  · have hE : errV n = .iface 76 (.int .i64 n) := by unfold errV; rw [if_neg h]
    rw [hE]; exact num_err n w hg

theorem BoxS.alloc {w : World} {B : Nat} {t : TypeId} {s : St} (h : BoxS w B t s) (o : Obj) : BoxS (w.alloc o) B t s := h.below ((Below.refl _ _).alloc (Nat.le_refl _) _)
theorem BoxS.drew {w : World} {B : Nat} {t : TypeId} {s : St} (h : BoxS w B t s) (k : Nat) : BoxS (w.drewN k) B t s := h
theorem BoxS.new (w : World) (s : St) (t : TypeId) : BoxS (w.alloc (.cells s.cells t)) w.heap.size t s := heap_alloc_new w _

theorem rcheck_any (s : St) (hs : s.ok) (w : World) : Calls Tryd.prog 30 #[s.v] w fun e w' => e = .returned (.int .i64 (if mayB s = true then 0 else 1)) ∧ Below w.heap.size w w' := by
  obtain ⟨st, en, ve, sc, ep, ca, va, co⟩ := s
  obtain ⟨g1, g2, g3, g4, g5, g6, g7, g8⟩ := hs
  simp only at g1 g2 g3 g4 g5 g6 g7 g8
  have O1 := fun (B : Nat) (w : World) h0 h1 => only37_at st g1 B w h0 h1
  have O2 := fun (B : Nat) (w : World) h0 h1 h2 => only3711_at en g2 B w h0 h1 h2
  have O3 := fun (B : Nat) (w : World) h0 => but1_at ve g3 B w h0
  have O4 := fun (B : Nat) (w : World) h0 h1 => but01_at ep g5 B w h0 h1
  have i1 := keep_iff (v := st) (m := 136) g1 (by omega)
  have i2 := keep_iff (v := en) (m := 2184) g2 (by omega)
  have i3 := but_iff (v := ve) (m := 2) g3 (by omega)
  have i4 := but_iff (v := ep) (m := 3) g5 (by omega)
  have hm : mayB ⟨st, en, ve, sc, ep, ca, va, co⟩ = (decide (clr st 136 = 0) && decide (clr en 2184 = 0) && decide (ve &&& 2 = 0) && decide (ep &&& 3 = 0)) := rfl
  rw [hm]
  simp only [i1, i2, i3, i4]
  clear hm i1 i2 i3 i4
  unfold St.v St.cells
  simp only
  generalize st &&& 136 = x1 at *
  generalize en &&& 2184 = x2 at *
  generalize clr ve 2 = x3 at *
  generalize clr ep 3 = x4 at *
  by_cases c1 : x1 = st
  · subst c1
    by_cases c2 : x2 = en
    · subst c2
      by_cases c3 : x3 = ve
      · subst c3
        by_cases c4 : x4 = ep
        · subst c4
          have h := rcheck_4 x1 x2 x3 sc x4 ca va co x1 x2 x3 x4 (Lib.hid O1) (Lib.hid O2) (Lib.hid O3) (Lib.hid O4) w
          simpa using h
        · have h := rcheck_3 x1 x2 x3 sc ep ca va co x1 x2 x3 x4 (Lib.hid O1) (Lib.hid O2) (Lib.hid O3) (Lib.hid O4) (by simp; omega) w
          simpa [c4] using h
      · have h := rcheck_2 x1 x2 ve sc ep ca va co x1 x2 x3 x4 (Lib.hid O1) (Lib.hid O2) (Lib.hid O3) (by simp; omega) w
        simpa [c3] using h
    · have h := rcheck_1 x1 en ve sc ep ca va co x1 x2 x3 x4 (Lib.hid O1) (Lib.hid O2) (by simp; omega) w
      simpa [c2] using h
  · have h := rcheck_0 st en ve sc ep ca va co x1 x2 x3 x4 (Lib.hid O1) (by simp; omega) w
    simpa [c1] using h

/-- two boxes of one state, and the cell of the errors -/
def Duo (w0 : World) (B0 B1 : Nat) (t0 t1 : TypeId) (s : St) (w' : World) : Prop :=
  w'.cell? ⟨B0, 0, none⟩ = some (.int .u32 s.status) ∧ w'.cell? ⟨B0, 1, none⟩ = some (.int .u32 s.enable) ∧ w'.cell? ⟨B0, 2, none⟩ = some (.int .u32 s.vector) ∧ w'.cell? ⟨B0, 3, none⟩ = some (.int .u32 s.scratch) ∧ w'.cell? ⟨B0, 4, none⟩ = some (.int .u32 s.epc) ∧ w'.cell? ⟨B0, 5, none⟩ = some (.int .u32 s.cause) ∧ w'.cell? ⟨B0, 6, none⟩ = some (.int .u32 s.value) ∧ w'.cell? ⟨B0, 7, none⟩ = some (.int .u64 s.count) ∧
  w'.cell? ⟨B1, 0, none⟩ = some (.int .u32 s.status) ∧ w'.cell? ⟨B1, 1, none⟩ = some (.int .u32 s.enable) ∧ w'.cell? ⟨B1, 2, none⟩ = some (.int .u32 s.vector) ∧ w'.cell? ⟨B1, 3, none⟩ = some (.int .u32 s.scratch) ∧ w'.cell? ⟨B1, 4, none⟩ = some (.int .u32 s.epc) ∧ w'.cell? ⟨B1, 5, none⟩ = some (.int .u32 s.cause) ∧ w'.cell? ⟨B1, 6, none⟩ = some (.int .u32 s.value) ∧ w'.cell? ⟨B1, 7, none⟩ = some (.int .u64 s.count) ∧
  BoxS w' B0 t0 s ∧ BoxS w' B1 t1 s ∧ w'.cell? ⟨1, 0, none⟩ = some errTy ∧ Below w0.heap.size w0 w'
theorem Duo.mk_ {w0 wa : World} {B0 B1 : Nat} {t0 t1 : TypeId} {s : St} (h0 : BoxS wa B0 t0 s) (h1 : BoxS wa B1 t1 s) (he : wa.cell? ⟨1, 0, none⟩ = some errTy) (hb : Below w0.heap.size w0 wa) : Duo w0 B0 B1 t0 t1 s wa := by
  obtain ⟨a0, a1, a2, a3, a4, a5, a6, a7, _, _⟩ := h0.facts
  obtain ⟨b0, b1, b2, b3, b4, b5, b6, b7, _, _⟩ := h1.facts
  exact ⟨a0, a1, a2, a3, a4, a5, a6, a7, b0, b1, b2, b3, b4, b5, b6, b7, h0, h1, he, hb⟩
theorem Duo.parts {w0 wa : World} {B0 B1 : Nat} {t0 t1 : TypeId} {s : St} (h : Duo w0 B0 B1 t0 t1 s wa) : BoxS wa B0 t0 s ∧ BoxS wa B1 t1 s ∧ wa.cell? ⟨1, 0, none⟩ = some errTy ∧ Below w0.heap.size w0 wa := by
  obtain ⟨_, _, _, _, _, _, _, _, _, _, _, _, _, _, _, _, h0, h1, he, hb⟩ := h
  exact ⟨h0, h1, he, hb⟩
theorem Duo.keep {w0 wa wb : World} {B0 B1 : Nat} {t0 t1 : TypeId} {s : St} (h : Duo w0 B0 B1 t0 t1 s wa) (hb : Below wa.heap.size wa wb) : Duo w0 B0 B1 t0 t1 s wb := by
  obtain ⟨h0, h1, he, h3⟩ := h.parts
  exact Duo.mk_ (h0.below hb) (h1.below hb) ((hb.cell (p := ⟨1, 0, none⟩) (block_lt_of_cell he)).trans he) (h3.trans (hb.mono h3.size))
theorem Duo.drew {w0 wa : World} {B0 B1 : Nat} {t0 t1 : TypeId} {s : St} (h : Duo w0 B0 B1 t0 t1 s wa) (k : Nat) : Duo w0 B0 B1 t0 t1 s (wa.drewN k) := by
  obtain ⟨h0, h1, he, h3⟩ := h.parts
  exact Duo.mk_ (h0.drew k) (h1.drew k) he (below_drewN h3 k)
theorem Duo.err {w0 wa : World} {B0 B1 : Nat} {t0 t1 : TypeId} {s : St} (h : Duo w0 B0 B1 t0 t1 s wa) : wa.cell? ⟨1, 0, none⟩ = some errTy := h.parts.2.2.1
theorem Duo.out {w0 wa : World} {B0 B1 : Nat} {t0 t1 : TypeId} {s : St} (h : Duo w0 B0 B1 t0 t1 s wa) : Below w0.heap.size w0 wa := h.parts.2.2.2
theorem reads_both (s : St) (hs : s.ok) (a : Int) (ln : Nat) (hl : ln < 4294967296) : ∃ (r : Nat) (m : Int), (∀ w : World, Calls Tryd.prog 26 #[s.v, .int .i64 a, .int .u32 ln] w fun e w' => e = .returned (.tuple #[.int .u32 r, errV m]) ∧ Below w.heap.size w w') ∧
    (∀ w : World, Calls Tryd.prog 27 #[s.v, .int .i64 a, .int .u32 ln] w fun e w' => e = .returned (.tuple #[.int .u32 r, .int .i64 m]) ∧ Below w.heap.size w w') := by
  have hP := fun w => read_any s hs a ln hl w
  have hR := fun w => rread_any s hs a ln hl w
  cases h : readV s a ln with
  | none => rw [h] at hP hR; exact ⟨0, 8, hP, hR⟩
  | some v => rw [h] at hP hR; exact ⟨v, 0, hP, hR⟩
set_option maxHeartbeats 4000000 in
theorem csrReads_walk (st en ve sc ep ca va co : Nat) (g1 : st < 4294967296) (g2 : en < 4294967296) (g3 : ve < 4294967296) (g4 : sc < 4294967296) (g5 : ep < 4294967296) (g6 : ca < 4294967296) (g7 : va < 4294967296) (g8 : co < 18446744073709551616) (at_ : Int) (_l1 : -9223372036854775808 ≤ at_) (_l2 : at_ < 9223372036854775808) (ln : Nat) (hl : ln < 4294967296) (w : World) (hg : w.cell? ⟨1, 0, none⟩ = some errTy) :
    Calls Tryd.prog 8 #[.agg #[.int .u32 st, .int .u32 en, .int .u32 ve, .int .u32 sc, .int .u32 ep, .int .u32 ca, .int .u32 va, .int .u64 co], .int .i64 at_, .int .u32 ln] w fun e w' => e = .returned (.bool true) ∧ Below w.heap.size w w' := by
  have hok : St.ok ⟨st, en, ve, sc, ep, ca, va, co⟩ := ⟨g1, g2, g3, g4, g5, g6, g7, g8⟩
  obtain ⟨r, m, hP, hR⟩ := reads_both ⟨st, en, ve, sc, ep, ca, va, co⟩ hok at_ ln hl
  have hC := fun w => csrCheck_any ⟨st, en, ve, sc, ep, ca, va, co⟩ hok w
  have hD := fun w => rcheck_any ⟨st, en, ve, sc, ep, ca, va, co⟩ hok w
  obtain ⟨c, hc⟩ : ∃ c : Int, (if mayB ⟨st, en, ve, sc, ep, ca, va, co⟩ = true then (0 : Int) else 1) = c := ⟨_, rfl⟩
  rw [hc] at hC hD
  unfold St.v St.cells at hP hR hC hD
  simp only at hP hR hC hD
  have N1 : Hid (∀ w : World, w.cell? ⟨1, 0, none⟩ = some errTy → Calls Tryd.prog 28 #[errV m] w fun e w' => e = .returned (.int .i64 m) ∧ Below w.heap.size w w') := Lib.hid (fun w h => num_any m w h)
  have N2 : Hid (∀ w : World, w.cell? ⟨1, 0, none⟩ = some errTy → Calls Tryd.prog 28 #[errV c] w fun e w' => e = .returned (.int .i64 c) ∧ Below w.heap.size w w') := Lib.hid (fun w h => num_any c w h)
  obtain ⟨e1, he1⟩ : ∃ e1, errV m = e1 := ⟨_, rfl⟩
  obtain ⟨e2, he2⟩ : ∃ e2, errV c = e2 := ⟨_, rfl⟩
  rw [he1] at hP N1
  rw [he2] at hC N2
  have P := Lib.hid hP
  have R := Lib.hid hR
  have C := Lib.hid hC
  have D := Lib.hid hD
  have A0 := Lib.hid (show Duo w w.heap.size (w.heap.size + 1) 52 53 ⟨st, en, ve, sc, ep, ca, va, co⟩ ((w.alloc (.cells (St.cells ⟨st, en, ve, sc, ep, ca, va, co⟩) 52)).alloc (.cells (St.cells ⟨st, en, ve, sc, ep, ca, va, co⟩) 53)) from by
    have hb : Below w.heap.size w ((w.alloc (.cells (St.cells ⟨st, en, ve, sc, ep, ca, va, co⟩) 52)).alloc (.cells (St.cells ⟨st, en, ve, sc, ep, ca, va, co⟩) 53)) := ((Below.refl _ _).alloc (Nat.le_refl _) _).alloc (by simp) _
    exact Duo.mk_ (heap_alloc2_old w _ _) (heap_alloc2_new w _ _) ((hb.cell (p := ⟨1, 0, none⟩) (block_lt_of_cell hg)).trans hg) hb)
  clear hP hR hC hD hok hc he1 he2 g1 g2 g3 g4 g5 g6 g7 g8 hl hg _l1 _l2
  go_enter Tryd.func8, Tryd.ntmps8
  go_wp2_with (first
    | (go_at_call 26; refine (P.out _).mono ?_; rintro e w1 ⟨rfl, hb⟩; have A1 := Lib.hid (A0.out.keep hb); have F1 := A1.out.parts.1.facts; obtain ⟨f0, f1, f2, f3, f4, f5, f6, f7, _, f9⟩ := F1; clear hb)
    | (go_at_call 27; refine (R.out _).mono ?_; rintro e w2 ⟨rfl, hb⟩; have A2 := Lib.hid (A1.out.keep hb); clear hb))
  have HB := Lib.hid (A2.out.drew 1)
  go_region_held3 (fun w' => w'.cell? ⟨w.heap.size, 0, none⟩ = some (.int .u32 st) ∧ w'.cell? ⟨w.heap.size, 1, none⟩ = some (.int .u32 en) ∧ w'.cell? ⟨w.heap.size, 2, none⟩ = some (.int .u32 ve) ∧ w'.cell? ⟨w.heap.size, 3, none⟩ = some (.int .u32 sc) ∧ w'.cell? ⟨w.heap.size, 4, none⟩ = some (.int .u32 ep) ∧ w'.cell? ⟨w.heap.size, 5, none⟩ = some (.int .u32 ca) ∧ w'.cell? ⟨w.heap.size, 6, none⟩ = some (.int .u32 va) ∧ w'.cell? ⟨w.heap.size, 7, none⟩ = some (.int .u64 co) ∧ w'.cell? ⟨w.heap.size + 1, 0, none⟩ = some (.int .u32 st) ∧ w'.cell? ⟨w.heap.size + 1, 1, none⟩ = some (.int .u32 en) ∧ w'.cell? ⟨w.heap.size + 1, 2, none⟩ = some (.int .u32 ve) ∧ w'.cell? ⟨w.heap.size + 1, 3, none⟩ = some (.int .u32 sc) ∧ w'.cell? ⟨w.heap.size + 1, 4, none⟩ = some (.int .u32 ep) ∧ w'.cell? ⟨w.heap.size + 1, 5, none⟩ = some (.int .u32 ca) ∧ w'.cell? ⟨w.heap.size + 1, 6, none⟩ = some (.int .u32 va) ∧ w'.cell? ⟨w.heap.size + 1, 7, none⟩ = some (.int .u64 co) ∧ BoxS w' w.heap.size 52 ⟨st, en, ve, sc, ep, ca, va, co⟩ ∧ BoxS w' (w.heap.size + 1) 53 ⟨st, en, ve, sc, ep, ca, va, co⟩ ∧ w'.cell? ⟨1, 0, none⟩ = some errTy ∧ Below w.heap.size w w')
    (first | exact HB.out | exact Duo.keep (w0 := w) (B0 := w.heap.size) (B1 := w.heap.size + 1) (t0 := 52) (t1 := 53) (s := ⟨st, en, ve, sc, ep, ca, va, co⟩) (by assumption) hb)
    (first | (go_at_call 28; (with_reducible refine (N1.out _ ?_).mono ?_); exact Duo.err (w0 := w) (B0 := w.heap.size) (B1 := w.heap.size + 1) (t0 := 52) (t1 := 53) (s := ⟨st, en, ve, sc, ep, ca, va, co⟩) (by assumption); rintro e w' ⟨rfl, hb⟩) | (go_at_call 28; (with_reducible refine (N2.out _ ?_).mono ?_); exact Duo.err (w0 := w) (B0 := w.heap.size) (B1 := w.heap.size + 1) (t0 := 52) (t1 := 53) (s := ⟨st, en, ve, sc, ep, ca, va, co⟩) (by assumption); rintro e w' ⟨rfl, hb⟩) | (go_at_call 29; refine (C.out _).mono ?_; rintro e w' ⟨rfl, hb⟩) | (go_at_call 30; refine (D.out _).mono ?_; rintro e w' ⟨rfl, hb⟩) | (go_at_call 31; refine (sureC_any _).mono ?_; rintro e w' ⟨rfl, hb⟩))
  all_goals (go_wp2; go_ret; exact ⟨rfl, Duo.out (w0 := w) (B0 := w.heap.size) (B1 := w.heap.size + 1) (t0 := 52) (t1 := 53) (s := ⟨st, en, ve, sc, ep, ca, va, co⟩) (by assumption)⟩)

end Go.Proofs.YtgbpalclapcfeaaDoor
