import Derived.Test.YtgbpalclapcfeaaCsrA
import Derived.Below
import Derived.Deep.Draws
import Derived.Deep.AppendLies
import Derived.Maps.AppendAt
import Derived.OwnWalk
import Derived.Laws.BytesArg
import Derived.Laws.MakeOwn
import Derived.Laws.OwnMore
import Derived.Deep.OwnRows
import Derived.Tactics
import Derived.Lib.ConvBytes
import Derived.Laws.Slices
import Derived.WalkKit
import Derived.KernelRfl
import Derived.RowKit3
import Derived.Deep.LoopGhost
import Derived.Deep.QuietTactic
import Derived.BigQuiet
import Derived.WideLaws
import Derived.Deep.DeepCutAuto
import Derived.Deep.CutBlock
import Derived.Deep.RegionHeld3
import Derived.Laws.Rows
import Derived.Lib.AppendStr
import Derived.ArgAppend
import Derived.Laws.IdiomCopy
import Derived.OrdersHeld
import Derived.Laws.BitsLemmas
import Derived.RowKit
import Derived.Lib.Hide
import Derived.Laws.BitsAllLaws
import Derived.WalkLawsBesides
import Derived.WalkSpells
import Derived.LaidEql
namespace Go.Proofs.Ytgbpalclapcfeaa
open Go.RowKit
set_option maxRecDepth 100000
set_option linter.unusedVariables false
set_option linter.unusedSimpArgs false

/-- the status behind a return -/
def retStatus (v : Nat) : Nat := (if v.testBit 7 = true then clr v 8 ||| 8 else clr v 8) ||| 128
def retS (s : St) : St := { s with status := retStatus s.status }
theorem retStatus_lt {v : Nat} (hv : v < 4294967296) : retStatus v < 4294967296 := by
  unfold retStatus
  refine Nat.or_lt_two_pow (n := 32) ?_ (by decide)
  split
  · exact Nat.or_lt_two_pow (n := 32) (clr_lt hv) (by decide)
  · exact clr_lt hv
theorem retS_ok {s : St} (h : s.ok) : (retS s).ok := { h with status := retStatus_lt h.status }
theorem retStatus_ref {v : Nat} (hv : v < 4294967296) : setBit1 (setBit1 v 3 (getBit1 v 7)) 7 1 = retStatus v := by
  apply word_ext (setBit1_lt _ _ _) (retStatus_lt hv)
  intro j hj
  have h128 : (128 : Nat).testBit j = decide (7 = j) := pow_tb 7 j
  have h8 : (8 : Nat).testBit j = decide (3 = j) := pow_tb 3 j
  rw [tb_setBit1 (setBit1_lt _ _ _) _ _ hj, tb_setBit1 hv _ _ hj, getBit1_eq hv (by omega)]
  unfold retStatus
  by_cases h : v.testBit 7 = true
  · rw [if_pos h, Nat.testBit_or, Nat.testBit_or, tb_clr (by omega) hj, h128, h8]
    by_cases j7 : j = 7
    · subst j7; simp
    · by_cases j3 : j = 3
      · subst j3; simp [h]
      · simp [j3, j7, Ne.symm j3, Ne.symm j7]
  · rw [if_neg h, Nat.testBit_or, tb_clr (by omega) hj, h128, h8]
    by_cases j7 : j = 7
    · subst j7; simp
    · by_cases j3 : j = 3
      · subst j3; simp [h]
      · simp [j3, j7, Ne.symm j3, Ne.symm j7]
set_option maxHeartbeats 2000000 in
theorem return_any (s : St) (hs : s.ok) (w : World) :
    Calls Try.prog 17 #[s.v] w fun e w' => e = .returned (.tuple #[(retS s).v, .int .u32 s.epc]) ∧ Below w.heap.size w w' := by
  obtain ⟨st, en, ve, sc, ep, ca, va, co⟩ := s
  obtain ⟨g1, g2, g3, g4, g5, g6, g7, g8⟩ := hs
  simp only at g1 g2 g3 g4 g5 g6 g7 g8
  have e2 : Go.bits .andNot .u32 (st : Int) 8 = (clr st 8 : Nat) := u32c_andNot 8 g1 (by omega)
  have e3 : Go.bits .and .u32 ((clr st 8 : Nat) : Int) 128 = if (clr st 8).testBit 7 = true then 128 else 0 := u32c_bit (v := clr st 8) 7 (clr_lt g1) (by omega)
  have e4 : Go.bits .or .u32 ((clr st 8 : Nat) : Int) 8 = (clr st 8 ||| 8 : Nat) := Go.u32_or_nat (clr st 8) 8 (clr_lt g1) (by omega)
  have e5 : Go.bits .or .u32 ((clr st 8 : Nat) : Int) 128 = (clr st 8 ||| 128 : Nat) := Go.u32_or_nat (clr st 8) 128 (clr_lt g1) (by omega)
  have e6 : Go.bits .or .u32 ((clr st 8 ||| 8 : Nat) : Int) 128 = (clr st 8 ||| 8 ||| 128 : Nat) := Go.u32_or_nat (clr st 8 ||| 8) 128 (Nat.or_lt_two_pow (n := 32) (clr_lt g1) (by decide)) (by omega)
  have b7 : (clr st 8).testBit 7 = st.testBit 7 := by rw [tb_clr (by omega) (by omega), show Nat.testBit 8 7 = false from by decide]; simp
  rw [b7] at e3
  unfold retS retStatus St.v St.cells
  simp only
  by_cases c1 : st.testBit 7 = true
  all_goals
    simp only [c1, if_true, if_false, Bool.false_eq_true] at e3 ⊢
    clear c1 b7
    go_enter Try.func17, Try.ntmps17
    go_wp2
    go_region
    all_goals
      go_wp2
      refine bodyPost_ret (v := ?_) ?_ rfl ⟨?_, ?_⟩
      rotate_left
      · simp [results, Try.results17, go_sem]; exact rfl
      · rfl
      · exact below_drewN (((Below.refl _ _).alloc (Nat.le_refl _) _).alloc (by simp) _) 1

theorem get_ref (v : Nat) (hv : v < 4294967296) (i : Nat) (w : World) : Calls Try.prog 28 #[.int .u32 v, .int .i64 i, .int .i64 1] w fun e w' => e = .returned (.int .u32 (getBit1 v i)) ∧ Below w.heap.size w w' := field_any v hv i 1 w
theorem set_ref (v : Nat) (hv : v < 4294967296) (i : Nat) (hi : i < 32) (x : Nat) (hx : x < 4294967296) (w : World) : Calls Try.prog 27 #[.int .u32 v, .int .i64 i, .int .i64 1, .int .u32 x] w fun e w' => e = .returned (.int .u32 (setBit1 v i x)) ∧ Below w.heap.size w w' :=
  set_any v hv i 1 x hx (by omega) (by omega) (by omega) w
theorem getBit1_lt (v i : Nat) : getBit1 v i < 4294967296 := fromN_lt _ 32
/-- the box of a state and, behind it, the one of the result -/
def TwoS (w0 : World) (t1 t2 : TypeId) (s z : St) (w' : World) : Prop := BoxS w' w0.heap.size t1 s ∧ BoxS w' (w0.heap.size + 1) t2 z ∧ Below w0.heap.size w0 w'
theorem TwoS.start (w : World) (t1 t2 : TypeId) (s z : St) : TwoS w t1 t2 s z ((w.alloc (.cells s.cells t1)).alloc (.cells z.cells t2)) :=
  ⟨heap_alloc2_old w _ _, heap_alloc2_new w _ _, ((Below.refl _ _).alloc (Nat.le_refl _) _).alloc (by simp) _⟩
theorem TwoS.drew {w0 w' : World} {t1 t2 : TypeId} {s z : St} (h : TwoS w0 t1 t2 s z w') (k : Nat) : TwoS w0 t1 t2 s z (w'.drewN k) := ⟨h.1, h.2.1, below_drewN h.2.2 k⟩
theorem TwoS.below {w0 wa wb : World} {t1 t2 : TypeId} {s z : St} (h : TwoS w0 t1 t2 s z wa) (hb : Below wa.heap.size wa wb) : TwoS w0 t1 t2 s z wb :=
  ⟨h.1.below hb, h.2.1.below hb, h.2.2.trans (hb.mono h.2.2.size)⟩
theorem TwoS.cell0 {w0 w' : World} {t1 t2 : TypeId} {s z : St} (h : TwoS w0 t1 t2 s z w') : w'.cell? ⟨w0.heap.size, 0, none⟩ = some (.int .u32 s.status) := h.1.facts.1
theorem TwoS.set0 {w0 wa : World} {t1 t2 : TypeId} {s z : St} (h : TwoS w0 t1 t2 s z wa) (v : Nat) : TwoS w0 t1 t2 { s with status := v } z (wa.setCell ⟨w0.heap.size, 0, none⟩ (.int .u32 v)) :=
  ⟨heap_setCell_same _ _ _ _ _ _ h.1, (heap_setCell_other _ _ _ _ (by simp)).trans h.2.1, h.2.2.setCell (Nat.le_refl _) _⟩
theorem TwoS.all {w0 wa : World} {t1 t2 : TypeId} {s z : St} (h : TwoS w0 t1 t2 s z wa) :
    wa.cell? ⟨w0.heap.size, 0, none⟩ = some (.int .u32 s.status) ∧ wa.cell? ⟨w0.heap.size, 1, none⟩ = some (.int .u32 s.enable) ∧ wa.cell? ⟨w0.heap.size, 2, none⟩ = some (.int .u32 s.vector) ∧ wa.cell? ⟨w0.heap.size, 3, none⟩ = some (.int .u32 s.scratch) ∧
    wa.cell? ⟨w0.heap.size, 4, none⟩ = some (.int .u32 s.epc) ∧ wa.cell? ⟨w0.heap.size, 5, none⟩ = some (.int .u32 s.cause) ∧ wa.cell? ⟨w0.heap.size, 6, none⟩ = some (.int .u32 s.value) ∧ wa.cell? ⟨w0.heap.size, 7, none⟩ = some (.int .u64 s.count) ∧
    (∀ i, wa.frozen? ⟨w0.heap.size, i, none⟩ = false) ∧ w0.heap.size < wa.heap.size := h.1.facts
theorem TwoS.all2 {w0 wa : World} {t1 t2 : TypeId} {s z : St} (h : TwoS w0 t1 t2 s z wa) :
    wa.cell? ⟨w0.heap.size + 1, 0, none⟩ = some (.int .u32 z.status) ∧ wa.cell? ⟨w0.heap.size + 1, 1, none⟩ = some (.int .u32 z.enable) ∧ wa.cell? ⟨w0.heap.size + 1, 2, none⟩ = some (.int .u32 z.vector) ∧ wa.cell? ⟨w0.heap.size + 1, 3, none⟩ = some (.int .u32 z.scratch) ∧
    wa.cell? ⟨w0.heap.size + 1, 4, none⟩ = some (.int .u32 z.epc) ∧ wa.cell? ⟨w0.heap.size + 1, 5, none⟩ = some (.int .u32 z.cause) ∧ wa.cell? ⟨w0.heap.size + 1, 6, none⟩ = some (.int .u32 z.value) ∧ wa.cell? ⟨w0.heap.size + 1, 7, none⟩ = some (.int .u64 z.count) ∧
    (∀ i, wa.frozen? ⟨w0.heap.size + 1, i, none⟩ = false) ∧ w0.heap.size + 1 < wa.heap.size := h.2.1.facts
def St.zero : St := ⟨0, 0, 0, 0, 0, 0, 0, 0⟩
set_option maxHeartbeats 2000000 in
theorem rreturn_any (s : St) (hs : s.ok) (w : World) :
    Calls Try.prog 18 #[s.v] w fun e w' => e = .returned (.tuple #[(retS s).v, .int .u32 s.epc]) ∧ Below w.heap.size w w' := by
  obtain ⟨st, en, ve, sc, ep, ca, va, co⟩ := s
  obtain ⟨g1, g2, g3, g4, g5, g6, g7, g8⟩ := hs
  simp only at g1 g2 g3 g4 g5 g6 g7 g8
  have hst := retStatus_ref g1
  have HS := Lib.hid hst
  have G : Hid (∀ w : World, Calls Try.prog 28 #[.int .u32 st, .int .i64 7, .int .i64 1] w fun e w' => e = .returned (.int .u32 (getBit1 st 7)) ∧ Below w.heap.size w w') := Lib.hid (fun w => get_ref st g1 7 w)
  have S1 : Hid (∀ w : World, Calls Try.prog 27 #[.int .u32 st, .int .i64 3, .int .i64 1, .int .u32 (getBit1 st 7)] w fun e w' => e = .returned (.int .u32 (setBit1 st 3 (getBit1 st 7))) ∧ Below w.heap.size w w') := Lib.hid (fun w => set_ref st g1 3 (by omega) (getBit1 st 7) (getBit1_lt _ _) w)
  have S2 : Hid (∀ w : World, Calls Try.prog 27 #[.int .u32 (setBit1 st 3 (getBit1 st 7)), .int .i64 7, .int .i64 1, .int .u32 1] w fun e w' => e = .returned (.int .u32 (setBit1 (setBit1 st 3 (getBit1 st 7)) 7 1)) ∧ Below w.heap.size w w') := Lib.hid (fun w => set_ref (setBit1 st 3 (getBit1 st 7)) (setBit1_lt _ _ _) 7 (by omega) 1 (by omega) w)
  clear hst
  unfold retS St.v St.cells
  simp only
  have HB : Hid (TwoS w 25 25 ⟨st, en, ve, sc, ep, ca, va, co⟩ St.zero (((w.alloc (.cells (St.cells ⟨st, en, ve, sc, ep, ca, va, co⟩) 25)).alloc (.cells St.zero.cells 25)).drewN 1)) := Lib.hid ((TwoS.start w _ _ _ _).drew 1)
  go_enter Try.func18, Try.ntmps18
  go_wp2
  go_region_with (first
    | (go_at_call 28; refine (G.out _).mono ?_; rintro e w1 ⟨rfl, hb1⟩; have B1 := Lib.hid (HB.out.below hb1); have F1 := Lib.hid B1.out.all; obtain ⟨f0, _, _, _, _, _, _, _, f8, f9⟩ := F1.out; clear hb1)
    | (go_at_call 27; refine (S1.out _).mono ?_; rintro e w2 ⟨rfl, hb2⟩; have B2 := Lib.hid (B1.out.below hb2); have F2 := Lib.hid B2.out.all; obtain ⟨k0, _, _, _, _, _, _, _, k8, k9⟩ := F2.out; clear hb2))
  all_goals
    have B3 := Lib.hid (B2.out.set0 (setBit1 st 3 (getBit1 st 7)))
    go_wp2_with (go_at_call 27; refine (S2.out _).mono ?_; rintro e w3 ⟨rfl, hb3⟩; have B4 := Lib.hid (B3.out.below hb3); have F4 := Lib.hid B4.out.all; obtain ⟨k0, k1, k2, k3, k4, k5, k6, k7, k8, k9⟩ := F4.out; have F5 := Lib.hid B4.out.all2; obtain ⟨l0, l1, l2, l3, l4, l5, l6, l7, l8, l9⟩ := F5.out; clear hb3)
    go_region
    go_wp2
    refine bodyPost_ret (v := ?_) ?_ rfl ⟨?_, ?_⟩
    rotate_left
    · simp [results, Try.results18, go_sem, k0, k1, k2, k3, k4, k5, k6, k7, l0, l1, l2, l3, l4, l5, l6, l7]; exact rfl
    · rw [HS.out]
    · have b4 : Below w.heap.size w w3 := B4.out.2.2
      repeat' (first | (with_reducible exact b4) | (with_reducible refine below_drew1 ?_) | (with_reducible refine Below.setCell ?_ ?_ _) | (simp; done))

end Go.Proofs.Ytgbpalclapcfeaa
