import Derived.Test.YtgbpalclapcfeaaDoorCsrDC
import Derived.Below
import Derived.Deep.Draws
import Derived.Deep.AppendLies
import Derived.Maps.AppendAt
import Derived.OwnWalk
import Derived.Laws.BytesArg
import Derived.Laws.MakeOwn
import Derived.Laws.OwnMore
import Derived.Deep.OwnRows
import Derived.Tactics
import Derived.Lib.ConvBytes
import Derived.Laws.Slices
import Derived.WalkKit
import Derived.KernelRfl
import Derived.RowKit3
import Derived.Deep.LoopGhost
import Derived.Deep.QuietTactic
import Derived.BigQuiet
import Derived.WideLaws
import Derived.Deep.DeepCutAuto
import Derived.Deep.CutBlock
import Derived.Deep.RegionHeld3
import Derived.Laws.Rows
import Derived.Lib.AppendStr
import Derived.ArgAppend
import Derived.Laws.IdiomCopy
import Derived.OrdersHeld
import Derived.Laws.BitsLemmas
import Derived.RowKit
import Derived.Lib.Hide
import Derived.Laws.BitsAllLaws
import Derived.WalkLawsBesides
import Derived.WalkSpells
import Derived.LaidEql
namespace Go.Proofs.YtgbpalclapcfeaaDoor
open Go.RowKit
set_option maxRecDepth 100000
set_option linter.unusedVariables false
set_option linter.unusedSimpArgs false

set_option maxHeartbeats 1000000 in
theorem rwrite_832 (st en ve sc ep ca va co : Nat) (g1 : st < 4294967296) (g2 : en < 4294967296) (g3 : ve < 4294967296) (g4 : sc < 4294967296) (g5 : ep < 4294967296) (g6 : ca < 4294967296) (g7 : va < 4294967296) (g8 : co < 18446744073709551616) (v : Nat) (hv : v < 4294967296)  (w : World) :
    Calls Tryd.prog 33 #[.agg #[.int .u32 st, .int .u32 en, .int .u32 ve, .int .u32 sc, .int .u32 ep, .int .u32 ca, .int .u32 va, .int .u64 co], .int .i64 832, .int .u32 v] w fun e w' => e = .returned (.tuple #[.agg #[.int .u32 st, .int .u32 en, .int .u32 ve, .int .u32 v, .int .u32 ep, .int .u32 ca, .int .u32 va, .int .u64 co], .int .i64 0]) ∧ Below w.heap.size w w' := by
  have HB : Hid (TwoS w 52 52 ⟨st, en, ve, sc, ep, ca, va, co⟩ St.zero ((w.alloc (.cells (St.cells ⟨st, en, ve, sc, ep, ca, va, co⟩) 52)).alloc (.cells St.zero.cells 52))) := Lib.hid (TwoS.start w _ _ _ _)
  clear g1 g2 g3 g4 g5 g6 g7 g8 hv
  go_enter Tryd.func33, Tryd.ntmps33
  go_upto_region 1 with (fail)
  go_quiet (fail)
  have B0 := Lib.hid (HB.out.drew nq)
  have F0 := Lib.hid B0.out.all
  obtain ⟨f0, f1, f2, f3, f4, f5, f6, f7, f8, f9⟩ := F0.out
  have R0 := Lib.hid B0.out.all2
  obtain ⟨l0, l1, l2, l3, l4, l5, l6, l7, l8, l9⟩ := R0.out
  go_wp2_with fail
  refine bodyPost_ret (v := ?_) ?_ rfl ⟨?_, ?_⟩
  rotate_left
  · simp [results, Tryd.results33, go_sem, f0, f1, f2, f3, f4, f5, f6, f7, l0, l1, l2, l3, l4, l5, l6, l7]
    exact rfl
  · rfl
  · have b := B0.out.2.2
    repeat' (first | (with_reducible exact b) | (with_reducible refine below_drew1 ?_) | (with_reducible refine below_drewN ?_ _) | (with_reducible refine Below.setCell ?_ ?_ _) | (with_reducible refine Below.alloc ?_ ?_ _) | (with_reducible exact Below.refl _ _) | (simp; done) | (simp; omega))
set_option maxHeartbeats 1000000 in
theorem rwrite_834 (st en ve sc ep ca va co : Nat) (g1 : st < 4294967296) (g2 : en < 4294967296) (g3 : ve < 4294967296) (g4 : sc < 4294967296) (g5 : ep < 4294967296) (g6 : ca < 4294967296) (g7 : va < 4294967296) (g8 : co < 18446744073709551616) (v : Nat) (hv : v < 4294967296)  (w : World) :
    Calls Tryd.prog 33 #[.agg #[.int .u32 st, .int .u32 en, .int .u32 ve, .int .u32 sc, .int .u32 ep, .int .u32 ca, .int .u32 va, .int .u64 co], .int .i64 834, .int .u32 v] w fun e w' => e = .returned (.tuple #[.agg #[.int .u32 st, .int .u32 en, .int .u32 ve, .int .u32 sc, .int .u32 ep, .int .u32 v, .int .u32 va, .int .u64 co], .int .i64 0]) ∧ Below w.heap.size w w' := by
  have HB : Hid (TwoS w 52 52 ⟨st, en, ve, sc, ep, ca, va, co⟩ St.zero ((w.alloc (.cells (St.cells ⟨st, en, ve, sc, ep, ca, va, co⟩) 52)).alloc (.cells St.zero.cells 52))) := Lib.hid (TwoS.start w _ _ _ _)
  clear g1 g2 g3 g4 g5 g6 g7 g8 hv
  go_enter Tryd.func33, Tryd.ntmps33
  go_upto_region 1 with (fail)
  go_quiet (fail)
  have B0 := Lib.hid (HB.out.drew nq)
  have F0 := Lib.hid B0.out.all
  obtain ⟨f0, f1, f2, f3, f4, f5, f6, f7, f8, f9⟩ := F0.out
  have R0 := Lib.hid B0.out.all2
  obtain ⟨l0, l1, l2, l3, l4, l5, l6, l7, l8, l9⟩ := R0.out
  go_wp2_with fail
  refine bodyPost_ret (v := ?_) ?_ rfl ⟨?_, ?_⟩
  rotate_left
  · simp [results, Tryd.results33, go_sem, f0, f1, f2, f3, f4, f5, f6, f7, l0, l1, l2, l3, l4, l5, l6, l7]
    exact rfl
  · rfl
  · have b := B0.out.2.2
    repeat' (first | (with_reducible exact b) | (with_reducible refine below_drew1 ?_) | (with_reducible refine below_drewN ?_ _) | (with_reducible refine Below.setCell ?_ ?_ _) | (with_reducible refine Below.alloc ?_ ?_ _) | (with_reducible exact Below.refl _ _) | (simp; done) | (simp; omega))
set_option maxHeartbeats 1000000 in
theorem rwrite_835 (st en ve sc ep ca va co : Nat) (g1 : st < 4294967296) (g2 : en < 4294967296) (g3 : ve < 4294967296) (g4 : sc < 4294967296) (g5 : ep < 4294967296) (g6 : ca < 4294967296) (g7 : va < 4294967296) (g8 : co < 18446744073709551616) (v : Nat) (hv : v < 4294967296)  (w : World) :
    Calls Tryd.prog 33 #[.agg #[.int .u32 st, .int .u32 en, .int .u32 ve, .int .u32 sc, .int .u32 ep, .int .u32 ca, .int .u32 va, .int .u64 co], .int .i64 835, .int .u32 v] w fun e w' => e = .returned (.tuple #[.agg #[.int .u32 st, .int .u32 en, .int .u32 ve, .int .u32 sc, .int .u32 ep, .int .u32 ca, .int .u32 v, .int .u64 co], .int .i64 0]) ∧ Below w.heap.size w w' := by
  have HB : Hid (TwoS w 52 52 ⟨st, en, ve, sc, ep, ca, va, co⟩ St.zero ((w.alloc (.cells (St.cells ⟨st, en, ve, sc, ep, ca, va, co⟩) 52)).alloc (.cells St.zero.cells 52))) := Lib.hid (TwoS.start w _ _ _ _)
  clear g1 g2 g3 g4 g5 g6 g7 g8 hv
  go_enter Tryd.func33, Tryd.ntmps33
  go_upto_region 1 with (fail)
  go_quiet (fail)
  have B0 := Lib.hid (HB.out.drew nq)
  have F0 := Lib.hid B0.out.all
  obtain ⟨f0, f1, f2, f3, f4, f5, f6, f7, f8, f9⟩ := F0.out
  have R0 := Lib.hid B0.out.all2
  obtain ⟨l0, l1, l2, l3, l4, l5, l6, l7, l8, l9⟩ := R0.out
  go_wp2_with fail
  refine bodyPost_ret (v := ?_) ?_ rfl ⟨?_, ?_⟩
  rotate_left
  · simp [results, Tryd.results33, go_sem, f0, f1, f2, f3, f4, f5, f6, f7, l0, l1, l2, l3, l4, l5, l6, l7]
    exact rfl
  · rfl
  · have b := B0.out.2.2
    repeat' (first | (with_reducible exact b) | (with_reducible refine below_drew1 ?_) | (with_reducible refine below_drewN ?_ _) | (with_reducible refine Below.setCell ?_ ?_ _) | (with_reducible refine Below.alloc ?_ ?_ _) | (with_reducible exact Below.refl _ _) | (simp; done) | (simp; omega))
set_option maxHeartbeats 1000000 in
theorem rwrite_768 (st en ve sc ep ca va co : Nat) (g1 : st < 4294967296) (g2 : en < 4294967296) (g3 : ve < 4294967296) (g4 : sc < 4294967296) (g5 : ep < 4294967296) (g6 : ca < 4294967296) (g7 : va < 4294967296) (g8 : co < 18446744073709551616) (v : Nat) (hv : v < 4294967296)  (w : World) :
    Calls Tryd.prog 33 #[.agg #[.int .u32 st, .int .u32 en, .int .u32 ve, .int .u32 sc, .int .u32 ep, .int .u32 ca, .int .u32 va, .int .u64 co], .int .i64 768, .int .u32 v] w fun e w' => e = .returned (.tuple #[.agg #[.int .u32 (v &&& 136 : Nat), .int .u32 en, .int .u32 ve, .int .u32 sc, .int .u32 ep, .int .u32 ca, .int .u32 va, .int .u64 co], .int .i64 0]) ∧ Below w.heap.size w w' := by
  have HB : Hid (TwoS w 52 52 ⟨st, en, ve, sc, ep, ca, va, co⟩ St.zero ((w.alloc (.cells (St.cells ⟨st, en, ve, sc, ep, ca, va, co⟩) 52)).alloc (.cells St.zero.cells 52))) := Lib.hid (TwoS.start w _ _ _ _)
  have O := Lib.hid (fun (B : Nat) (w : World) h0 h1 => only37_at v hv B w h0 h1)
  clear g1 g2 g3 g4 g5 g6 g7 g8 hv
  go_enter Tryd.func33, Tryd.ntmps33
  go_upto_region 1 with (fail)
  go_quiet (fail)
  have B0 := Lib.hid (HB.out.drew nq)
  have F0 := Lib.hid B0.out.all
  obtain ⟨f0, f1, f2, f3, f4, f5, f6, f7, f8, f9⟩ := F0.out
  have R0 := Lib.hid B0.out.all2
  obtain ⟨l0, l1, l2, l3, l4, l5, l6, l7, l8, l9⟩ := R0.out
  go_wp2_with fail
  refine (O.out (w.heap.size + 1 + 1) _ ?_ ?_).mono ?_
  · exact (cell_new_at _ _ _ _ 0 (by simp)).trans rfl
  · exact (cell_new_at _ _ _ _ 1 (by simp)).trans rfl
  rintro e w1 ⟨rfl, hb⟩
  clear f0 f1 f2 f3 f4 f5 f6 f7 f8 f9 l0 l1 l2 l3 l4 l5 l6 l7 l8 l9 F0 R0
  have B1 := Lib.hid ((B0.out.below ((Below.refl _ _).alloc (Nat.le_refl _) _)).below hb)
  clear hb
  have F1 := Lib.hid B1.out.all
  obtain ⟨f0, f1, f2, f3, f4, f5, f6, f7, f8, f9⟩ := F1.out
  have R1 := Lib.hid B1.out.all2
  obtain ⟨l0, l1, l2, l3, l4, l5, l6, l7, l8, l9⟩ := R1.out
  go_wp2_with fail
  refine bodyPost_ret (v := ?_) ?_ rfl ⟨?_, ?_⟩
  rotate_left
  · simp [results, Tryd.results33, go_sem, f0, f1, f2, f3, f4, f5, f6, f7, l0, l1, l2, l3, l4, l5, l6, l7]
    exact rfl
  · rfl
  · have b := B1.out.2.2
    repeat' (first | (with_reducible exact b) | (with_reducible refine below_drew1 ?_) | (with_reducible refine below_drewN ?_ _) | (with_reducible refine Below.setCell ?_ ?_ _) | (with_reducible refine Below.alloc ?_ ?_ _) | (with_reducible exact Below.refl _ _) | (simp; done) | (simp; omega))
set_option maxHeartbeats 1000000 in
theorem rwrite_772 (st en ve sc ep ca va co : Nat) (g1 : st < 4294967296) (g2 : en < 4294967296) (g3 : ve < 4294967296) (g4 : sc < 4294967296) (g5 : ep < 4294967296) (g6 : ca < 4294967296) (g7 : va < 4294967296) (g8 : co < 18446744073709551616) (v : Nat) (hv : v < 4294967296)  (w : World) :
    Calls Tryd.prog 33 #[.agg #[.int .u32 st, .int .u32 en, .int .u32 ve, .int .u32 sc, .int .u32 ep, .int .u32 ca, .int .u32 va, .int .u64 co], .int .i64 772, .int .u32 v] w fun e w' => e = .returned (.tuple #[.agg #[.int .u32 st, .int .u32 (v &&& 2184 : Nat), .int .u32 ve, .int .u32 sc, .int .u32 ep, .int .u32 ca, .int .u32 va, .int .u64 co], .int .i64 0]) ∧ Below w.heap.size w w' := by
  have HB : Hid (TwoS w 52 52 ⟨st, en, ve, sc, ep, ca, va, co⟩ St.zero ((w.alloc (.cells (St.cells ⟨st, en, ve, sc, ep, ca, va, co⟩) 52)).alloc (.cells St.zero.cells 52))) := Lib.hid (TwoS.start w _ _ _ _)
  have O := Lib.hid (fun (B : Nat) (w : World) h0 h1 h2 => only3711_at v hv B w h0 h1 h2)
  clear g1 g2 g3 g4 g5 g6 g7 g8 hv
  go_enter Tryd.func33, Tryd.ntmps33
  go_upto_region 1 with (fail)
  go_quiet (fail)
  have B0 := Lib.hid (HB.out.drew nq)
  have F0 := Lib.hid B0.out.all
  obtain ⟨f0, f1, f2, f3, f4, f5, f6, f7, f8, f9⟩ := F0.out
  have R0 := Lib.hid B0.out.all2
  obtain ⟨l0, l1, l2, l3, l4, l5, l6, l7, l8, l9⟩ := R0.out
  go_wp2_with fail
  refine (O.out (w.heap.size + 1 + 1) _ ?_ ?_ ?_).mono ?_
  · exact (cell_new_at _ _ _ _ 0 (by simp)).trans rfl
  · exact (cell_new_at _ _ _ _ 1 (by simp)).trans rfl
  · exact (cell_new_at _ _ _ _ 2 (by simp)).trans rfl
  rintro e w1 ⟨rfl, hb⟩
  clear f0 f1 f2 f3 f4 f5 f6 f7 f8 f9 l0 l1 l2 l3 l4 l5 l6 l7 l8 l9 F0 R0
  have B1 := Lib.hid ((B0.out.below ((Below.refl _ _).alloc (Nat.le_refl _) _)).below hb)
  clear hb
  have F1 := Lib.hid B1.out.all
  obtain ⟨f0, f1, f2, f3, f4, f5, f6, f7, f8, f9⟩ := F1.out
  have R1 := Lib.hid B1.out.all2
  obtain ⟨l0, l1, l2, l3, l4, l5, l6, l7, l8, l9⟩ := R1.out
  go_wp2_with fail
  refine bodyPost_ret (v := ?_) ?_ rfl ⟨?_, ?_⟩
  rotate_left
  · simp [results, Tryd.results33, go_sem, f0, f1, f2, f3, f4, f5, f6, f7, l0, l1, l2, l3, l4, l5, l6, l7]
    exact rfl
  · rfl
  · have b := B1.out.2.2
    repeat' (first | (with_reducible exact b) | (with_reducible refine below_drew1 ?_) | (with_reducible refine below_drewN ?_ _) | (with_reducible refine Below.setCell ?_ ?_ _) | (with_reducible refine Below.alloc ?_ ?_ _) | (with_reducible exact Below.refl _ _) | (simp; done) | (simp; omega))
set_option maxHeartbeats 1000000 in
theorem rwrite_773 (st en ve sc ep ca va co : Nat) (g1 : st < 4294967296) (g2 : en < 4294967296) (g3 : ve < 4294967296) (g4 : sc < 4294967296) (g5 : ep < 4294967296) (g6 : ca < 4294967296) (g7 : va < 4294967296) (g8 : co < 18446744073709551616) (v : Nat) (hv : v < 4294967296)  (w : World) :
    Calls Tryd.prog 33 #[.agg #[.int .u32 st, .int .u32 en, .int .u32 ve, .int .u32 sc, .int .u32 ep, .int .u32 ca, .int .u32 va, .int .u64 co], .int .i64 773, .int .u32 v] w fun e w' => e = .returned (.tuple #[.agg #[.int .u32 st, .int .u32 en, .int .u32 (clr v 2 : Nat), .int .u32 sc, .int .u32 ep, .int .u32 ca, .int .u32 va, .int .u64 co], .int .i64 0]) ∧ Below w.heap.size w w' := by
  have HB : Hid (TwoS w 52 52 ⟨st, en, ve, sc, ep, ca, va, co⟩ St.zero ((w.alloc (.cells (St.cells ⟨st, en, ve, sc, ep, ca, va, co⟩) 52)).alloc (.cells St.zero.cells 52))) := Lib.hid (TwoS.start w _ _ _ _)
  have O := Lib.hid (fun (B : Nat) (w : World) h0 => but1_at v hv B w h0)
  clear g1 g2 g3 g4 g5 g6 g7 g8 hv
  go_enter Tryd.func33, Tryd.ntmps33
  go_upto_region 1 with (fail)
  go_quiet (fail)
  have B0 := Lib.hid (HB.out.drew nq)
  have F0 := Lib.hid B0.out.all
  obtain ⟨f0, f1, f2, f3, f4, f5, f6, f7, f8, f9⟩ := F0.out
  have R0 := Lib.hid B0.out.all2
  obtain ⟨l0, l1, l2, l3, l4, l5, l6, l7, l8, l9⟩ := R0.out
  go_wp2_with fail
  refine (O.out (w.heap.size + 1 + 1) _ ?_).mono ?_
  · exact (cell_new_at _ _ _ _ 0 (by simp)).trans rfl
  rintro e w1 ⟨rfl, hb⟩
  clear f0 f1 f2 f3 f4 f5 f6 f7 f8 f9 l0 l1 l2 l3 l4 l5 l6 l7 l8 l9 F0 R0
  have B1 := Lib.hid ((B0.out.below ((Below.refl _ _).alloc (Nat.le_refl _) _)).below hb)
  clear hb
  have F1 := Lib.hid B1.out.all
  obtain ⟨f0, f1, f2, f3, f4, f5, f6, f7, f8, f9⟩ := F1.out
  have R1 := Lib.hid B1.out.all2
  obtain ⟨l0, l1, l2, l3, l4, l5, l6, l7, l8, l9⟩ := R1.out
  go_wp2_with fail
  refine bodyPost_ret (v := ?_) ?_ rfl ⟨?_, ?_⟩
  rotate_left
  · simp [results, Tryd.results33, go_sem, f0, f1, f2, f3, f4, f5, f6, f7, l0, l1, l2, l3, l4, l5, l6, l7]
    exact rfl
  · rfl
  · have b := B1.out.2.2
    repeat' (first | (with_reducible exact b) | (with_reducible refine below_drew1 ?_) | (with_reducible refine below_drewN ?_ _) | (with_reducible refine Below.setCell ?_ ?_ _) | (with_reducible refine Below.alloc ?_ ?_ _) | (with_reducible exact Below.refl _ _) | (simp; done) | (simp; omega))
set_option maxHeartbeats 1000000 in
theorem rwrite_833 (st en ve sc ep ca va co : Nat) (g1 : st < 4294967296) (g2 : en < 4294967296) (g3 : ve < 4294967296) (g4 : sc < 4294967296) (g5 : ep < 4294967296) (g6 : ca < 4294967296) (g7 : va < 4294967296) (g8 : co < 18446744073709551616) (v : Nat) (hv : v < 4294967296)  (w : World) :
    Calls Tryd.prog 33 #[.agg #[.int .u32 st, .int .u32 en, .int .u32 ve, .int .u32 sc, .int .u32 ep, .int .u32 ca, .int .u32 va, .int .u64 co], .int .i64 833, .int .u32 v] w fun e w' => e = .returned (.tuple #[.agg #[.int .u32 st, .int .u32 en, .int .u32 ve, .int .u32 sc, .int .u32 (clr v 3 : Nat), .int .u32 ca, .int .u32 va, .int .u64 co], .int .i64 0]) ∧ Below w.heap.size w w' := by
  have HB : Hid (TwoS w 52 52 ⟨st, en, ve, sc, ep, ca, va, co⟩ St.zero ((w.alloc (.cells (St.cells ⟨st, en, ve, sc, ep, ca, va, co⟩) 52)).alloc (.cells St.zero.cells 52))) := Lib.hid (TwoS.start w _ _ _ _)
  have O := Lib.hid (fun (B : Nat) (w : World) h0 h1 => but01_at v hv B w h0 h1)
  clear g1 g2 g3 g4 g5 g6 g7 g8 hv
  go_enter Tryd.func33, Tryd.ntmps33
  go_upto_region 1 with (fail)
  go_quiet (fail)
  have B0 := Lib.hid (HB.out.drew nq)
  have F0 := Lib.hid B0.out.all
  obtain ⟨f0, f1, f2, f3, f4, f5, f6, f7, f8, f9⟩ := F0.out
  have R0 := Lib.hid B0.out.all2
  obtain ⟨l0, l1, l2, l3, l4, l5, l6, l7, l8, l9⟩ := R0.out
  go_wp2_with fail
  refine (O.out (w.heap.size + 1 + 1) _ ?_ ?_).mono ?_
  · exact (cell_new_at _ _ _ _ 0 (by simp)).trans rfl
  · exact (cell_new_at _ _ _ _ 1 (by simp)).trans rfl
  rintro e w1 ⟨rfl, hb⟩
  clear f0 f1 f2 f3 f4 f5 f6 f7 f8 f9 l0 l1 l2 l3 l4 l5 l6 l7 l8 l9 F0 R0
  have B1 := Lib.hid ((B0.out.below ((Below.refl _ _).alloc (Nat.le_refl _) _)).below hb)
  clear hb
  have F1 := Lib.hid B1.out.all
  obtain ⟨f0, f1, f2, f3, f4, f5, f6, f7, f8, f9⟩ := F1.out
  have R1 := Lib.hid B1.out.all2
  obtain ⟨l0, l1, l2, l3, l4, l5, l6, l7, l8, l9⟩ := R1.out
  go_wp2_with fail
  refine bodyPost_ret (v := ?_) ?_ rfl ⟨?_, ?_⟩
  rotate_left
  · simp [results, Tryd.results33, go_sem, f0, f1, f2, f3, f4, f5, f6, f7, l0, l1, l2, l3, l4, l5, l6, l7]
    exact rfl
  · rfl
  · have b := B1.out.2.2
    repeat' (first | (with_reducible exact b) | (with_reducible refine below_drew1 ?_) | (with_reducible refine below_drewN ?_ _) | (with_reducible refine Below.setCell ?_ ?_ _) | (with_reducible refine Below.alloc ?_ ?_ _) | (with_reducible exact Below.refl _ _) | (simp; done) | (simp; omega))
set_option maxHeartbeats 1000000 in
theorem rwrite_2816 (st en ve sc ep ca va co : Nat) (g1 : st < 4294967296) (g2 : en < 4294967296) (g3 : ve < 4294967296) (g4 : sc < 4294967296) (g5 : ep < 4294967296) (g6 : ca < 4294967296) (g7 : va < 4294967296) (g8 : co < 18446744073709551616) (v : Nat) (hv : v < 4294967296)  (w : World) :
    Calls Tryd.prog 33 #[.agg #[.int .u32 st, .int .u32 en, .int .u32 ve, .int .u32 sc, .int .u32 ep, .int .u32 ca, .int .u32 va, .int .u64 co], .int .i64 2816, .int .u32 v] w fun e w' => e = .returned (.tuple #[.agg #[.int .u32 st, .int .u32 en, .int .u32 ve, .int .u32 sc, .int .u32 ep, .int .u32 ca, .int .u32 va, .int .u64 (co / 4294967296 * 4294967296 + v : Nat)], .int .i64 0]) ∧ Below w.heap.size w w' := by
  have HB : Hid (TwoS w 52 52 ⟨st, en, ve, sc, ep, ca, va, co⟩ St.zero ((w.alloc (.cells (St.cells ⟨st, en, ve, sc, ep, ca, va, co⟩) 52)).alloc (.cells St.zero.cells 52))) := Lib.hid (TwoS.start w _ _ _ _)
  obtain ⟨h, hh⟩ : ∃ h : Nat, h = co / 4294967296 := ⟨_, rfl⟩
  obtain ⟨m, hm⟩ : ∃ m : Nat, m = h * 4294967296 := ⟨_, rfl⟩
  obtain ⟨r, hr⟩ : ∃ r : Nat, r = m + v := ⟨_, rfl⟩
  have q1 : (co : Int) / 4294967296 = (h : Int) := by omega
  have q2 : (h : Int) * 4294967296 = (m : Int) := by omega
  have q3 : (m : Int) + (v : Int) = (r : Int) := by omega
  have hrr : r < 18446744073709551616 := by omega
  have hmm : m < 18446744073709551616 := by omega
  have hco : co / 4294967296 * 4294967296 + v = r := by omega
  rw [hco]
  clear hco hh hm hr
  clear g1 g2 g3 g4 g5 g6 g7
  go_enter Tryd.func33, Tryd.ntmps33
  go_upto_region 1 with (fail)
  go_quiet (fail)
  have B0 := Lib.hid (HB.out.drew nq)
  have F0 := Lib.hid B0.out.all
  obtain ⟨f0, f1, f2, f3, f4, f5, f6, f7, f8, f9⟩ := F0.out
  have R0 := Lib.hid B0.out.all2
  obtain ⟨l0, l1, l2, l3, l4, l5, l6, l7, l8, l9⟩ := R0.out
  go_wp2_with fail
  refine bodyPost_ret (v := ?_) ?_ rfl ⟨?_, ?_⟩
  rotate_left
  · simp [results, Tryd.results33, go_sem, f0, f1, f2, f3, f4, f5, f6, f7, l0, l1, l2, l3, l4, l5, l6, l7]
    exact rfl
  · rfl
  · have b := B0.out.2.2
    repeat' (first | (with_reducible exact b) | (with_reducible refine below_drew1 ?_) | (with_reducible refine below_drewN ?_ _) | (with_reducible refine Below.setCell ?_ ?_ _) | (with_reducible refine Below.alloc ?_ ?_ _) | (with_reducible exact Below.refl _ _) | (simp; done) | (simp; omega))
set_option maxHeartbeats 1000000 in
theorem rwrite_2818 (st en ve sc ep ca va co : Nat) (g1 : st < 4294967296) (g2 : en < 4294967296) (g3 : ve < 4294967296) (g4 : sc < 4294967296) (g5 : ep < 4294967296) (g6 : ca < 4294967296) (g7 : va < 4294967296) (g8 : co < 18446744073709551616) (v : Nat) (hv : v < 4294967296)  (w : World) :
    Calls Tryd.prog 33 #[.agg #[.int .u32 st, .int .u32 en, .int .u32 ve, .int .u32 sc, .int .u32 ep, .int .u32 ca, .int .u32 va, .int .u64 co], .int .i64 2818, .int .u32 v] w fun e w' => e = .returned (.tuple #[.agg #[.int .u32 st, .int .u32 en, .int .u32 ve, .int .u32 sc, .int .u32 ep, .int .u32 ca, .int .u32 va, .int .u64 (co / 4294967296 * 4294967296 + v : Nat)], .int .i64 0]) ∧ Below w.heap.size w w' := by
  have HB : Hid (TwoS w 52 52 ⟨st, en, ve, sc, ep, ca, va, co⟩ St.zero ((w.alloc (.cells (St.cells ⟨st, en, ve, sc, ep, ca, va, co⟩) 52)).alloc (.cells St.zero.cells 52))) := Lib.hid (TwoS.start w _ _ _ _)
  obtain ⟨h, hh⟩ : ∃ h : Nat, h = co / 4294967296 := ⟨_, rfl⟩
  obtain ⟨m, hm⟩ : ∃ m : Nat, m = h * 4294967296 := ⟨_, rfl⟩
  obtain ⟨r, hr⟩ : ∃ r : Nat, r = m + v := ⟨_, rfl⟩
  have q1 : (co : Int) / 4294967296 = (h : Int) := by omega
  have q2 : (h : Int) * 4294967296 = (m : Int) := by omega
  have q3 : (m : Int) + (v : Int) = (r : Int) := by omega
  have hrr : r < 18446744073709551616 := by omega
  have hmm : m < 18446744073709551616 := by omega
  have hco : co / 4294967296 * 4294967296 + v = r := by omega
  rw [hco]
  clear hco hh hm hr
  clear g1 g2 g3 g4 g5 g6 g7
  go_enter Tryd.func33, Tryd.ntmps33
  go_upto_region 1 with (fail)
  go_quiet (fail)
  have B0 := Lib.hid (HB.out.drew nq)
  have F0 := Lib.hid B0.out.all
  obtain ⟨f0, f1, f2, f3, f4, f5, f6, f7, f8, f9⟩ := F0.out
  have R0 := Lib.hid B0.out.all2
  obtain ⟨l0, l1, l2, l3, l4, l5, l6, l7, l8, l9⟩ := R0.out
  go_wp2_with fail
  refine bodyPost_ret (v := ?_) ?_ rfl ⟨?_, ?_⟩
  rotate_left
  · simp [results, Tryd.results33, go_sem, f0, f1, f2, f3, f4, f5, f6, f7, l0, l1, l2, l3, l4, l5, l6, l7]
    exact rfl
  · rfl
  · have b := B0.out.2.2
    repeat' (first | (with_reducible exact b) | (with_reducible refine below_drew1 ?_) | (with_reducible refine below_drewN ?_ _) | (with_reducible refine Below.setCell ?_ ?_ _) | (with_reducible refine Below.alloc ?_ ?_ _) | (with_reducible exact Below.refl _ _) | (simp; done) | (simp; omega))
set_option maxHeartbeats 1000000 in
theorem rwrite_2944 (st en ve sc ep ca va co : Nat) (g1 : st < 4294967296) (g2 : en < 4294967296) (g3 : ve < 4294967296) (g4 : sc < 4294967296) (g5 : ep < 4294967296) (g6 : ca < 4294967296) (g7 : va < 4294967296) (g8 : co < 18446744073709551616) (v : Nat) (hv : v < 4294967296)  (w : World) :
    Calls Tryd.prog 33 #[.agg #[.int .u32 st, .int .u32 en, .int .u32 ve, .int .u32 sc, .int .u32 ep, .int .u32 ca, .int .u32 va, .int .u64 co], .int .i64 2944, .int .u32 v] w fun e w' => e = .returned (.tuple #[.agg #[.int .u32 st, .int .u32 en, .int .u32 ve, .int .u32 sc, .int .u32 ep, .int .u32 ca, .int .u32 va, .int .u64 (v * 4294967296 + co % 4294967296 : Nat)], .int .i64 0]) ∧ Below w.heap.size w w' := by
  have HB : Hid (TwoS w 52 52 ⟨st, en, ve, sc, ep, ca, va, co⟩ St.zero ((w.alloc (.cells (St.cells ⟨st, en, ve, sc, ep, ca, va, co⟩) 52)).alloc (.cells St.zero.cells 52))) := Lib.hid (TwoS.start w _ _ _ _)
  obtain ⟨h, hh⟩ : ∃ h : Nat, h = co % 4294967296 := ⟨_, rfl⟩
  obtain ⟨m, hm⟩ : ∃ m : Nat, m = v * 4294967296 := ⟨_, rfl⟩
  obtain ⟨r, hr⟩ : ∃ r : Nat, r = m + h := ⟨_, rfl⟩
  have q1 : (co : Int) % 4294967296 = (h : Int) := by omega
  have q2 : (v : Int) * 4294967296 = (m : Int) := by omega
  have q3 : (m : Int) + (h : Int) = (r : Int) := by omega
  have hrr : r < 18446744073709551616 := by omega
  have hmm : m < 18446744073709551616 := by omega
  have hco : v * 4294967296 + co % 4294967296 = r := by omega
  rw [hco]
  clear hco hh hm hr
  clear g1 g2 g3 g4 g5 g6 g7
  go_enter Tryd.func33, Tryd.ntmps33
  go_upto_region 1 with (fail)
  go_quiet (fail)
  have B0 := Lib.hid (HB.out.drew nq)
  have F0 := Lib.hid B0.out.all
  obtain ⟨f0, f1, f2, f3, f4, f5, f6, f7, f8, f9⟩ := F0.out
  have R0 := Lib.hid B0.out.all2
  obtain ⟨l0, l1, l2, l3, l4, l5, l6, l7, l8, l9⟩ := R0.out
  go_wp2_with fail
  refine bodyPost_ret (v := ?_) ?_ rfl ⟨?_, ?_⟩
  rotate_left
  · simp [results, Tryd.results33, go_sem, f0, f1, f2, f3, f4, f5, f6, f7, l0, l1, l2, l3, l4, l5, l6, l7]
    exact rfl
  · rfl
  · have b := B0.out.2.2
    repeat' (first | (with_reducible exact b) | (with_reducible refine below_drew1 ?_) | (with_reducible refine below_drewN ?_ _) | (with_reducible refine Below.setCell ?_ ?_ _) | (with_reducible refine Below.alloc ?_ ?_ _) | (with_reducible exact Below.refl _ _) | (simp; done) | (simp; omega))
set_option maxHeartbeats 1000000 in
theorem rwrite_2946 (st en ve sc ep ca va co : Nat) (g1 : st < 4294967296) (g2 : en < 4294967296) (g3 : ve < 4294967296) (g4 : sc < 4294967296) (g5 : ep < 4294967296) (g6 : ca < 4294967296) (g7 : va < 4294967296) (g8 : co < 18446744073709551616) (v : Nat) (hv : v < 4294967296)  (w : World) :
    Calls Tryd.prog 33 #[.agg #[.int .u32 st, .int .u32 en, .int .u32 ve, .int .u32 sc, .int .u32 ep, .int .u32 ca, .int .u32 va, .int .u64 co], .int .i64 2946, .int .u32 v] w fun e w' => e = .returned (.tuple #[.agg #[.int .u32 st, .int .u32 en, .int .u32 ve, .int .u32 sc, .int .u32 ep, .int .u32 ca, .int .u32 va, .int .u64 (v * 4294967296 + co % 4294967296 : Nat)], .int .i64 0]) ∧ Below w.heap.size w w' := by
  have HB : Hid (TwoS w 52 52 ⟨st, en, ve, sc, ep, ca, va, co⟩ St.zero ((w.alloc (.cells (St.cells ⟨st, en, ve, sc, ep, ca, va, co⟩) 52)).alloc (.cells St.zero.cells 52))) := Lib.hid (TwoS.start w _ _ _ _)
  obtain ⟨h, hh⟩ : ∃ h : Nat, h = co % 4294967296 := ⟨_, rfl⟩
  obtain ⟨m, hm⟩ : ∃ m : Nat, m = v * 4294967296 := ⟨_, rfl⟩
  obtain ⟨r, hr⟩ : ∃ r : Nat, r = m + h := ⟨_, rfl⟩
  have q1 : (co : Int) % 4294967296 = (h : Int) := by omega
  have q2 : (v : Int) * 4294967296 = (m : Int) := by omega
  have q3 : (m : Int) + (h : Int) = (r : Int) := by omega
  have hrr : r < 18446744073709551616 := by omega
  have hmm : m < 18446744073709551616 := by omega
  have hco : v * 4294967296 + co % 4294967296 = r := by omega
  rw [hco]
  clear hco hh hm hr
  clear g1 g2 g3 g4 g5 g6 g7
  go_enter Tryd.func33, Tryd.ntmps33
  go_upto_region 1 with (fail)
  go_quiet (fail)
  have B0 := Lib.hid (HB.out.drew nq)
  have F0 := Lib.hid B0.out.all
  obtain ⟨f0, f1, f2, f3, f4, f5, f6, f7, f8, f9⟩ := F0.out
  have R0 := Lib.hid B0.out.all2
  obtain ⟨l0, l1, l2, l3, l4, l5, l6, l7, l8, l9⟩ := R0.out
  go_wp2_with fail
  refine bodyPost_ret (v := ?_) ?_ rfl ⟨?_, ?_⟩
  rotate_left
  · simp [results, Tryd.results33, go_sem, f0, f1, f2, f3, f4, f5, f6, f7, l0, l1, l2, l3, l4, l5, l6, l7]
    exact rfl
  · rfl
  · have b := B0.out.2.2
    repeat' (first | (with_reducible exact b) | (with_reducible refine below_drew1 ?_) | (with_reducible refine below_drewN ?_ _) | (with_reducible refine Below.setCell ?_ ?_ _) | (with_reducible refine Below.alloc ?_ ?_ _) | (with_reducible exact Below.refl _ _) | (simp; done) | (simp; omega))
set_option maxHeartbeats 1000000 in
theorem rwrite_769 (st en ve sc ep ca va co : Nat) (g1 : st < 4294967296) (g2 : en < 4294967296) (g3 : ve < 4294967296) (g4 : sc < 4294967296) (g5 : ep < 4294967296) (g6 : ca < 4294967296) (g7 : va < 4294967296) (g8 : co < 18446744073709551616) (v : Nat) (hv : v < 4294967296)  (w : World) :
    Calls Tryd.prog 33 #[.agg #[.int .u32 st, .int .u32 en, .int .u32 ve, .int .u32 sc, .int .u32 ep, .int .u32 ca, .int .u32 va, .int .u64 co], .int .i64 769, .int .u32 v] w fun e w' => e = .returned (.tuple #[.agg #[.int .u32 st, .int .u32 en, .int .u32 ve, .int .u32 sc, .int .u32 ep, .int .u32 ca, .int .u32 va, .int .u64 co], .int .i64 0]) ∧ Below w.heap.size w w' := by
  have HB : Hid (TwoS w 52 52 ⟨st, en, ve, sc, ep, ca, va, co⟩ St.zero ((w.alloc (.cells (St.cells ⟨st, en, ve, sc, ep, ca, va, co⟩) 52)).alloc (.cells St.zero.cells 52))) := Lib.hid (TwoS.start w _ _ _ _)
  clear g1 g2 g3 g4 g5 g6 g7 g8 hv
  go_enter Tryd.func33, Tryd.ntmps33
  go_upto_region 1 with (fail)
  go_quiet (fail)
  have B0 := Lib.hid (HB.out.drew nq)
  have F0 := Lib.hid B0.out.all
  obtain ⟨f0, f1, f2, f3, f4, f5, f6, f7, f8, f9⟩ := F0.out
  have R0 := Lib.hid B0.out.all2
  obtain ⟨l0, l1, l2, l3, l4, l5, l6, l7, l8, l9⟩ := R0.out
  go_wp2_with fail
  refine bodyPost_ret (v := ?_) ?_ rfl ⟨?_, ?_⟩
  rotate_left
  · simp [results, Tryd.results33, go_sem, f0, f1, f2, f3, f4, f5, f6, f7, l0, l1, l2, l3, l4, l5, l6, l7]
    exact rfl
  · rfl
  · have b := B0.out.2.2
    repeat' (first | (with_reducible exact b) | (with_reducible refine below_drew1 ?_) | (with_reducible refine below_drewN ?_ _) | (with_reducible refine Below.setCell ?_ ?_ _) | (with_reducible refine Below.alloc ?_ ?_ _) | (with_reducible exact Below.refl _ _) | (simp; done) | (simp; omega))
set_option maxHeartbeats 1000000 in
theorem rwrite_836 (st en ve sc ep ca va co : Nat) (g1 : st < 4294967296) (g2 : en < 4294967296) (g3 : ve < 4294967296) (g4 : sc < 4294967296) (g5 : ep < 4294967296) (g6 : ca < 4294967296) (g7 : va < 4294967296) (g8 : co < 18446744073709551616) (v : Nat) (hv : v < 4294967296)  (w : World) :
    Calls Tryd.prog 33 #[.agg #[.int .u32 st, .int .u32 en, .int .u32 ve, .int .u32 sc, .int .u32 ep, .int .u32 ca, .int .u32 va, .int .u64 co], .int .i64 836, .int .u32 v] w fun e w' => e = .returned (.tuple #[.agg #[.int .u32 st, .int .u32 en, .int .u32 ve, .int .u32 sc, .int .u32 ep, .int .u32 ca, .int .u32 va, .int .u64 co], .int .i64 0]) ∧ Below w.heap.size w w' := by
  have HB : Hid (TwoS w 52 52 ⟨st, en, ve, sc, ep, ca, va, co⟩ St.zero ((w.alloc (.cells (St.cells ⟨st, en, ve, sc, ep, ca, va, co⟩) 52)).alloc (.cells St.zero.cells 52))) := Lib.hid (TwoS.start w _ _ _ _)
  clear g1 g2 g3 g4 g5 g6 g7 g8 hv
  go_enter Tryd.func33, Tryd.ntmps33
  go_upto_region 1 with (fail)
  go_quiet (fail)
  have B0 := Lib.hid (HB.out.drew nq)
  have F0 := Lib.hid B0.out.all
  obtain ⟨f0, f1, f2, f3, f4, f5, f6, f7, f8, f9⟩ := F0.out
  have R0 := Lib.hid B0.out.all2
  obtain ⟨l0, l1, l2, l3, l4, l5, l6, l7, l8, l9⟩ := R0.out
  go_wp2_with fail
  refine bodyPost_ret (v := ?_) ?_ rfl ⟨?_, ?_⟩
  rotate_left
  · simp [results, Tryd.results33, go_sem, f0, f1, f2, f3, f4, f5, f6, f7, l0, l1, l2, l3, l4, l5, l6, l7]
    exact rfl
  · rfl
  · have b := B0.out.2.2
    repeat' (first | (with_reducible exact b) | (with_reducible refine below_drew1 ?_) | (with_reducible refine below_drewN ?_ _) | (with_reducible refine Below.setCell ?_ ?_ _) | (with_reducible refine Below.alloc ?_ ?_ _) | (with_reducible exact Below.refl _ _) | (simp; done) | (simp; omega))
set_option maxHeartbeats 1000000 in
theorem rwrite_3857 (st en ve sc ep ca va co : Nat) (g1 : st < 4294967296) (g2 : en < 4294967296) (g3 : ve < 4294967296) (g4 : sc < 4294967296) (g5 : ep < 4294967296) (g6 : ca < 4294967296) (g7 : va < 4294967296) (g8 : co < 18446744073709551616) (v : Nat) (hv : v < 4294967296)  (w : World) :
    Calls Tryd.prog 33 #[.agg #[.int .u32 st, .int .u32 en, .int .u32 ve, .int .u32 sc, .int .u32 ep, .int .u32 ca, .int .u32 va, .int .u64 co], .int .i64 3857, .int .u32 v] w fun e w' => e = .returned (.tuple #[.agg #[.int .u32 0, .int .u32 0, .int .u32 0, .int .u32 0, .int .u32 0, .int .u32 0, .int .u32 0, .int .u64 0], .int .i64 33]) ∧ Below w.heap.size w w' := by
  have HB : Hid (TwoS w 52 52 ⟨st, en, ve, sc, ep, ca, va, co⟩ St.zero ((w.alloc (.cells (St.cells ⟨st, en, ve, sc, ep, ca, va, co⟩) 52)).alloc (.cells St.zero.cells 52))) := Lib.hid (TwoS.start w _ _ _ _)
  clear g1 g2 g3 g4 g5 g6 g7 g8 hv
  go_enter Tryd.func33, Tryd.ntmps33
  go_upto_region 1 with (fail)
  go_quiet (fail)
  have B0 := Lib.hid (HB.out.drew nq)
  have F0 := Lib.hid B0.out.all
  obtain ⟨f0, f1, f2, f3, f4, f5, f6, f7, f8, f9⟩ := F0.out
  have R0 := Lib.hid B0.out.all2
  obtain ⟨l0, l1, l2, l3, l4, l5, l6, l7, l8, l9⟩ := R0.out
  go_wp2_with fail
  refine bodyPost_ret (v := ?_) ?_ rfl ⟨?_, ?_⟩
  rotate_left
  · simp [results, Tryd.results33, go_sem, f0, f1, f2, f3, f4, f5, f6, f7, l0, l1, l2, l3, l4, l5, l6, l7]
    exact rfl
  · rfl
  · have b := B0.out.2.2
    repeat' (first | (with_reducible exact b) | (with_reducible refine below_drew1 ?_) | (with_reducible refine below_drewN ?_ _) | (with_reducible refine Below.setCell ?_ ?_ _) | (with_reducible refine Below.alloc ?_ ?_ _) | (with_reducible exact Below.refl _ _) | (simp; done) | (simp; omega))
set_option maxHeartbeats 1000000 in
theorem rwrite_3858 (st en ve sc ep ca va co : Nat) (g1 : st < 4294967296) (g2 : en < 4294967296) (g3 : ve < 4294967296) (g4 : sc < 4294967296) (g5 : ep < 4294967296) (g6 : ca < 4294967296) (g7 : va < 4294967296) (g8 : co < 18446744073709551616) (v : Nat) (hv : v < 4294967296)  (w : World) :
    Calls Tryd.prog 33 #[.agg #[.int .u32 st, .int .u32 en, .int .u32 ve, .int .u32 sc, .int .u32 ep, .int .u32 ca, .int .u32 va, .int .u64 co], .int .i64 3858, .int .u32 v] w fun e w' => e = .returned (.tuple #[.agg #[.int .u32 0, .int .u32 0, .int .u32 0, .int .u32 0, .int .u32 0, .int .u32 0, .int .u32 0, .int .u64 0], .int .i64 33]) ∧ Below w.heap.size w w' := by
  have HB : Hid (TwoS w 52 52 ⟨st, en, ve, sc, ep, ca, va, co⟩ St.zero ((w.alloc (.cells (St.cells ⟨st, en, ve, sc, ep, ca, va, co⟩) 52)).alloc (.cells St.zero.cells 52))) := Lib.hid (TwoS.start w _ _ _ _)
  clear g1 g2 g3 g4 g5 g6 g7 g8 hv
  go_enter Tryd.func33, Tryd.ntmps33
  go_upto_region 1 with (fail)
  go_quiet (fail)
  have B0 := Lib.hid (HB.out.drew nq)
  have F0 := Lib.hid B0.out.all
  obtain ⟨f0, f1, f2, f3, f4, f5, f6, f7, f8, f9⟩ := F0.out
  have R0 := Lib.hid B0.out.all2
  obtain ⟨l0, l1, l2, l3, l4, l5, l6, l7, l8, l9⟩ := R0.out
  go_wp2_with fail
  refine bodyPost_ret (v := ?_) ?_ rfl ⟨?_, ?_⟩
  rotate_left
  · simp [results, Tryd.results33, go_sem, f0, f1, f2, f3, f4, f5, f6, f7, l0, l1, l2, l3, l4, l5, l6, l7]
    exact rfl
  · rfl
  · have b := B0.out.2.2
    repeat' (first | (with_reducible exact b) | (with_reducible refine below_drew1 ?_) | (with_reducible refine below_drewN ?_ _) | (with_reducible refine Below.setCell ?_ ?_ _) | (with_reducible refine Below.alloc ?_ ?_ _) | (with_reducible exact Below.refl _ _) | (simp; done) | (simp; omega))
set_option maxHeartbeats 1000000 in
theorem rwrite_3859 (st en ve sc ep ca va co : Nat) (g1 : st < 4294967296) (g2 : en < 4294967296) (g3 : ve < 4294967296) (g4 : sc < 4294967296) (g5 : ep < 4294967296) (g6 : ca < 4294967296) (g7 : va < 4294967296) (g8 : co < 18446744073709551616) (v : Nat) (hv : v < 4294967296)  (w : World) :
    Calls Tryd.prog 33 #[.agg #[.int .u32 st, .int .u32 en, .int .u32 ve, .int .u32 sc, .int .u32 ep, .int .u32 ca, .int .u32 va, .int .u64 co], .int .i64 3859, .int .u32 v] w fun e w' => e = .returned (.tuple #[.agg #[.int .u32 0, .int .u32 0, .int .u32 0, .int .u32 0, .int .u32 0, .int .u32 0, .int .u32 0, .int .u64 0], .int .i64 33]) ∧ Below w.heap.size w w' := by
  have HB : Hid (TwoS w 52 52 ⟨st, en, ve, sc, ep, ca, va, co⟩ St.zero ((w.alloc (.cells (St.cells ⟨st, en, ve, sc, ep, ca, va, co⟩) 52)).alloc (.cells St.zero.cells 52))) := Lib.hid (TwoS.start w _ _ _ _)
  clear g1 g2 g3 g4 g5 g6 g7 g8 hv
  go_enter Tryd.func33, Tryd.ntmps33
  go_upto_region 1 with (fail)
  go_quiet (fail)
  have B0 := Lib.hid (HB.out.drew nq)
  have F0 := Lib.hid B0.out.all
  obtain ⟨f0, f1, f2, f3, f4, f5, f6, f7, f8, f9⟩ := F0.out
  have R0 := Lib.hid B0.out.all2
  obtain ⟨l0, l1, l2, l3, l4, l5, l6, l7, l8, l9⟩ := R0.out
  go_wp2_with fail
  refine bodyPost_ret (v := ?_) ?_ rfl ⟨?_, ?_⟩
  rotate_left
  · simp [results, Tryd.results33, go_sem, f0, f1, f2, f3, f4, f5, f6, f7, l0, l1, l2, l3, l4, l5, l6, l7]
    exact rfl
  · rfl
  · have b := B0.out.2.2
    repeat' (first | (with_reducible exact b) | (with_reducible refine below_drew1 ?_) | (with_reducible refine below_drewN ?_ _) | (with_reducible refine Below.setCell ?_ ?_ _) | (with_reducible refine Below.alloc ?_ ?_ _) | (with_reducible exact Below.refl _ _) | (simp; done) | (simp; omega))
set_option maxHeartbeats 1000000 in
theorem rwrite_3860 (st en ve sc ep ca va co : Nat) (g1 : st < 4294967296) (g2 : en < 4294967296) (g3 : ve < 4294967296) (g4 : sc < 4294967296) (g5 : ep < 4294967296) (g6 : ca < 4294967296) (g7 : va < 4294967296) (g8 : co < 18446744073709551616) (v : Nat) (hv : v < 4294967296)  (w : World) :
    Calls Tryd.prog 33 #[.agg #[.int .u32 st, .int .u32 en, .int .u32 ve, .int .u32 sc, .int .u32 ep, .int .u32 ca, .int .u32 va, .int .u64 co], .int .i64 3860, .int .u32 v] w fun e w' => e = .returned (.tuple #[.agg #[.int .u32 0, .int .u32 0, .int .u32 0, .int .u32 0, .int .u32 0, .int .u32 0, .int .u32 0, .int .u64 0], .int .i64 33]) ∧ Below w.heap.size w w' := by
  have HB : Hid (TwoS w 52 52 ⟨st, en, ve, sc, ep, ca, va, co⟩ St.zero ((w.alloc (.cells (St.cells ⟨st, en, ve, sc, ep, ca, va, co⟩) 52)).alloc (.cells St.zero.cells 52))) := Lib.hid (TwoS.start w _ _ _ _)
  clear g1 g2 g3 g4 g5 g6 g7 g8 hv
  go_enter Tryd.func33, Tryd.ntmps33
  go_upto_region 1 with (fail)
  go_quiet (fail)
  have B0 := Lib.hid (HB.out.drew nq)
  have F0 := Lib.hid B0.out.all
  obtain ⟨f0, f1, f2, f3, f4, f5, f6, f7, f8, f9⟩ := F0.out
  have R0 := Lib.hid B0.out.all2
  obtain ⟨l0, l1, l2, l3, l4, l5, l6, l7, l8, l9⟩ := R0.out
  go_wp2_with fail
  refine bodyPost_ret (v := ?_) ?_ rfl ⟨?_, ?_⟩
  rotate_left
  · simp [results, Tryd.results33, go_sem, f0, f1, f2, f3, f4, f5, f6, f7, l0, l1, l2, l3, l4, l5, l6, l7]
    exact rfl
  · rfl
  · have b := B0.out.2.2
    repeat' (first | (with_reducible exact b) | (with_reducible refine below_drew1 ?_) | (with_reducible refine below_drewN ?_ _) | (with_reducible refine Below.setCell ?_ ?_ _) | (with_reducible refine Below.alloc ?_ ?_ _) | (with_reducible exact Below.refl _ _) | (simp; done) | (simp; omega))
set_option maxHeartbeats 1000000 in
theorem rwrite_none (st en ve sc ep ca va co : Nat) (g1 : st < 4294967296) (g2 : en < 4294967296) (g3 : ve < 4294967296) (g4 : sc < 4294967296) (g5 : ep < 4294967296) (g6 : ca < 4294967296) (g7 : va < 4294967296) (g8 : co < 18446744073709551616) (a : Int) (v : Nat) (hv : v < 4294967296) (n768 : (a == 768) = false) (n769 : (a == 769) = false) (n772 : (a == 772) = false) (n773 : (a == 773) = false) (n832 : (a == 832) = false) (n833 : (a == 833) = false) (n834 : (a == 834) = false) (n835 : (a == 835) = false) (n836 : (a == 836) = false) (n2816 : (a == 2816) = false) (n2818 : (a == 2818) = false) (n2944 : (a == 2944) = false) (n2946 : (a == 2946) = false) (n3857 : (a == 3857) = false) (n3858 : (a == 3858) = false) (n3859 : (a == 3859) = false) (n3860 : (a == 3860) = false) (w : World) :
    Calls Tryd.prog 33 #[.agg #[.int .u32 st, .int .u32 en, .int .u32 ve, .int .u32 sc, .int .u32 ep, .int .u32 ca, .int .u32 va, .int .u64 co], .int .i64 a, .int .u32 v] w fun e w' => e = .returned (.tuple #[.agg #[.int .u32 0, .int .u32 0, .int .u32 0, .int .u32 0, .int .u32 0, .int .u32 0, .int .u32 0, .int .u64 0], .int .i64 8]) ∧ Below w.heap.size w w' := by
  have HB : Hid (TwoS w 52 52 ⟨st, en, ve, sc, ep, ca, va, co⟩ St.zero ((w.alloc (.cells (St.cells ⟨st, en, ve, sc, ep, ca, va, co⟩) 52)).alloc (.cells St.zero.cells 52))) := Lib.hid (TwoS.start w _ _ _ _)
  clear g1 g2 g3 g4 g5 g6 g7 g8 hv
  go_enter Tryd.func33, Tryd.ntmps33
  go_upto_region 1 with (fail)
  go_quiet (fail)
  have B0 := Lib.hid (HB.out.drew nq)
  have F0 := Lib.hid B0.out.all
  obtain ⟨f0, f1, f2, f3, f4, f5, f6, f7, f8, f9⟩ := F0.out
  have R0 := Lib.hid B0.out.all2
  obtain ⟨l0, l1, l2, l3, l4, l5, l6, l7, l8, l9⟩ := R0.out
  go_wp2_with fail
  refine bodyPost_ret (v := ?_) ?_ rfl ⟨?_, ?_⟩
  rotate_left
  · simp [results, Tryd.results33, go_sem, f0, f1, f2, f3, f4, f5, f6, f7, l0, l1, l2, l3, l4, l5, l6, l7]
    exact rfl
  · rfl
  · have b := B0.out.2.2
    repeat' (first | (with_reducible exact b) | (with_reducible refine below_drew1 ?_) | (with_reducible refine below_drewN ?_ _) | (with_reducible refine Below.setCell ?_ ?_ _) | (with_reducible refine Below.alloc ?_ ?_ _) | (with_reducible exact Below.refl _ _) | (simp; done) | (simp; omega))
def rwriteR (r : St × Int) : Value := .tuple #[r.1.v, .int .i64 r.2]
theorem rwrite_any (s : St) (hs : s.ok) (a : Int) (v : Nat) (hv : v < 4294967296) (w : World) :
    Calls Tryd.prog 33 #[s.v, .int .i64 a, .int .u32 v] w fun e w' => e = .returned (rwriteR (writeV s a v)) ∧ Below w.heap.size w w' := by
  obtain ⟨st, en, ve, sc, ep, ca, va, co⟩ := s
  obtain ⟨g1, g2, g3, g4, g5, g6, g7, g8⟩ := hs
  simp only at g1 g2 g3 g4 g5 g6 g7 g8
  by_cases c832 : a = 832
  · subst c832; exact rwrite_832 st en ve sc ep ca va co g1 g2 g3 g4 g5 g6 g7 g8 v hv w
  by_cases c834 : a = 834
  · subst c834; exact rwrite_834 st en ve sc ep ca va co g1 g2 g3 g4 g5 g6 g7 g8 v hv w
  by_cases c835 : a = 835
  · subst c835; exact rwrite_835 st en ve sc ep ca va co g1 g2 g3 g4 g5 g6 g7 g8 v hv w
  by_cases c768 : a = 768
  · subst c768; exact rwrite_768 st en ve sc ep ca va co g1 g2 g3 g4 g5 g6 g7 g8 v hv w
  by_cases c772 : a = 772
  · subst c772; exact rwrite_772 st en ve sc ep ca va co g1 g2 g3 g4 g5 g6 g7 g8 v hv w
  by_cases c773 : a = 773
  · subst c773; exact rwrite_773 st en ve sc ep ca va co g1 g2 g3 g4 g5 g6 g7 g8 v hv w
  by_cases c833 : a = 833
  · subst c833; exact rwrite_833 st en ve sc ep ca va co g1 g2 g3 g4 g5 g6 g7 g8 v hv w
  by_cases c2816 : a = 2816
  · subst c2816; exact rwrite_2816 st en ve sc ep ca va co g1 g2 g3 g4 g5 g6 g7 g8 v hv w
  by_cases c2818 : a = 2818
  · subst c2818; exact rwrite_2818 st en ve sc ep ca va co g1 g2 g3 g4 g5 g6 g7 g8 v hv w
  by_cases c2944 : a = 2944
  · subst c2944; exact rwrite_2944 st en ve sc ep ca va co g1 g2 g3 g4 g5 g6 g7 g8 v hv w
  by_cases c2946 : a = 2946
  · subst c2946; exact rwrite_2946 st en ve sc ep ca va co g1 g2 g3 g4 g5 g6 g7 g8 v hv w
  by_cases c769 : a = 769
  · subst c769; exact rwrite_769 st en ve sc ep ca va co g1 g2 g3 g4 g5 g6 g7 g8 v hv w
  by_cases c836 : a = 836
  · subst c836; exact rwrite_836 st en ve sc ep ca va co g1 g2 g3 g4 g5 g6 g7 g8 v hv w
  by_cases c3857 : a = 3857
  · subst c3857; exact rwrite_3857 st en ve sc ep ca va co g1 g2 g3 g4 g5 g6 g7 g8 v hv w
  by_cases c3858 : a = 3858
  · subst c3858; exact rwrite_3858 st en ve sc ep ca va co g1 g2 g3 g4 g5 g6 g7 g8 v hv w
  by_cases c3859 : a = 3859
  · subst c3859; exact rwrite_3859 st en ve sc ep ca va co g1 g2 g3 g4 g5 g6 g7 g8 v hv w
  by_cases c3860 : a = 3860
  · subst c3860; exact rwrite_3860 st en ve sc ep ca va co g1 g2 g3 g4 g5 g6 g7 g8 v hv w
  have hr : writeV ⟨st, en, ve, sc, ep, ca, va, co⟩ a v = (St.zero, 8) := by
    unfold writeV
    rw [if_neg (by omega), if_neg (by omega), if_neg (by omega), if_neg (by omega), if_neg (by omega), if_neg (by omega), if_neg (by omega), if_neg (by omega), if_neg (by omega), if_neg (by omega), if_neg (by omega)]
  rw [hr]
  exact rwrite_none st en ve sc ep ca va co g1 g2 g3 g4 g5 g6 g7 g8 a v hv (by rw [Bool.eq_false_iff]; simp; omega) (by rw [Bool.eq_false_iff]; simp; omega) (by rw [Bool.eq_false_iff]; simp; omega) (by rw [Bool.eq_false_iff]; simp; omega) (by rw [Bool.eq_false_iff]; simp; omega) (by rw [Bool.eq_false_iff]; simp; omega) (by rw [Bool.eq_false_iff]; simp; omega) (by rw [Bool.eq_false_iff]; simp; omega) (by rw [Bool.eq_false_iff]; simp; omega) (by rw [Bool.eq_false_iff]; simp; omega) (by rw [Bool.eq_false_iff]; simp; omega) (by rw [Bool.eq_false_iff]; simp; omega) (by rw [Bool.eq_false_iff]; simp; omega) (by rw [Bool.eq_false_iff]; simp; omega) (by rw [Bool.eq_false_iff]; simp; omega) (by rw [Bool.eq_false_iff]; simp; omega) (by rw [Bool.eq_false_iff]; simp; omega) w

end Go.Proofs.YtgbpalclapcfeaaDoor
