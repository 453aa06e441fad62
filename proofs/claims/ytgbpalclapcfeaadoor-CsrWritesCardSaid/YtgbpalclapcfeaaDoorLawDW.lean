import Derived.Test.YtgbpalclapcfeaaDoorCsrDB
import Derived.Test.YtgbpalclapcfeaaDoorCsrDE
import Derived.Below
import Derived.Deep.Draws
import Derived.Deep.AppendLies
import Derived.Maps.AppendAt
import Derived.OwnWalk
import Derived.Laws.BytesArg
import Derived.Laws.MakeOwn
import Derived.Laws.OwnMore
import Derived.Deep.OwnRows
import Derived.Tactics
import Derived.Lib.ConvBytes
import Derived.Laws.Slices
import Derived.WalkKit
import Derived.KernelRfl
import Derived.RowKit3
import Derived.Deep.LoopGhost
import Derived.Deep.QuietTactic
import Derived.BigQuiet
import Derived.WideLaws
import Derived.Deep.DeepCutAuto
import Derived.Deep.CutBlock
import Derived.Deep.RegionHeld3
import Derived.Laws.Rows
import Derived.Lib.AppendStr
import Derived.ArgAppend
import Derived.Laws.IdiomCopy
import Derived.OrdersHeld
import Derived.Laws.BitsLemmas
import Derived.RowKit
import Derived.Lib.Hide
import Derived.Laws.BitsAllLaws
import Derived.WalkLawsBesides
import Derived.WalkSpells
import Derived.LaidEql
namespace Go.Proofs.YtgbpalclapcfeaaDoor
open Go.RowKit
set_option maxRecDepth 100000
set_option linter.unusedVariables false
set_option linter.unusedSimpArgs false

set_option maxHeartbeats 1000000 in
theorem sureC_any (w : World) : Calls Tryd.prog 31 #[] w fun e w' => e = .returned (.bool true) ∧ Below w.heap.size w w' := by
  have T : Hid (∀ w : World, Calls Tryd.prog 61 #[.agg #[.int .u32 0, .int .u32 0, .int .u32 2147483905, .int .u32 0, .int .u32 0, .int .u32 0, .int .u32 0, .int .u64 0], .int .u32 2147483655, .int .u32 0, .int .u32 4] w fun e w' => e = .returned (.tuple #[.agg #[.int .u32 0, .int .u32 0, .int .u32 2147483905, .int .u32 0, .int .u32 4, .int .u32 2147483655, .int .u32 0, .int .u64 0], .int .u32 2147483932]) ∧ Below w.heap.size w w') :=
    Lib.hid (fun w => (trap_any ⟨0, 0, 2147483905, 0, 0, 0, 0, 0⟩ ⟨by decide, by decide, by decide, by decide, by decide, by decide, by decide, by decide⟩ 2147483655 0 4 (by decide) (by decide) (by decide) w).mono fun e w' h => ⟨by rw [h.1, show trapTo 2147483905 2147483655 = 2147483932 from by decide +kernel, show trapS ⟨0, 0, 2147483905, 0, 0, 0, 0, 0⟩ 2147483655 0 4 = ⟨0, 0, 2147483905, 0, 4, 2147483655, 0, 0⟩ from by simp only [trapS]; congr 1]; rfl, h.2⟩)
  go_enter Tryd.func31, Tryd.ntmps31
  go_wp2_with (go_at_call 61; refine (T.out _).mono ?_; rintro e w' ⟨rfl, hb⟩)
  go_ret
  exact ⟨rfl, hb.alloc hb.size _⟩

theorem num_nil (w : World) : Calls Tryd.prog 28 #[.nilIface] w fun e w' => e = .returned (.int .i64 0) ∧ Below w.heap.size w w' := by
  go_enter Tryd.func28, Tryd.ntmps28
  go_wp2
  go_ret
  exact ⟨rfl, (Below.refl _ _).alloc (Nat.le_refl _) _⟩
set_option maxHeartbeats 1000000 in
theorem num_err (n : Int) (w : World) (hg : w.cell? ⟨1, 0, none⟩ = some errTy) : Calls Tryd.prog 28 #[.iface 76 (.int .i64 n)] w fun e w' => e = .returned (.int .i64 n) ∧ Below w.heap.size w w' := by
  have hgA : (w.alloc (.cells #[.int .i64 0] 76)).cell? ⟨1, 0, none⟩ = some errTy := by
    rw [World.cell?_alloc_lt _ _ ⟨1, 0, none⟩ (block_lt_of_cell hg)]; exact hg
  have htA : (w.alloc (.cells #[.int .i64 0] 76)).cell? ⟨w.heap.size, 0, none⟩ = some (.int .i64 0) := by simp
  have hfA : (w.alloc (.cells #[.int .i64 0] 76)).frozen? ⟨w.heap.size, 0, none⟩ = false := by simp
  have A := Lib.hid (as_hit n ⟨w.heap.size, 0, none⟩ (.int .i64 0) _ hgA htA hfA)
  clear hgA htA hfA hg
  go_enter Tryd.func28, Tryd.ntmps28
  go_wp2_with (go_at_call 44; refine A.out.mono ?_; rintro e w' ⟨rfl, rfl⟩)
  go_ret
  refine ⟨rfl, ?_⟩
  repeat' (first | (with_reducible exact Below.refl _ _) | (with_reducible refine Below.setCell ?_ ?_ _) | (with_reducible refine Below.alloc ?_ ?_ _) | (simp; done) | (simp; omega))
/-- an error's number, whatever the error -/
theorem num_any (n : Int) (w : World) (hg : w.cell? ⟨1, 0, none⟩ = some errTy) : Calls Tryd.prog 28 #[errV n] w fun e w' => e = .returned (.int .i64 n) ∧ Below w.heap.size w w' := by
  by_cases h : n = 0
  · subst h; exact num_nil w
  · have hE : errV n = .iface 76 (.int .i64 n) := by unfold errV; rw [if_neg h]
    rw [hE]; exact num_err n w hg

theorem BoxS.alloc {w : World} {B : Nat} {t : TypeId} {s : St} (h : BoxS w B t s) (o : Obj) : BoxS (w.alloc o) B t s := h.below ((Below.refl _ _).alloc (Nat.le_refl _) _)
theorem BoxS.drew {w : World} {B : Nat} {t : TypeId} {s : St} (h : BoxS w B t s) (k : Nat) : BoxS (w.drewN k) B t s := h
theorem BoxS.new (w : World) (s : St) (t : TypeId) : BoxS (w.alloc (.cells s.cells t)) w.heap.size t s := heap_alloc_new w _

set_option maxHeartbeats 2000000 in
theorem csrWrites_walk (st en ve sc ep ca va co : Nat) (g1 : st < 4294967296) (g2 : en < 4294967296) (g3 : ve < 4294967296) (g4 : sc < 4294967296) (g5 : ep < 4294967296) (g6 : ca < 4294967296) (g7 : va < 4294967296) (g8 : co < 18446744073709551616) (at_ : Int) (_l1 : -9223372036854775808 ≤ at_) (_l2 : at_ < 9223372036854775808) (v : Nat) (hv : v < 4294967296) (w : World) (hg : w.cell? ⟨1, 0, none⟩ = some errTy) :
    Calls Tryd.prog 9 #[.agg #[.int .u32 st, .int .u32 en, .int .u32 ve, .int .u32 sc, .int .u32 ep, .int .u32 ca, .int .u32 va, .int .u64 co], .int .i64 at_, .int .u32 v] w fun e w' => e = .returned (.bool true) ∧ Below w.heap.size w w' := by
  have hP := fun w => write_any ⟨st, en, ve, sc, ep, ca, va, co⟩ ⟨g1, g2, g3, g4, g5, g6, g7, g8⟩ at_ v hv w
  have hQ := fun w => rwrite_any ⟨st, en, ve, sc, ep, ca, va, co⟩ ⟨g1, g2, g3, g4, g5, g6, g7, g8⟩ at_ v hv w
  generalize writeV ⟨st, en, ve, sc, ep, ca, va, co⟩ at_ v = u at hP hQ
  obtain ⟨⟨u0, u1, u2, u3, u4, u5, u6, u7⟩, n⟩ := u
  unfold writeR St.v St.cells at hP
  unfold rwriteR St.v St.cells at hQ
  simp only at hP hQ
  have N : Hid (∀ w : World, w.cell? ⟨1, 0, none⟩ = some errTy → Calls Tryd.prog 28 #[errV n] w fun e w' => e = .returned (.int .i64 n) ∧ Below w.heap.size w w') := Lib.hid (fun w h => num_any n w h)
  have HG := Lib.hid hg
  have hlt : 1 < w.heap.size := block_lt_of_cell hg
  generalize errV n = ev at hP N
  have HP := Lib.hid hP
  have HQ := Lib.hid hQ
  clear hP hQ g1 g2 g3 g4 g5 g6 g7 g8 hv _l1 _l2 hg
  go_enter Tryd.func9, Tryd.ntmps9
  have B0 := Lib.hid (BoxS.new w ⟨st, en, ve, sc, ep, ca, va, co⟩ 52)
  go_wp2_with (first
    | (go_at_call 32; refine (HP.out _).mono ?_; rintro e w1 ⟨rfl, hb1⟩; have B1 := Lib.hid (B0.out.below hb1); have F1 := B1.out.facts; obtain ⟨f0, f1, f2, f3, f4, f5, f6, f7, _, f9⟩ := F1; have b1 := Lib.hid (((Below.refl _ w).alloc (Nat.le_refl _) _).trans (hb1.mono (by simp))); clear hb1)
    | (go_at_call 33; refine (HQ.out _).mono ?_; rintro e w2 ⟨rfl, hb2⟩; have B2 := Lib.hid ((BoxS.new w1 ⟨u0, u1, u2, u3, u4, u5, u6, u7⟩ 53).below hb2); have F2 := B2.out.facts; obtain ⟨q0, q1, q2, q3, q4, q5, q6, q7, _, q9⟩ := F2; have b2 := Lib.hid ((b1.out.alloc b1.out.size _).trans (hb2.mono (by have := b1.out.size; simp; omega))); clear hb2)
    | (go_at_call 28; refine (N.out _ (((b2.out.alloc b2.out.size _).cell (p := ⟨1, 0, none⟩) hlt).trans HG.out)).mono ?_; rintro e w3 ⟨rfl, hb3⟩; have b3 := Lib.hid ((b2.out.alloc b2.out.size _).trans (hb3.mono (by have := b2.out.size; simp; omega))); clear hb3)
    | (go_at_call 31; refine (sureC_any _).mono ?_; rintro e w4 ⟨rfl, hb4⟩))
  go_ret
  exact ⟨rfl, b3.out.trans (hb4.mono b3.out.size)⟩

end Go.Proofs.YtgbpalclapcfeaaDoor
