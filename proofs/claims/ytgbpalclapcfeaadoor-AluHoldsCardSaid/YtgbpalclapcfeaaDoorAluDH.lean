import Derived.Test.YtgbpalclapcfeaaDoorDoorK
import Derived.Test.YtgbpalclapcfeaaDoorAluDA
import Derived.Below
import Derived.Deep.Draws
import Derived.Deep.AppendLies
import Derived.Maps.AppendAt
import Derived.OwnWalk
import Derived.Laws.BytesArg
import Derived.Laws.MakeOwn
import Derived.Laws.OwnMore
import Derived.Deep.OwnRows
import Derived.Tactics
import Derived.Lib.ConvBytes
import Derived.Laws.Slices
import Derived.WalkKit
import Derived.KernelRfl
import Derived.RowKit3
import Derived.Deep.LoopGhost
import Derived.Deep.QuietTactic
import Derived.BigQuiet
import Derived.WideLaws
import Derived.Deep.DeepCutAuto
import Derived.Deep.CutBlock
import Derived.Deep.RegionHeld3
import Derived.Laws.Rows
import Derived.Lib.AppendStr
import Derived.ArgAppend
import Derived.Laws.IdiomCopy
import Derived.OrdersHeld
import Derived.Laws.BitsLemmas
import Derived.RowKit
import Derived.Lib.Hide
import Derived.Laws.BitsAllLaws
import Derived.WalkLawsBesides
import Derived.WalkSpells
import Derived.LaidEql
namespace Go.Proofs.YtgbpalclapcfeaaDoor
open Go.RowKit
set_option maxRecDepth 100000
set_option linter.unusedVariables false
set_option linter.unusedSimpArgs false

theorem num_nil (w : World) : Calls Tryd.prog 22 #[.nilIface] w fun e w' => e = .returned (.int .i64 0) ∧ Below w.heap.size w w' := by
  go_enter Tryd.func22, Tryd.ntmps22
  go_wp2
  go_ret
  exact ⟨rfl, (Below.refl _ _).alloc (Nat.le_refl _) _⟩
set_option maxHeartbeats 1000000 in
theorem num_err (n : Int) (w : World) (hg : w.cell? ⟨1, 0, none⟩ = some errTy) : Calls Tryd.prog 22 #[.iface 76 (.int .i64 n)] w fun e w' => e = .returned (.int .i64 n) ∧ Below w.heap.size w w' := by
  have hgA : (w.alloc (.cells #[.int .i64 0] 76)).cell? ⟨1, 0, none⟩ = some errTy := by
    rw [World.cell?_alloc_lt _ _ ⟨1, 0, none⟩ (block_lt_of_cell hg)]; exact hg
  have htA : (w.alloc (.cells #[.int .i64 0] 76)).cell? ⟨w.heap.size, 0, none⟩ = some (.int .i64 0) := by simp
  have hfA : (w.alloc (.cells #[.int .i64 0] 76)).frozen? ⟨w.heap.size, 0, none⟩ = false := by simp
  have A := Lib.hid (as_hit n ⟨w.heap.size, 0, none⟩ (.int .i64 0) _ hgA htA hfA)
  clear hgA htA hfA hg
  go_enter Tryd.func22, Tryd.ntmps22
  go_wp2_with (go_at_call 44; refine A.out.mono ?_; rintro e w' ⟨rfl, rfl⟩)
  go_ret
  refine ⟨rfl, ?_⟩
  repeat' (first | (with_reducible exact Below.refl _ _) | (with_reducible refine Below.setCell ?_ ?_ _) | (with_reducible refine Below.alloc ?_ ?_ _) | (simp; done) | (simp; omega))
/-- an error's number, whatever the error -/
theorem num_any (n : Int) (w : World) (hg : w.cell? ⟨1, 0, none⟩ = some errTy) : Calls Tryd.prog 22 #[errV n] w fun e w' => e = .returned (.int .i64 n) ∧ Below w.heap.size w w' := by
  by_cases h : n = 0
  · subst h; exact num_nil w
  · have hE : errV n = .iface 76 (.int .i64 n) := by unfold errV; rw [if_neg h]
    rw [hE]; exact num_err n w hg

/-- whether a condition holds -/
def holdsB (c : Int) (a b : Nat) : Bool :=
  if c = 0 then decide (a = b) else if c = 1 then !decide (a = b) else if c = 2 then decide (wrap32 (a : Int) < wrap32 (b : Int)) else if c = 3 then !decide (wrap32 (a : Int) < wrap32 (b : Int)) else if c = 4 then decide (a < b) else !decide (a < b)
theorem retB {x y : Bool} {e : Value} (h : x = y) : Ending.returned (.tuple #[.bool x, e]) = .returned (.tuple #[.bool y, e]) := by rw [h]
theorem pholds_0 (a b : Nat) (w : World) : Calls Tryd.prog 24 #[.int .i64 0, .int .u32 a, .int .u32 b] w fun e w' => e = .returned (.tuple #[.bool (holdsB 0 a b), errV 0]) ∧ w = w' := by
  go_enter Tryd.func24, Tryd.ntmps24
  go_wp2
  go_ret2
  exact ⟨retB (by rw [Bool.eq_iff_iff]; simp [holdsB]; try omega), rfl⟩
theorem rholds_0 (a b : Nat) (ha : a < 4294967296) (hb : b < 4294967296) (w : World) : Calls Tryd.prog 25 #[.int .i64 0, .int .u32 a, .int .u32 b] w fun e w' => e = .returned (.tuple #[.bool (holdsB 0 a b), .int .i64 0]) ∧ w = w' := by
  clear ha hb
  go_enter Tryd.func25, Tryd.ntmps25
  go_wp2
  go_ret2
  exact ⟨retB (by rw [Bool.eq_iff_iff]; simp [holdsB]; try omega), rfl⟩
theorem pholds_1 (a b : Nat) (w : World) : Calls Tryd.prog 24 #[.int .i64 1, .int .u32 a, .int .u32 b] w fun e w' => e = .returned (.tuple #[.bool (holdsB 1 a b), errV 0]) ∧ w = w' := by
  go_enter Tryd.func24, Tryd.ntmps24
  go_wp2
  go_ret2
  exact ⟨retB (by rw [Bool.eq_iff_iff]; simp [holdsB]; try omega), rfl⟩
theorem rholds_1 (a b : Nat) (ha : a < 4294967296) (hb : b < 4294967296) (w : World) : Calls Tryd.prog 25 #[.int .i64 1, .int .u32 a, .int .u32 b] w fun e w' => e = .returned (.tuple #[.bool (holdsB 1 a b), .int .i64 0]) ∧ w = w' := by
  clear ha hb
  go_enter Tryd.func25, Tryd.ntmps25
  go_wp2
  go_ret2
  exact ⟨retB (by rw [Bool.eq_iff_iff]; simp [holdsB]; try omega), rfl⟩
theorem pholds_2 (a b : Nat) (w : World) : Calls Tryd.prog 24 #[.int .i64 2, .int .u32 a, .int .u32 b] w fun e w' => e = .returned (.tuple #[.bool (holdsB 2 a b), errV 0]) ∧ w = w' := by
  go_enter Tryd.func24, Tryd.ntmps24
  go_wp2
  go_ret2
  exact ⟨retB (by rw [Bool.eq_iff_iff]; simp [holdsB]; try omega), rfl⟩
theorem rholds_2 (a b : Nat) (ha : a < 4294967296) (hb : b < 4294967296) (w : World) : Calls Tryd.prog 25 #[.int .i64 2, .int .u32 a, .int .u32 b] w fun e w' => e = .returned (.tuple #[.bool (holdsB 2 a b), .int .i64 0]) ∧ w = w' := by
  have SA : Hid (∀ (w : World), Calls Tryd.prog 53 #[.int .u32 a] w fun e w' => e = .returned (.int .i64 (wrap32 (a : Int))) ∧ w = w') := Lib.hid (fun w => by have h := signed_any a ha w; rw [← sgn_w32 a ha] at h; exact h)
  have SB : Hid (∀ (w : World), Calls Tryd.prog 53 #[.int .u32 b] w fun e w' => e = .returned (.int .i64 (wrap32 (b : Int))) ∧ w = w') := Lib.hid (fun w => by have h := signed_any b hb w; rw [← sgn_w32 b hb] at h; exact h)
  clear ha hb
  go_enter Tryd.func25, Tryd.ntmps25
  go_wp2_with (first | (go_at_call 53; (with_reducible refine (SA.out _).mono ?_); rintro e w' ⟨rfl, rfl⟩) | (go_at_call 53; (with_reducible refine (SB.out _).mono ?_); rintro e w' ⟨rfl, rfl⟩))
  go_ret2
  exact ⟨retB (by rw [Bool.eq_iff_iff]; simp [holdsB]; try omega), rfl⟩
theorem pholds_3 (a b : Nat) (w : World) : Calls Tryd.prog 24 #[.int .i64 3, .int .u32 a, .int .u32 b] w fun e w' => e = .returned (.tuple #[.bool (holdsB 3 a b), errV 0]) ∧ w = w' := by
  go_enter Tryd.func24, Tryd.ntmps24
  go_wp2
  go_ret2
  exact ⟨retB (by rw [Bool.eq_iff_iff]; simp [holdsB]; try omega), rfl⟩
theorem rholds_3 (a b : Nat) (ha : a < 4294967296) (hb : b < 4294967296) (w : World) : Calls Tryd.prog 25 #[.int .i64 3, .int .u32 a, .int .u32 b] w fun e w' => e = .returned (.tuple #[.bool (holdsB 3 a b), .int .i64 0]) ∧ w = w' := by
  have SA : Hid (∀ (w : World), Calls Tryd.prog 53 #[.int .u32 a] w fun e w' => e = .returned (.int .i64 (wrap32 (a : Int))) ∧ w = w') := Lib.hid (fun w => by have h := signed_any a ha w; rw [← sgn_w32 a ha] at h; exact h)
  have SB : Hid (∀ (w : World), Calls Tryd.prog 53 #[.int .u32 b] w fun e w' => e = .returned (.int .i64 (wrap32 (b : Int))) ∧ w = w') := Lib.hid (fun w => by have h := signed_any b hb w; rw [← sgn_w32 b hb] at h; exact h)
  clear ha hb
  go_enter Tryd.func25, Tryd.ntmps25
  go_wp2_with (first | (go_at_call 53; (with_reducible refine (SA.out _).mono ?_); rintro e w' ⟨rfl, rfl⟩) | (go_at_call 53; (with_reducible refine (SB.out _).mono ?_); rintro e w' ⟨rfl, rfl⟩))
  go_ret2
  exact ⟨retB (by rw [Bool.eq_iff_iff]; simp [holdsB]; try omega), rfl⟩
theorem pholds_4 (a b : Nat) (w : World) : Calls Tryd.prog 24 #[.int .i64 4, .int .u32 a, .int .u32 b] w fun e w' => e = .returned (.tuple #[.bool (holdsB 4 a b), errV 0]) ∧ w = w' := by
  go_enter Tryd.func24, Tryd.ntmps24
  go_wp2
  go_ret2
  exact ⟨retB (by rw [Bool.eq_iff_iff]; simp [holdsB]; try omega), rfl⟩
theorem rholds_4 (a b : Nat) (ha : a < 4294967296) (hb : b < 4294967296) (w : World) : Calls Tryd.prog 25 #[.int .i64 4, .int .u32 a, .int .u32 b] w fun e w' => e = .returned (.tuple #[.bool (holdsB 4 a b), .int .i64 0]) ∧ w = w' := by
  clear ha hb
  go_enter Tryd.func25, Tryd.ntmps25
  go_wp2
  go_ret2
  exact ⟨retB (by rw [Bool.eq_iff_iff]; simp [holdsB]; try omega), rfl⟩
theorem pholds_5 (a b : Nat) (w : World) : Calls Tryd.prog 24 #[.int .i64 5, .int .u32 a, .int .u32 b] w fun e w' => e = .returned (.tuple #[.bool (holdsB 5 a b), errV 0]) ∧ w = w' := by
  go_enter Tryd.func24, Tryd.ntmps24
  go_wp2
  go_ret2
  exact ⟨retB (by rw [Bool.eq_iff_iff]; simp [holdsB]; try omega), rfl⟩
theorem rholds_5 (a b : Nat) (ha : a < 4294967296) (hb : b < 4294967296) (w : World) : Calls Tryd.prog 25 #[.int .i64 5, .int .u32 a, .int .u32 b] w fun e w' => e = .returned (.tuple #[.bool (holdsB 5 a b), .int .i64 0]) ∧ w = w' := by
  clear ha hb
  go_enter Tryd.func25, Tryd.ntmps25
  go_wp2
  go_ret2
  exact ⟨retB (by rw [Bool.eq_iff_iff]; simp [holdsB]; try omega), rfl⟩
theorem pholds_no (c : Int) (h : c < 0 ∨ 6 ≤ c) (a b : Nat) (w : World) : Calls Tryd.prog 24 #[.int .i64 c, .int .u32 a, .int .u32 b] w fun e w' => e = .returned (.tuple #[.bool false, errV 1]) ∧ w = w' := by
  have hE : errV 1 = .iface 76 (.int .i64 1) := rfl
  rw [hE]
  clear hE
  by_cases h1 : c < 0
  · clear h
    go_enter Tryd.func24, Tryd.ntmps24
    go_wp2
    go_ret2
    exact ⟨rfl, rfl⟩
  · have h2 : 6 ≤ c := by omega
    clear h
    go_enter Tryd.func24, Tryd.ntmps24
    go_wp2
    go_ret2
    exact ⟨rfl, rfl⟩
theorem rholds_no (c : Int) (h : c < 0 ∨ 6 ≤ c) (a b : Nat) (w : World) : Calls Tryd.prog 25 #[.int .i64 c, .int .u32 a, .int .u32 b] w fun e w' => e = .returned (.tuple #[.bool false, .int .i64 1]) ∧ w = w' := by
  have n0 : (c == 0) = false := by rw [Bool.eq_false_iff]; simp; omega
  have n1 : (c == 1) = false := by rw [Bool.eq_false_iff]; simp; omega
  have n2 : (c == 2) = false := by rw [Bool.eq_false_iff]; simp; omega
  have n3 : (c == 3) = false := by rw [Bool.eq_false_iff]; simp; omega
  have n4 : (c == 4) = false := by rw [Bool.eq_false_iff]; simp; omega
  have n5 : (c == 5) = false := by rw [Bool.eq_false_iff]; simp; omega
  clear h
  go_enter Tryd.func25, Tryd.ntmps25
  go_wp2
  go_ret2
  exact ⟨rfl, rfl⟩

theorem holds_both (c : Int) (a b : Nat) (ha : a < 4294967296) (hb : b < 4294967296) : ∃ (r : Bool) (n : Int), (∀ w : World, Calls Tryd.prog 24 #[.int .i64 c, .int .u32 a, .int .u32 b] w fun e w' => e = .returned (.tuple #[.bool r, errV n]) ∧ w = w') ∧
    (∀ w : World, Calls Tryd.prog 25 #[.int .i64 c, .int .u32 a, .int .u32 b] w fun e w' => e = .returned (.tuple #[.bool r, .int .i64 n]) ∧ w = w') := by
  by_cases h : c < 0 ∨ 6 ≤ c
  · exact ⟨false, 1, fun w => pholds_no c h a b w, fun w => rholds_no c h a b w⟩
  · have h6 : c = 0 ∨ c = 1 ∨ c = 2 ∨ c = 3 ∨ c = 4 ∨ c = 5 := by omega
    rcases h6 with rfl | rfl | rfl | rfl | rfl | rfl
    · exact ⟨holdsB 0 a b, 0, fun w => pholds_0 a b w, fun w => rholds_0 a b ha hb w⟩
    · exact ⟨holdsB 1 a b, 0, fun w => pholds_1 a b w, fun w => rholds_1 a b ha hb w⟩
    · exact ⟨holdsB 2 a b, 0, fun w => pholds_2 a b w, fun w => rholds_2 a b ha hb w⟩
    · exact ⟨holdsB 3 a b, 0, fun w => pholds_3 a b w, fun w => rholds_3 a b ha hb w⟩
    · exact ⟨holdsB 4 a b, 0, fun w => pholds_4 a b w, fun w => rholds_4 a b ha hb w⟩
    · exact ⟨holdsB 5 a b, 0, fun w => pholds_5 a b w, fun w => rholds_5 a b ha hb w⟩
theorem aluHolds_walk (c : Int) (_l1 : -9223372036854775808 ≤ c) (_l2 : c < 9223372036854775808) (a : Nat) (ha : a < 4294967296) (b : Nat) (hb : b < 4294967296) (w : World) (hg : w.cell? ⟨1, 0, none⟩ = some errTy) :
    Calls Tryd.prog 7 #[.int .i64 c, .int .u32 a, .int .u32 b] w fun e w' => e = .returned (.bool true) ∧ Below w.heap.size w w' := by
  obtain ⟨r, n, hP, hR⟩ := holds_both c a b ha hb
  have P := Lib.hid hP
  have R := Lib.hid hR
  have N := Lib.hid (num_any n w hg)
  clear hP hR hg _l1 _l2
  generalize errV n = e at P N
  go_enter Tryd.func7, Tryd.ntmps7
  go_wp2_with (first | (go_at_call 24; refine (P.out _).mono ?_; rintro e w' ⟨rfl, rfl⟩) | (go_at_call 25; refine (R.out _).mono ?_; rintro e w' ⟨rfl, rfl⟩) | (go_at_call 22; refine N.out.mono ?_; rintro e w1 ⟨rfl, hb1⟩) | (go_at_call 23; refine (sureA_any _).mono ?_; rintro e w2 ⟨rfl, k2, rfl⟩))
  go_ret
  exact ⟨rfl, below_drewN hb1 _⟩

end Go.Proofs.YtgbpalclapcfeaaDoor
