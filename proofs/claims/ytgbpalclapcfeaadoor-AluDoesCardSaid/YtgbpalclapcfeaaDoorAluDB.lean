import Derived.Test.YtgbpalclapcfeaaDoorDoorK
import Derived.Test.YtgbpalclapcfeaaDoorAluDA
import Derived.Test.YtgbpalclapcfeaaDoorWordDA
import Derived.Below
import Derived.Deep.Draws
import Derived.Deep.AppendLies
import Derived.Maps.AppendAt
import Derived.OwnWalk
import Derived.Laws.BytesArg
import Derived.Laws.MakeOwn
import Derived.Laws.OwnMore
import Derived.Deep.OwnRows
import Derived.Tactics
import Derived.Lib.ConvBytes
import Derived.Laws.Slices
import Derived.WalkKit
import Derived.KernelRfl
import Derived.RowKit3
import Derived.Deep.LoopGhost
import Derived.Deep.QuietTactic
import Derived.BigQuiet
import Derived.WideLaws
import Derived.Deep.DeepCutAuto
import Derived.Deep.CutBlock
import Derived.Deep.RegionHeld3
import Derived.Laws.Rows
import Derived.Lib.AppendStr
import Derived.ArgAppend
import Derived.Laws.IdiomCopy
import Derived.OrdersHeld
import Derived.Laws.BitsLemmas
import Derived.RowKit
import Derived.Lib.Hide
import Derived.Laws.BitsAllLaws
import Derived.WalkLawsBesides
import Derived.WalkSpells
import Derived.LaidEql
namespace Go.Proofs.YtgbpalclapcfeaaDoor
open Go.RowKit
set_option maxRecDepth 100000
set_option linter.unusedVariables false
set_option linter.unusedSimpArgs false

/-- one of what holds -/
def oneI (b : Bool) : Int := if b = true then 1 else 0
theorem one_any (b : Bool) (w : World) : Calls Tryd.prog 68 #[.bool b] w fun e w' => e = .returned (.int .u32 (oneI b)) ∧ w = w' := by
  cases b
  all_goals
    go_enter Tryd.func68, Tryd.ntmps68
    go_wp2
    go_ret
    exact ⟨rfl, rfl⟩
theorem truth_any (b : Bool) (w : World) : Calls Tryd.prog 52 #[.bool b] w fun e w' => e = .returned (.int .u32 (oneI b)) ∧ w = w' := by
  cases b
  all_goals
    go_enter Tryd.func52, Tryd.ntmps52
    go_wp2
    go_ret
    exact ⟨rfl, rfl⟩
theorem and31 {b : Nat} (hb : b < 4294967296) : Go.bits .and .u32 (b : Int) 31 = ((b % 32 : Nat) : Int) := by
  have h := Go.u32_and_nat b 31 hb (by omega)
  rw [show (31 : Nat) = 2 ^ 5 - 1 from rfl, Nat.and_two_pow_sub_one_eq_mod] at h
  exact h
theorem plain_0 (a b : Nat) (ha : a < 4294967296) (hb : b < 4294967296) (w : World) : Calls Tryd.prog 46 #[.int .i64 0, .int .u32 a, .int .u32 b] w fun e w' => e = .returned (.int .u32 (((a : Int) + b) % 4294967296)) ∧ w = w' := by
  go_enter Tryd.func46, Tryd.ntmps46
  go_wp2
  go_ret
  exact ⟨ret1 (by first | rfl | omega), rfl⟩
theorem plain_1 (a b : Nat) (ha : a < 4294967296) (hb : b < 4294967296) (w : World) : Calls Tryd.prog 46 #[.int .i64 1, .int .u32 a, .int .u32 b] w fun e w' => e = .returned (.int .u32 (((a : Int) - b) % 4294967296)) ∧ w = w' := by
  go_enter Tryd.func46, Tryd.ntmps46
  go_wp2
  go_ret
  exact ⟨ret1 (by first | rfl | omega), rfl⟩
theorem plain_2 (a b : Nat) (ha : a < 4294967296) (hb : b < 4294967296) (w : World) : Calls Tryd.prog 46 #[.int .i64 2, .int .u32 a, .int .u32 b] w fun e w' => e = .returned (.int .u32 ((a : Int) * 2 ^ (b % 32) % 4294967296)) ∧ w = w' := by
  obtain ⟨m, hm⟩ : ∃ m : Nat, m = b % 32 := ⟨_, rfl⟩
  have e1 : Go.bits .and .u32 (b : Int) 31 = (m : Int) := by rw [and31 hb, hm]
  have hm2 : m < 32 := by omega
  rw [← hm]
  clear hm
  go_enter Tryd.func46, Tryd.ntmps46
  go_wp2
  go_ret
  exact ⟨ret1 (by first | rfl | (simp; try omega)), rfl⟩
theorem plain_3 (a b : Nat) (ha : a < 4294967296) (hb : b < 4294967296) (w : World) : Calls Tryd.prog 46 #[.int .i64 3, .int .u32 a, .int .u32 b] w fun e w' => e = .returned (.int .u32 (oneI (decide (wrap32 (a : Int) < wrap32 (b : Int))))) ∧ w = w' := by
  go_enter Tryd.func46, Tryd.ntmps46
  go_wp2_with (go_at_call 68; refine (one_any _ _).mono ?_; rintro e w' ⟨rfl, rfl⟩)
  go_ret
  exact ⟨ret1 (by first | rfl | simp), rfl⟩
theorem plain_4 (a b : Nat) (ha : a < 4294967296) (hb : b < 4294967296) (w : World) : Calls Tryd.prog 46 #[.int .i64 4, .int .u32 a, .int .u32 b] w fun e w' => e = .returned (.int .u32 (oneI (decide ((a : Int) < b)))) ∧ w = w' := by
  go_enter Tryd.func46, Tryd.ntmps46
  go_wp2_with (go_at_call 68; refine (one_any _ _).mono ?_; rintro e w' ⟨rfl, rfl⟩)
  go_ret
  exact ⟨ret1 (by first | rfl | simp), rfl⟩
theorem plain_5 (a b : Nat) (ha : a < 4294967296) (hb : b < 4294967296) (w : World) : Calls Tryd.prog 46 #[.int .i64 5, .int .u32 a, .int .u32 b] w fun e w' => e = .returned (.int .u32 (((a ^^^ b : Nat) : Int))) ∧ w = w' := by
  have e1 := Go.u32_xor_nat a b ha hb
  go_enter Tryd.func46, Tryd.ntmps46
  go_wp2
  go_ret
  exact ⟨ret1 (by first | rfl | omega), rfl⟩
theorem plain_6 (a b : Nat) (ha : a < 4294967296) (hb : b < 4294967296) (w : World) : Calls Tryd.prog 46 #[.int .i64 6, .int .u32 a, .int .u32 b] w fun e w' => e = .returned (.int .u32 ((a : Int) / 2 ^ (b % 32))) ∧ w = w' := by
  obtain ⟨m, hm⟩ : ∃ m : Nat, m = b % 32 := ⟨_, rfl⟩
  have e1 : Go.bits .and .u32 (b : Int) 31 = (m : Int) := by rw [and31 hb, hm]
  have hm2 : m < 32 := by omega
  rw [← hm]
  clear hm
  go_enter Tryd.func46, Tryd.ntmps46
  go_wp2
  go_ret
  exact ⟨ret1 (by first | rfl | (simp; try omega)), rfl⟩
theorem plain_7 (a b : Nat) (ha : a < 4294967296) (hb : b < 4294967296) (w : World) : Calls Tryd.prog 46 #[.int .i64 7, .int .u32 a, .int .u32 b] w fun e w' => e = .returned (.int .u32 (wrap32 (a : Int) / 2 ^ (b % 32) % 4294967296)) ∧ w = w' := by
  obtain ⟨m, hm⟩ : ∃ m : Nat, m = b % 32 := ⟨_, rfl⟩
  have e1 : Go.bits .and .u32 (b : Int) 31 = (m : Int) := by rw [and31 hb, hm]
  have hm2 : m < 32 := by omega
  rw [← hm]
  clear hm
  go_enter Tryd.func46, Tryd.ntmps46
  go_wp2
  go_ret
  exact ⟨ret1 (by first | rfl | (simp; try omega)), rfl⟩
theorem plain_8 (a b : Nat) (ha : a < 4294967296) (hb : b < 4294967296) (w : World) : Calls Tryd.prog 46 #[.int .i64 8, .int .u32 a, .int .u32 b] w fun e w' => e = .returned (.int .u32 (((a ||| b : Nat) : Int))) ∧ w = w' := by
  have e1 := Go.u32_or_nat a b ha hb
  go_enter Tryd.func46, Tryd.ntmps46
  go_wp2
  go_ret
  exact ⟨ret1 (by first | rfl | omega), rfl⟩
theorem plain_9 (a b : Nat) (ha : a < 4294967296) (hb : b < 4294967296) (w : World) : Calls Tryd.prog 46 #[.int .i64 9, .int .u32 a, .int .u32 b] w fun e w' => e = .returned (.int .u32 (((a &&& b : Nat) : Int))) ∧ w = w' := by
  have e1 := Go.u32_and_nat a b ha hb
  go_enter Tryd.func46, Tryd.ntmps46
  go_wp2
  go_ret
  exact ⟨ret1 (by first | rfl | omega), rfl⟩
theorem pdo_0 (a b : Nat) (ha : a < 4294967296) (hb : b < 4294967296) (w : World) : Calls Tryd.prog 20 #[.int .i64 0, .int .u32 a, .int .u32 b] w fun e w' => e = .returned (.tuple #[.int .u32 (((a : Int) + b) % 4294967296), .nilIface]) ∧ Below w.heap.size w w' := by
  have P := Lib.hid (fun w => plain_0 a b ha hb w)
  obtain ⟨x, hx⟩ : ∃ x : Int, x = ((a : Int) + b) % 4294967296 := ⟨_, rfl⟩
  rw [← hx] at P ⊢
  clear hx ha hb
  go_enter Tryd.func20, Tryd.ntmps20
  go_wp2_with (go_at_call 46; refine (P.out _).mono ?_; rintro e w' ⟨rfl, rfl⟩)
  go_ret2
  exact ⟨rfl, Below.refl _ _⟩
theorem pdo_1 (a b : Nat) (ha : a < 4294967296) (hb : b < 4294967296) (w : World) : Calls Tryd.prog 20 #[.int .i64 1, .int .u32 a, .int .u32 b] w fun e w' => e = .returned (.tuple #[.int .u32 (((a : Int) - b) % 4294967296), .nilIface]) ∧ Below w.heap.size w w' := by
  have P := Lib.hid (fun w => plain_1 a b ha hb w)
  obtain ⟨x, hx⟩ : ∃ x : Int, x = ((a : Int) - b) % 4294967296 := ⟨_, rfl⟩
  rw [← hx] at P ⊢
  clear hx ha hb
  go_enter Tryd.func20, Tryd.ntmps20
  go_wp2_with (go_at_call 46; refine (P.out _).mono ?_; rintro e w' ⟨rfl, rfl⟩)
  go_ret2
  exact ⟨rfl, Below.refl _ _⟩
theorem pdo_2 (a b : Nat) (ha : a < 4294967296) (hb : b < 4294967296) (w : World) : Calls Tryd.prog 20 #[.int .i64 2, .int .u32 a, .int .u32 b] w fun e w' => e = .returned (.tuple #[.int .u32 ((a : Int) * 2 ^ (b % 32) % 4294967296), .nilIface]) ∧ Below w.heap.size w w' := by
  have P := Lib.hid (fun w => plain_2 a b ha hb w)
  obtain ⟨x, hx⟩ : ∃ x : Int, x = (a : Int) * 2 ^ (b % 32) % 4294967296 := ⟨_, rfl⟩
  rw [← hx] at P ⊢
  clear hx ha hb
  go_enter Tryd.func20, Tryd.ntmps20
  go_wp2_with (go_at_call 46; refine (P.out _).mono ?_; rintro e w' ⟨rfl, rfl⟩)
  go_ret2
  exact ⟨rfl, Below.refl _ _⟩
theorem pdo_3 (a b : Nat) (ha : a < 4294967296) (hb : b < 4294967296) (w : World) : Calls Tryd.prog 20 #[.int .i64 3, .int .u32 a, .int .u32 b] w fun e w' => e = .returned (.tuple #[.int .u32 (oneI (decide (wrap32 (a : Int) < wrap32 (b : Int)))), .nilIface]) ∧ Below w.heap.size w w' := by
  have P := Lib.hid (fun w => plain_3 a b ha hb w)
  obtain ⟨x, hx⟩ : ∃ x : Int, x = oneI (decide (wrap32 (a : Int) < wrap32 (b : Int))) := ⟨_, rfl⟩
  rw [← hx] at P ⊢
  clear hx ha hb
  go_enter Tryd.func20, Tryd.ntmps20
  go_wp2_with (go_at_call 46; refine (P.out _).mono ?_; rintro e w' ⟨rfl, rfl⟩)
  go_ret2
  exact ⟨rfl, Below.refl _ _⟩
theorem pdo_4 (a b : Nat) (ha : a < 4294967296) (hb : b < 4294967296) (w : World) : Calls Tryd.prog 20 #[.int .i64 4, .int .u32 a, .int .u32 b] w fun e w' => e = .returned (.tuple #[.int .u32 (oneI (decide ((a : Int) < b))), .nilIface]) ∧ Below w.heap.size w w' := by
  have P := Lib.hid (fun w => plain_4 a b ha hb w)
  obtain ⟨x, hx⟩ : ∃ x : Int, x = oneI (decide ((a : Int) < b)) := ⟨_, rfl⟩
  rw [← hx] at P ⊢
  clear hx ha hb
  go_enter Tryd.func20, Tryd.ntmps20
  go_wp2_with (go_at_call 46; refine (P.out _).mono ?_; rintro e w' ⟨rfl, rfl⟩)
  go_ret2
  exact ⟨rfl, Below.refl _ _⟩
theorem pdo_5 (a b : Nat) (ha : a < 4294967296) (hb : b < 4294967296) (w : World) : Calls Tryd.prog 20 #[.int .i64 5, .int .u32 a, .int .u32 b] w fun e w' => e = .returned (.tuple #[.int .u32 (((a ^^^ b : Nat) : Int)), .nilIface]) ∧ Below w.heap.size w w' := by
  have P := Lib.hid (fun w => plain_5 a b ha hb w)
  obtain ⟨x, hx⟩ : ∃ x : Int, x = ((a ^^^ b : Nat) : Int) := ⟨_, rfl⟩
  rw [← hx] at P ⊢
  clear hx ha hb
  go_enter Tryd.func20, Tryd.ntmps20
  go_wp2_with (go_at_call 46; refine (P.out _).mono ?_; rintro e w' ⟨rfl, rfl⟩)
  go_ret2
  exact ⟨rfl, Below.refl _ _⟩
theorem pdo_6 (a b : Nat) (ha : a < 4294967296) (hb : b < 4294967296) (w : World) : Calls Tryd.prog 20 #[.int .i64 6, .int .u32 a, .int .u32 b] w fun e w' => e = .returned (.tuple #[.int .u32 ((a : Int) / 2 ^ (b % 32)), .nilIface]) ∧ Below w.heap.size w w' := by
  have P := Lib.hid (fun w => plain_6 a b ha hb w)
  obtain ⟨x, hx⟩ : ∃ x : Int, x = (a : Int) / 2 ^ (b % 32) := ⟨_, rfl⟩
  rw [← hx] at P ⊢
  clear hx ha hb
  go_enter Tryd.func20, Tryd.ntmps20
  go_wp2_with (go_at_call 46; refine (P.out _).mono ?_; rintro e w' ⟨rfl, rfl⟩)
  go_ret2
  exact ⟨rfl, Below.refl _ _⟩
theorem pdo_7 (a b : Nat) (ha : a < 4294967296) (hb : b < 4294967296) (w : World) : Calls Tryd.prog 20 #[.int .i64 7, .int .u32 a, .int .u32 b] w fun e w' => e = .returned (.tuple #[.int .u32 (wrap32 (a : Int) / 2 ^ (b % 32) % 4294967296), .nilIface]) ∧ Below w.heap.size w w' := by
  have P := Lib.hid (fun w => plain_7 a b ha hb w)
  obtain ⟨x, hx⟩ : ∃ x : Int, x = wrap32 (a : Int) / 2 ^ (b % 32) % 4294967296 := ⟨_, rfl⟩
  rw [← hx] at P ⊢
  clear hx ha hb
  go_enter Tryd.func20, Tryd.ntmps20
  go_wp2_with (go_at_call 46; refine (P.out _).mono ?_; rintro e w' ⟨rfl, rfl⟩)
  go_ret2
  exact ⟨rfl, Below.refl _ _⟩
theorem pdo_8 (a b : Nat) (ha : a < 4294967296) (hb : b < 4294967296) (w : World) : Calls Tryd.prog 20 #[.int .i64 8, .int .u32 a, .int .u32 b] w fun e w' => e = .returned (.tuple #[.int .u32 (((a ||| b : Nat) : Int)), .nilIface]) ∧ Below w.heap.size w w' := by
  have P := Lib.hid (fun w => plain_8 a b ha hb w)
  obtain ⟨x, hx⟩ : ∃ x : Int, x = ((a ||| b : Nat) : Int) := ⟨_, rfl⟩
  rw [← hx] at P ⊢
  clear hx ha hb
  go_enter Tryd.func20, Tryd.ntmps20
  go_wp2_with (go_at_call 46; refine (P.out _).mono ?_; rintro e w' ⟨rfl, rfl⟩)
  go_ret2
  exact ⟨rfl, Below.refl _ _⟩
theorem pdo_9 (a b : Nat) (ha : a < 4294967296) (hb : b < 4294967296) (w : World) : Calls Tryd.prog 20 #[.int .i64 9, .int .u32 a, .int .u32 b] w fun e w' => e = .returned (.tuple #[.int .u32 (((a &&& b : Nat) : Int)), .nilIface]) ∧ Below w.heap.size w w' := by
  have P := Lib.hid (fun w => plain_9 a b ha hb w)
  obtain ⟨x, hx⟩ : ∃ x : Int, x = ((a &&& b : Nat) : Int) := ⟨_, rfl⟩
  rw [← hx] at P ⊢
  clear hx ha hb
  go_enter Tryd.func20, Tryd.ntmps20
  go_wp2_with (go_at_call 46; refine (P.out _).mono ?_; rintro e w' ⟨rfl, rfl⟩)
  go_ret2
  exact ⟨rfl, Below.refl _ _⟩
theorem pdo_10 (a b : Nat) (ha : a < 4294967296) (hb : b < 4294967296) (w : World) : Calls Tryd.prog 20 #[.int .i64 10, .int .u32 a, .int .u32 b] w fun e w' => e = .returned (.tuple #[.int .u32 (wideL a b), .nilIface]) ∧ Below w.heap.size w w' := by
  have Wd := Lib.hid (fun x y w => wide_any a b ha hb x y w)
  have Pt := Lib.hid (fun x w => parts_any a b ha hb x w)
  clear ha hb
  go_enter Tryd.func20, Tryd.ntmps20
  go_wp2_with (first | (go_at_call 47; refine (Wd.out _ _ _).mono ?_; rintro e w' ⟨rfl, rfl⟩) | (go_at_call 48; refine (Pt.out _ _).mono ?_; rintro e w' ⟨rfl, k, rfl⟩))
  go_ret2
  exact ⟨rfl, below_drewN (Below.refl _ _) _⟩
theorem pdo_11 (a b : Nat) (ha : a < 4294967296) (hb : b < 4294967296) (w : World) : Calls Tryd.prog 20 #[.int .i64 11, .int .u32 a, .int .u32 b] w fun e w' => e = .returned (.tuple #[.int .u32 (wideH a b true true), .nilIface]) ∧ Below w.heap.size w w' := by
  have Wd := Lib.hid (fun x y w => wide_any a b ha hb x y w)
  have Pt := Lib.hid (fun x w => parts_any a b ha hb x w)
  clear ha hb
  go_enter Tryd.func20, Tryd.ntmps20
  go_wp2_with (first | (go_at_call 47; refine (Wd.out _ _ _).mono ?_; rintro e w' ⟨rfl, rfl⟩) | (go_at_call 48; refine (Pt.out _ _).mono ?_; rintro e w' ⟨rfl, k, rfl⟩))
  go_ret2
  exact ⟨rfl, below_drewN (Below.refl _ _) _⟩
theorem pdo_12 (a b : Nat) (ha : a < 4294967296) (hb : b < 4294967296) (w : World) : Calls Tryd.prog 20 #[.int .i64 12, .int .u32 a, .int .u32 b] w fun e w' => e = .returned (.tuple #[.int .u32 (wideH a b true false), .nilIface]) ∧ Below w.heap.size w w' := by
  have Wd := Lib.hid (fun x y w => wide_any a b ha hb x y w)
  have Pt := Lib.hid (fun x w => parts_any a b ha hb x w)
  clear ha hb
  go_enter Tryd.func20, Tryd.ntmps20
  go_wp2_with (first | (go_at_call 47; refine (Wd.out _ _ _).mono ?_; rintro e w' ⟨rfl, rfl⟩) | (go_at_call 48; refine (Pt.out _ _).mono ?_; rintro e w' ⟨rfl, k, rfl⟩))
  go_ret2
  exact ⟨rfl, below_drewN (Below.refl _ _) _⟩
theorem pdo_13 (a b : Nat) (ha : a < 4294967296) (hb : b < 4294967296) (w : World) : Calls Tryd.prog 20 #[.int .i64 13, .int .u32 a, .int .u32 b] w fun e w' => e = .returned (.tuple #[.int .u32 (wideH a b false false), .nilIface]) ∧ Below w.heap.size w w' := by
  have Wd := Lib.hid (fun x y w => wide_any a b ha hb x y w)
  have Pt := Lib.hid (fun x w => parts_any a b ha hb x w)
  clear ha hb
  go_enter Tryd.func20, Tryd.ntmps20
  go_wp2_with (first | (go_at_call 47; refine (Wd.out _ _ _).mono ?_; rintro e w' ⟨rfl, rfl⟩) | (go_at_call 48; refine (Pt.out _ _).mono ?_; rintro e w' ⟨rfl, k, rfl⟩))
  go_ret2
  exact ⟨rfl, below_drewN (Below.refl _ _) _⟩
theorem pdo_14 (a b : Nat) (ha : a < 4294967296) (hb : b < 4294967296) (w : World) : Calls Tryd.prog 20 #[.int .i64 14, .int .u32 a, .int .u32 b] w fun e w' => e = .returned (.tuple #[.int .u32 (partsQ a b true), .nilIface]) ∧ Below w.heap.size w w' := by
  have Wd := Lib.hid (fun x y w => wide_any a b ha hb x y w)
  have Pt := Lib.hid (fun x w => parts_any a b ha hb x w)
  clear ha hb
  go_enter Tryd.func20, Tryd.ntmps20
  go_wp2_with (first | (go_at_call 47; refine (Wd.out _ _ _).mono ?_; rintro e w' ⟨rfl, rfl⟩) | (go_at_call 48; refine (Pt.out _ _).mono ?_; rintro e w' ⟨rfl, k, rfl⟩))
  go_ret2
  exact ⟨rfl, below_drewN (Below.refl _ _) _⟩
theorem pdo_15 (a b : Nat) (ha : a < 4294967296) (hb : b < 4294967296) (w : World) : Calls Tryd.prog 20 #[.int .i64 15, .int .u32 a, .int .u32 b] w fun e w' => e = .returned (.tuple #[.int .u32 (partsQ a b false), .nilIface]) ∧ Below w.heap.size w w' := by
  have Wd := Lib.hid (fun x y w => wide_any a b ha hb x y w)
  have Pt := Lib.hid (fun x w => parts_any a b ha hb x w)
  clear ha hb
  go_enter Tryd.func20, Tryd.ntmps20
  go_wp2_with (first | (go_at_call 47; refine (Wd.out _ _ _).mono ?_; rintro e w' ⟨rfl, rfl⟩) | (go_at_call 48; refine (Pt.out _ _).mono ?_; rintro e w' ⟨rfl, k, rfl⟩))
  go_ret2
  exact ⟨rfl, below_drewN (Below.refl _ _) _⟩
theorem pdo_16 (a b : Nat) (ha : a < 4294967296) (hb : b < 4294967296) (w : World) : Calls Tryd.prog 20 #[.int .i64 16, .int .u32 a, .int .u32 b] w fun e w' => e = .returned (.tuple #[.int .u32 (partsR a b true), .nilIface]) ∧ Below w.heap.size w w' := by
  have Wd := Lib.hid (fun x y w => wide_any a b ha hb x y w)
  have Pt := Lib.hid (fun x w => parts_any a b ha hb x w)
  clear ha hb
  go_enter Tryd.func20, Tryd.ntmps20
  go_wp2_with (first | (go_at_call 47; refine (Wd.out _ _ _).mono ?_; rintro e w' ⟨rfl, rfl⟩) | (go_at_call 48; refine (Pt.out _ _).mono ?_; rintro e w' ⟨rfl, k, rfl⟩))
  go_ret2
  exact ⟨rfl, below_drewN (Below.refl _ _) _⟩
theorem pdo_17 (a b : Nat) (ha : a < 4294967296) (hb : b < 4294967296) (w : World) : Calls Tryd.prog 20 #[.int .i64 17, .int .u32 a, .int .u32 b] w fun e w' => e = .returned (.tuple #[.int .u32 (partsR a b false), .nilIface]) ∧ Below w.heap.size w w' := by
  have Wd := Lib.hid (fun x y w => wide_any a b ha hb x y w)
  have Pt := Lib.hid (fun x w => parts_any a b ha hb x w)
  clear ha hb
  go_enter Tryd.func20, Tryd.ntmps20
  go_wp2_with (first | (go_at_call 47; refine (Wd.out _ _ _).mono ?_; rintro e w' ⟨rfl, rfl⟩) | (go_at_call 48; refine (Pt.out _ _).mono ?_; rintro e w' ⟨rfl, k, rfl⟩))
  go_ret2
  exact ⟨rfl, below_drewN (Below.refl _ _) _⟩
theorem pdo_no (c : Int) (h : c < 0 ∨ 18 ≤ c) (a b : Nat) (w : World) : Calls Tryd.prog 20 #[.int .i64 c, .int .u32 a, .int .u32 b] w fun e w' => e = .returned (.tuple #[.int .u32 0, errV 1]) ∧ Below w.heap.size w w' := by
  have hE : errV 1 = .iface 76 (.int .i64 1) := rfl
  rw [hE]
  clear hE
  by_cases h1 : c < 0
  · clear h
    go_enter Tryd.func20, Tryd.ntmps20
    go_wp2
    go_ret2
    exact ⟨rfl, Below.refl _ _⟩
  · have h2 : 18 ≤ c := by omega
    clear h
    go_enter Tryd.func20, Tryd.ntmps20
    go_wp2
    go_ret2
    exact ⟨rfl, Below.refl _ _⟩

/-- two words, bit by bit -/
def gateB (op : Int) (x y : Bool) : Bool := if op = 5 then (x != y) else if op = 8 then (x || y) else (x && y)
def gateN (op : Int) (a b k : Nat) : Nat := fromN (fun j => gateB op (a.testBit j) (b.testBit j)) k
theorem gateN_succ (op : Int) (a b k : Nat) : gateN op a b (k + 1) = 2 ^ k * (gateB op (a.testBit k) (b.testBit k)).toNat + gateN op a b k := rfl
theorem gateN_lt (op : Int) (a b k : Nat) : gateN op a b k < 2 ^ k := fromN_lt _ k
theorem gate_all {op : Int} {a b c : Nat} (hc : c < 4294967296) (h : ∀ j, j < 32 → c.testBit j = gateB op (a.testBit j) (b.testBit j)) : gateN op a b 32 = c := (eq_fromN (n := 32) hc h).symm
theorem gate5 {a b : Nat} (ha : a < 4294967296) (hb : b < 4294967296) : gateN 5 a b 32 = a ^^^ b :=
  gate_all (Nat.xor_lt_two_pow (n := 32) ha hb) (fun j _ => by rw [Nat.testBit_xor]; rfl)
theorem gate8 {a b : Nat} (ha : a < 4294967296) (hb : b < 4294967296) : gateN 8 a b 32 = a ||| b :=
  gate_all (Nat.or_lt_two_pow (n := 32) ha hb) (fun j _ => by rw [Nat.testBit_or]; rfl)
theorem gate9 {a b : Nat} (ha : a < 4294967296) : gateN 9 a b 32 = a &&& b :=
  gate_all (Nat.lt_of_le_of_lt Nat.and_le_left ha) (fun j _ => by rw [Nat.testBit_and]; rfl)
/-- the powers of 2 in a word -/
def pow32 (k : Nat) : Nat := 2 ^ k % 4294967296
theorem pow32_lt {k : Nat} (h : k < 32) : pow32 k = 2 ^ k := Nat.mod_eq_of_lt (by rw [show (4294967296 : Nat) = 2 ^ 32 from rfl]; exact Nat.pow_lt_pow_right (by omega) h)
theorem pow32_succ (k : Nat) : 2 * pow32 k % 4294967296 = pow32 (k + 1) := by
  unfold pow32; rw [Nat.pow_succ]; omega
theorem bit_mod (a k : Nat) : a / 2 ^ k % 2 = (a.testBit k).toNat := by
  rw [Nat.testBit_eq_decide_div_mod_eq]
  rcases Nat.mod_two_eq_zero_or_one (a / 2 ^ k) with h | h <;> simp [h]
theorem iv {x y : Int} (h : x = y) : Value.int .u32 x = .int .u32 y := by rw [h]
theorem div_succ (a k : Nat) : a / 2 ^ k / 2 = a / 2 ^ (k + 1) := by rw [Nat.div_div_eq_div_mul, Nat.pow_succ]
set_option maxHeartbeats 2000000 in
theorem gates_5 (a b : Nat) (ha : a < 4294967296) (hb : b < 4294967296) (w : World) : Calls Tryd.prog 54 #[.int .i64 5, .int .u32 a, .int .u32 b] w fun e w' => e = .returned (.int .u32 (gateN 5 a b 32 : Nat)) ∧ w = w' := by
  go_enter Tryd.func54, Tryd.ntmps54
  go_wp2
  go_loop [1, 2, 7, 8, 9] (fun x y o q i => ∃ k : Nat, k ≤ 32 ∧ i = .int .i64 k ∧ x = .int .u32 (a / 2 ^ k : Nat) ∧ y = .int .u32 (b / 2 ^ k : Nat) ∧ o = .int .u32 (gateN 5 a b k : Nat) ∧ q = .int .u32 (pow32 k : Nat)) (fun _ _ _ _ i => 32 - (intOf i).toNat)
  case atStart => exact ⟨0, by omega, rfl, by simp, by simp, rfl, rfl⟩
  case round =>
    obtain ⟨k, hk, rfl, rfl, rfl, rfl, rfl⟩ := hrel
    by_cases hlt : k < 32
    · have x2 := bit_mod a k
      have y2 := bit_mod b k
      have xq := div_succ a k
      have yq := div_succ b k
      have pq := pow32_succ k
      have og := gateN_succ 5 a b k
      have ol := gateN_lt 5 a b (k + 1)
      have o32 : gateN 5 a b (k + 1) < 4294967296 := Nat.lt_of_lt_of_le ol (by rw [show (4294967296 : Nat) = 2 ^ 32 from rfl]; exact Nat.pow_le_pow_right (by omega) (by omega))
      rw [← pow32_lt hlt] at og
      have hX : a / 2 ^ k < 4294967296 := Nat.lt_of_le_of_lt (Nat.div_le_self _ _) ha
      have hY : b / 2 ^ k < 4294967296 := Nat.lt_of_le_of_lt (Nat.div_le_self _ _) hb
      generalize a / 2 ^ k = X at *
      generalize b / 2 ^ k = Y at *
      obtain ⟨X', EX⟩ : ∃ z, z = a / 2 ^ (k + 1) := ⟨_, rfl⟩
      rw [← EX] at xq
      obtain ⟨Y', EY⟩ : ∃ z, z = b / 2 ^ (k + 1) := ⟨_, rfl⟩
      rw [← EY] at yq
      generalize pow32 k = P at *
      obtain ⟨P', EP⟩ : ∃ z, z = pow32 (k + 1) := ⟨_, rfl⟩
      rw [← EP] at pq
      generalize gateN 5 a b k = O at *
      obtain ⟨O', EO⟩ : ∃ z, z = gateN 5 a b (k + 1) := ⟨_, rfl⟩
      rw [← EO] at og ol o32
      have HX := Lib.hid EX
      have HY := Lib.hid EY
      have HP := Lib.hid EP
      have HO := Lib.hid EO
      clear EX EY EP EO
      have f1 : (X : Int) / 2 = X' := by omega
      have f2 : (Y : Int) / 2 = Y' := by omega
      have f3 : 2 * (P : Int) % 4294967296 = P' := by omega
      cases hx : a.testBit k <;> cases hy : b.testBit k
      · rw [hx] at x2 og
        rw [hy] at y2 og
        simp only [Bool.toNat_true, Bool.toNat_false] at x2 y2
        rw [show gateB 5 false false = false from by decide] at og
        simp only [Bool.toNat_true, Bool.toNat_false, Nat.mul_one, Nat.mul_zero, Nat.zero_add] at og
        have g1 : (X : Int) % 2 = 0 := by omega
        have g2 : (Y : Int) % 2 = 0 := by omega
        obtain rfl : O' = O := by omega
        have LX := Lib.hid (show X' < 4294967296 by omega)
        have LY := Lib.hid (show Y' < 4294967296 by omega)
        have LO := Lib.hid o32
        have LP := Lib.hid pq
        clear hX hY hx hy x2 y2 xq yq pq ol o32 ha hb
        go_wp2
        go_round
        case rel => exact ⟨k + 1, by omega, by go_num, by rw [← HX.out]; exact iv (by have := LX.out; omega), by rw [← HY.out]; exact iv (by have := LY.out; omega), by rw [← HO.out]; try exact iv (by have := LO.out; omega), by rw [← HP.out]; exact iv (by have := LP.out; omega)⟩
        case measure => simp [intOf]; omega
      · rw [hx] at x2 og
        rw [hy] at y2 og
        simp only [Bool.toNat_true, Bool.toNat_false] at x2 y2
        rw [show gateB 5 false true = true from by decide] at og
        simp only [Bool.toNat_true, Bool.toNat_false, Nat.mul_one, Nat.mul_zero, Nat.zero_add] at og
        have g1 : (X : Int) % 2 = 0 := by omega
        have g2 : (Y : Int) % 2 = 1 := by omega
        have g3 : ((O : Int) + P) % 4294967296 = O' := by omega
        have LX := Lib.hid (show X' < 4294967296 by omega)
        have LY := Lib.hid (show Y' < 4294967296 by omega)
        have LO := Lib.hid o32
        have LP := Lib.hid pq
        clear hX hY hx hy x2 y2 xq yq pq ol o32 ha hb
        go_wp2
        go_round
        case rel => exact ⟨k + 1, by omega, by go_num, by rw [← HX.out]; exact iv (by have := LX.out; omega), by rw [← HY.out]; exact iv (by have := LY.out; omega), by rw [← HO.out]; try exact iv (by have := LO.out; omega), by rw [← HP.out]; exact iv (by have := LP.out; omega)⟩
        case measure => simp [intOf]; omega
      · rw [hx] at x2 og
        rw [hy] at y2 og
        simp only [Bool.toNat_true, Bool.toNat_false] at x2 y2
        rw [show gateB 5 true false = true from by decide] at og
        simp only [Bool.toNat_true, Bool.toNat_false, Nat.mul_one, Nat.mul_zero, Nat.zero_add] at og
        have g1 : (X : Int) % 2 = 1 := by omega
        have g2 : (Y : Int) % 2 = 0 := by omega
        have g3 : ((O : Int) + P) % 4294967296 = O' := by omega
        have LX := Lib.hid (show X' < 4294967296 by omega)
        have LY := Lib.hid (show Y' < 4294967296 by omega)
        have LO := Lib.hid o32
        have LP := Lib.hid pq
        clear hX hY hx hy x2 y2 xq yq pq ol o32 ha hb
        go_wp2
        go_round
        case rel => exact ⟨k + 1, by omega, by go_num, by rw [← HX.out]; exact iv (by have := LX.out; omega), by rw [← HY.out]; exact iv (by have := LY.out; omega), by rw [← HO.out]; try exact iv (by have := LO.out; omega), by rw [← HP.out]; exact iv (by have := LP.out; omega)⟩
        case measure => simp [intOf]; omega
      · rw [hx] at x2 og
        rw [hy] at y2 og
        simp only [Bool.toNat_true, Bool.toNat_false] at x2 y2
        rw [show gateB 5 true true = false from by decide] at og
        simp only [Bool.toNat_true, Bool.toNat_false, Nat.mul_one, Nat.mul_zero, Nat.zero_add] at og
        have g1 : (X : Int) % 2 = 1 := by omega
        have g2 : (Y : Int) % 2 = 1 := by omega
        obtain rfl : O' = O := by omega
        have LX := Lib.hid (show X' < 4294967296 by omega)
        have LY := Lib.hid (show Y' < 4294967296 by omega)
        have LO := Lib.hid o32
        have LP := Lib.hid pq
        clear hX hY hx hy x2 y2 xq yq pq ol o32 ha hb
        go_wp2
        go_round
        case rel => exact ⟨k + 1, by omega, by go_num, by rw [← HX.out]; exact iv (by have := LX.out; omega), by rw [← HY.out]; exact iv (by have := LY.out; omega), by rw [← HO.out]; try exact iv (by have := LO.out; omega), by rw [← HP.out]; exact iv (by have := LP.out; omega)⟩
        case measure => simp [intOf]; omega
    · have h32 : k = 32 := by omega
      subst h32
      go_wp2
      go_ret
      exact ⟨rfl, rfl⟩
set_option maxHeartbeats 2000000 in
theorem gates_8 (a b : Nat) (ha : a < 4294967296) (hb : b < 4294967296) (w : World) : Calls Tryd.prog 54 #[.int .i64 8, .int .u32 a, .int .u32 b] w fun e w' => e = .returned (.int .u32 (gateN 8 a b 32 : Nat)) ∧ w = w' := by
  go_enter Tryd.func54, Tryd.ntmps54
  go_wp2
  go_loop [1, 2, 7, 8, 9] (fun x y o q i => ∃ k : Nat, k ≤ 32 ∧ i = .int .i64 k ∧ x = .int .u32 (a / 2 ^ k : Nat) ∧ y = .int .u32 (b / 2 ^ k : Nat) ∧ o = .int .u32 (gateN 8 a b k : Nat) ∧ q = .int .u32 (pow32 k : Nat)) (fun _ _ _ _ i => 32 - (intOf i).toNat)
  case atStart => exact ⟨0, by omega, rfl, by simp, by simp, rfl, rfl⟩
  case round =>
    obtain ⟨k, hk, rfl, rfl, rfl, rfl, rfl⟩ := hrel
    by_cases hlt : k < 32
    · have x2 := bit_mod a k
      have y2 := bit_mod b k
      have xq := div_succ a k
      have yq := div_succ b k
      have pq := pow32_succ k
      have og := gateN_succ 8 a b k
      have ol := gateN_lt 8 a b (k + 1)
      have o32 : gateN 8 a b (k + 1) < 4294967296 := Nat.lt_of_lt_of_le ol (by rw [show (4294967296 : Nat) = 2 ^ 32 from rfl]; exact Nat.pow_le_pow_right (by omega) (by omega))
      rw [← pow32_lt hlt] at og
      have hX : a / 2 ^ k < 4294967296 := Nat.lt_of_le_of_lt (Nat.div_le_self _ _) ha
      have hY : b / 2 ^ k < 4294967296 := Nat.lt_of_le_of_lt (Nat.div_le_self _ _) hb
      generalize a / 2 ^ k = X at *
      generalize b / 2 ^ k = Y at *
      obtain ⟨X', EX⟩ : ∃ z, z = a / 2 ^ (k + 1) := ⟨_, rfl⟩
      rw [← EX] at xq
      obtain ⟨Y', EY⟩ : ∃ z, z = b / 2 ^ (k + 1) := ⟨_, rfl⟩
      rw [← EY] at yq
      generalize pow32 k = P at *
      obtain ⟨P', EP⟩ : ∃ z, z = pow32 (k + 1) := ⟨_, rfl⟩
      rw [← EP] at pq
      generalize gateN 8 a b k = O at *
      obtain ⟨O', EO⟩ : ∃ z, z = gateN 8 a b (k + 1) := ⟨_, rfl⟩
      rw [← EO] at og ol o32
      have HX := Lib.hid EX
      have HY := Lib.hid EY
      have HP := Lib.hid EP
      have HO := Lib.hid EO
      clear EX EY EP EO
      have f1 : (X : Int) / 2 = X' := by omega
      have f2 : (Y : Int) / 2 = Y' := by omega
      have f3 : 2 * (P : Int) % 4294967296 = P' := by omega
      cases hx : a.testBit k <;> cases hy : b.testBit k
      · rw [hx] at x2 og
        rw [hy] at y2 og
        simp only [Bool.toNat_true, Bool.toNat_false] at x2 y2
        rw [show gateB 8 false false = false from by decide] at og
        simp only [Bool.toNat_true, Bool.toNat_false, Nat.mul_one, Nat.mul_zero, Nat.zero_add] at og
        have g1 : (X : Int) % 2 = 0 := by omega
        have g2 : (Y : Int) % 2 = 0 := by omega
        obtain rfl : O' = O := by omega
        have LX := Lib.hid (show X' < 4294967296 by omega)
        have LY := Lib.hid (show Y' < 4294967296 by omega)
        have LO := Lib.hid o32
        have LP := Lib.hid pq
        clear hX hY hx hy x2 y2 xq yq pq ol o32 ha hb
        go_wp2
        go_round
        case rel => exact ⟨k + 1, by omega, by go_num, by rw [← HX.out]; exact iv (by have := LX.out; omega), by rw [← HY.out]; exact iv (by have := LY.out; omega), by rw [← HO.out]; try exact iv (by have := LO.out; omega), by rw [← HP.out]; exact iv (by have := LP.out; omega)⟩
        case measure => simp [intOf]; omega
      · rw [hx] at x2 og
        rw [hy] at y2 og
        simp only [Bool.toNat_true, Bool.toNat_false] at x2 y2
        rw [show gateB 8 false true = true from by decide] at og
        simp only [Bool.toNat_true, Bool.toNat_false, Nat.mul_one, Nat.mul_zero, Nat.zero_add] at og
        have g1 : (X : Int) % 2 = 0 := by omega
        have g2 : (Y : Int) % 2 = 1 := by omega
        have g3 : ((O : Int) + P) % 4294967296 = O' := by omega
        have LX := Lib.hid (show X' < 4294967296 by omega)
        have LY := Lib.hid (show Y' < 4294967296 by omega)
        have LO := Lib.hid o32
        have LP := Lib.hid pq
        clear hX hY hx hy x2 y2 xq yq pq ol o32 ha hb
        go_wp2
        go_round
        case rel => exact ⟨k + 1, by omega, by go_num, by rw [← HX.out]; exact iv (by have := LX.out; omega), by rw [← HY.out]; exact iv (by have := LY.out; omega), by rw [← HO.out]; try exact iv (by have := LO.out; omega), by rw [← HP.out]; exact iv (by have := LP.out; omega)⟩
        case measure => simp [intOf]; omega
      · rw [hx] at x2 og
        rw [hy] at y2 og
        simp only [Bool.toNat_true, Bool.toNat_false] at x2 y2
        rw [show gateB 8 true false = true from by decide] at og
        simp only [Bool.toNat_true, Bool.toNat_false, Nat.mul_one, Nat.mul_zero, Nat.zero_add] at og
        have g1 : (X : Int) % 2 = 1 := by omega
        have g2 : (Y : Int) % 2 = 0 := by omega
        have g3 : ((O : Int) + P) % 4294967296 = O' := by omega
        have LX := Lib.hid (show X' < 4294967296 by omega)
        have LY := Lib.hid (show Y' < 4294967296 by omega)
        have LO := Lib.hid o32
        have LP := Lib.hid pq
        clear hX hY hx hy x2 y2 xq yq pq ol o32 ha hb
        go_wp2
        go_round
        case rel => exact ⟨k + 1, by omega, by go_num, by rw [← HX.out]; exact iv (by have := LX.out; omega), by rw [← HY.out]; exact iv (by have := LY.out; omega), by rw [← HO.out]; try exact iv (by have := LO.out; omega), by rw [← HP.out]; exact iv (by have := LP.out; omega)⟩
        case measure => simp [intOf]; omega
      · rw [hx] at x2 og
        rw [hy] at y2 og
        simp only [Bool.toNat_true, Bool.toNat_false] at x2 y2
        rw [show gateB 8 true true = true from by decide] at og
        simp only [Bool.toNat_true, Bool.toNat_false, Nat.mul_one, Nat.mul_zero, Nat.zero_add] at og
        have g1 : (X : Int) % 2 = 1 := by omega
        have g2 : (Y : Int) % 2 = 1 := by omega
        have g3 : ((O : Int) + P) % 4294967296 = O' := by omega
        have LX := Lib.hid (show X' < 4294967296 by omega)
        have LY := Lib.hid (show Y' < 4294967296 by omega)
        have LO := Lib.hid o32
        have LP := Lib.hid pq
        clear hX hY hx hy x2 y2 xq yq pq ol o32 ha hb
        go_wp2
        go_round
        case rel => exact ⟨k + 1, by omega, by go_num, by rw [← HX.out]; exact iv (by have := LX.out; omega), by rw [← HY.out]; exact iv (by have := LY.out; omega), by rw [← HO.out]; try exact iv (by have := LO.out; omega), by rw [← HP.out]; exact iv (by have := LP.out; omega)⟩
        case measure => simp [intOf]; omega
    · have h32 : k = 32 := by omega
      subst h32
      go_wp2
      go_ret
      exact ⟨rfl, rfl⟩
set_option maxHeartbeats 2000000 in
theorem gates_9 (a b : Nat) (ha : a < 4294967296) (hb : b < 4294967296) (w : World) : Calls Tryd.prog 54 #[.int .i64 9, .int .u32 a, .int .u32 b] w fun e w' => e = .returned (.int .u32 (gateN 9 a b 32 : Nat)) ∧ w = w' := by
  go_enter Tryd.func54, Tryd.ntmps54
  go_wp2
  go_loop [1, 2, 7, 8, 9] (fun x y o q i => ∃ k : Nat, k ≤ 32 ∧ i = .int .i64 k ∧ x = .int .u32 (a / 2 ^ k : Nat) ∧ y = .int .u32 (b / 2 ^ k : Nat) ∧ o = .int .u32 (gateN 9 a b k : Nat) ∧ q = .int .u32 (pow32 k : Nat)) (fun _ _ _ _ i => 32 - (intOf i).toNat)
  case atStart => exact ⟨0, by omega, rfl, by simp, by simp, rfl, rfl⟩
  case round =>
    obtain ⟨k, hk, rfl, rfl, rfl, rfl, rfl⟩ := hrel
    by_cases hlt : k < 32
    · have x2 := bit_mod a k
      have y2 := bit_mod b k
      have xq := div_succ a k
      have yq := div_succ b k
      have pq := pow32_succ k
      have og := gateN_succ 9 a b k
      have ol := gateN_lt 9 a b (k + 1)
      have o32 : gateN 9 a b (k + 1) < 4294967296 := Nat.lt_of_lt_of_le ol (by rw [show (4294967296 : Nat) = 2 ^ 32 from rfl]; exact Nat.pow_le_pow_right (by omega) (by omega))
      rw [← pow32_lt hlt] at og
      have hX : a / 2 ^ k < 4294967296 := Nat.lt_of_le_of_lt (Nat.div_le_self _ _) ha
      have hY : b / 2 ^ k < 4294967296 := Nat.lt_of_le_of_lt (Nat.div_le_self _ _) hb
      generalize a / 2 ^ k = X at *
      generalize b / 2 ^ k = Y at *
      obtain ⟨X', EX⟩ : ∃ z, z = a / 2 ^ (k + 1) := ⟨_, rfl⟩
      rw [← EX] at xq
      obtain ⟨Y', EY⟩ : ∃ z, z = b / 2 ^ (k + 1) := ⟨_, rfl⟩
      rw [← EY] at yq
      generalize pow32 k = P at *
      obtain ⟨P', EP⟩ : ∃ z, z = pow32 (k + 1) := ⟨_, rfl⟩
      rw [← EP] at pq
      generalize gateN 9 a b k = O at *
      obtain ⟨O', EO⟩ : ∃ z, z = gateN 9 a b (k + 1) := ⟨_, rfl⟩
      rw [← EO] at og ol o32
      have HX := Lib.hid EX
      have HY := Lib.hid EY
      have HP := Lib.hid EP
      have HO := Lib.hid EO
      clear EX EY EP EO
      have f1 : (X : Int) / 2 = X' := by omega
      have f2 : (Y : Int) / 2 = Y' := by omega
      have f3 : 2 * (P : Int) % 4294967296 = P' := by omega
      cases hx : a.testBit k <;> cases hy : b.testBit k
      · rw [hx] at x2 og
        rw [hy] at y2 og
        simp only [Bool.toNat_true, Bool.toNat_false] at x2 y2
        rw [show gateB 9 false false = false from by decide] at og
        simp only [Bool.toNat_true, Bool.toNat_false, Nat.mul_one, Nat.mul_zero, Nat.zero_add] at og
        have g1 : (X : Int) % 2 = 0 := by omega
        have g2 : (Y : Int) % 2 = 0 := by omega
        obtain rfl : O' = O := by omega
        have LX := Lib.hid (show X' < 4294967296 by omega)
        have LY := Lib.hid (show Y' < 4294967296 by omega)
        have LO := Lib.hid o32
        have LP := Lib.hid pq
        clear hX hY hx hy x2 y2 xq yq pq ol o32 ha hb
        go_wp2
        go_round
        case rel => exact ⟨k + 1, by omega, by go_num, by rw [← HX.out]; exact iv (by have := LX.out; omega), by rw [← HY.out]; exact iv (by have := LY.out; omega), by rw [← HO.out]; try exact iv (by have := LO.out; omega), by rw [← HP.out]; exact iv (by have := LP.out; omega)⟩
        case measure => simp [intOf]; omega
      · rw [hx] at x2 og
        rw [hy] at y2 og
        simp only [Bool.toNat_true, Bool.toNat_false] at x2 y2
        rw [show gateB 9 false true = false from by decide] at og
        simp only [Bool.toNat_true, Bool.toNat_false, Nat.mul_one, Nat.mul_zero, Nat.zero_add] at og
        have g1 : (X : Int) % 2 = 0 := by omega
        have g2 : (Y : Int) % 2 = 1 := by omega
        obtain rfl : O' = O := by omega
        have LX := Lib.hid (show X' < 4294967296 by omega)
        have LY := Lib.hid (show Y' < 4294967296 by omega)
        have LO := Lib.hid o32
        have LP := Lib.hid pq
        clear hX hY hx hy x2 y2 xq yq pq ol o32 ha hb
        go_wp2
        go_round
        case rel => exact ⟨k + 1, by omega, by go_num, by rw [← HX.out]; exact iv (by have := LX.out; omega), by rw [← HY.out]; exact iv (by have := LY.out; omega), by rw [← HO.out]; try exact iv (by have := LO.out; omega), by rw [← HP.out]; exact iv (by have := LP.out; omega)⟩
        case measure => simp [intOf]; omega
      · rw [hx] at x2 og
        rw [hy] at y2 og
        simp only [Bool.toNat_true, Bool.toNat_false] at x2 y2
        rw [show gateB 9 true false = false from by decide] at og
        simp only [Bool.toNat_true, Bool.toNat_false, Nat.mul_one, Nat.mul_zero, Nat.zero_add] at og
        have g1 : (X : Int) % 2 = 1 := by omega
        have g2 : (Y : Int) % 2 = 0 := by omega
        obtain rfl : O' = O := by omega
        have LX := Lib.hid (show X' < 4294967296 by omega)
        have LY := Lib.hid (show Y' < 4294967296 by omega)
        have LO := Lib.hid o32
        have LP := Lib.hid pq
        clear hX hY hx hy x2 y2 xq yq pq ol o32 ha hb
        go_wp2
        go_round
        case rel => exact ⟨k + 1, by omega, by go_num, by rw [← HX.out]; exact iv (by have := LX.out; omega), by rw [← HY.out]; exact iv (by have := LY.out; omega), by rw [← HO.out]; try exact iv (by have := LO.out; omega), by rw [← HP.out]; exact iv (by have := LP.out; omega)⟩
        case measure => simp [intOf]; omega
      · rw [hx] at x2 og
        rw [hy] at y2 og
        simp only [Bool.toNat_true, Bool.toNat_false] at x2 y2
        rw [show gateB 9 true true = true from by decide] at og
        simp only [Bool.toNat_true, Bool.toNat_false, Nat.mul_one, Nat.mul_zero, Nat.zero_add] at og
        have g1 : (X : Int) % 2 = 1 := by omega
        have g2 : (Y : Int) % 2 = 1 := by omega
        have g3 : ((O : Int) + P) % 4294967296 = O' := by omega
        have LX := Lib.hid (show X' < 4294967296 by omega)
        have LY := Lib.hid (show Y' < 4294967296 by omega)
        have LO := Lib.hid o32
        have LP := Lib.hid pq
        clear hX hY hx hy x2 y2 xq yq pq ol o32 ha hb
        go_wp2
        go_round
        case rel => exact ⟨k + 1, by omega, by go_num, by rw [← HX.out]; exact iv (by have := LX.out; omega), by rw [← HY.out]; exact iv (by have := LY.out; omega), by rw [← HO.out]; try exact iv (by have := LO.out; omega), by rw [← HP.out]; exact iv (by have := LP.out; omega)⟩
        case measure => simp [intOf]; omega
    · have h32 : k = 32 := by omega
      subst h32
      go_wp2
      go_ret
      exact ⟨rfl, rfl⟩

theorem sra_neg (X : Int) (pw : Nat) (h : 0 < pw) : wrap64 (-((-X + pw - 1) / pw)) % 4294967296 = X / pw % 4294967296 := by
  have hp : (0 : Int) < pw := by omega
  have e := Int.mul_ediv_add_emod X pw
  have r0 := Int.emod_nonneg X (show (pw : Int) ≠ 0 by omega)
  have r1 := Int.emod_lt_of_pos X hp
  have k : (-X + pw - 1) / pw = -(X / pw) := by
    have e2 : -X + pw - 1 = (pw - 1 - X % pw) + pw * (-(X / pw)) := by rw [Int.mul_neg]; omega
    rw [e2, Int.add_mul_ediv_left _ _ (by omega), Int.ediv_eq_zero_of_lt (by omega) (by omega), Int.zero_add]
  rw [k, Int.neg_neg]
  generalize X / (pw : Int) = y
  unfold wrap64
  omega
theorem i64v {x y : Int} (h : x = y) : Value.int .i64 x = .int .i64 y := by rw [h]
set_option maxHeartbeats 2000000 in
theorem rdo_0 (a b : Nat) (ha : a < 4294967296) (hb : b < 4294967296) (w : World) : Calls Tryd.prog 21 #[.int .i64 0, .int .u32 a, .int .u32 b] w fun e w' => e = .returned (.tuple #[.int .u32 (((a : Int) + b) % 4294967296), .int .i64 0]) ∧ Below w.heap.size w w' := by
  have Wd := Lib.hid (fun x y w => wide_ref a b ha hb x y w)
  have Pt := Lib.hid (fun x w => rparts_any a b ha hb x w)
  obtain ⟨n, hn⟩ : ∃ n : Nat, n = b % 32 := ⟨_, rfl⟩
  have hnb : (b : Int) % 32 = (n : Int) := by omega
  have hn32 : n < 32 := by omega
  clear hn
  obtain ⟨res, hres⟩ : ∃ res : Int, res = ((a : Int) + b) % 4294967296 := ⟨_, rfl⟩
  rw [← hres]
  have HRES := Lib.hid hres
  clear hres
  go_enter Tryd.func21, Tryd.ntmps21
  go_wp2
  go_loop [9, 10] (fun pw i => ∃ k : Nat, k ≤ n ∧ i = .int .i64 k ∧ pw = .int .i64 (2 ^ k : Nat)) (fun _ i => n - (intOf i).toNat)
  case atStart => exact ⟨0, by omega, rfl, rfl⟩
  case round =>
    obtain ⟨k, hk, rfl, rfl⟩ := hrel
    by_cases hlt : k < n
    · have hp : 2 ^ (k + 1) = 2 * 2 ^ k := by rw [Nat.pow_succ]; omega
      have hb2 : 2 ^ k < 4294967296 := by rw [show (4294967296 : Nat) = 2 ^ 32 from rfl]; exact Nat.pow_lt_pow_right (by omega) (by omega)
      generalize 2 ^ k = q at *
      have LQ := Lib.hid hb2
      have HP := Lib.hid hp
      clear hb2 hp Wd Pt ha hb hnb
      go_wp2
      go_round
      case rel => exact ⟨k + 1, by omega, by go_num, by rw [HP.out]; exact i64v (by have := LQ.out; simp; unfold wrap64; omega)⟩
      case measure => simp [intOf]; omega
    · have hkn : k = n := by omega
      subst hkn
      have hb2 : 2 ^ k ≤ 2147483648 := by rw [show (2147483648 : Nat) = 2 ^ 31 from rfl]; exact Nat.pow_le_pow_right (by omega) (by omega)
      have hp0 : 0 < 2 ^ k := Nat.two_pow_pos k
      generalize 2 ^ k = pw at *
      go_wp2_with (first | (go_at_call 49; refine (Wd.out _ _ _).mono ?_; rintro e w' ⟨rfl, rfl⟩) | (go_at_call 50; refine (Pt.out _ _).mono ?_; rintro e w' ⟨rfl, rfl⟩) | (go_at_call 51; refine (word_any _ _).mono ?_; rintro e w' ⟨rfl, rfl⟩) | (go_at_call 52; refine (truth_any _ _).mono ?_; rintro e w' ⟨rfl, rfl⟩))
      go_ret2
      exact ⟨congrArg Ending.returned (congrArg Value.tuple (congrArg (fun x => #[Value.int .u32 x, .int .i64 0]) (by rw [HRES.out]; try omega))), Below.refl _ _⟩
set_option maxHeartbeats 2000000 in
theorem rdo_1 (a b : Nat) (ha : a < 4294967296) (hb : b < 4294967296) (w : World) : Calls Tryd.prog 21 #[.int .i64 1, .int .u32 a, .int .u32 b] w fun e w' => e = .returned (.tuple #[.int .u32 (((a : Int) - b) % 4294967296), .int .i64 0]) ∧ Below w.heap.size w w' := by
  have Wd := Lib.hid (fun x y w => wide_ref a b ha hb x y w)
  have Pt := Lib.hid (fun x w => rparts_any a b ha hb x w)
  obtain ⟨n, hn⟩ : ∃ n : Nat, n = b % 32 := ⟨_, rfl⟩
  have hnb : (b : Int) % 32 = (n : Int) := by omega
  have hn32 : n < 32 := by omega
  clear hn
  obtain ⟨res, hres⟩ : ∃ res : Int, res = ((a : Int) - b) % 4294967296 := ⟨_, rfl⟩
  rw [← hres]
  have HRES := Lib.hid hres
  clear hres
  go_enter Tryd.func21, Tryd.ntmps21
  go_wp2
  go_loop [9, 10] (fun pw i => ∃ k : Nat, k ≤ n ∧ i = .int .i64 k ∧ pw = .int .i64 (2 ^ k : Nat)) (fun _ i => n - (intOf i).toNat)
  case atStart => exact ⟨0, by omega, rfl, rfl⟩
  case round =>
    obtain ⟨k, hk, rfl, rfl⟩ := hrel
    by_cases hlt : k < n
    · have hp : 2 ^ (k + 1) = 2 * 2 ^ k := by rw [Nat.pow_succ]; omega
      have hb2 : 2 ^ k < 4294967296 := by rw [show (4294967296 : Nat) = 2 ^ 32 from rfl]; exact Nat.pow_lt_pow_right (by omega) (by omega)
      generalize 2 ^ k = q at *
      have LQ := Lib.hid hb2
      have HP := Lib.hid hp
      clear hb2 hp Wd Pt ha hb hnb
      go_wp2
      go_round
      case rel => exact ⟨k + 1, by omega, by go_num, by rw [HP.out]; exact i64v (by have := LQ.out; simp; unfold wrap64; omega)⟩
      case measure => simp [intOf]; omega
    · have hkn : k = n := by omega
      subst hkn
      have hb2 : 2 ^ k ≤ 2147483648 := by rw [show (2147483648 : Nat) = 2 ^ 31 from rfl]; exact Nat.pow_le_pow_right (by omega) (by omega)
      have hp0 : 0 < 2 ^ k := Nat.two_pow_pos k
      generalize 2 ^ k = pw at *
      go_wp2_with (first | (go_at_call 49; refine (Wd.out _ _ _).mono ?_; rintro e w' ⟨rfl, rfl⟩) | (go_at_call 50; refine (Pt.out _ _).mono ?_; rintro e w' ⟨rfl, rfl⟩) | (go_at_call 51; refine (word_any _ _).mono ?_; rintro e w' ⟨rfl, rfl⟩) | (go_at_call 52; refine (truth_any _ _).mono ?_; rintro e w' ⟨rfl, rfl⟩))
      go_ret2
      exact ⟨congrArg Ending.returned (congrArg Value.tuple (congrArg (fun x => #[Value.int .u32 x, .int .i64 0]) (by rw [HRES.out]; try omega))), Below.refl _ _⟩
set_option maxHeartbeats 2000000 in
theorem rdo_2 (a b : Nat) (ha : a < 4294967296) (hb : b < 4294967296) (w : World) : Calls Tryd.prog 21 #[.int .i64 2, .int .u32 a, .int .u32 b] w fun e w' => e = .returned (.tuple #[.int .u32 ((a : Int) * 2 ^ (b % 32) % 4294967296), .int .i64 0]) ∧ Below w.heap.size w w' := by
  have Wd := Lib.hid (fun x y w => wide_ref a b ha hb x y w)
  have Pt := Lib.hid (fun x w => rparts_any a b ha hb x w)
  obtain ⟨n, hn⟩ : ∃ n : Nat, n = b % 32 := ⟨_, rfl⟩
  have hnb : (b : Int) % 32 = (n : Int) := by omega
  have hn32 : n < 32 := by omega
  rw [← hn]
  clear hn
  obtain ⟨res, hres⟩ : ∃ res : Int, res = (a : Int) * 2 ^ (n) % 4294967296 := ⟨_, rfl⟩
  rw [← hres]
  have HRES := Lib.hid hres
  clear hres
  go_enter Tryd.func21, Tryd.ntmps21
  go_wp2
  go_loop [9, 10] (fun pw i => ∃ k : Nat, k ≤ n ∧ i = .int .i64 k ∧ pw = .int .i64 (2 ^ k : Nat)) (fun _ i => n - (intOf i).toNat)
  case atStart => exact ⟨0, by omega, rfl, rfl⟩
  case round =>
    obtain ⟨k, hk, rfl, rfl⟩ := hrel
    by_cases hlt : k < n
    · have hp : 2 ^ (k + 1) = 2 * 2 ^ k := by rw [Nat.pow_succ]; omega
      have hb2 : 2 ^ k < 4294967296 := by rw [show (4294967296 : Nat) = 2 ^ 32 from rfl]; exact Nat.pow_lt_pow_right (by omega) (by omega)
      generalize 2 ^ k = q at *
      have LQ := Lib.hid hb2
      have HP := Lib.hid hp
      clear hb2 hp Wd Pt ha hb hnb
      go_wp2
      go_round
      case rel => exact ⟨k + 1, by omega, by go_num, by rw [HP.out]; exact i64v (by have := LQ.out; simp; unfold wrap64; omega)⟩
      case measure => simp [intOf]; omega
    · have hkn : k = n := by omega
      subst hkn
      have hb2 : 2 ^ k ≤ 2147483648 := by rw [show (2147483648 : Nat) = 2 ^ 31 from rfl]; exact Nat.pow_le_pow_right (by omega) (by omega)
      have hp0 : 0 < 2 ^ k := Nat.two_pow_pos k
      obtain ⟨q, hq⟩ : ∃ q : Nat, q = 2 ^ (32 - k) := ⟨_, rfl⟩
      have hqp : q * 2 ^ k = 4294967296 := by rw [hq, ← Nat.pow_add, show 32 - k + k = 32 by omega]
      have hq0 : 0 < q := by rw [hq]; exact Nat.two_pow_pos _
      have hres : res = ((a % q * 2 ^ k : Nat) : Int) := by
        rw [HRES.out, show (a : Int) * 2 ^ k = ((a * 2 ^ k : Nat) : Int) by simp, show (4294967296 : Int) = ((q * 2 ^ k : Nat) : Int) by rw [hqp]; rfl, ← Int.natCast_emod, Nat.mul_mod_mul_right]
      have hdiv : (4294967296 : Int) / ((2 ^ k : Nat) : Int) = (q : Int) := by
        rw [show (4294967296 : Int) = ((q * 2 ^ k : Nat) : Int) by rw [hqp]; rfl, ← Int.natCast_ediv, Nat.mul_div_cancel _ hp0]
      clear HRES
      generalize 2 ^ k = pw at *
      obtain ⟨r, hr⟩ : ∃ r : Nat, r = a % q := ⟨_, rfl⟩
      rw [← hr] at hres
      have hr2 : (a : Int) % (q : Int) = (r : Int) := by rw [hr]; simp
      have hrq : r < q := by rw [hr]; exact Nat.mod_lt _ hq0
      have hrp : r * pw < 4294967296 := by rw [← hqp]; exact (Nat.mul_lt_mul_right hp0).2 hrq
      obtain ⟨z, hz⟩ : ∃ z : Nat, z = r * pw := ⟨_, rfl⟩
      rw [← hz] at hrp hres
      have FIN := Lib.hid hres
      have hz2 : (r : Int) * (pw : Int) = (z : Int) := by rw [hz]; simp
      have hq32 : q ≤ 4294967296 := by rw [← hqp]; exact Nat.le_mul_of_pos_right _ hp0
      clear hr hz hres hq hqp hrq
      go_wp2_with (first | (go_at_call 49; refine (Wd.out _ _ _).mono ?_; rintro e w' ⟨rfl, rfl⟩) | (go_at_call 50; refine (Pt.out _ _).mono ?_; rintro e w' ⟨rfl, rfl⟩) | (go_at_call 51; refine (word_any _ _).mono ?_; rintro e w' ⟨rfl, rfl⟩) | (go_at_call 52; refine (truth_any _ _).mono ?_; rintro e w' ⟨rfl, rfl⟩))
      go_ret2
      exact ⟨congrArg Ending.returned (congrArg Value.tuple (congrArg (fun x => #[Value.int .u32 x, .int .i64 0]) (by rw [FIN.out]; try omega))), Below.refl _ _⟩
set_option maxHeartbeats 2000000 in
theorem rdo_3 (a b : Nat) (ha : a < 4294967296) (hb : b < 4294967296) (w : World) : Calls Tryd.prog 21 #[.int .i64 3, .int .u32 a, .int .u32 b] w fun e w' => e = .returned (.tuple #[.int .u32 (oneI (decide (wrap32 (a : Int) < wrap32 (b : Int)))), .int .i64 0]) ∧ Below w.heap.size w w' := by
  have Wd := Lib.hid (fun x y w => wide_ref a b ha hb x y w)
  have Pt := Lib.hid (fun x w => rparts_any a b ha hb x w)
  have SA : Hid (∀ (w : World), Calls Tryd.prog 53 #[.int .u32 a] w fun e w' => e = .returned (.int .i64 (wrap32 (a : Int))) ∧ w = w') := Lib.hid (fun w => by have h := signed_any a ha w; rw [← sgn_w32 a ha] at h; exact h)
  have SB : Hid (∀ (w : World), Calls Tryd.prog 53 #[.int .u32 b] w fun e w' => e = .returned (.int .i64 (wrap32 (b : Int))) ∧ w = w') := Lib.hid (fun w => by have h := signed_any b hb w; rw [← sgn_w32 b hb] at h; exact h)
  obtain ⟨n, hn⟩ : ∃ n : Nat, n = b % 32 := ⟨_, rfl⟩
  have hnb : (b : Int) % 32 = (n : Int) := by omega
  have hn32 : n < 32 := by omega
  clear hn
  obtain ⟨res, hres⟩ : ∃ res : Int, res = oneI (decide (wrap32 (a : Int) < wrap32 (b : Int))) := ⟨_, rfl⟩
  rw [← hres]
  have HRES := Lib.hid hres
  clear hres
  go_enter Tryd.func21, Tryd.ntmps21
  go_wp2
  go_loop [9, 10] (fun pw i => ∃ k : Nat, k ≤ n ∧ i = .int .i64 k ∧ pw = .int .i64 (2 ^ k : Nat)) (fun _ i => n - (intOf i).toNat)
  case atStart => exact ⟨0, by omega, rfl, rfl⟩
  case round =>
    obtain ⟨k, hk, rfl, rfl⟩ := hrel
    by_cases hlt : k < n
    · have hp : 2 ^ (k + 1) = 2 * 2 ^ k := by rw [Nat.pow_succ]; omega
      have hb2 : 2 ^ k < 4294967296 := by rw [show (4294967296 : Nat) = 2 ^ 32 from rfl]; exact Nat.pow_lt_pow_right (by omega) (by omega)
      generalize 2 ^ k = q at *
      have LQ := Lib.hid hb2
      have HP := Lib.hid hp
      clear hb2 hp Wd Pt ha hb hnb
      go_wp2
      go_round
      case rel => exact ⟨k + 1, by omega, by go_num, by rw [HP.out]; exact i64v (by have := LQ.out; simp; unfold wrap64; omega)⟩
      case measure => simp [intOf]; omega
    · have hkn : k = n := by omega
      subst hkn
      have hb2 : 2 ^ k ≤ 2147483648 := by rw [show (2147483648 : Nat) = 2 ^ 31 from rfl]; exact Nat.pow_le_pow_right (by omega) (by omega)
      have hp0 : 0 < 2 ^ k := Nat.two_pow_pos k
      generalize 2 ^ k = pw at *
      go_wp2_with (first | (go_at_call 49; refine (Wd.out _ _ _).mono ?_; rintro e w' ⟨rfl, rfl⟩) | (go_at_call 50; refine (Pt.out _ _).mono ?_; rintro e w' ⟨rfl, rfl⟩) | (go_at_call 51; refine (word_any _ _).mono ?_; rintro e w' ⟨rfl, rfl⟩) | (go_at_call 52; refine (truth_any _ _).mono ?_; rintro e w' ⟨rfl, rfl⟩) | (go_at_call 53; (with_reducible refine (SA.out _).mono ?_); rintro e w' ⟨rfl, rfl⟩) | (go_at_call 53; (with_reducible refine (SB.out _).mono ?_); rintro e w' ⟨rfl, rfl⟩))
      go_ret2
      exact ⟨congrArg Ending.returned (congrArg Value.tuple (congrArg (fun x => #[Value.int .u32 x, .int .i64 0]) (by rw [HRES.out]; try simp))), Below.refl _ _⟩
set_option maxHeartbeats 2000000 in
theorem rdo_4 (a b : Nat) (ha : a < 4294967296) (hb : b < 4294967296) (w : World) : Calls Tryd.prog 21 #[.int .i64 4, .int .u32 a, .int .u32 b] w fun e w' => e = .returned (.tuple #[.int .u32 (oneI (decide ((a : Int) < b))), .int .i64 0]) ∧ Below w.heap.size w w' := by
  have Wd := Lib.hid (fun x y w => wide_ref a b ha hb x y w)
  have Pt := Lib.hid (fun x w => rparts_any a b ha hb x w)
  obtain ⟨n, hn⟩ : ∃ n : Nat, n = b % 32 := ⟨_, rfl⟩
  have hnb : (b : Int) % 32 = (n : Int) := by omega
  have hn32 : n < 32 := by omega
  clear hn
  obtain ⟨res, hres⟩ : ∃ res : Int, res = oneI (decide ((a : Int) < b)) := ⟨_, rfl⟩
  rw [← hres]
  have HRES := Lib.hid hres
  clear hres
  go_enter Tryd.func21, Tryd.ntmps21
  go_wp2
  go_loop [9, 10] (fun pw i => ∃ k : Nat, k ≤ n ∧ i = .int .i64 k ∧ pw = .int .i64 (2 ^ k : Nat)) (fun _ i => n - (intOf i).toNat)
  case atStart => exact ⟨0, by omega, rfl, rfl⟩
  case round =>
    obtain ⟨k, hk, rfl, rfl⟩ := hrel
    by_cases hlt : k < n
    · have hp : 2 ^ (k + 1) = 2 * 2 ^ k := by rw [Nat.pow_succ]; omega
      have hb2 : 2 ^ k < 4294967296 := by rw [show (4294967296 : Nat) = 2 ^ 32 from rfl]; exact Nat.pow_lt_pow_right (by omega) (by omega)
      generalize 2 ^ k = q at *
      have LQ := Lib.hid hb2
      have HP := Lib.hid hp
      clear hb2 hp Wd Pt ha hb hnb
      go_wp2
      go_round
      case rel => exact ⟨k + 1, by omega, by go_num, by rw [HP.out]; exact i64v (by have := LQ.out; simp; unfold wrap64; omega)⟩
      case measure => simp [intOf]; omega
    · have hkn : k = n := by omega
      subst hkn
      have hb2 : 2 ^ k ≤ 2147483648 := by rw [show (2147483648 : Nat) = 2 ^ 31 from rfl]; exact Nat.pow_le_pow_right (by omega) (by omega)
      have hp0 : 0 < 2 ^ k := Nat.two_pow_pos k
      generalize 2 ^ k = pw at *
      go_wp2_with (first | (go_at_call 49; refine (Wd.out _ _ _).mono ?_; rintro e w' ⟨rfl, rfl⟩) | (go_at_call 50; refine (Pt.out _ _).mono ?_; rintro e w' ⟨rfl, rfl⟩) | (go_at_call 51; refine (word_any _ _).mono ?_; rintro e w' ⟨rfl, rfl⟩) | (go_at_call 52; refine (truth_any _ _).mono ?_; rintro e w' ⟨rfl, rfl⟩))
      go_ret2
      exact ⟨congrArg Ending.returned (congrArg Value.tuple (congrArg (fun x => #[Value.int .u32 x, .int .i64 0]) (by rw [HRES.out]; try simp))), Below.refl _ _⟩
set_option maxHeartbeats 2000000 in
theorem rdo_5 (a b : Nat) (ha : a < 4294967296) (hb : b < 4294967296) (w : World) : Calls Tryd.prog 21 #[.int .i64 5, .int .u32 a, .int .u32 b] w fun e w' => e = .returned (.tuple #[.int .u32 (((a ^^^ b : Nat) : Int)), .int .i64 0]) ∧ Below w.heap.size w w' := by
  have Wd := Lib.hid (fun x y w => wide_ref a b ha hb x y w)
  have Pt := Lib.hid (fun x w => rparts_any a b ha hb x w)
  have Ga : Hid (∀ w : World, Calls Tryd.prog 54 #[.int .i64 5, .int .u32 a, .int .u32 b] w fun e w' => e = .returned (.int .u32 (((a ^^^ b : Nat) : Int))) ∧ w = w') := Lib.hid (fun w => by have h := gates_5 a b ha hb w; rw [gate5 ha hb] at h; exact h)
  obtain ⟨n, hn⟩ : ∃ n : Nat, n = b % 32 := ⟨_, rfl⟩
  have hnb : (b : Int) % 32 = (n : Int) := by omega
  have hn32 : n < 32 := by omega
  clear hn
  obtain ⟨res, hres⟩ : ∃ res : Int, res = ((a ^^^ b : Nat) : Int) := ⟨_, rfl⟩
  rw [← hres]
  have HRES := Lib.hid hres
  clear hres
  go_enter Tryd.func21, Tryd.ntmps21
  go_wp2
  go_loop [9, 10] (fun pw i => ∃ k : Nat, k ≤ n ∧ i = .int .i64 k ∧ pw = .int .i64 (2 ^ k : Nat)) (fun _ i => n - (intOf i).toNat)
  case atStart => exact ⟨0, by omega, rfl, rfl⟩
  case round =>
    obtain ⟨k, hk, rfl, rfl⟩ := hrel
    by_cases hlt : k < n
    · have hp : 2 ^ (k + 1) = 2 * 2 ^ k := by rw [Nat.pow_succ]; omega
      have hb2 : 2 ^ k < 4294967296 := by rw [show (4294967296 : Nat) = 2 ^ 32 from rfl]; exact Nat.pow_lt_pow_right (by omega) (by omega)
      generalize 2 ^ k = q at *
      have LQ := Lib.hid hb2
      have HP := Lib.hid hp
      clear hb2 hp Wd Pt ha hb hnb
      go_wp2
      go_round
      case rel => exact ⟨k + 1, by omega, by go_num, by rw [HP.out]; exact i64v (by have := LQ.out; simp; unfold wrap64; omega)⟩
      case measure => simp [intOf]; omega
    · have hkn : k = n := by omega
      subst hkn
      have hb2 : 2 ^ k ≤ 2147483648 := by rw [show (2147483648 : Nat) = 2 ^ 31 from rfl]; exact Nat.pow_le_pow_right (by omega) (by omega)
      have hp0 : 0 < 2 ^ k := Nat.two_pow_pos k
      generalize 2 ^ k = pw at *
      go_wp2_with (first | (go_at_call 49; refine (Wd.out _ _ _).mono ?_; rintro e w' ⟨rfl, rfl⟩) | (go_at_call 50; refine (Pt.out _ _).mono ?_; rintro e w' ⟨rfl, rfl⟩) | (go_at_call 51; refine (word_any _ _).mono ?_; rintro e w' ⟨rfl, rfl⟩) | (go_at_call 52; refine (truth_any _ _).mono ?_; rintro e w' ⟨rfl, rfl⟩) | (go_at_call 54; refine (Ga.out _).mono ?_; rintro e w' ⟨rfl, rfl⟩))
      go_ret2
      exact ⟨congrArg Ending.returned (congrArg Value.tuple (congrArg (fun x => #[Value.int .u32 x, .int .i64 0]) (by rw [HRES.out]; try simp))), Below.refl _ _⟩
set_option maxHeartbeats 2000000 in
theorem rdo_6 (a b : Nat) (ha : a < 4294967296) (hb : b < 4294967296) (w : World) : Calls Tryd.prog 21 #[.int .i64 6, .int .u32 a, .int .u32 b] w fun e w' => e = .returned (.tuple #[.int .u32 ((a : Int) / 2 ^ (b % 32)), .int .i64 0]) ∧ Below w.heap.size w w' := by
  have Wd := Lib.hid (fun x y w => wide_ref a b ha hb x y w)
  have Pt := Lib.hid (fun x w => rparts_any a b ha hb x w)
  obtain ⟨n, hn⟩ : ∃ n : Nat, n = b % 32 := ⟨_, rfl⟩
  have hnb : (b : Int) % 32 = (n : Int) := by omega
  have hn32 : n < 32 := by omega
  rw [← hn]
  clear hn
  obtain ⟨res, hres⟩ : ∃ res : Int, res = (a : Int) / 2 ^ (n) := ⟨_, rfl⟩
  rw [← hres]
  have HRES := Lib.hid hres
  clear hres
  go_enter Tryd.func21, Tryd.ntmps21
  go_wp2
  go_loop [9, 10] (fun pw i => ∃ k : Nat, k ≤ n ∧ i = .int .i64 k ∧ pw = .int .i64 (2 ^ k : Nat)) (fun _ i => n - (intOf i).toNat)
  case atStart => exact ⟨0, by omega, rfl, rfl⟩
  case round =>
    obtain ⟨k, hk, rfl, rfl⟩ := hrel
    by_cases hlt : k < n
    · have hp : 2 ^ (k + 1) = 2 * 2 ^ k := by rw [Nat.pow_succ]; omega
      have hb2 : 2 ^ k < 4294967296 := by rw [show (4294967296 : Nat) = 2 ^ 32 from rfl]; exact Nat.pow_lt_pow_right (by omega) (by omega)
      generalize 2 ^ k = q at *
      have LQ := Lib.hid hb2
      have HP := Lib.hid hp
      clear hb2 hp Wd Pt ha hb hnb
      go_wp2
      go_round
      case rel => exact ⟨k + 1, by omega, by go_num, by rw [HP.out]; exact i64v (by have := LQ.out; simp; unfold wrap64; omega)⟩
      case measure => simp [intOf]; omega
    · have hkn : k = n := by omega
      subst hkn
      have hb2 : 2 ^ k ≤ 2147483648 := by rw [show (2147483648 : Nat) = 2 ^ 31 from rfl]; exact Nat.pow_le_pow_right (by omega) (by omega)
      have hp0 : 0 < 2 ^ k := Nat.two_pow_pos k
      have hv : res = ((a / 2 ^ k : Nat) : Int) := by rw [HRES.out]; simp
      clear HRES
      obtain ⟨z, hz⟩ : ∃ z : Nat, z = a / 2 ^ k := ⟨_, rfl⟩
      have hz2 : (a : Int) / ((2 ^ k : Nat) : Int) = (z : Int) := by rw [hz]; simp
      have hz3 : z < 4294967296 := by rw [hz]; exact Nat.lt_of_le_of_lt (Nat.div_le_self _ _) ha
      rw [← hz] at hv
      have FIN := Lib.hid hv
      clear hz hv
      generalize 2 ^ k = pw at *
      go_wp2_with (first | (go_at_call 49; refine (Wd.out _ _ _).mono ?_; rintro e w' ⟨rfl, rfl⟩) | (go_at_call 50; refine (Pt.out _ _).mono ?_; rintro e w' ⟨rfl, rfl⟩) | (go_at_call 51; refine (word_any _ _).mono ?_; rintro e w' ⟨rfl, rfl⟩) | (go_at_call 52; refine (truth_any _ _).mono ?_; rintro e w' ⟨rfl, rfl⟩))
      go_ret2
      exact ⟨congrArg Ending.returned (congrArg Value.tuple (congrArg (fun x => #[Value.int .u32 x, .int .i64 0]) (by rw [FIN.out]; try omega))), Below.refl _ _⟩
set_option maxHeartbeats 2000000 in
theorem rdo_7 (a b : Nat) (ha : a < 4294967296) (hb : b < 4294967296) (w : World) : Calls Tryd.prog 21 #[.int .i64 7, .int .u32 a, .int .u32 b] w fun e w' => e = .returned (.tuple #[.int .u32 (wrap32 (a : Int) / 2 ^ (b % 32) % 4294967296), .int .i64 0]) ∧ Below w.heap.size w w' := by
  have Wd := Lib.hid (fun x y w => wide_ref a b ha hb x y w)
  have Pt := Lib.hid (fun x w => rparts_any a b ha hb x w)
  have SA : Hid (∀ (w : World), Calls Tryd.prog 53 #[.int .u32 a] w fun e w' => e = .returned (.int .i64 (wrap32 (a : Int))) ∧ w = w') := Lib.hid (fun w => by have h := signed_any a ha w; rw [← sgn_w32 a ha] at h; exact h)
  have SB : Hid (∀ (w : World), Calls Tryd.prog 53 #[.int .u32 b] w fun e w' => e = .returned (.int .i64 (wrap32 (b : Int))) ∧ w = w') := Lib.hid (fun w => by have h := signed_any b hb w; rw [← sgn_w32 b hb] at h; exact h)
  obtain ⟨n, hn⟩ : ∃ n : Nat, n = b % 32 := ⟨_, rfl⟩
  have hnb : (b : Int) % 32 = (n : Int) := by omega
  have hn32 : n < 32 := by omega
  rw [← hn]
  clear hn
  obtain ⟨res, hres⟩ : ∃ res : Int, res = wrap32 (a : Int) / 2 ^ (n) % 4294967296 := ⟨_, rfl⟩
  rw [← hres]
  have HRES := Lib.hid hres
  clear hres
  go_enter Tryd.func21, Tryd.ntmps21
  go_wp2
  go_loop [9, 10] (fun pw i => ∃ k : Nat, k ≤ n ∧ i = .int .i64 k ∧ pw = .int .i64 (2 ^ k : Nat)) (fun _ i => n - (intOf i).toNat)
  case atStart => exact ⟨0, by omega, rfl, rfl⟩
  case round =>
    obtain ⟨k, hk, rfl, rfl⟩ := hrel
    by_cases hlt : k < n
    · have hp : 2 ^ (k + 1) = 2 * 2 ^ k := by rw [Nat.pow_succ]; omega
      have hb2 : 2 ^ k < 4294967296 := by rw [show (4294967296 : Nat) = 2 ^ 32 from rfl]; exact Nat.pow_lt_pow_right (by omega) (by omega)
      generalize 2 ^ k = q at *
      have LQ := Lib.hid hb2
      have HP := Lib.hid hp
      clear hb2 hp Wd Pt ha hb hnb
      go_wp2
      go_round
      case rel => exact ⟨k + 1, by omega, by go_num, by rw [HP.out]; exact i64v (by have := LQ.out; simp; unfold wrap64; omega)⟩
      case measure => simp [intOf]; omega
    · have hkn : k = n := by omega
      subst hkn
      have hb2 : 2 ^ k ≤ 2147483648 := by rw [show (2147483648 : Nat) = 2 ^ 31 from rfl]; exact Nat.pow_le_pow_right (by omega) (by omega)
      have hp0 : 0 < 2 ^ k := Nat.two_pow_pos k
      have hres : res = wrap32 (a : Int) / ((2 ^ k : Nat) : Int) % 4294967296 := by rw [HRES.out]; simp
      have hx1 : -2147483648 ≤ wrap32 (a : Int) := by unfold wrap32; omega
      have hx2 : wrap32 (a : Int) < 2147483648 := by unfold wrap32; omega
      clear HRES
      generalize 2 ^ k = pw at *
      generalize wrap32 (a : Int) = X at *
      have FIN := Lib.hid hres
      clear hres
      by_cases hx : X < 0
      · go_wp2_with (first | (go_at_call 49; refine (Wd.out _ _ _).mono ?_; rintro e w' ⟨rfl, rfl⟩) | (go_at_call 50; refine (Pt.out _ _).mono ?_; rintro e w' ⟨rfl, rfl⟩) | (go_at_call 51; refine (word_any _ _).mono ?_; rintro e w' ⟨rfl, rfl⟩) | (go_at_call 52; refine (truth_any _ _).mono ?_; rintro e w' ⟨rfl, rfl⟩) | (go_at_call 53; (with_reducible refine (SA.out _).mono ?_); rintro e w' ⟨rfl, rfl⟩) | (go_at_call 53; (with_reducible refine (SB.out _).mono ?_); rintro e w' ⟨rfl, rfl⟩))
        go_ret2
        exact ⟨congrArg Ending.returned (congrArg Value.tuple (congrArg (fun x => #[Value.int .u32 x, .int .i64 0]) ((sra_neg X pw hp0).trans FIN.out.symm))), Below.refl _ _⟩
      · go_wp2_with (first | (go_at_call 49; refine (Wd.out _ _ _).mono ?_; rintro e w' ⟨rfl, rfl⟩) | (go_at_call 50; refine (Pt.out _ _).mono ?_; rintro e w' ⟨rfl, rfl⟩) | (go_at_call 51; refine (word_any _ _).mono ?_; rintro e w' ⟨rfl, rfl⟩) | (go_at_call 52; refine (truth_any _ _).mono ?_; rintro e w' ⟨rfl, rfl⟩) | (go_at_call 53; (with_reducible refine (SA.out _).mono ?_); rintro e w' ⟨rfl, rfl⟩) | (go_at_call 53; (with_reducible refine (SB.out _).mono ?_); rintro e w' ⟨rfl, rfl⟩))
        go_ret2
        exact ⟨congrArg Ending.returned (congrArg Value.tuple (congrArg (fun x => #[Value.int .u32 x, .int .i64 0]) (FIN.out.symm))), Below.refl _ _⟩
set_option maxHeartbeats 2000000 in
theorem rdo_8 (a b : Nat) (ha : a < 4294967296) (hb : b < 4294967296) (w : World) : Calls Tryd.prog 21 #[.int .i64 8, .int .u32 a, .int .u32 b] w fun e w' => e = .returned (.tuple #[.int .u32 (((a ||| b : Nat) : Int)), .int .i64 0]) ∧ Below w.heap.size w w' := by
  have Wd := Lib.hid (fun x y w => wide_ref a b ha hb x y w)
  have Pt := Lib.hid (fun x w => rparts_any a b ha hb x w)
  have Ga : Hid (∀ w : World, Calls Tryd.prog 54 #[.int .i64 8, .int .u32 a, .int .u32 b] w fun e w' => e = .returned (.int .u32 (((a ||| b : Nat) : Int))) ∧ w = w') := Lib.hid (fun w => by have h := gates_8 a b ha hb w; rw [gate8 ha hb] at h; exact h)
  obtain ⟨n, hn⟩ : ∃ n : Nat, n = b % 32 := ⟨_, rfl⟩
  have hnb : (b : Int) % 32 = (n : Int) := by omega
  have hn32 : n < 32 := by omega
  clear hn
  obtain ⟨res, hres⟩ : ∃ res : Int, res = ((a ||| b : Nat) : Int) := ⟨_, rfl⟩
  rw [← hres]
  have HRES := Lib.hid hres
  clear hres
  go_enter Tryd.func21, Tryd.ntmps21
  go_wp2
  go_loop [9, 10] (fun pw i => ∃ k : Nat, k ≤ n ∧ i = .int .i64 k ∧ pw = .int .i64 (2 ^ k : Nat)) (fun _ i => n - (intOf i).toNat)
  case atStart => exact ⟨0, by omega, rfl, rfl⟩
  case round =>
    obtain ⟨k, hk, rfl, rfl⟩ := hrel
    by_cases hlt : k < n
    · have hp : 2 ^ (k + 1) = 2 * 2 ^ k := by rw [Nat.pow_succ]; omega
      have hb2 : 2 ^ k < 4294967296 := by rw [show (4294967296 : Nat) = 2 ^ 32 from rfl]; exact Nat.pow_lt_pow_right (by omega) (by omega)
      generalize 2 ^ k = q at *
      have LQ := Lib.hid hb2
      have HP := Lib.hid hp
      clear hb2 hp Wd Pt ha hb hnb
      go_wp2
      go_round
      case rel => exact ⟨k + 1, by omega, by go_num, by rw [HP.out]; exact i64v (by have := LQ.out; simp; unfold wrap64; omega)⟩
      case measure => simp [intOf]; omega
    · have hkn : k = n := by omega
      subst hkn
      have hb2 : 2 ^ k ≤ 2147483648 := by rw [show (2147483648 : Nat) = 2 ^ 31 from rfl]; exact Nat.pow_le_pow_right (by omega) (by omega)
      have hp0 : 0 < 2 ^ k := Nat.two_pow_pos k
      generalize 2 ^ k = pw at *
      go_wp2_with (first | (go_at_call 49; refine (Wd.out _ _ _).mono ?_; rintro e w' ⟨rfl, rfl⟩) | (go_at_call 50; refine (Pt.out _ _).mono ?_; rintro e w' ⟨rfl, rfl⟩) | (go_at_call 51; refine (word_any _ _).mono ?_; rintro e w' ⟨rfl, rfl⟩) | (go_at_call 52; refine (truth_any _ _).mono ?_; rintro e w' ⟨rfl, rfl⟩) | (go_at_call 54; refine (Ga.out _).mono ?_; rintro e w' ⟨rfl, rfl⟩))
      go_ret2
      exact ⟨congrArg Ending.returned (congrArg Value.tuple (congrArg (fun x => #[Value.int .u32 x, .int .i64 0]) (by rw [HRES.out]; try simp))), Below.refl _ _⟩
set_option maxHeartbeats 2000000 in
theorem rdo_9 (a b : Nat) (ha : a < 4294967296) (hb : b < 4294967296) (w : World) : Calls Tryd.prog 21 #[.int .i64 9, .int .u32 a, .int .u32 b] w fun e w' => e = .returned (.tuple #[.int .u32 (((a &&& b : Nat) : Int)), .int .i64 0]) ∧ Below w.heap.size w w' := by
  have Wd := Lib.hid (fun x y w => wide_ref a b ha hb x y w)
  have Pt := Lib.hid (fun x w => rparts_any a b ha hb x w)
  have Ga : Hid (∀ w : World, Calls Tryd.prog 54 #[.int .i64 9, .int .u32 a, .int .u32 b] w fun e w' => e = .returned (.int .u32 (((a &&& b : Nat) : Int))) ∧ w = w') := Lib.hid (fun w => by have h := gates_9 a b ha hb w; rw [gate9 ha] at h; exact h)
  obtain ⟨n, hn⟩ : ∃ n : Nat, n = b % 32 := ⟨_, rfl⟩
  have hnb : (b : Int) % 32 = (n : Int) := by omega
  have hn32 : n < 32 := by omega
  clear hn
  obtain ⟨res, hres⟩ : ∃ res : Int, res = ((a &&& b : Nat) : Int) := ⟨_, rfl⟩
  rw [← hres]
  have HRES := Lib.hid hres
  clear hres
  go_enter Tryd.func21, Tryd.ntmps21
  go_wp2
  go_loop [9, 10] (fun pw i => ∃ k : Nat, k ≤ n ∧ i = .int .i64 k ∧ pw = .int .i64 (2 ^ k : Nat)) (fun _ i => n - (intOf i).toNat)
  case atStart => exact ⟨0, by omega, rfl, rfl⟩
  case round =>
    obtain ⟨k, hk, rfl, rfl⟩ := hrel
    by_cases hlt : k < n
    · have hp : 2 ^ (k + 1) = 2 * 2 ^ k := by rw [Nat.pow_succ]; omega
      have hb2 : 2 ^ k < 4294967296 := by rw [show (4294967296 : Nat) = 2 ^ 32 from rfl]; exact Nat.pow_lt_pow_right (by omega) (by omega)
      generalize 2 ^ k = q at *
      have LQ := Lib.hid hb2
      have HP := Lib.hid hp
      clear hb2 hp Wd Pt ha hb hnb
      go_wp2
      go_round
      case rel => exact ⟨k + 1, by omega, by go_num, by rw [HP.out]; exact i64v (by have := LQ.out; simp; unfold wrap64; omega)⟩
      case measure => simp [intOf]; omega
    · have hkn : k = n := by omega
      subst hkn
      have hb2 : 2 ^ k ≤ 2147483648 := by rw [show (2147483648 : Nat) = 2 ^ 31 from rfl]; exact Nat.pow_le_pow_right (by omega) (by omega)
      have hp0 : 0 < 2 ^ k := Nat.two_pow_pos k
      generalize 2 ^ k = pw at *
      go_wp2_with (first | (go_at_call 49; refine (Wd.out _ _ _).mono ?_; rintro e w' ⟨rfl, rfl⟩) | (go_at_call 50; refine (Pt.out _ _).mono ?_; rintro e w' ⟨rfl, rfl⟩) | (go_at_call 51; refine (word_any _ _).mono ?_; rintro e w' ⟨rfl, rfl⟩) | (go_at_call 52; refine (truth_any _ _).mono ?_; rintro e w' ⟨rfl, rfl⟩) | (go_at_call 54; refine (Ga.out _).mono ?_; rintro e w' ⟨rfl, rfl⟩))
      go_ret2
      exact ⟨congrArg Ending.returned (congrArg Value.tuple (congrArg (fun x => #[Value.int .u32 x, .int .i64 0]) (by rw [HRES.out]; try simp))), Below.refl _ _⟩
set_option maxHeartbeats 2000000 in
theorem rdo_10 (a b : Nat) (ha : a < 4294967296) (hb : b < 4294967296) (w : World) : Calls Tryd.prog 21 #[.int .i64 10, .int .u32 a, .int .u32 b] w fun e w' => e = .returned (.tuple #[.int .u32 (wideL a b), .int .i64 0]) ∧ Below w.heap.size w w' := by
  have Wd := Lib.hid (fun x y w => wide_ref a b ha hb x y w)
  have Pt := Lib.hid (fun x w => rparts_any a b ha hb x w)
  obtain ⟨n, hn⟩ : ∃ n : Nat, n = b % 32 := ⟨_, rfl⟩
  have hnb : (b : Int) % 32 = (n : Int) := by omega
  have hn32 : n < 32 := by omega
  clear hn
  obtain ⟨res, hres⟩ : ∃ res : Int, res = wideL a b := ⟨_, rfl⟩
  rw [← hres]
  have HRES := Lib.hid hres
  clear hres
  go_enter Tryd.func21, Tryd.ntmps21
  go_wp2
  go_loop [9, 10] (fun pw i => ∃ k : Nat, k ≤ n ∧ i = .int .i64 k ∧ pw = .int .i64 (2 ^ k : Nat)) (fun _ i => n - (intOf i).toNat)
  case atStart => exact ⟨0, by omega, rfl, rfl⟩
  case round =>
    obtain ⟨k, hk, rfl, rfl⟩ := hrel
    by_cases hlt : k < n
    · have hp : 2 ^ (k + 1) = 2 * 2 ^ k := by rw [Nat.pow_succ]; omega
      have hb2 : 2 ^ k < 4294967296 := by rw [show (4294967296 : Nat) = 2 ^ 32 from rfl]; exact Nat.pow_lt_pow_right (by omega) (by omega)
      generalize 2 ^ k = q at *
      have LQ := Lib.hid hb2
      have HP := Lib.hid hp
      clear hb2 hp Wd Pt ha hb hnb
      go_wp2
      go_round
      case rel => exact ⟨k + 1, by omega, by go_num, by rw [HP.out]; exact i64v (by have := LQ.out; simp; unfold wrap64; omega)⟩
      case measure => simp [intOf]; omega
    · have hkn : k = n := by omega
      subst hkn
      have hb2 : 2 ^ k ≤ 2147483648 := by rw [show (2147483648 : Nat) = 2 ^ 31 from rfl]; exact Nat.pow_le_pow_right (by omega) (by omega)
      have hp0 : 0 < 2 ^ k := Nat.two_pow_pos k
      generalize 2 ^ k = pw at *
      go_wp2_with (first | (go_at_call 49; refine (Wd.out _ _ _).mono ?_; rintro e w' ⟨rfl, rfl⟩) | (go_at_call 50; refine (Pt.out _ _).mono ?_; rintro e w' ⟨rfl, rfl⟩) | (go_at_call 51; refine (word_any _ _).mono ?_; rintro e w' ⟨rfl, rfl⟩) | (go_at_call 52; refine (truth_any _ _).mono ?_; rintro e w' ⟨rfl, rfl⟩))
      go_ret2
      exact ⟨congrArg Ending.returned (congrArg Value.tuple (congrArg (fun x => #[Value.int .u32 x, .int .i64 0]) (by rw [HRES.out]; try simp))), Below.refl _ _⟩
set_option maxHeartbeats 2000000 in
theorem rdo_11 (a b : Nat) (ha : a < 4294967296) (hb : b < 4294967296) (w : World) : Calls Tryd.prog 21 #[.int .i64 11, .int .u32 a, .int .u32 b] w fun e w' => e = .returned (.tuple #[.int .u32 (wideH a b true true), .int .i64 0]) ∧ Below w.heap.size w w' := by
  have Wd := Lib.hid (fun x y w => wide_ref a b ha hb x y w)
  have Pt := Lib.hid (fun x w => rparts_any a b ha hb x w)
  obtain ⟨n, hn⟩ : ∃ n : Nat, n = b % 32 := ⟨_, rfl⟩
  have hnb : (b : Int) % 32 = (n : Int) := by omega
  have hn32 : n < 32 := by omega
  clear hn
  obtain ⟨res, hres⟩ : ∃ res : Int, res = wideH a b true true := ⟨_, rfl⟩
  rw [← hres]
  have HRES := Lib.hid hres
  clear hres
  go_enter Tryd.func21, Tryd.ntmps21
  go_wp2
  go_loop [9, 10] (fun pw i => ∃ k : Nat, k ≤ n ∧ i = .int .i64 k ∧ pw = .int .i64 (2 ^ k : Nat)) (fun _ i => n - (intOf i).toNat)
  case atStart => exact ⟨0, by omega, rfl, rfl⟩
  case round =>
    obtain ⟨k, hk, rfl, rfl⟩ := hrel
    by_cases hlt : k < n
    · have hp : 2 ^ (k + 1) = 2 * 2 ^ k := by rw [Nat.pow_succ]; omega
      have hb2 : 2 ^ k < 4294967296 := by rw [show (4294967296 : Nat) = 2 ^ 32 from rfl]; exact Nat.pow_lt_pow_right (by omega) (by omega)
      generalize 2 ^ k = q at *
      have LQ := Lib.hid hb2
      have HP := Lib.hid hp
      clear hb2 hp Wd Pt ha hb hnb
      go_wp2
      go_round
      case rel => exact ⟨k + 1, by omega, by go_num, by rw [HP.out]; exact i64v (by have := LQ.out; simp; unfold wrap64; omega)⟩
      case measure => simp [intOf]; omega
    · have hkn : k = n := by omega
      subst hkn
      have hb2 : 2 ^ k ≤ 2147483648 := by rw [show (2147483648 : Nat) = 2 ^ 31 from rfl]; exact Nat.pow_le_pow_right (by omega) (by omega)
      have hp0 : 0 < 2 ^ k := Nat.two_pow_pos k
      generalize 2 ^ k = pw at *
      go_wp2_with (first | (go_at_call 49; refine (Wd.out _ _ _).mono ?_; rintro e w' ⟨rfl, rfl⟩) | (go_at_call 50; refine (Pt.out _ _).mono ?_; rintro e w' ⟨rfl, rfl⟩) | (go_at_call 51; refine (word_any _ _).mono ?_; rintro e w' ⟨rfl, rfl⟩) | (go_at_call 52; refine (truth_any _ _).mono ?_; rintro e w' ⟨rfl, rfl⟩))
      go_ret2
      exact ⟨congrArg Ending.returned (congrArg Value.tuple (congrArg (fun x => #[Value.int .u32 x, .int .i64 0]) (by rw [HRES.out]; try simp))), Below.refl _ _⟩
set_option maxHeartbeats 2000000 in
theorem rdo_12 (a b : Nat) (ha : a < 4294967296) (hb : b < 4294967296) (w : World) : Calls Tryd.prog 21 #[.int .i64 12, .int .u32 a, .int .u32 b] w fun e w' => e = .returned (.tuple #[.int .u32 (wideH a b true false), .int .i64 0]) ∧ Below w.heap.size w w' := by
  have Wd := Lib.hid (fun x y w => wide_ref a b ha hb x y w)
  have Pt := Lib.hid (fun x w => rparts_any a b ha hb x w)
  obtain ⟨n, hn⟩ : ∃ n : Nat, n = b % 32 := ⟨_, rfl⟩
  have hnb : (b : Int) % 32 = (n : Int) := by omega
  have hn32 : n < 32 := by omega
  clear hn
  obtain ⟨res, hres⟩ : ∃ res : Int, res = wideH a b true false := ⟨_, rfl⟩
  rw [← hres]
  have HRES := Lib.hid hres
  clear hres
  go_enter Tryd.func21, Tryd.ntmps21
  go_wp2
  go_loop [9, 10] (fun pw i => ∃ k : Nat, k ≤ n ∧ i = .int .i64 k ∧ pw = .int .i64 (2 ^ k : Nat)) (fun _ i => n - (intOf i).toNat)
  case atStart => exact ⟨0, by omega, rfl, rfl⟩
  case round =>
    obtain ⟨k, hk, rfl, rfl⟩ := hrel
    by_cases hlt : k < n
    · have hp : 2 ^ (k + 1) = 2 * 2 ^ k := by rw [Nat.pow_succ]; omega
      have hb2 : 2 ^ k < 4294967296 := by rw [show (4294967296 : Nat) = 2 ^ 32 from rfl]; exact Nat.pow_lt_pow_right (by omega) (by omega)
      generalize 2 ^ k = q at *
      have LQ := Lib.hid hb2
      have HP := Lib.hid hp
      clear hb2 hp Wd Pt ha hb hnb
      go_wp2
      go_round
      case rel => exact ⟨k + 1, by omega, by go_num, by rw [HP.out]; exact i64v (by have := LQ.out; simp; unfold wrap64; omega)⟩
      case measure => simp [intOf]; omega
    · have hkn : k = n := by omega
      subst hkn
      have hb2 : 2 ^ k ≤ 2147483648 := by rw [show (2147483648 : Nat) = 2 ^ 31 from rfl]; exact Nat.pow_le_pow_right (by omega) (by omega)
      have hp0 : 0 < 2 ^ k := Nat.two_pow_pos k
      generalize 2 ^ k = pw at *
      go_wp2_with (first | (go_at_call 49; refine (Wd.out _ _ _).mono ?_; rintro e w' ⟨rfl, rfl⟩) | (go_at_call 50; refine (Pt.out _ _).mono ?_; rintro e w' ⟨rfl, rfl⟩) | (go_at_call 51; refine (word_any _ _).mono ?_; rintro e w' ⟨rfl, rfl⟩) | (go_at_call 52; refine (truth_any _ _).mono ?_; rintro e w' ⟨rfl, rfl⟩))
      go_ret2
      exact ⟨congrArg Ending.returned (congrArg Value.tuple (congrArg (fun x => #[Value.int .u32 x, .int .i64 0]) (by rw [HRES.out]; try simp))), Below.refl _ _⟩
set_option maxHeartbeats 2000000 in
theorem rdo_13 (a b : Nat) (ha : a < 4294967296) (hb : b < 4294967296) (w : World) : Calls Tryd.prog 21 #[.int .i64 13, .int .u32 a, .int .u32 b] w fun e w' => e = .returned (.tuple #[.int .u32 (wideH a b false false), .int .i64 0]) ∧ Below w.heap.size w w' := by
  have Wd := Lib.hid (fun x y w => wide_ref a b ha hb x y w)
  have Pt := Lib.hid (fun x w => rparts_any a b ha hb x w)
  obtain ⟨n, hn⟩ : ∃ n : Nat, n = b % 32 := ⟨_, rfl⟩
  have hnb : (b : Int) % 32 = (n : Int) := by omega
  have hn32 : n < 32 := by omega
  clear hn
  obtain ⟨res, hres⟩ : ∃ res : Int, res = wideH a b false false := ⟨_, rfl⟩
  rw [← hres]
  have HRES := Lib.hid hres
  clear hres
  go_enter Tryd.func21, Tryd.ntmps21
  go_wp2
  go_loop [9, 10] (fun pw i => ∃ k : Nat, k ≤ n ∧ i = .int .i64 k ∧ pw = .int .i64 (2 ^ k : Nat)) (fun _ i => n - (intOf i).toNat)
  case atStart => exact ⟨0, by omega, rfl, rfl⟩
  case round =>
    obtain ⟨k, hk, rfl, rfl⟩ := hrel
    by_cases hlt : k < n
    · have hp : 2 ^ (k + 1) = 2 * 2 ^ k := by rw [Nat.pow_succ]; omega
      have hb2 : 2 ^ k < 4294967296 := by rw [show (4294967296 : Nat) = 2 ^ 32 from rfl]; exact Nat.pow_lt_pow_right (by omega) (by omega)
      generalize 2 ^ k = q at *
      have LQ := Lib.hid hb2
      have HP := Lib.hid hp
      clear hb2 hp Wd Pt ha hb hnb
      go_wp2
      go_round
      case rel => exact ⟨k + 1, by omega, by go_num, by rw [HP.out]; exact i64v (by have := LQ.out; simp; unfold wrap64; omega)⟩
      case measure => simp [intOf]; omega
    · have hkn : k = n := by omega
      subst hkn
      have hb2 : 2 ^ k ≤ 2147483648 := by rw [show (2147483648 : Nat) = 2 ^ 31 from rfl]; exact Nat.pow_le_pow_right (by omega) (by omega)
      have hp0 : 0 < 2 ^ k := Nat.two_pow_pos k
      generalize 2 ^ k = pw at *
      go_wp2_with (first | (go_at_call 49; refine (Wd.out _ _ _).mono ?_; rintro e w' ⟨rfl, rfl⟩) | (go_at_call 50; refine (Pt.out _ _).mono ?_; rintro e w' ⟨rfl, rfl⟩) | (go_at_call 51; refine (word_any _ _).mono ?_; rintro e w' ⟨rfl, rfl⟩) | (go_at_call 52; refine (truth_any _ _).mono ?_; rintro e w' ⟨rfl, rfl⟩))
      go_ret2
      exact ⟨congrArg Ending.returned (congrArg Value.tuple (congrArg (fun x => #[Value.int .u32 x, .int .i64 0]) (by rw [HRES.out]; try simp))), Below.refl _ _⟩
set_option maxHeartbeats 2000000 in
theorem rdo_14 (a b : Nat) (ha : a < 4294967296) (hb : b < 4294967296) (w : World) : Calls Tryd.prog 21 #[.int .i64 14, .int .u32 a, .int .u32 b] w fun e w' => e = .returned (.tuple #[.int .u32 (partsQ a b true), .int .i64 0]) ∧ Below w.heap.size w w' := by
  have Wd := Lib.hid (fun x y w => wide_ref a b ha hb x y w)
  have Pt := Lib.hid (fun x w => rparts_any a b ha hb x w)
  obtain ⟨n, hn⟩ : ∃ n : Nat, n = b % 32 := ⟨_, rfl⟩
  have hnb : (b : Int) % 32 = (n : Int) := by omega
  have hn32 : n < 32 := by omega
  clear hn
  obtain ⟨res, hres⟩ : ∃ res : Int, res = partsQ a b true := ⟨_, rfl⟩
  rw [← hres]
  have HRES := Lib.hid hres
  clear hres
  go_enter Tryd.func21, Tryd.ntmps21
  go_wp2
  go_loop [9, 10] (fun pw i => ∃ k : Nat, k ≤ n ∧ i = .int .i64 k ∧ pw = .int .i64 (2 ^ k : Nat)) (fun _ i => n - (intOf i).toNat)
  case atStart => exact ⟨0, by omega, rfl, rfl⟩
  case round =>
    obtain ⟨k, hk, rfl, rfl⟩ := hrel
    by_cases hlt : k < n
    · have hp : 2 ^ (k + 1) = 2 * 2 ^ k := by rw [Nat.pow_succ]; omega
      have hb2 : 2 ^ k < 4294967296 := by rw [show (4294967296 : Nat) = 2 ^ 32 from rfl]; exact Nat.pow_lt_pow_right (by omega) (by omega)
      generalize 2 ^ k = q at *
      have LQ := Lib.hid hb2
      have HP := Lib.hid hp
      clear hb2 hp Wd Pt ha hb hnb
      go_wp2
      go_round
      case rel => exact ⟨k + 1, by omega, by go_num, by rw [HP.out]; exact i64v (by have := LQ.out; simp; unfold wrap64; omega)⟩
      case measure => simp [intOf]; omega
    · have hkn : k = n := by omega
      subst hkn
      have hb2 : 2 ^ k ≤ 2147483648 := by rw [show (2147483648 : Nat) = 2 ^ 31 from rfl]; exact Nat.pow_le_pow_right (by omega) (by omega)
      have hp0 : 0 < 2 ^ k := Nat.two_pow_pos k
      generalize 2 ^ k = pw at *
      go_wp2_with (first | (go_at_call 49; refine (Wd.out _ _ _).mono ?_; rintro e w' ⟨rfl, rfl⟩) | (go_at_call 50; refine (Pt.out _ _).mono ?_; rintro e w' ⟨rfl, rfl⟩) | (go_at_call 51; refine (word_any _ _).mono ?_; rintro e w' ⟨rfl, rfl⟩) | (go_at_call 52; refine (truth_any _ _).mono ?_; rintro e w' ⟨rfl, rfl⟩))
      go_ret2
      exact ⟨congrArg Ending.returned (congrArg Value.tuple (congrArg (fun x => #[Value.int .u32 x, .int .i64 0]) (by rw [HRES.out]; try simp))), Below.refl _ _⟩
set_option maxHeartbeats 2000000 in
theorem rdo_15 (a b : Nat) (ha : a < 4294967296) (hb : b < 4294967296) (w : World) : Calls Tryd.prog 21 #[.int .i64 15, .int .u32 a, .int .u32 b] w fun e w' => e = .returned (.tuple #[.int .u32 (partsQ a b false), .int .i64 0]) ∧ Below w.heap.size w w' := by
  have Wd := Lib.hid (fun x y w => wide_ref a b ha hb x y w)
  have Pt := Lib.hid (fun x w => rparts_any a b ha hb x w)
  obtain ⟨n, hn⟩ : ∃ n : Nat, n = b % 32 := ⟨_, rfl⟩
  have hnb : (b : Int) % 32 = (n : Int) := by omega
  have hn32 : n < 32 := by omega
  clear hn
  obtain ⟨res, hres⟩ : ∃ res : Int, res = partsQ a b false := ⟨_, rfl⟩
  rw [← hres]
  have HRES := Lib.hid hres
  clear hres
  go_enter Tryd.func21, Tryd.ntmps21
  go_wp2
  go_loop [9, 10] (fun pw i => ∃ k : Nat, k ≤ n ∧ i = .int .i64 k ∧ pw = .int .i64 (2 ^ k : Nat)) (fun _ i => n - (intOf i).toNat)
  case atStart => exact ⟨0, by omega, rfl, rfl⟩
  case round =>
    obtain ⟨k, hk, rfl, rfl⟩ := hrel
    by_cases hlt : k < n
    · have hp : 2 ^ (k + 1) = 2 * 2 ^ k := by rw [Nat.pow_succ]; omega
      have hb2 : 2 ^ k < 4294967296 := by rw [show (4294967296 : Nat) = 2 ^ 32 from rfl]; exact Nat.pow_lt_pow_right (by omega) (by omega)
      generalize 2 ^ k = q at *
      have LQ := Lib.hid hb2
      have HP := Lib.hid hp
      clear hb2 hp Wd Pt ha hb hnb
      go_wp2
      go_round
      case rel => exact ⟨k + 1, by omega, by go_num, by rw [HP.out]; exact i64v (by have := LQ.out; simp; unfold wrap64; omega)⟩
      case measure => simp [intOf]; omega
    · have hkn : k = n := by omega
      subst hkn
      have hb2 : 2 ^ k ≤ 2147483648 := by rw [show (2147483648 : Nat) = 2 ^ 31 from rfl]; exact Nat.pow_le_pow_right (by omega) (by omega)
      have hp0 : 0 < 2 ^ k := Nat.two_pow_pos k
      generalize 2 ^ k = pw at *
      go_wp2_with (first | (go_at_call 49; refine (Wd.out _ _ _).mono ?_; rintro e w' ⟨rfl, rfl⟩) | (go_at_call 50; refine (Pt.out _ _).mono ?_; rintro e w' ⟨rfl, rfl⟩) | (go_at_call 51; refine (word_any _ _).mono ?_; rintro e w' ⟨rfl, rfl⟩) | (go_at_call 52; refine (truth_any _ _).mono ?_; rintro e w' ⟨rfl, rfl⟩))
      go_ret2
      exact ⟨congrArg Ending.returned (congrArg Value.tuple (congrArg (fun x => #[Value.int .u32 x, .int .i64 0]) (by rw [HRES.out]; try simp))), Below.refl _ _⟩
set_option maxHeartbeats 2000000 in
theorem rdo_16 (a b : Nat) (ha : a < 4294967296) (hb : b < 4294967296) (w : World) : Calls Tryd.prog 21 #[.int .i64 16, .int .u32 a, .int .u32 b] w fun e w' => e = .returned (.tuple #[.int .u32 (partsR a b true), .int .i64 0]) ∧ Below w.heap.size w w' := by
  have Wd := Lib.hid (fun x y w => wide_ref a b ha hb x y w)
  have Pt := Lib.hid (fun x w => rparts_any a b ha hb x w)
  obtain ⟨n, hn⟩ : ∃ n : Nat, n = b % 32 := ⟨_, rfl⟩
  have hnb : (b : Int) % 32 = (n : Int) := by omega
  have hn32 : n < 32 := by omega
  clear hn
  obtain ⟨res, hres⟩ : ∃ res : Int, res = partsR a b true := ⟨_, rfl⟩
  rw [← hres]
  have HRES := Lib.hid hres
  clear hres
  go_enter Tryd.func21, Tryd.ntmps21
  go_wp2
  go_loop [9, 10] (fun pw i => ∃ k : Nat, k ≤ n ∧ i = .int .i64 k ∧ pw = .int .i64 (2 ^ k : Nat)) (fun _ i => n - (intOf i).toNat)
  case atStart => exact ⟨0, by omega, rfl, rfl⟩
  case round =>
    obtain ⟨k, hk, rfl, rfl⟩ := hrel
    by_cases hlt : k < n
    · have hp : 2 ^ (k + 1) = 2 * 2 ^ k := by rw [Nat.pow_succ]; omega
      have hb2 : 2 ^ k < 4294967296 := by rw [show (4294967296 : Nat) = 2 ^ 32 from rfl]; exact Nat.pow_lt_pow_right (by omega) (by omega)
      generalize 2 ^ k = q at *
      have LQ := Lib.hid hb2
      have HP := Lib.hid hp
      clear hb2 hp Wd Pt ha hb hnb
      go_wp2
      go_round
      case rel => exact ⟨k + 1, by omega, by go_num, by rw [HP.out]; exact i64v (by have := LQ.out; simp; unfold wrap64; omega)⟩
      case measure => simp [intOf]; omega
    · have hkn : k = n := by omega
      subst hkn
      have hb2 : 2 ^ k ≤ 2147483648 := by rw [show (2147483648 : Nat) = 2 ^ 31 from rfl]; exact Nat.pow_le_pow_right (by omega) (by omega)
      have hp0 : 0 < 2 ^ k := Nat.two_pow_pos k
      generalize 2 ^ k = pw at *
      go_wp2_with (first | (go_at_call 49; refine (Wd.out _ _ _).mono ?_; rintro e w' ⟨rfl, rfl⟩) | (go_at_call 50; refine (Pt.out _ _).mono ?_; rintro e w' ⟨rfl, rfl⟩) | (go_at_call 51; refine (word_any _ _).mono ?_; rintro e w' ⟨rfl, rfl⟩) | (go_at_call 52; refine (truth_any _ _).mono ?_; rintro e w' ⟨rfl, rfl⟩))
      go_ret2
      exact ⟨congrArg Ending.returned (congrArg Value.tuple (congrArg (fun x => #[Value.int .u32 x, .int .i64 0]) (by rw [HRES.out]; try simp))), Below.refl _ _⟩
set_option maxHeartbeats 2000000 in
theorem rdo_17 (a b : Nat) (ha : a < 4294967296) (hb : b < 4294967296) (w : World) : Calls Tryd.prog 21 #[.int .i64 17, .int .u32 a, .int .u32 b] w fun e w' => e = .returned (.tuple #[.int .u32 (partsR a b false), .int .i64 0]) ∧ Below w.heap.size w w' := by
  have Wd := Lib.hid (fun x y w => wide_ref a b ha hb x y w)
  have Pt := Lib.hid (fun x w => rparts_any a b ha hb x w)
  obtain ⟨n, hn⟩ : ∃ n : Nat, n = b % 32 := ⟨_, rfl⟩
  have hnb : (b : Int) % 32 = (n : Int) := by omega
  have hn32 : n < 32 := by omega
  clear hn
  obtain ⟨res, hres⟩ : ∃ res : Int, res = partsR a b false := ⟨_, rfl⟩
  rw [← hres]
  have HRES := Lib.hid hres
  clear hres
  go_enter Tryd.func21, Tryd.ntmps21
  go_wp2
  go_loop [9, 10] (fun pw i => ∃ k : Nat, k ≤ n ∧ i = .int .i64 k ∧ pw = .int .i64 (2 ^ k : Nat)) (fun _ i => n - (intOf i).toNat)
  case atStart => exact ⟨0, by omega, rfl, rfl⟩
  case round =>
    obtain ⟨k, hk, rfl, rfl⟩ := hrel
    by_cases hlt : k < n
    · have hp : 2 ^ (k + 1) = 2 * 2 ^ k := by rw [Nat.pow_succ]; omega
      have hb2 : 2 ^ k < 4294967296 := by rw [show (4294967296 : Nat) = 2 ^ 32 from rfl]; exact Nat.pow_lt_pow_right (by omega) (by omega)
      generalize 2 ^ k = q at *
      have LQ := Lib.hid hb2
      have HP := Lib.hid hp
      clear hb2 hp Wd Pt ha hb hnb
      go_wp2
      go_round
      case rel => exact ⟨k + 1, by omega, by go_num, by rw [HP.out]; exact i64v (by have := LQ.out; simp; unfold wrap64; omega)⟩
      case measure => simp [intOf]; omega
    · have hkn : k = n := by omega
      subst hkn
      have hb2 : 2 ^ k ≤ 2147483648 := by rw [show (2147483648 : Nat) = 2 ^ 31 from rfl]; exact Nat.pow_le_pow_right (by omega) (by omega)
      have hp0 : 0 < 2 ^ k := Nat.two_pow_pos k
      generalize 2 ^ k = pw at *
      go_wp2_with (first | (go_at_call 49; refine (Wd.out _ _ _).mono ?_; rintro e w' ⟨rfl, rfl⟩) | (go_at_call 50; refine (Pt.out _ _).mono ?_; rintro e w' ⟨rfl, rfl⟩) | (go_at_call 51; refine (word_any _ _).mono ?_; rintro e w' ⟨rfl, rfl⟩) | (go_at_call 52; refine (truth_any _ _).mono ?_; rintro e w' ⟨rfl, rfl⟩))
      go_ret2
      exact ⟨congrArg Ending.returned (congrArg Value.tuple (congrArg (fun x => #[Value.int .u32 x, .int .i64 0]) (by rw [HRES.out]; try simp))), Below.refl _ _⟩

end Go.Proofs.YtgbpalclapcfeaaDoor
