import Derived.Test.YtgbpalclapcfeaaDoorAluDB
import Derived.Below
import Derived.Deep.Draws
import Derived.Deep.AppendLies
import Derived.Maps.AppendAt
import Derived.OwnWalk
import Derived.Laws.BytesArg
import Derived.Laws.MakeOwn
import Derived.Laws.OwnMore
import Derived.Deep.OwnRows
import Derived.Tactics
import Derived.Lib.ConvBytes
import Derived.Laws.Slices
import Derived.WalkKit
import Derived.KernelRfl
import Derived.RowKit3
import Derived.Deep.LoopGhost
import Derived.Deep.QuietTactic
import Derived.BigQuiet
import Derived.WideLaws
import Derived.Deep.DeepCutAuto
import Derived.Deep.CutBlock
import Derived.Deep.RegionHeld3
import Derived.Laws.Rows
import Derived.Lib.AppendStr
import Derived.ArgAppend
import Derived.Laws.IdiomCopy
import Derived.OrdersHeld
import Derived.Laws.BitsLemmas
import Derived.RowKit
import Derived.Lib.Hide
import Derived.Laws.BitsAllLaws
import Derived.WalkLawsBesides
import Derived.WalkSpells
import Derived.LaidEql
namespace Go.Proofs.YtgbpalclapcfeaaDoor
open Go.RowKit
set_option maxRecDepth 100000
set_option linter.unusedVariables false
set_option linter.unusedSimpArgs false

theorem num_nil (w : World) : Calls Tryd.prog 22 #[.nilIface] w fun e w' => e = .returned (.int .i64 0) ∧ Below w.heap.size w w' := by
  go_enter Tryd.func22, Tryd.ntmps22
  go_wp2
  go_ret
  exact ⟨rfl, (Below.refl _ _).alloc (Nat.le_refl _) _⟩
set_option maxHeartbeats 1000000 in
theorem num_err (n : Int) (w : World) (hg : w.cell? ⟨1, 0, none⟩ = some errTy) : Calls Tryd.prog 22 #[.iface 76 (.int .i64 n)] w fun e w' => e = .returned (.int .i64 n) ∧ Below w.heap.size w w' := by
  have hgA : (w.alloc (.cells #[.int .i64 0] 76)).cell? ⟨1, 0, none⟩ = some errTy := by
    rw [World.cell?_alloc_lt _ _ ⟨1, 0, none⟩ (block_lt_of_cell hg)]; exact hg
  have htA : (w.alloc (.cells #[.int .i64 0] 76)).cell? ⟨w.heap.size, 0, none⟩ = some (.int .i64 0) := by simp
  have hfA : (w.alloc (.cells #[.int .i64 0] 76)).frozen? ⟨w.heap.size, 0, none⟩ = false := by simp
  have A := Lib.hid (as_hit n ⟨w.heap.size, 0, none⟩ (.int .i64 0) _ hgA htA hfA)
  clear hgA htA hfA hg
  go_enter Tryd.func22, Tryd.ntmps22
  go_wp2_with (go_at_call 44; refine A.out.mono ?_; rintro e w' ⟨rfl, rfl⟩)
  go_ret
  refine ⟨rfl, ?_⟩
  repeat' (first | (with_reducible exact Below.refl _ _) | (with_reducible refine Below.setCell ?_ ?_ _) | (with_reducible refine Below.alloc ?_ ?_ _) | (simp; done) | (simp; omega))
/-- an error's number, whatever the error -/
theorem num_any (n : Int) (w : World) (hg : w.cell? ⟨1, 0, none⟩ = some errTy) : Calls Tryd.prog 22 #[errV n] w fun e w' => e = .returned (.int .i64 n) ∧ Below w.heap.size w w' := by
  by_cases h : n = 0
  · subst h; exact num_nil w
  · have hE : errV n = .iface 76 (.int .i64 n) := by unfold errV; rw [if_neg h]
    rw [hE]; exact num_err n w hg

set_option maxHeartbeats 2000000 in
theorem rdo_no (c : Int) (h : c < 0 ∨ 18 ≤ c) (a b : Nat) (ha : a < 4294967296) (hb : b < 4294967296) (w : World) : Calls Tryd.prog 21 #[.int .i64 c, .int .u32 a, .int .u32 b] w fun e w' => e = .returned (.tuple #[.int .u32 0, .int .i64 1]) ∧ Below w.heap.size w w' := by
  have Wd := Lib.hid (fun x y w => wide_ref a b ha hb x y w)
  have Pt := Lib.hid (fun x w => rparts_any a b ha hb x w)
  obtain ⟨n, hn⟩ : ∃ n : Nat, n = b % 32 := ⟨_, rfl⟩
  have hnb : (b : Int) % 32 = (n : Int) := by omega
  have hn32 : n < 32 := by omega
  clear hn
  have n0 : (c == 0) = false := by rw [Bool.eq_false_iff]; simp; omega
  have n1 : (c == 1) = false := by rw [Bool.eq_false_iff]; simp; omega
  have n2 : (c == 2) = false := by rw [Bool.eq_false_iff]; simp; omega
  have n3 : (c == 3) = false := by rw [Bool.eq_false_iff]; simp; omega
  have n4 : (c == 4) = false := by rw [Bool.eq_false_iff]; simp; omega
  have n5 : (c == 5) = false := by rw [Bool.eq_false_iff]; simp; omega
  have n6 : (c == 6) = false := by rw [Bool.eq_false_iff]; simp; omega
  have n7 : (c == 7) = false := by rw [Bool.eq_false_iff]; simp; omega
  have n8 : (c == 8) = false := by rw [Bool.eq_false_iff]; simp; omega
  have n9 : (c == 9) = false := by rw [Bool.eq_false_iff]; simp; omega
  have n10 : (c == 10) = false := by rw [Bool.eq_false_iff]; simp; omega
  have n11 : (c == 11) = false := by rw [Bool.eq_false_iff]; simp; omega
  have n12 : (c == 12) = false := by rw [Bool.eq_false_iff]; simp; omega
  have n13 : (c == 13) = false := by rw [Bool.eq_false_iff]; simp; omega
  have n14 : (c == 14) = false := by rw [Bool.eq_false_iff]; simp; omega
  have n15 : (c == 15) = false := by rw [Bool.eq_false_iff]; simp; omega
  have n16 : (c == 16) = false := by rw [Bool.eq_false_iff]; simp; omega
  have n17 : (c == 17) = false := by rw [Bool.eq_false_iff]; simp; omega
  clear h
  go_enter Tryd.func21, Tryd.ntmps21
  go_wp2
  go_loop [9, 10] (fun pw i => ∃ k : Nat, k ≤ n ∧ i = .int .i64 k ∧ pw = .int .i64 (2 ^ k : Nat)) (fun _ i => n - (intOf i).toNat)
  case atStart => exact ⟨0, by omega, rfl, rfl⟩
  case round =>
    obtain ⟨k, hk, rfl, rfl⟩ := hrel
    by_cases hlt : k < n
    · have hp : 2 ^ (k + 1) = 2 * 2 ^ k := by rw [Nat.pow_succ]; omega
      have hb2 : 2 ^ k < 4294967296 := by rw [show (4294967296 : Nat) = 2 ^ 32 from rfl]; exact Nat.pow_lt_pow_right (by omega) (by omega)
      generalize 2 ^ k = q at *
      have LQ := Lib.hid hb2
      have HP := Lib.hid hp
      clear hb2 hp Wd Pt ha hb hnb
      go_wp2
      go_round
      case rel => exact ⟨k + 1, by omega, by go_num, by rw [HP.out]; exact i64v (by have := LQ.out; simp; unfold wrap64; omega)⟩
      case measure => simp [intOf]; omega
    · have hkn : k = n := by omega
      subst hkn
      generalize 2 ^ k = pw at *
      go_wp2_with (first | (go_at_call 49; refine (Wd.out _ _ _).mono ?_; rintro e w' ⟨rfl, rfl⟩) | (go_at_call 50; refine (Pt.out _ _).mono ?_; rintro e w' ⟨rfl, rfl⟩))
      go_ret2
      exact ⟨rfl, Below.refl _ _⟩
theorem do_both (c : Int) (a b : Nat) (ha : a < 4294967296) (hb : b < 4294967296) : ∃ (r : Int) (n : Int), (∀ w : World, Calls Tryd.prog 20 #[.int .i64 c, .int .u32 a, .int .u32 b] w fun e w' => e = .returned (.tuple #[.int .u32 r, errV n]) ∧ Below w.heap.size w w') ∧
    (∀ w : World, Calls Tryd.prog 21 #[.int .i64 c, .int .u32 a, .int .u32 b] w fun e w' => e = .returned (.tuple #[.int .u32 r, .int .i64 n]) ∧ Below w.heap.size w w') := by
  by_cases h : c < 0 ∨ 18 ≤ c
  · exact ⟨0, 1, fun w => pdo_no c h a b w, fun w => rdo_no c h a b ha hb w⟩
  · have h6 : c = 0 ∨ c = 1 ∨ c = 2 ∨ c = 3 ∨ c = 4 ∨ c = 5 ∨ c = 6 ∨ c = 7 ∨ c = 8 ∨ c = 9 ∨ c = 10 ∨ c = 11 ∨ c = 12 ∨ c = 13 ∨ c = 14 ∨ c = 15 ∨ c = 16 ∨ c = 17 := by omega
    rcases h6 with rfl | rfl | rfl | rfl | rfl | rfl | rfl | rfl | rfl | rfl | rfl | rfl | rfl | rfl | rfl | rfl | rfl | rfl
    · exact ⟨_, 0, fun w => pdo_0 a b ha hb w, fun w => rdo_0 a b ha hb w⟩
    · exact ⟨_, 0, fun w => pdo_1 a b ha hb w, fun w => rdo_1 a b ha hb w⟩
    · exact ⟨_, 0, fun w => pdo_2 a b ha hb w, fun w => rdo_2 a b ha hb w⟩
    · exact ⟨_, 0, fun w => pdo_3 a b ha hb w, fun w => rdo_3 a b ha hb w⟩
    · exact ⟨_, 0, fun w => pdo_4 a b ha hb w, fun w => rdo_4 a b ha hb w⟩
    · exact ⟨_, 0, fun w => pdo_5 a b ha hb w, fun w => rdo_5 a b ha hb w⟩
    · exact ⟨_, 0, fun w => pdo_6 a b ha hb w, fun w => rdo_6 a b ha hb w⟩
    · exact ⟨_, 0, fun w => pdo_7 a b ha hb w, fun w => rdo_7 a b ha hb w⟩
    · exact ⟨_, 0, fun w => pdo_8 a b ha hb w, fun w => rdo_8 a b ha hb w⟩
    · exact ⟨_, 0, fun w => pdo_9 a b ha hb w, fun w => rdo_9 a b ha hb w⟩
    · exact ⟨_, 0, fun w => pdo_10 a b ha hb w, fun w => rdo_10 a b ha hb w⟩
    · exact ⟨_, 0, fun w => pdo_11 a b ha hb w, fun w => rdo_11 a b ha hb w⟩
    · exact ⟨_, 0, fun w => pdo_12 a b ha hb w, fun w => rdo_12 a b ha hb w⟩
    · exact ⟨_, 0, fun w => pdo_13 a b ha hb w, fun w => rdo_13 a b ha hb w⟩
    · exact ⟨_, 0, fun w => pdo_14 a b ha hb w, fun w => rdo_14 a b ha hb w⟩
    · exact ⟨_, 0, fun w => pdo_15 a b ha hb w, fun w => rdo_15 a b ha hb w⟩
    · exact ⟨_, 0, fun w => pdo_16 a b ha hb w, fun w => rdo_16 a b ha hb w⟩
    · exact ⟨_, 0, fun w => pdo_17 a b ha hb w, fun w => rdo_17 a b ha hb w⟩
theorem aluDoes_walk (c : Int) (_l1 : -9223372036854775808 ≤ c) (_l2 : c < 9223372036854775808) (a : Nat) (ha : a < 4294967296) (b : Nat) (hb : b < 4294967296) (w : World) (hg : w.cell? ⟨1, 0, none⟩ = some errTy) :
    Calls Tryd.prog 6 #[.int .i64 c, .int .u32 a, .int .u32 b] w fun e w' => e = .returned (.bool true) ∧ Below w.heap.size w w' := by
  obtain ⟨r, n, hP, hR⟩ := do_both c a b ha hb
  have P := Lib.hid hP
  have R := Lib.hid hR
  have HG := Lib.hid hg
  have hlt : 1 < w.heap.size := block_lt_of_cell hg
  have N : Hid (∀ w : World, w.cell? ⟨1, 0, none⟩ = some errTy → Calls Tryd.prog 22 #[errV n] w fun e w' => e = .returned (.int .i64 n) ∧ Below w.heap.size w w') := Lib.hid (fun w h => num_any n w h)
  clear hP hR hg _l1 _l2 ha hb
  generalize errV n = e at P N
  go_enter Tryd.func6, Tryd.ntmps6
  go_wp2_with (first | (go_at_call 20; refine (P.out _).mono ?_; rintro e w1 ⟨rfl, hb1⟩) | (go_at_call 21; refine (R.out _).mono ?_; rintro e w2 ⟨rfl, hb2⟩; have b2 := Lib.hid (hb1.trans (hb2.mono hb1.size))) | (go_at_call 22; refine (N.out _ ((b2.out.cell (p := ⟨1, 0, none⟩) hlt).trans HG.out)).mono ?_; rintro e w3 ⟨rfl, hb3⟩) | (go_at_call 23; refine (sureA_any _).mono ?_; rintro e w4 ⟨rfl, k2, rfl⟩))
  go_ret
  exact ⟨rfl, below_drewN (b2.out.trans (hb3.mono b2.out.size)) _⟩

end Go.Proofs.YtgbpalclapcfeaaDoor
