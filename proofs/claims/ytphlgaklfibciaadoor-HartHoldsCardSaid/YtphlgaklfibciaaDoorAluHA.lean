import Derived.Test.YtphlgaklfibciaaDoorWordDB
import Derived.Test.YtphlgaklfibciaaDoorDoorK
import Derived.Below
import Derived.Deep.Draws
import Derived.Deep.AppendLies
import Derived.Maps.AppendAt
import Derived.OwnWalk
import Derived.Laws.BytesArg
import Derived.Laws.MakeOwn
import Derived.Laws.OwnMore
import Derived.Deep.OwnRows
import Derived.Tactics
import Derived.Lib.ConvBytes
import Derived.Laws.Slices
import Derived.WalkKit
import Derived.KernelRfl
import Derived.RowKit3
import Derived.Deep.LoopGhost
import Derived.Deep.QuietTactic
import Derived.BigQuiet
import Derived.WideLaws
import Derived.Deep.DeepCutAuto
import Derived.Deep.CutBlock
import Derived.Deep.RegionHeld3
import Derived.Laws.Rows
import Derived.Lib.AppendStr
import Derived.ArgAppend
import Derived.Laws.IdiomCopy
import Derived.OrdersHeld
import Derived.Laws.BitsLemmas
import Derived.RowKit
import Derived.Lib.Hide
import Derived.Laws.BitsAllLaws
import Derived.WalkLawsBesides
import Derived.WalkSpells
import Derived.LaidEql
namespace Go.Proofs.YtphlgaklfibciaaDoor
open Go.RowKit
set_option maxRecDepth 100000
set_option linter.unusedVariables false
set_option linter.unusedSimpArgs false

theorem ret1 {k : IntKind} {a b : Int} (h : a = b) : Ending.returned (.int k a) = .returned (.int k b) := by rw [h]
/-- the high and the low word of a product, with signs or without -/
def wideH (a b : Nat) (sa sb : Bool) : Int := ((a : Int) * b / 4294967296 - (if sa = true ∧ 2147483648 ≤ a then (b : Int) else 0) - (if sb = true ∧ 2147483648 ≤ b then (a : Int) else 0)) % 4294967296
def wideL (a b : Nat) : Int := (a : Int) * b % 4294967296
theorem sgn_and (a b : Nat) (ha : a < 4294967296) (hb : b < 4294967296) : Go.bits .and .u32 (wrap32 (a : Int) / 2147483648 % 4294967296) (b : Int) = if 2147483648 ≤ a then (b : Int) else 0 := by
  by_cases h : 2147483648 ≤ a
  · have e : wrap32 (a : Int) / 2147483648 % 4294967296 = ((4294967295 : Nat) : Int) := by unfold wrap32; omega
    rw [e, Go.u32_and_nat _ _ (by omega) hb, if_pos h, Nat.and_comm, show 4294967295 = 2 ^ 32 - 1 from rfl, Nat.and_two_pow_sub_one_eq_mod]
    omega
  · have e : wrap32 (a : Int) / 2147483648 % 4294967296 = ((0 : Nat) : Int) := by unfold wrap32; omega
    rw [e, Go.u32_and_nat _ _ (by omega) hb, if_neg h]; simp
theorem ret2 {a b c d : Int} (h1 : a = c) (h2 : b = d) : Ending.returned (.tuple #[.int .u32 a, .int .u32 b]) = .returned (.tuple #[.int .u32 c, .int .u32 d]) := by rw [h1, h2]
theorem mul_lt {a b : Nat} (ha : a < 4294967296) (hb : b < 4294967296) : (0 : Int) ≤ (a : Int) * b ∧ (a : Int) * b < 18446744073709551616 := by
  have h : a * b ≤ 4294967295 * 4294967295 := Nat.mul_le_mul (by omega) (by omega)
  have e : (a : Int) * b = ((a * b : Nat) : Int) := by simp
  rw [e]; omega
theorem wide_any (a b : Nat) (ha : a < 4294967296) (hb : b < 4294967296) (sa sb : Bool) (w : World) : Calls Tryd.prog 82 #[.int .u32 a, .int .u32 b, .bool sa, .bool sb] w fun e w' => e = .returned (.tuple #[.int .u32 (wideH a b sa sb), .int .u32 (wideL a b)]) ∧ w = w' := by
  have h1 := sgn_and a b ha hb
  have h2 := sgn_and b a hb ha
  have hm := mul_lt ha hb
  cases sa <;> cases sb
  all_goals
    go_enter Tryd.func82, Tryd.ntmps82
    go_wp2
    all_goals
      go_ret2
      exact ⟨ret2 (by unfold wideH; (repeat' split) <;> simp_all <;> omega) (by unfold wideL; omega), rfl⟩
theorem halves (a b : Nat) (ha : a < 4294967296) (hb : b < 4294967296) :
    let ah : Int := (a : Int) / 65536; let al : Int := (a : Int) % 65536; let bh : Int := (b : Int) / 65536; let bl : Int := (b : Int) % 65536
    (a : Int) * b = ah * bh * 4294967296 + (ah * bl + al * bh) * 65536 + al * bl ∧ 0 ≤ ah * bh ∧ ah * bh ≤ 4294836225 ∧ 0 ≤ ah * bl ∧ ah * bl ≤ 4294836225 ∧ 0 ≤ al * bh ∧ al * bh ≤ 4294836225 ∧ 0 ≤ al * bl ∧ al * bl ≤ 4294836225 := by
  have bd : ∀ x y : Int, 0 ≤ x → x ≤ 65535 → 0 ≤ y → y ≤ 65535 → 0 ≤ x * y ∧ x * y ≤ 4294836225 := by
    intro x y h1 h2 h3 h4
    exact ⟨Int.mul_nonneg h1 h3, by have := Int.mul_le_mul h2 h4 h3 (by omega : (0 : Int) ≤ 65535); omega⟩
  intro ah al bh bl
  have e1 : (a : Int) = ah * 65536 + al := by omega
  have e2 : (b : Int) = bh * 65536 + bl := by omega
  refine ⟨?_, (bd ah bh (by omega) (by omega) (by omega) (by omega)).1, (bd ah bh (by omega) (by omega) (by omega) (by omega)).2, (bd ah bl (by omega) (by omega) (by omega) (by omega)).1, (bd ah bl (by omega) (by omega) (by omega) (by omega)).2,
    (bd al bh (by omega) (by omega) (by omega) (by omega)).1, (bd al bh (by omega) (by omega) (by omega) (by omega)).2, (bd al bl (by omega) (by omega) (by omega) (by omega)).1, (bd al bl (by omega) (by omega) (by omega) (by omega)).2⟩
  generalize ah = p at *
  generalize al = q at *
  generalize bh = r at *
  generalize bl = s at *
  rw [e1, e2, Int.add_mul, Int.mul_add, Int.mul_add, Int.mul_assoc p 65536 (r * 65536), Int.mul_left_comm 65536 r 65536, ← Int.mul_assoc p r, Int.mul_assoc p 65536 s, Int.mul_comm 65536 s, ← Int.mul_assoc p s, ← Int.mul_assoc q r]
  omega
/-- a word with its sign, if so -/
def sgn (a : Nat) (s : Bool) : Int := if s = true ∧ 2147483648 ≤ a then (a : Int) - 4294967296 else a
def partsQ (a b : Nat) (s : Bool) : Int := if b = 0 then 4294967295 else Int.tdiv (sgn a s) (sgn b s) % 4294967296
def partsR (a b : Nat) (s : Bool) : Int := if b = 0 then (a : Int) else Int.tmod (sgn a s) (sgn b s) % 4294967296
theorem tdiv_bound (x y : Int) (hx : -4294967296 < x) (hx' : x < 4294967296) : -4294967296 < Int.tdiv x y ∧ Int.tdiv x y < 4294967296 := by
  have h1 := Int.natAbs_tdiv_le_natAbs x y
  omega
theorem w64_id {a : Int} (h0 : -9223372036854775808 ≤ a) (h1 : a < 9223372036854775808) : wrap64 a = a := by unfold wrap64; omega
theorem sgn_lt (a : Nat) (ha : a < 4294967296) (s : Bool) : -4294967296 < sgn a s ∧ sgn a s < 4294967296 ∧ (sgn a s = 0 ↔ a = 0) := by
  unfold sgn; split <;> omega
theorem sgn_w32 (a : Nat) (ha : a < 4294967296) : wrap32 (a : Int) = sgn a true := by
  unfold sgn wrap32; split <;> simp_all <;> omega
theorem sgn_no (a : Nat) : sgn a false = (a : Int) := by unfold sgn; simp

theorem parts_any (a b : Nat) (ha : a < 4294967296) (hb : b < 4294967296) (s : Bool) (w : World) : Calls Tryd.prog 83 #[.int .u32 a, .int .u32 b, .bool s] w fun e w' => e = .returned (.tuple #[.int .u32 (partsQ a b s), .int .u32 (partsR a b s)]) ∧ ∃ k, w.drewN k = w' := by
  obtain ⟨A, hA⟩ : ∃ A : Int, (a : Int) = A := ⟨_, rfl⟩
  obtain ⟨B, hB⟩ : ∃ B : Int, (b : Int) = B := ⟨_, rfl⟩
  obtain ⟨X, hX⟩ : ∃ X : Int, sgn a s = X := ⟨_, rfl⟩
  obtain ⟨Y, hY⟩ : ∃ Y : Int, sgn b s = Y := ⟨_, rfl⟩
  have bx := sgn_lt a ha s
  have by_ := sgn_lt b hb s
  rw [hX] at bx
  rw [hY] at by_
  have td := tdiv_bound X Y bx.1 bx.2.1
  have eQ : partsQ a b s = if b = 0 then 4294967295 else Int.tdiv X Y % 4294967296 := by unfold partsQ; rw [hX, hY]
  have eR : partsR a b s = if b = 0 then A else Int.tmod X Y % 4294967296 := by unfold partsR; rw [hX, hY, hA]
  have a0 : 0 ≤ A := by omega
  have a1 : A < 4294967296 := by omega
  have b0 : 0 ≤ B := by omega
  have b1 : B < 4294967296 := by omega
  have x0 := bx.1
  have x1 := bx.2.1
  have y0 := by_.1
  have y1 := by_.2.1
  have rX : s = true → wrap32 A = X := fun h => by rw [← hA, ← hX, h, sgn_w32 a ha]
  have rX' : s = false → A = X := fun h => by rw [← hA, ← hX, h, sgn_no]
  have rY : s = true → wrap32 B = Y := fun h => by rw [← hB, ← hY, h, sgn_w32 b hb]
  have rY' : s = false → B = Y := fun h => by rw [← hB, ← hY, h, sgn_no]
  have hb0 : B = 0 ↔ b = 0 := by omega
  have hy0 : Y = 0 ↔ b = 0 := by_.2.2
  rw [eQ, eR, hA, hB]
  clear eQ eR hA hB hX hY bx by_ ha hb
  by_cases hz : b = 0
  · have hyz := hy0.2 hz
    have hbz := hb0.2 hz
    simp only [if_pos hz]
    clear hy0 hb0 td hz
    subst hyz
    subst hbz
    cases s with
    | true =>
      have r1 := rX rfl
      have r2 := rY rfl
      clear rX rX' rY rY'
      go_enter Tryd.func83, Tryd.ntmps83
      go_wp2
      go_ret2
      exact ⟨rfl, 0, rfl⟩
    | false =>
      clear rX rX' rY rY'
      go_enter Tryd.func83, Tryd.ntmps83
      go_wp2
      go_ret2
      exact ⟨rfl, 0, rfl⟩
  · have hyz : (Y == 0) = false := by simp; omega
    have hyz' : Y ≠ 0 := fun h => hz (hy0.1 h)
    have eW : wrap64 (X.tdiv Y) % 4294967296 = X.tdiv Y % 4294967296 := by rw [w64_id (by omega) (by omega)]
    have EW := Lib.hid eW
    simp only [if_neg hz]
    clear eW hy0 hb0 td hz
    cases s with
    | true =>
      have r1 := rX rfl
      have r2 := rY rfl
      clear rX rX' rY rY'
      go_enter Tryd.func83, Tryd.ntmps83
      go_wp2
      go_quiet (fail)
      go_wp2
      go_ret2
      exact ⟨ret2 EW.out rfl, _, rfl⟩
    | false =>
      obtain rfl := rX' rfl
      obtain rfl := rY' rfl
      clear rX rX' rY rY'
      go_enter Tryd.func83, Tryd.ntmps83
      go_wp2
      go_quiet (fail)
      go_wp2
      go_ret2
      exact ⟨ret2 (by rw [Int.tdiv_eq_ediv_of_nonneg a0]) (by rw [Int.tmod_eq_emod_of_nonneg a0]), _, rfl⟩
/-- one of what holds -/
def oneI (b : Bool) : Int := if b = true then 1 else 0
theorem one_any (b : Bool) (w : World) : Calls Tryd.prog 89 #[.bool b] w fun e w' => e = .returned (.int .u32 (oneI b)) ∧ w = w' := by
  cases b
  all_goals
    go_enter Tryd.func89, Tryd.ntmps89
    go_wp2
    go_ret
    exact ⟨rfl, rfl⟩
theorem and31 {b : Nat} (hb : b < 4294967296) : Go.bits .and .u32 (b : Int) 31 = ((b % 32 : Nat) : Int) := by
  have h := Go.u32_and_nat b 31 hb (by omega)
  rw [show (31 : Nat) = 2 ^ 5 - 1 from rfl, Nat.and_two_pow_sub_one_eq_mod] at h
  exact h
theorem plain_0 (a b : Nat) (ha : a < 4294967296) (hb : b < 4294967296) (w : World) : Calls Tryd.prog 81 #[.int .i64 0, .int .u32 a, .int .u32 b] w fun e w' => e = .returned (.int .u32 (((a : Int) + b) % 4294967296)) ∧ w = w' := by
  go_enter Tryd.func81, Tryd.ntmps81
  go_wp2
  go_ret
  exact ⟨ret1 (by first | rfl | omega), rfl⟩
theorem plain_1 (a b : Nat) (ha : a < 4294967296) (hb : b < 4294967296) (w : World) : Calls Tryd.prog 81 #[.int .i64 1, .int .u32 a, .int .u32 b] w fun e w' => e = .returned (.int .u32 (((a : Int) - b) % 4294967296)) ∧ w = w' := by
  go_enter Tryd.func81, Tryd.ntmps81
  go_wp2
  go_ret
  exact ⟨ret1 (by first | rfl | omega), rfl⟩
theorem plain_2 (a b : Nat) (ha : a < 4294967296) (hb : b < 4294967296) (w : World) : Calls Tryd.prog 81 #[.int .i64 2, .int .u32 a, .int .u32 b] w fun e w' => e = .returned (.int .u32 ((a : Int) * 2 ^ (b % 32) % 4294967296)) ∧ w = w' := by
  obtain ⟨m, hm⟩ : ∃ m : Nat, m = b % 32 := ⟨_, rfl⟩
  have e1 : Go.bits .and .u32 (b : Int) 31 = (m : Int) := by rw [and31 hb, hm]
  have hm2 : m < 32 := by omega
  rw [← hm]
  clear hm
  go_enter Tryd.func81, Tryd.ntmps81
  go_wp2
  go_ret
  exact ⟨ret1 (by first | rfl | (simp; try omega)), rfl⟩
theorem plain_3 (a b : Nat) (ha : a < 4294967296) (hb : b < 4294967296) (w : World) : Calls Tryd.prog 81 #[.int .i64 3, .int .u32 a, .int .u32 b] w fun e w' => e = .returned (.int .u32 (oneI (decide (wrap32 (a : Int) < wrap32 (b : Int))))) ∧ w = w' := by
  go_enter Tryd.func81, Tryd.ntmps81
  go_wp2_with (go_at_call 89; refine (one_any _ _).mono ?_; rintro e w' ⟨rfl, rfl⟩)
  go_ret
  exact ⟨ret1 (by first | rfl | simp), rfl⟩
theorem plain_4 (a b : Nat) (ha : a < 4294967296) (hb : b < 4294967296) (w : World) : Calls Tryd.prog 81 #[.int .i64 4, .int .u32 a, .int .u32 b] w fun e w' => e = .returned (.int .u32 (oneI (decide ((a : Int) < b)))) ∧ w = w' := by
  go_enter Tryd.func81, Tryd.ntmps81
  go_wp2_with (go_at_call 89; refine (one_any _ _).mono ?_; rintro e w' ⟨rfl, rfl⟩)
  go_ret
  exact ⟨ret1 (by first | rfl | simp), rfl⟩
theorem plain_5 (a b : Nat) (ha : a < 4294967296) (hb : b < 4294967296) (w : World) : Calls Tryd.prog 81 #[.int .i64 5, .int .u32 a, .int .u32 b] w fun e w' => e = .returned (.int .u32 (((a ^^^ b : Nat) : Int))) ∧ w = w' := by
  have e1 := Go.u32_xor_nat a b ha hb
  go_enter Tryd.func81, Tryd.ntmps81
  go_wp2
  go_ret
  exact ⟨ret1 (by first | rfl | omega), rfl⟩
theorem plain_6 (a b : Nat) (ha : a < 4294967296) (hb : b < 4294967296) (w : World) : Calls Tryd.prog 81 #[.int .i64 6, .int .u32 a, .int .u32 b] w fun e w' => e = .returned (.int .u32 ((a : Int) / 2 ^ (b % 32))) ∧ w = w' := by
  obtain ⟨m, hm⟩ : ∃ m : Nat, m = b % 32 := ⟨_, rfl⟩
  have e1 : Go.bits .and .u32 (b : Int) 31 = (m : Int) := by rw [and31 hb, hm]
  have hm2 : m < 32 := by omega
  rw [← hm]
  clear hm
  go_enter Tryd.func81, Tryd.ntmps81
  go_wp2
  go_ret
  exact ⟨ret1 (by first | rfl | (simp; try omega)), rfl⟩
theorem plain_7 (a b : Nat) (ha : a < 4294967296) (hb : b < 4294967296) (w : World) : Calls Tryd.prog 81 #[.int .i64 7, .int .u32 a, .int .u32 b] w fun e w' => e = .returned (.int .u32 (wrap32 (a : Int) / 2 ^ (b % 32) % 4294967296)) ∧ w = w' := by
  obtain ⟨m, hm⟩ : ∃ m : Nat, m = b % 32 := ⟨_, rfl⟩
  have e1 : Go.bits .and .u32 (b : Int) 31 = (m : Int) := by rw [and31 hb, hm]
  have hm2 : m < 32 := by omega
  rw [← hm]
  clear hm
  go_enter Tryd.func81, Tryd.ntmps81
  go_wp2
  go_ret
  exact ⟨ret1 (by first | rfl | (simp; try omega)), rfl⟩
theorem plain_8 (a b : Nat) (ha : a < 4294967296) (hb : b < 4294967296) (w : World) : Calls Tryd.prog 81 #[.int .i64 8, .int .u32 a, .int .u32 b] w fun e w' => e = .returned (.int .u32 (((a ||| b : Nat) : Int))) ∧ w = w' := by
  have e1 := Go.u32_or_nat a b ha hb
  go_enter Tryd.func81, Tryd.ntmps81
  go_wp2
  go_ret
  exact ⟨ret1 (by first | rfl | omega), rfl⟩
theorem plain_9 (a b : Nat) (ha : a < 4294967296) (hb : b < 4294967296) (w : World) : Calls Tryd.prog 81 #[.int .i64 9, .int .u32 a, .int .u32 b] w fun e w' => e = .returned (.int .u32 (((a &&& b : Nat) : Int))) ∧ w = w' := by
  have e1 := Go.u32_and_nat a b ha hb
  go_enter Tryd.func81, Tryd.ntmps81
  go_wp2
  go_ret
  exact ⟨ret1 (by first | rfl | omega), rfl⟩
theorem pdo_0 (a b : Nat) (ha : a < 4294967296) (hb : b < 4294967296) (w : World) : Calls Tryd.prog 75 #[.int .i64 0, .int .u32 a, .int .u32 b] w fun e w' => e = .returned (.tuple #[.int .u32 (((a : Int) + b) % 4294967296), .nilIface]) ∧ Below w.heap.size w w' := by
  have P := Lib.hid (fun w => plain_0 a b ha hb w)
  obtain ⟨x, hx⟩ : ∃ x : Int, x = ((a : Int) + b) % 4294967296 := ⟨_, rfl⟩
  rw [← hx] at P ⊢
  clear hx ha hb
  go_enter Tryd.func75, Tryd.ntmps75
  go_wp2_with (go_at_call 81; refine (P.out _).mono ?_; rintro e w' ⟨rfl, rfl⟩)
  go_ret2
  exact ⟨rfl, Below.refl _ _⟩
theorem pdo_1 (a b : Nat) (ha : a < 4294967296) (hb : b < 4294967296) (w : World) : Calls Tryd.prog 75 #[.int .i64 1, .int .u32 a, .int .u32 b] w fun e w' => e = .returned (.tuple #[.int .u32 (((a : Int) - b) % 4294967296), .nilIface]) ∧ Below w.heap.size w w' := by
  have P := Lib.hid (fun w => plain_1 a b ha hb w)
  obtain ⟨x, hx⟩ : ∃ x : Int, x = ((a : Int) - b) % 4294967296 := ⟨_, rfl⟩
  rw [← hx] at P ⊢
  clear hx ha hb
  go_enter Tryd.func75, Tryd.ntmps75
  go_wp2_with (go_at_call 81; refine (P.out _).mono ?_; rintro e w' ⟨rfl, rfl⟩)
  go_ret2
  exact ⟨rfl, Below.refl _ _⟩
theorem pdo_2 (a b : Nat) (ha : a < 4294967296) (hb : b < 4294967296) (w : World) : Calls Tryd.prog 75 #[.int .i64 2, .int .u32 a, .int .u32 b] w fun e w' => e = .returned (.tuple #[.int .u32 ((a : Int) * 2 ^ (b % 32) % 4294967296), .nilIface]) ∧ Below w.heap.size w w' := by
  have P := Lib.hid (fun w => plain_2 a b ha hb w)
  obtain ⟨x, hx⟩ : ∃ x : Int, x = (a : Int) * 2 ^ (b % 32) % 4294967296 := ⟨_, rfl⟩
  rw [← hx] at P ⊢
  clear hx ha hb
  go_enter Tryd.func75, Tryd.ntmps75
  go_wp2_with (go_at_call 81; refine (P.out _).mono ?_; rintro e w' ⟨rfl, rfl⟩)
  go_ret2
  exact ⟨rfl, Below.refl _ _⟩
theorem pdo_3 (a b : Nat) (ha : a < 4294967296) (hb : b < 4294967296) (w : World) : Calls Tryd.prog 75 #[.int .i64 3, .int .u32 a, .int .u32 b] w fun e w' => e = .returned (.tuple #[.int .u32 (oneI (decide (wrap32 (a : Int) < wrap32 (b : Int)))), .nilIface]) ∧ Below w.heap.size w w' := by
  have P := Lib.hid (fun w => plain_3 a b ha hb w)
  obtain ⟨x, hx⟩ : ∃ x : Int, x = oneI (decide (wrap32 (a : Int) < wrap32 (b : Int))) := ⟨_, rfl⟩
  rw [← hx] at P ⊢
  clear hx ha hb
  go_enter Tryd.func75, Tryd.ntmps75
  go_wp2_with (go_at_call 81; refine (P.out _).mono ?_; rintro e w' ⟨rfl, rfl⟩)
  go_ret2
  exact ⟨rfl, Below.refl _ _⟩
theorem pdo_4 (a b : Nat) (ha : a < 4294967296) (hb : b < 4294967296) (w : World) : Calls Tryd.prog 75 #[.int .i64 4, .int .u32 a, .int .u32 b] w fun e w' => e = .returned (.tuple #[.int .u32 (oneI (decide ((a : Int) < b))), .nilIface]) ∧ Below w.heap.size w w' := by
  have P := Lib.hid (fun w => plain_4 a b ha hb w)
  obtain ⟨x, hx⟩ : ∃ x : Int, x = oneI (decide ((a : Int) < b)) := ⟨_, rfl⟩
  rw [← hx] at P ⊢
  clear hx ha hb
  go_enter Tryd.func75, Tryd.ntmps75
  go_wp2_with (go_at_call 81; refine (P.out _).mono ?_; rintro e w' ⟨rfl, rfl⟩)
  go_ret2
  exact ⟨rfl, Below.refl _ _⟩
theorem pdo_5 (a b : Nat) (ha : a < 4294967296) (hb : b < 4294967296) (w : World) : Calls Tryd.prog 75 #[.int .i64 5, .int .u32 a, .int .u32 b] w fun e w' => e = .returned (.tuple #[.int .u32 (((a ^^^ b : Nat) : Int)), .nilIface]) ∧ Below w.heap.size w w' := by
  have P := Lib.hid (fun w => plain_5 a b ha hb w)
  obtain ⟨x, hx⟩ : ∃ x : Int, x = ((a ^^^ b : Nat) : Int) := ⟨_, rfl⟩
  rw [← hx] at P ⊢
  clear hx ha hb
  go_enter Tryd.func75, Tryd.ntmps75
  go_wp2_with (go_at_call 81; refine (P.out _).mono ?_; rintro e w' ⟨rfl, rfl⟩)
  go_ret2
  exact ⟨rfl, Below.refl _ _⟩
theorem pdo_6 (a b : Nat) (ha : a < 4294967296) (hb : b < 4294967296) (w : World) : Calls Tryd.prog 75 #[.int .i64 6, .int .u32 a, .int .u32 b] w fun e w' => e = .returned (.tuple #[.int .u32 ((a : Int) / 2 ^ (b % 32)), .nilIface]) ∧ Below w.heap.size w w' := by
  have P := Lib.hid (fun w => plain_6 a b ha hb w)
  obtain ⟨x, hx⟩ : ∃ x : Int, x = (a : Int) / 2 ^ (b % 32) := ⟨_, rfl⟩
  rw [← hx] at P ⊢
  clear hx ha hb
  go_enter Tryd.func75, Tryd.ntmps75
  go_wp2_with (go_at_call 81; refine (P.out _).mono ?_; rintro e w' ⟨rfl, rfl⟩)
  go_ret2
  exact ⟨rfl, Below.refl _ _⟩
theorem pdo_7 (a b : Nat) (ha : a < 4294967296) (hb : b < 4294967296) (w : World) : Calls Tryd.prog 75 #[.int .i64 7, .int .u32 a, .int .u32 b] w fun e w' => e = .returned (.tuple #[.int .u32 (wrap32 (a : Int) / 2 ^ (b % 32) % 4294967296), .nilIface]) ∧ Below w.heap.size w w' := by
  have P := Lib.hid (fun w => plain_7 a b ha hb w)
  obtain ⟨x, hx⟩ : ∃ x : Int, x = wrap32 (a : Int) / 2 ^ (b % 32) % 4294967296 := ⟨_, rfl⟩
  rw [← hx] at P ⊢
  clear hx ha hb
  go_enter Tryd.func75, Tryd.ntmps75
  go_wp2_with (go_at_call 81; refine (P.out _).mono ?_; rintro e w' ⟨rfl, rfl⟩)
  go_ret2
  exact ⟨rfl, Below.refl _ _⟩
theorem pdo_8 (a b : Nat) (ha : a < 4294967296) (hb : b < 4294967296) (w : World) : Calls Tryd.prog 75 #[.int .i64 8, .int .u32 a, .int .u32 b] w fun e w' => e = .returned (.tuple #[.int .u32 (((a ||| b : Nat) : Int)), .nilIface]) ∧ Below w.heap.size w w' := by
  have P := Lib.hid (fun w => plain_8 a b ha hb w)
  obtain ⟨x, hx⟩ : ∃ x : Int, x = ((a ||| b : Nat) : Int) := ⟨_, rfl⟩
  rw [← hx] at P ⊢
  clear hx ha hb
  go_enter Tryd.func75, Tryd.ntmps75
  go_wp2_with (go_at_call 81; refine (P.out _).mono ?_; rintro e w' ⟨rfl, rfl⟩)
  go_ret2
  exact ⟨rfl, Below.refl _ _⟩
theorem pdo_9 (a b : Nat) (ha : a < 4294967296) (hb : b < 4294967296) (w : World) : Calls Tryd.prog 75 #[.int .i64 9, .int .u32 a, .int .u32 b] w fun e w' => e = .returned (.tuple #[.int .u32 (((a &&& b : Nat) : Int)), .nilIface]) ∧ Below w.heap.size w w' := by
  have P := Lib.hid (fun w => plain_9 a b ha hb w)
  obtain ⟨x, hx⟩ : ∃ x : Int, x = ((a &&& b : Nat) : Int) := ⟨_, rfl⟩
  rw [← hx] at P ⊢
  clear hx ha hb
  go_enter Tryd.func75, Tryd.ntmps75
  go_wp2_with (go_at_call 81; refine (P.out _).mono ?_; rintro e w' ⟨rfl, rfl⟩)
  go_ret2
  exact ⟨rfl, Below.refl _ _⟩
theorem pdo_10 (a b : Nat) (ha : a < 4294967296) (hb : b < 4294967296) (w : World) : Calls Tryd.prog 75 #[.int .i64 10, .int .u32 a, .int .u32 b] w fun e w' => e = .returned (.tuple #[.int .u32 (wideL a b), .nilIface]) ∧ Below w.heap.size w w' := by
  have Wd := Lib.hid (fun x y w => wide_any a b ha hb x y w)
  have Pt := Lib.hid (fun x w => parts_any a b ha hb x w)
  clear ha hb
  go_enter Tryd.func75, Tryd.ntmps75
  go_wp2_with (first | (go_at_call 82; refine (Wd.out _ _ _).mono ?_; rintro e w' ⟨rfl, rfl⟩) | (go_at_call 83; refine (Pt.out _ _).mono ?_; rintro e w' ⟨rfl, k, rfl⟩))
  go_ret2
  exact ⟨rfl, below_drewN (Below.refl _ _) _⟩
theorem pdo_11 (a b : Nat) (ha : a < 4294967296) (hb : b < 4294967296) (w : World) : Calls Tryd.prog 75 #[.int .i64 11, .int .u32 a, .int .u32 b] w fun e w' => e = .returned (.tuple #[.int .u32 (wideH a b true true), .nilIface]) ∧ Below w.heap.size w w' := by
  have Wd := Lib.hid (fun x y w => wide_any a b ha hb x y w)
  have Pt := Lib.hid (fun x w => parts_any a b ha hb x w)
  clear ha hb
  go_enter Tryd.func75, Tryd.ntmps75
  go_wp2_with (first | (go_at_call 82; refine (Wd.out _ _ _).mono ?_; rintro e w' ⟨rfl, rfl⟩) | (go_at_call 83; refine (Pt.out _ _).mono ?_; rintro e w' ⟨rfl, k, rfl⟩))
  go_ret2
  exact ⟨rfl, below_drewN (Below.refl _ _) _⟩
theorem pdo_12 (a b : Nat) (ha : a < 4294967296) (hb : b < 4294967296) (w : World) : Calls Tryd.prog 75 #[.int .i64 12, .int .u32 a, .int .u32 b] w fun e w' => e = .returned (.tuple #[.int .u32 (wideH a b true false), .nilIface]) ∧ Below w.heap.size w w' := by
  have Wd := Lib.hid (fun x y w => wide_any a b ha hb x y w)
  have Pt := Lib.hid (fun x w => parts_any a b ha hb x w)
  clear ha hb
  go_enter Tryd.func75, Tryd.ntmps75
  go_wp2_with (first | (go_at_call 82; refine (Wd.out _ _ _).mono ?_; rintro e w' ⟨rfl, rfl⟩) | (go_at_call 83; refine (Pt.out _ _).mono ?_; rintro e w' ⟨rfl, k, rfl⟩))
  go_ret2
  exact ⟨rfl, below_drewN (Below.refl _ _) _⟩
theorem pdo_13 (a b : Nat) (ha : a < 4294967296) (hb : b < 4294967296) (w : World) : Calls Tryd.prog 75 #[.int .i64 13, .int .u32 a, .int .u32 b] w fun e w' => e = .returned (.tuple #[.int .u32 (wideH a b false false), .nilIface]) ∧ Below w.heap.size w w' := by
  have Wd := Lib.hid (fun x y w => wide_any a b ha hb x y w)
  have Pt := Lib.hid (fun x w => parts_any a b ha hb x w)
  clear ha hb
  go_enter Tryd.func75, Tryd.ntmps75
  go_wp2_with (first | (go_at_call 82; refine (Wd.out _ _ _).mono ?_; rintro e w' ⟨rfl, rfl⟩) | (go_at_call 83; refine (Pt.out _ _).mono ?_; rintro e w' ⟨rfl, k, rfl⟩))
  go_ret2
  exact ⟨rfl, below_drewN (Below.refl _ _) _⟩
theorem pdo_14 (a b : Nat) (ha : a < 4294967296) (hb : b < 4294967296) (w : World) : Calls Tryd.prog 75 #[.int .i64 14, .int .u32 a, .int .u32 b] w fun e w' => e = .returned (.tuple #[.int .u32 (partsQ a b true), .nilIface]) ∧ Below w.heap.size w w' := by
  have Wd := Lib.hid (fun x y w => wide_any a b ha hb x y w)
  have Pt := Lib.hid (fun x w => parts_any a b ha hb x w)
  clear ha hb
  go_enter Tryd.func75, Tryd.ntmps75
  go_wp2_with (first | (go_at_call 82; refine (Wd.out _ _ _).mono ?_; rintro e w' ⟨rfl, rfl⟩) | (go_at_call 83; refine (Pt.out _ _).mono ?_; rintro e w' ⟨rfl, k, rfl⟩))
  go_ret2
  exact ⟨rfl, below_drewN (Below.refl _ _) _⟩
theorem pdo_15 (a b : Nat) (ha : a < 4294967296) (hb : b < 4294967296) (w : World) : Calls Tryd.prog 75 #[.int .i64 15, .int .u32 a, .int .u32 b] w fun e w' => e = .returned (.tuple #[.int .u32 (partsQ a b false), .nilIface]) ∧ Below w.heap.size w w' := by
  have Wd := Lib.hid (fun x y w => wide_any a b ha hb x y w)
  have Pt := Lib.hid (fun x w => parts_any a b ha hb x w)
  clear ha hb
  go_enter Tryd.func75, Tryd.ntmps75
  go_wp2_with (first | (go_at_call 82; refine (Wd.out _ _ _).mono ?_; rintro e w' ⟨rfl, rfl⟩) | (go_at_call 83; refine (Pt.out _ _).mono ?_; rintro e w' ⟨rfl, k, rfl⟩))
  go_ret2
  exact ⟨rfl, below_drewN (Below.refl _ _) _⟩
theorem pdo_16 (a b : Nat) (ha : a < 4294967296) (hb : b < 4294967296) (w : World) : Calls Tryd.prog 75 #[.int .i64 16, .int .u32 a, .int .u32 b] w fun e w' => e = .returned (.tuple #[.int .u32 (partsR a b true), .nilIface]) ∧ Below w.heap.size w w' := by
  have Wd := Lib.hid (fun x y w => wide_any a b ha hb x y w)
  have Pt := Lib.hid (fun x w => parts_any a b ha hb x w)
  clear ha hb
  go_enter Tryd.func75, Tryd.ntmps75
  go_wp2_with (first | (go_at_call 82; refine (Wd.out _ _ _).mono ?_; rintro e w' ⟨rfl, rfl⟩) | (go_at_call 83; refine (Pt.out _ _).mono ?_; rintro e w' ⟨rfl, k, rfl⟩))
  go_ret2
  exact ⟨rfl, below_drewN (Below.refl _ _) _⟩
theorem pdo_17 (a b : Nat) (ha : a < 4294967296) (hb : b < 4294967296) (w : World) : Calls Tryd.prog 75 #[.int .i64 17, .int .u32 a, .int .u32 b] w fun e w' => e = .returned (.tuple #[.int .u32 (partsR a b false), .nilIface]) ∧ Below w.heap.size w w' := by
  have Wd := Lib.hid (fun x y w => wide_any a b ha hb x y w)
  have Pt := Lib.hid (fun x w => parts_any a b ha hb x w)
  clear ha hb
  go_enter Tryd.func75, Tryd.ntmps75
  go_wp2_with (first | (go_at_call 82; refine (Wd.out _ _ _).mono ?_; rintro e w' ⟨rfl, rfl⟩) | (go_at_call 83; refine (Pt.out _ _).mono ?_; rintro e w' ⟨rfl, k, rfl⟩))
  go_ret2
  exact ⟨rfl, below_drewN (Below.refl _ _) _⟩
theorem pdo_no (c : Int) (h : c < 0 ∨ 18 ≤ c) (a b : Nat) (w : World) : Calls Tryd.prog 75 #[.int .i64 c, .int .u32 a, .int .u32 b] w fun e w' => e = .returned (.tuple #[.int .u32 0, errV 1]) ∧ Below w.heap.size w w' := by
  have hE : errV 1 = .iface 64 (.int .i64 1) := rfl
  rw [hE]
  clear hE
  by_cases h1 : c < 0
  · clear h
    go_enter Tryd.func75, Tryd.ntmps75
    go_wp2
    go_ret2
    exact ⟨rfl, Below.refl _ _⟩
  · have h2 : 18 ≤ c := by omega
    clear h
    go_enter Tryd.func75, Tryd.ntmps75
    go_wp2
    go_ret2
    exact ⟨rfl, Below.refl _ _⟩
/-- whether a condition holds -/
def holdsB (c : Int) (a b : Nat) : Bool :=
  if c = 0 then decide (a = b) else if c = 1 then !decide (a = b) else if c = 2 then decide (wrap32 (a : Int) < wrap32 (b : Int)) else if c = 3 then !decide (wrap32 (a : Int) < wrap32 (b : Int)) else if c = 4 then decide (a < b) else !decide (a < b)
theorem retB {x y : Bool} {e : Value} (h : x = y) : Ending.returned (.tuple #[.bool x, e]) = .returned (.tuple #[.bool y, e]) := by rw [h]
theorem pholds_0 (a b : Nat) (w : World) : Calls Tryd.prog 74 #[.int .i64 0, .int .u32 a, .int .u32 b] w fun e w' => e = .returned (.tuple #[.bool (holdsB 0 a b), errV 0]) ∧ w = w' := by
  go_enter Tryd.func74, Tryd.ntmps74
  go_wp2
  go_ret2
  exact ⟨retB (by rw [Bool.eq_iff_iff]; simp [holdsB]; try omega), rfl⟩
theorem pholds_1 (a b : Nat) (w : World) : Calls Tryd.prog 74 #[.int .i64 1, .int .u32 a, .int .u32 b] w fun e w' => e = .returned (.tuple #[.bool (holdsB 1 a b), errV 0]) ∧ w = w' := by
  go_enter Tryd.func74, Tryd.ntmps74
  go_wp2
  go_ret2
  exact ⟨retB (by rw [Bool.eq_iff_iff]; simp [holdsB]; try omega), rfl⟩
theorem pholds_2 (a b : Nat) (w : World) : Calls Tryd.prog 74 #[.int .i64 2, .int .u32 a, .int .u32 b] w fun e w' => e = .returned (.tuple #[.bool (holdsB 2 a b), errV 0]) ∧ w = w' := by
  go_enter Tryd.func74, Tryd.ntmps74
  go_wp2
  go_ret2
  exact ⟨retB (by rw [Bool.eq_iff_iff]; simp [holdsB]; try omega), rfl⟩
theorem pholds_3 (a b : Nat) (w : World) : Calls Tryd.prog 74 #[.int .i64 3, .int .u32 a, .int .u32 b] w fun e w' => e = .returned (.tuple #[.bool (holdsB 3 a b), errV 0]) ∧ w = w' := by
  go_enter Tryd.func74, Tryd.ntmps74
  go_wp2
  go_ret2
  exact ⟨retB (by rw [Bool.eq_iff_iff]; simp [holdsB]; try omega), rfl⟩
theorem pholds_4 (a b : Nat) (w : World) : Calls Tryd.prog 74 #[.int .i64 4, .int .u32 a, .int .u32 b] w fun e w' => e = .returned (.tuple #[.bool (holdsB 4 a b), errV 0]) ∧ w = w' := by
  go_enter Tryd.func74, Tryd.ntmps74
  go_wp2
  go_ret2
  exact ⟨retB (by rw [Bool.eq_iff_iff]; simp [holdsB]; try omega), rfl⟩
theorem pholds_5 (a b : Nat) (w : World) : Calls Tryd.prog 74 #[.int .i64 5, .int .u32 a, .int .u32 b] w fun e w' => e = .returned (.tuple #[.bool (holdsB 5 a b), errV 0]) ∧ w = w' := by
  go_enter Tryd.func74, Tryd.ntmps74
  go_wp2
  go_ret2
  exact ⟨retB (by rw [Bool.eq_iff_iff]; simp [holdsB]; try omega), rfl⟩
theorem pholds_no (c : Int) (h : c < 0 ∨ 6 ≤ c) (a b : Nat) (w : World) : Calls Tryd.prog 74 #[.int .i64 c, .int .u32 a, .int .u32 b] w fun e w' => e = .returned (.tuple #[.bool false, errV 1]) ∧ w = w' := by
  have hE : errV 1 = .iface 64 (.int .i64 1) := rfl
  rw [hE]
  clear hE
  by_cases h1 : c < 0
  · clear h
    go_enter Tryd.func74, Tryd.ntmps74
    go_wp2
    go_ret2
    exact ⟨rfl, rfl⟩
  · have h2 : 6 ≤ c := by omega
    clear h
    go_enter Tryd.func74, Tryd.ntmps74
    go_wp2
    go_ret2
    exact ⟨rfl, rfl⟩

end Go.Proofs.YtphlgaklfibciaaDoor
