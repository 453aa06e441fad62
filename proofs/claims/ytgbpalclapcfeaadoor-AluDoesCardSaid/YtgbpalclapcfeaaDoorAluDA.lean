import Derived.Test.YtgbpalclapcfeaaDoorProg
import Derived.Below
import Derived.Deep.Draws
import Derived.Deep.AppendLies
import Derived.Maps.AppendAt
import Derived.OwnWalk
import Derived.Laws.BytesArg
import Derived.Laws.MakeOwn
import Derived.Laws.OwnMore
import Derived.Deep.OwnRows
import Derived.Tactics
import Derived.Lib.ConvBytes
import Derived.Laws.Slices
import Derived.WalkKit
import Derived.KernelRfl
import Derived.RowKit3
import Derived.Deep.LoopGhost
import Derived.Deep.QuietTactic
import Derived.BigQuiet
import Derived.WideLaws
import Derived.Deep.DeepCutAuto
import Derived.Deep.CutBlock
import Derived.Deep.RegionHeld3
import Derived.Laws.Rows
import Derived.Lib.AppendStr
import Derived.ArgAppend
import Derived.Laws.IdiomCopy
import Derived.OrdersHeld
import Derived.Laws.BitsLemmas
import Derived.RowKit
import Derived.Lib.Hide
import Derived.Laws.BitsAllLaws
import Derived.WalkLawsBesides
import Derived.WalkSpells
import Derived.LaidEql
namespace Go.Proofs.YtgbpalclapcfeaaDoor
open Go.RowKit
set_option maxRecDepth 100000
set_option linter.unusedVariables false
set_option linter.unusedSimpArgs false

/-- the high and the low word of a product, with signs or without -/
def wideH (a b : Nat) (sa sb : Bool) : Int := ((a : Int) * b / 4294967296 - (if sa = true ∧ 2147483648 ≤ a then (b : Int) else 0) - (if sb = true ∧ 2147483648 ≤ b then (a : Int) else 0)) % 4294967296
def wideL (a b : Nat) : Int := (a : Int) * b % 4294967296
theorem sgn_and (a b : Nat) (ha : a < 4294967296) (hb : b < 4294967296) : Go.bits .and .u32 (wrap32 (a : Int) / 2147483648 % 4294967296) (b : Int) = if 2147483648 ≤ a then (b : Int) else 0 := by
  by_cases h : 2147483648 ≤ a
  · have e : wrap32 (a : Int) / 2147483648 % 4294967296 = ((4294967295 : Nat) : Int) := by unfold wrap32; omega
    rw [e, Go.u32_and_nat _ _ (by omega) hb, if_pos h, Nat.and_comm, show 4294967295 = 2 ^ 32 - 1 from rfl, Nat.and_two_pow_sub_one_eq_mod]
    omega
  · have e : wrap32 (a : Int) / 2147483648 % 4294967296 = ((0 : Nat) : Int) := by unfold wrap32; omega
    rw [e, Go.u32_and_nat _ _ (by omega) hb, if_neg h]; simp
theorem ret2 {a b c d : Int} (h1 : a = c) (h2 : b = d) : Ending.returned (.tuple #[.int .u32 a, .int .u32 b]) = .returned (.tuple #[.int .u32 c, .int .u32 d]) := by rw [h1, h2]
theorem mul_lt {a b : Nat} (ha : a < 4294967296) (hb : b < 4294967296) : (0 : Int) ≤ (a : Int) * b ∧ (a : Int) * b < 18446744073709551616 := by
  have h : a * b ≤ 4294967295 * 4294967295 := Nat.mul_le_mul (by omega) (by omega)
  have e : (a : Int) * b = ((a * b : Nat) : Int) := by simp
  rw [e]; omega
theorem wide_any (a b : Nat) (ha : a < 4294967296) (hb : b < 4294967296) (sa sb : Bool) (w : World) : Calls Tryd.prog 47 #[.int .u32 a, .int .u32 b, .bool sa, .bool sb] w fun e w' => e = .returned (.tuple #[.int .u32 (wideH a b sa sb), .int .u32 (wideL a b)]) ∧ w = w' := by
  have h1 := sgn_and a b ha hb
  have h2 := sgn_and b a hb ha
  have hm := mul_lt ha hb
  cases sa <;> cases sb
  all_goals
    go_enter Tryd.func47, Tryd.ntmps47
    go_wp2
    all_goals
      go_ret2
      exact ⟨ret2 (by unfold wideH; (repeat' split) <;> simp_all <;> omega) (by unfold wideL; omega), rfl⟩
theorem halves (a b : Nat) (ha : a < 4294967296) (hb : b < 4294967296) :
    let ah : Int := (a : Int) / 65536; let al : Int := (a : Int) % 65536; let bh : Int := (b : Int) / 65536; let bl : Int := (b : Int) % 65536
    (a : Int) * b = ah * bh * 4294967296 + (ah * bl + al * bh) * 65536 + al * bl ∧ 0 ≤ ah * bh ∧ ah * bh ≤ 4294836225 ∧ 0 ≤ ah * bl ∧ ah * bl ≤ 4294836225 ∧ 0 ≤ al * bh ∧ al * bh ≤ 4294836225 ∧ 0 ≤ al * bl ∧ al * bl ≤ 4294836225 := by
  have bd : ∀ x y : Int, 0 ≤ x → x ≤ 65535 → 0 ≤ y → y ≤ 65535 → 0 ≤ x * y ∧ x * y ≤ 4294836225 := by
    intro x y h1 h2 h3 h4
    exact ⟨Int.mul_nonneg h1 h3, by have := Int.mul_le_mul h2 h4 h3 (by omega : (0 : Int) ≤ 65535); omega⟩
  intro ah al bh bl
  have e1 : (a : Int) = ah * 65536 + al := by omega
  have e2 : (b : Int) = bh * 65536 + bl := by omega
  refine ⟨?_, (bd ah bh (by omega) (by omega) (by omega) (by omega)).1, (bd ah bh (by omega) (by omega) (by omega) (by omega)).2, (bd ah bl (by omega) (by omega) (by omega) (by omega)).1, (bd ah bl (by omega) (by omega) (by omega) (by omega)).2,
    (bd al bh (by omega) (by omega) (by omega) (by omega)).1, (bd al bh (by omega) (by omega) (by omega) (by omega)).2, (bd al bl (by omega) (by omega) (by omega) (by omega)).1, (bd al bl (by omega) (by omega) (by omega) (by omega)).2⟩
  generalize ah = p at *
  generalize al = q at *
  generalize bh = r at *
  generalize bl = s at *
  rw [e1, e2, Int.add_mul, Int.mul_add, Int.mul_add, Int.mul_assoc p 65536 (r * 65536), Int.mul_left_comm 65536 r 65536, ← Int.mul_assoc p r, Int.mul_assoc p 65536 s, Int.mul_comm 65536 s, ← Int.mul_assoc p s, ← Int.mul_assoc q r]
  omega
theorem wide_ref (a b : Nat) (ha : a < 4294967296) (hb : b < 4294967296) (sa sb : Bool) (w : World) : Calls Tryd.prog 49 #[.int .u32 a, .int .u32 b, .bool sa, .bool sb] w fun e w' => e = .returned (.tuple #[.int .u32 (wideH a b sa sb), .int .u32 (wideL a b)]) ∧ w = w' := by
  have h := halves a b ha hb
  obtain ⟨p, hp⟩ : ∃ p : Int, (a : Int) / 65536 = p := ⟨_, rfl⟩
  obtain ⟨q, hq⟩ : ∃ q : Int, (a : Int) % 65536 = q := ⟨_, rfl⟩
  obtain ⟨r, hr⟩ : ∃ r : Int, (b : Int) / 65536 = r := ⟨_, rfl⟩
  obtain ⟨s, hs⟩ : ∃ s : Int, (b : Int) % 65536 = s := ⟨_, rfl⟩
  simp only [hp, hq, hr, hs] at h
  obtain ⟨h0, h1, h2, h3, h4, h5, h6, h7, h8⟩ := h
  have p0 : 0 ≤ p := by omega
  have p1 : p ≤ 65535 := by omega
  have q0 : 0 ≤ q := by omega
  have q1 : q ≤ 65535 := by omega
  have r0 : 0 ≤ r := by omega
  have r1 : r ≤ 65535 := by omega
  have s0 : 0 ≤ s := by omega
  have s1 : s ≤ 65535 := by omega
  have hfin : ∀ x y : Int, x = wideH a b sa sb → y = wideL a b → Ending.returned (.tuple #[.int .u32 x, .int .u32 y]) = .returned (.tuple #[.int .u32 (wideH a b sa sb), .int .u32 (wideL a b)]) := fun x y h1 h2 => ret2 h1 h2
  have H0 := Lib.hid h0
  obtain ⟨A, hA⟩ : ∃ A : Int, (a : Int) = A := ⟨_, rfl⟩
  obtain ⟨B, hB⟩ : ∃ B : Int, (b : Int) = B := ⟨_, rfl⟩
  have a0 : 0 ≤ A := by omega
  have a1 : A < 4294967296 := by omega
  have b0 : 0 ≤ B := by omega
  have b1 : B < 4294967296 := by omega
  have HA := Lib.hid hA
  have HB := Lib.hid hB
  rw [hA] at hp hq
  rw [hB] at hr hs
  rw [hA, hB]
  clear h0 hA hB ha hb hfin
  obtain ⟨R, hR⟩ : ∃ R, (wideH a b sa sb, wideL a b) = R := ⟨_, rfl⟩
  have e1 : wideH a b sa sb = R.1 := by rw [← hR]
  have e2 : wideL a b = R.2 := by rw [← hR]
  rw [e1, e2]
  have E1 := Lib.hid e1
  have E2 := Lib.hid e2
  clear hR e1 e2
  cases sa <;> cases sb
  all_goals
    go_enter Tryd.func49, Tryd.ntmps49
    go_wp2
    all_goals
      go_ret2
      have h0 := H0.out
      have hA := HA.out
      have hB := HB.out
      rw [hA, hB] at h0
      refine ⟨ret2 ?_ ?_, rfl⟩
      · rw [← E1.out]; unfold wideH; rw [hA, hB]; (repeat' split) <;> (try simp_all) <;> omega
      · rw [← E2.out]; unfold wideL; rw [hA, hB]; omega

/-- a word with its sign, if so -/
def sgn (a : Nat) (s : Bool) : Int := if s = true ∧ 2147483648 ≤ a then (a : Int) - 4294967296 else a
def partsQ (a b : Nat) (s : Bool) : Int := if b = 0 then 4294967295 else Int.tdiv (sgn a s) (sgn b s) % 4294967296
def partsR (a b : Nat) (s : Bool) : Int := if b = 0 then (a : Int) else Int.tmod (sgn a s) (sgn b s) % 4294967296
theorem tdiv_bound (x y : Int) (hx : -4294967296 < x) (hx' : x < 4294967296) : -4294967296 < Int.tdiv x y ∧ Int.tdiv x y < 4294967296 := by
  have h1 := Int.natAbs_tdiv_le_natAbs x y
  omega
theorem w64_id {a : Int} (h0 : -9223372036854775808 ≤ a) (h1 : a < 9223372036854775808) : wrap64 a = a := by unfold wrap64; omega
theorem sgn_lt (a : Nat) (ha : a < 4294967296) (s : Bool) : -4294967296 < sgn a s ∧ sgn a s < 4294967296 ∧ (sgn a s = 0 ↔ a = 0) := by
  unfold sgn; split <;> omega
theorem sgn_w32 (a : Nat) (ha : a < 4294967296) : wrap32 (a : Int) = sgn a true := by
  unfold sgn wrap32; split <;> simp_all <;> omega
theorem sgn_no (a : Nat) : sgn a false = (a : Int) := by unfold sgn; simp

theorem parts_any (a b : Nat) (ha : a < 4294967296) (hb : b < 4294967296) (s : Bool) (w : World) : Calls Tryd.prog 48 #[.int .u32 a, .int .u32 b, .bool s] w fun e w' => e = .returned (.tuple #[.int .u32 (partsQ a b s), .int .u32 (partsR a b s)]) ∧ ∃ k, w.drewN k = w' := by
  obtain ⟨A, hA⟩ : ∃ A : Int, (a : Int) = A := ⟨_, rfl⟩
  obtain ⟨B, hB⟩ : ∃ B : Int, (b : Int) = B := ⟨_, rfl⟩
  obtain ⟨X, hX⟩ : ∃ X : Int, sgn a s = X := ⟨_, rfl⟩
  obtain ⟨Y, hY⟩ : ∃ Y : Int, sgn b s = Y := ⟨_, rfl⟩
  have bx := sgn_lt a ha s
  have by_ := sgn_lt b hb s
  rw [hX] at bx
  rw [hY] at by_
  have td := tdiv_bound X Y bx.1 bx.2.1
  have eQ : partsQ a b s = if b = 0 then 4294967295 else Int.tdiv X Y % 4294967296 := by unfold partsQ; rw [hX, hY]
  have eR : partsR a b s = if b = 0 then A else Int.tmod X Y % 4294967296 := by unfold partsR; rw [hX, hY, hA]
  have a0 : 0 ≤ A := by omega
  have a1 : A < 4294967296 := by omega
  have b0 : 0 ≤ B := by omega
  have b1 : B < 4294967296 := by omega
  have x0 := bx.1
  have x1 := bx.2.1
  have y0 := by_.1
  have y1 := by_.2.1
  have rX : s = true → wrap32 A = X := fun h => by rw [← hA, ← hX, h, sgn_w32 a ha]
  have rX' : s = false → A = X := fun h => by rw [← hA, ← hX, h, sgn_no]
  have rY : s = true → wrap32 B = Y := fun h => by rw [← hB, ← hY, h, sgn_w32 b hb]
  have rY' : s = false → B = Y := fun h => by rw [← hB, ← hY, h, sgn_no]
  have hb0 : B = 0 ↔ b = 0 := by omega
  have hy0 : Y = 0 ↔ b = 0 := by_.2.2
  rw [eQ, eR, hA, hB]
  clear eQ eR hA hB hX hY bx by_ ha hb
  by_cases hz : b = 0
  · have hyz := hy0.2 hz
    have hbz := hb0.2 hz
    simp only [if_pos hz]
    clear hy0 hb0 td hz
    subst hyz
    subst hbz
    cases s with
    | true =>
      have r1 := rX rfl
      have r2 := rY rfl
      clear rX rX' rY rY'
      go_enter Tryd.func48, Tryd.ntmps48
      go_wp2
      go_ret2
      exact ⟨rfl, 0, rfl⟩
    | false =>
      clear rX rX' rY rY'
      go_enter Tryd.func48, Tryd.ntmps48
      go_wp2
      go_ret2
      exact ⟨rfl, 0, rfl⟩
  · have hyz : (Y == 0) = false := by simp; omega
    have hyz' : Y ≠ 0 := fun h => hz (hy0.1 h)
    have eW : wrap64 (X.tdiv Y) % 4294967296 = X.tdiv Y % 4294967296 := by rw [w64_id (by omega) (by omega)]
    have EW := Lib.hid eW
    simp only [if_neg hz]
    clear eW hy0 hb0 td hz
    cases s with
    | true =>
      have r1 := rX rfl
      have r2 := rY rfl
      clear rX rX' rY rY'
      go_enter Tryd.func48, Tryd.ntmps48
      go_wp2
      go_quiet (fail)
      go_wp2
      go_ret2
      exact ⟨ret2 EW.out rfl, _, rfl⟩
    | false =>
      obtain rfl := rX' rfl
      obtain rfl := rY' rfl
      clear rX rX' rY rY'
      go_enter Tryd.func48, Tryd.ntmps48
      go_wp2
      go_quiet (fail)
      go_wp2
      go_ret2
      exact ⟨ret2 (by rw [Int.tdiv_eq_ediv_of_nonneg a0]) (by rw [Int.tmod_eq_emod_of_nonneg a0]), _, rfl⟩

theorem ret1 {k : IntKind} {a b : Int} (h : a = b) : Ending.returned (.int k a) = .returned (.int k b) := by rw [h]
theorem signed_any (a : Nat) (ha : a < 4294967296) (w : World) : Calls Tryd.prog 53 #[.int .u32 a] w fun e w' => e = .returned (.int .i64 (sgn a true)) ∧ w = w' := by
  by_cases h : 2147483648 ≤ a
  · have e : (a : Int) - 4294967296 = sgn a true := by unfold sgn; simp [h]
    have E := Lib.hid e
    have e2 : (2147483648 : Int) ≤ a := by omega
    have e3 : (a : Int) < 4294967296 := by omega
    obtain ⟨A, hA⟩ : ∃ A : Int, (a : Int) = A := ⟨_, rfl⟩
    rw [hA] at E e2 e3 ⊢
    clear e h ha hA
    go_enter Tryd.func53, Tryd.ntmps53
    go_wp2
    go_ret
    exact ⟨ret1 E.out, rfl⟩
  · have e : (a : Int) = sgn a true := by unfold sgn; simp [h]
    have E := Lib.hid e
    have e2 : (a : Int) < 2147483648 := by omega
    have e3 : 0 ≤ (a : Int) := by omega
    obtain ⟨A, hA⟩ : ∃ A : Int, (a : Int) = A := ⟨_, rfl⟩
    rw [hA] at E e2 e3 ⊢
    clear e h ha hA
    go_enter Tryd.func53, Tryd.ntmps53
    go_wp2
    go_ret
    exact ⟨ret1 E.out, rfl⟩
theorem tmod_mod (x : Int) : Int.tmod x 4294967296 % 4294967296 = x % 4294967296 := by
  rw [Int.tmod_eq_emod]; split <;> omega
theorem tmod_mod2 (x : Int) : wrap64 (Int.tmod x 4294967296 + 4294967296) % 4294967296 = x % 4294967296 := by
  have h := tmod_mod x
  have hb := Int.tmod_lt_of_pos x (show (0 : Int) < 4294967296 by decide)
  have hc := Int.lt_tmod_of_pos x (show (0 : Int) < 4294967296 by decide)
  unfold wrap64; omega
theorem word_any (x : Int) (w : World) : Calls Tryd.prog 51 #[.int .i64 x] w fun e w' => e = .returned (.int .u32 (x % 4294967296)) ∧ w = w' := by
  go_enter Tryd.func51, Tryd.ntmps51
  go_wp2
  all_goals
    go_ret
    exact ⟨ret1 (by first | exact tmod_mod2 x | exact tmod_mod x), rfl⟩

/-- one bit of a number -/
theorem bit_of {u : Int} (h0 : 0 ≤ u) (h1 : u < 18446744073709551616) (i : Nat) : Go.bits .and .u64 (u / 2 ^ i) 1 = u / 2 ^ i % 2 := by
  obtain ⟨n, rfl⟩ := Int.eq_ofNat_of_zero_le h0
  have e : ((n : Int) / 2 ^ i) = ((n / 2 ^ i : Nat) : Int) := by simp
  have hlt : n / 2 ^ i < 18446744073709551616 := Nat.lt_of_le_of_lt (Nat.div_le_self _ _) (by omega)
  rw [e, show (1 : Int) = ((1 : Nat) : Int) from rfl, Go.u64_and_nat _ _ hlt (by decide), Go.nat_mask1]
  simp
/-- what a round of the long division knows -/
def LD (u v : Int) (d : Nat) (q r : Int) : Prop := d ≤ 33 ∧ 0 ≤ r ∧ r < v ∧ 0 ≤ q ∧ q ≤ u ∧ u / 2 ^ d = q * v + r
theorem LD.start {u v : Int} (hu0 : 0 ≤ u) (hu : u < 4294967296) (hv : 0 < v) : LD u v 33 0 0 :=
  ⟨by omega, by omega, hv, by omega, hu0, by rw [Int.ediv_eq_zero_of_lt hu0 (by rw [show (2 : Int) ^ 33 = 8589934592 from by decide]; omega)]; simp⟩
theorem LD.bit {u v : Int} {d : Nat} (hu0 : 0 ≤ u) : u / 2 ^ d = 2 * (u / 2 ^ (d + 1)) + u / 2 ^ d % 2 := by
  rw [Int.pow_succ, ← Int.ediv_ediv_of_nonneg (by exact Int.le_of_lt (Int.pow_pos (by omega)))]
  omega
theorem LD.q_le {u v q r : Int} {d : Nat} (hu0 : 0 ≤ u) (hv : 0 < v) (hq : 0 ≤ q) (hr : 0 ≤ r) (h : u / 2 ^ d = q * v + r) : q ≤ u := by
  have h1 : u / 2 ^ d ≤ u := Int.ediv_le_self _ hu0
  have h2 : q * 1 ≤ q * v := Int.mul_le_mul_of_nonneg_left (by omega) hq
  omega
theorem LD.up {u v q r : Int} {d : Nat} (hu0 : 0 ≤ u) (hv : 0 < v) (h : LD u v (d + 1) q r) (hc : v ≤ 2 * r + u / 2 ^ d % 2) : LD u v d (2 * q + 1) (2 * r + u / 2 ^ d % 2 - v) := by
  obtain ⟨h1, h2, h3, h4, h5, h6⟩ := h
  have hb := LD.bit (v := v) (d := d) hu0
  have hm : (2 * q + 1) * v = 2 * (q * v) + v := by rw [Int.add_mul, Int.mul_assoc]; omega
  have e : u / 2 ^ d = (2 * q + 1) * v + (2 * r + u / 2 ^ d % 2 - v) := by omega
  exact ⟨by omega, by omega, by omega, by omega, LD.q_le hu0 hv (by omega) (by omega) e, e⟩
theorem LD.no {u v q r : Int} {d : Nat} (hu0 : 0 ≤ u) (hv : 0 < v) (h : LD u v (d + 1) q r) (hc : ¬ v ≤ 2 * r + u / 2 ^ d % 2) : LD u v d (2 * q) (2 * r + u / 2 ^ d % 2) := by
  obtain ⟨h1, h2, h3, h4, h5, h6⟩ := h
  have hb := LD.bit (v := v) (d := d) hu0
  have hm : (2 * q) * v = 2 * (q * v) := Int.mul_assoc 2 q v
  have e : u / 2 ^ d = (2 * q) * v + (2 * r + u / 2 ^ d % 2) := by omega
  exact ⟨by omega, by omega, by omega, by omega, LD.q_le hu0 hv (by omega) (by omega) e, e⟩
theorem LD.done {u v q r : Int} (hv : 0 < v) (h : LD u v 0 q r) : q = u / v ∧ r = u % v := by
  obtain ⟨h1, h2, h3, h4, h5, h6⟩ := h
  simp only [Int.pow_zero, Int.ediv_one] at h6
  have e2 := (Int.ediv_emod_unique (a := u) (b := v) (r := r) (q := q) hv).2 ⟨by rw [h6, Int.mul_comm]; omega, h2, h3⟩
  exact ⟨e2.1.symm, e2.2.symm⟩

set_option maxHeartbeats 2000000 in
theorem rparts_f (U V : Int) (hU : 0 ≤ U) (hU2 : U < 4294967296) (hV : 0 < V) (hV2 : V < 4294967296) (w : World) : Calls Tryd.prog 50 #[.int .u32 U, .int .u32 V, .bool false] w fun e w' => e = .returned (.tuple #[.int .u32 ((U / V) % 4294967296), .int .u32 ((U % V) % 4294967296)]) ∧ w = w' := by
  have hz : (V == 0) = false := by simp; omega
  have hAn : decide (U < 0) = false := by simp; omega
  have hBn : decide (V < 0) = false := by simp; omega
  have hU0 : 0 ≤ U := by omega
  have hL := LD.start hU0 hU2 hV
  have HL := Lib.hid hL
  clear hL
  go_enter Tryd.func50, Tryd.ntmps50
  go_wp2
  go_loop [13, 14, 15] (fun q r i => ∃ (d : Nat) (Q R : Int), i = .int .i64 ((d : Int) - 1) ∧ q = .int .i64 Q ∧ r = .int .i64 R ∧ LD U V d Q R) (fun _ _ i => (intOf i + 1).toNat)
  case atStart => exact ⟨33, 0, 0, by simp, rfl, rfl, HL.out⟩
  case round =>
    obtain ⟨d, Q, R, rfl, rfl, rfl, hl⟩ := hrel
    obtain ⟨l1, l2, l3, l4, l5, l6⟩ := id hl
    have HLL := Lib.hid hl
    clear l6 hl
    by_cases hd : d = 0
    · subst hd
      obtain ⟨e1, e2⟩ := LD.done hV HLL.out
      subst e1 e2
      go_wp2_with (go_at_call 51; refine (word_any _ _).mono ?_; rintro e w' ⟨rfl, rfl⟩)
      go_ret2
      exact ⟨rfl, rfl⟩
    · obtain ⟨m, rfl⟩ : ∃ m, d = m + 1 := ⟨d - 1, by omega⟩
      have hb := bit_of hU0 (by omega) m
      have hm : (((m + 1 : Nat) : Int) - 1) = m := by omega
      rw [hm]
      clear hm
      obtain ⟨t, ht⟩ : ∃ t, U / 2 ^ m % 2 = t := ⟨_, rfl⟩
      have t0 : 0 ≤ t := by omega
      have t1 : t ≤ 1 := by omega
      rw [ht] at hb
      have HT := Lib.hid ht
      clear ht
      have m33 : m ≤ 32 := by omega
      by_cases hc : V ≤ 2 * R + t
      · go_wp2
        go_round
        case rel => exact ⟨m, 2 * Q + 1, 2 * R + t - V, rfl, rfl, rfl, by have h := LD.up hU0 hV HLL.out (by rw [HT.out]; exact hc); rw [HT.out] at h; exact h⟩
        case measure => simp [intOf] <;> omega
      · go_wp2
        go_round
        case rel => exact ⟨m, 2 * Q, 2 * R + t, rfl, rfl, rfl, by have h := LD.no hU0 hV HLL.out (by rw [HT.out]; exact hc); rw [HT.out] at h; exact h⟩
        case measure => simp [intOf] <;> omega
set_option maxHeartbeats 2000000 in
theorem rparts_tpp (U V : Int) (A B : Int) (hB : B ≠ 0) (hU : 0 ≤ U) (hU2 : U < 4294967296) (hV : 0 < V) (hV2 : V < 4294967296) (SA : Hid (∀ w : World, Calls Tryd.prog 53 #[.int .u32 A] w fun e w' => e = .returned (.int .i64 (U)) ∧ w = w')) (SB : Hid (∀ w : World, Calls Tryd.prog 53 #[.int .u32 B] w fun e w' => e = .returned (.int .i64 (V)) ∧ w = w')) (w : World) : Calls Tryd.prog 50 #[.int .u32 A, .int .u32 B, .bool true] w fun e w' => e = .returned (.tuple #[.int .u32 ((U / V) % 4294967296), .int .u32 ((U % V) % 4294967296)]) ∧ w = w' := by
  have hz : (B == 0) = false := by simp; omega
  clear hB
  have hAn : decide (U < 0) = false := by simp; omega
  have hBn : decide (V < 0) = false := by simp; omega
  have hU0 : 0 ≤ U := by omega
  have hL := LD.start hU0 hU2 hV
  have HL := Lib.hid hL
  clear hL
  go_enter Tryd.func50, Tryd.ntmps50
  go_wp2_with (go_at_call 53; first | ((with_reducible refine (SA.out _).mono ?_); rintro e w' ⟨rfl, rfl⟩) | ((with_reducible refine (SB.out _).mono ?_); rintro e w' ⟨rfl, rfl⟩))
  go_loop [13, 14, 15] (fun q r i => ∃ (d : Nat) (Q R : Int), i = .int .i64 ((d : Int) - 1) ∧ q = .int .i64 Q ∧ r = .int .i64 R ∧ LD U V d Q R) (fun _ _ i => (intOf i + 1).toNat)
  case atStart => exact ⟨33, 0, 0, by simp, rfl, rfl, HL.out⟩
  case round =>
    obtain ⟨d, Q, R, rfl, rfl, rfl, hl⟩ := hrel
    obtain ⟨l1, l2, l3, l4, l5, l6⟩ := id hl
    have HLL := Lib.hid hl
    clear l6 hl
    by_cases hd : d = 0
    · subst hd
      obtain ⟨e1, e2⟩ := LD.done hV HLL.out
      subst e1 e2
      go_wp2_with (go_at_call 51; refine (word_any _ _).mono ?_; rintro e w' ⟨rfl, rfl⟩)
      go_ret2
      exact ⟨rfl, rfl⟩
    · obtain ⟨m, rfl⟩ : ∃ m, d = m + 1 := ⟨d - 1, by omega⟩
      have hb := bit_of hU0 (by omega) m
      have hm : (((m + 1 : Nat) : Int) - 1) = m := by omega
      rw [hm]
      clear hm
      obtain ⟨t, ht⟩ : ∃ t, U / 2 ^ m % 2 = t := ⟨_, rfl⟩
      have t0 : 0 ≤ t := by omega
      have t1 : t ≤ 1 := by omega
      rw [ht] at hb
      have HT := Lib.hid ht
      clear ht
      have m33 : m ≤ 32 := by omega
      by_cases hc : V ≤ 2 * R + t
      · go_wp2
        go_round
        case rel => exact ⟨m, 2 * Q + 1, 2 * R + t - V, rfl, rfl, rfl, by have h := LD.up hU0 hV HLL.out (by rw [HT.out]; exact hc); rw [HT.out] at h; exact h⟩
        case measure => simp [intOf] <;> omega
      · go_wp2
        go_round
        case rel => exact ⟨m, 2 * Q, 2 * R + t, rfl, rfl, rfl, by have h := LD.no hU0 hV HLL.out (by rw [HT.out]; exact hc); rw [HT.out] at h; exact h⟩
        case measure => simp [intOf] <;> omega
set_option maxHeartbeats 2000000 in
theorem rparts_tpn (U V : Int) (A B : Int) (hB : B ≠ 0) (hU : 0 ≤ U) (hU2 : U < 4294967296) (hV : 0 < V) (hV2 : V < 4294967296) (SA : Hid (∀ w : World, Calls Tryd.prog 53 #[.int .u32 A] w fun e w' => e = .returned (.int .i64 (U)) ∧ w = w')) (SB : Hid (∀ w : World, Calls Tryd.prog 53 #[.int .u32 B] w fun e w' => e = .returned (.int .i64 (-V)) ∧ w = w')) (w : World) : Calls Tryd.prog 50 #[.int .u32 A, .int .u32 B, .bool true] w fun e w' => e = .returned (.tuple #[.int .u32 ((-(U / V)) % 4294967296), .int .u32 ((U % V) % 4294967296)]) ∧ w = w' := by
  have hz : (B == 0) = false := by simp; omega
  clear hB
  have hAn : decide (U < 0) = false := by simp; omega
  have hBn : decide (-V < 0) = true := by simp; omega
  have hU0 : 0 ≤ U := by omega
  have hL := LD.start hU0 hU2 hV
  have HL := Lib.hid hL
  clear hL
  go_enter Tryd.func50, Tryd.ntmps50
  go_wp2_with (go_at_call 53; first | ((with_reducible refine (SA.out _).mono ?_); rintro e w' ⟨rfl, rfl⟩) | ((with_reducible refine (SB.out _).mono ?_); rintro e w' ⟨rfl, rfl⟩))
  go_loop [13, 14, 15] (fun q r i => ∃ (d : Nat) (Q R : Int), i = .int .i64 ((d : Int) - 1) ∧ q = .int .i64 Q ∧ r = .int .i64 R ∧ LD U V d Q R) (fun _ _ i => (intOf i + 1).toNat)
  case atStart => exact ⟨33, 0, 0, by simp, rfl, rfl, HL.out⟩
  case round =>
    obtain ⟨d, Q, R, rfl, rfl, rfl, hl⟩ := hrel
    obtain ⟨l1, l2, l3, l4, l5, l6⟩ := id hl
    have HLL := Lib.hid hl
    clear l6 hl
    by_cases hd : d = 0
    · subst hd
      obtain ⟨e1, e2⟩ := LD.done hV HLL.out
      subst e1 e2
      go_wp2_with (go_at_call 51; refine (word_any _ _).mono ?_; rintro e w' ⟨rfl, rfl⟩)
      go_ret2
      exact ⟨rfl, rfl⟩
    · obtain ⟨m, rfl⟩ : ∃ m, d = m + 1 := ⟨d - 1, by omega⟩
      have hb := bit_of hU0 (by omega) m
      have hm : (((m + 1 : Nat) : Int) - 1) = m := by omega
      rw [hm]
      clear hm
      obtain ⟨t, ht⟩ : ∃ t, U / 2 ^ m % 2 = t := ⟨_, rfl⟩
      have t0 : 0 ≤ t := by omega
      have t1 : t ≤ 1 := by omega
      rw [ht] at hb
      have HT := Lib.hid ht
      clear ht
      have m33 : m ≤ 32 := by omega
      by_cases hc : V ≤ 2 * R + t
      · go_wp2
        go_round
        case rel => exact ⟨m, 2 * Q + 1, 2 * R + t - V, rfl, rfl, rfl, by have h := LD.up hU0 hV HLL.out (by rw [HT.out]; exact hc); rw [HT.out] at h; exact h⟩
        case measure => simp [intOf] <;> omega
      · go_wp2
        go_round
        case rel => exact ⟨m, 2 * Q, 2 * R + t, rfl, rfl, rfl, by have h := LD.no hU0 hV HLL.out (by rw [HT.out]; exact hc); rw [HT.out] at h; exact h⟩
        case measure => simp [intOf] <;> omega
set_option maxHeartbeats 2000000 in
theorem rparts_tnp (U V : Int) (A B : Int) (hB : B ≠ 0) (hU : 0 < U) (hU2 : U < 4294967296) (hV : 0 < V) (hV2 : V < 4294967296) (SA : Hid (∀ w : World, Calls Tryd.prog 53 #[.int .u32 A] w fun e w' => e = .returned (.int .i64 (-U)) ∧ w = w')) (SB : Hid (∀ w : World, Calls Tryd.prog 53 #[.int .u32 B] w fun e w' => e = .returned (.int .i64 (V)) ∧ w = w')) (w : World) : Calls Tryd.prog 50 #[.int .u32 A, .int .u32 B, .bool true] w fun e w' => e = .returned (.tuple #[.int .u32 ((-(U / V)) % 4294967296), .int .u32 ((-(U % V)) % 4294967296)]) ∧ w = w' := by
  have hz : (B == 0) = false := by simp; omega
  clear hB
  have hAn : decide (-U < 0) = true := by simp; omega
  have hBn : decide (V < 0) = false := by simp; omega
  have hU0 : 0 ≤ U := by omega
  have hL := LD.start hU0 hU2 hV
  have HL := Lib.hid hL
  clear hL
  go_enter Tryd.func50, Tryd.ntmps50
  go_wp2_with (go_at_call 53; first | ((with_reducible refine (SA.out _).mono ?_); rintro e w' ⟨rfl, rfl⟩) | ((with_reducible refine (SB.out _).mono ?_); rintro e w' ⟨rfl, rfl⟩))
  go_loop [13, 14, 15] (fun q r i => ∃ (d : Nat) (Q R : Int), i = .int .i64 ((d : Int) - 1) ∧ q = .int .i64 Q ∧ r = .int .i64 R ∧ LD U V d Q R) (fun _ _ i => (intOf i + 1).toNat)
  case atStart => exact ⟨33, 0, 0, by simp, rfl, rfl, HL.out⟩
  case round =>
    obtain ⟨d, Q, R, rfl, rfl, rfl, hl⟩ := hrel
    obtain ⟨l1, l2, l3, l4, l5, l6⟩ := id hl
    have HLL := Lib.hid hl
    clear l6 hl
    by_cases hd : d = 0
    · subst hd
      obtain ⟨e1, e2⟩ := LD.done hV HLL.out
      subst e1 e2
      go_wp2_with (go_at_call 51; refine (word_any _ _).mono ?_; rintro e w' ⟨rfl, rfl⟩)
      go_ret2
      exact ⟨rfl, rfl⟩
    · obtain ⟨m, rfl⟩ : ∃ m, d = m + 1 := ⟨d - 1, by omega⟩
      have hb := bit_of hU0 (by omega) m
      have hm : (((m + 1 : Nat) : Int) - 1) = m := by omega
      rw [hm]
      clear hm
      obtain ⟨t, ht⟩ : ∃ t, U / 2 ^ m % 2 = t := ⟨_, rfl⟩
      have t0 : 0 ≤ t := by omega
      have t1 : t ≤ 1 := by omega
      rw [ht] at hb
      have HT := Lib.hid ht
      clear ht
      have m33 : m ≤ 32 := by omega
      by_cases hc : V ≤ 2 * R + t
      · go_wp2
        go_round
        case rel => exact ⟨m, 2 * Q + 1, 2 * R + t - V, rfl, rfl, rfl, by have h := LD.up hU0 hV HLL.out (by rw [HT.out]; exact hc); rw [HT.out] at h; exact h⟩
        case measure => simp [intOf] <;> omega
      · go_wp2
        go_round
        case rel => exact ⟨m, 2 * Q, 2 * R + t, rfl, rfl, rfl, by have h := LD.no hU0 hV HLL.out (by rw [HT.out]; exact hc); rw [HT.out] at h; exact h⟩
        case measure => simp [intOf] <;> omega
set_option maxHeartbeats 2000000 in
theorem rparts_tnn (U V : Int) (A B : Int) (hB : B ≠ 0) (hU : 0 < U) (hU2 : U < 4294967296) (hV : 0 < V) (hV2 : V < 4294967296) (SA : Hid (∀ w : World, Calls Tryd.prog 53 #[.int .u32 A] w fun e w' => e = .returned (.int .i64 (-U)) ∧ w = w')) (SB : Hid (∀ w : World, Calls Tryd.prog 53 #[.int .u32 B] w fun e w' => e = .returned (.int .i64 (-V)) ∧ w = w')) (w : World) : Calls Tryd.prog 50 #[.int .u32 A, .int .u32 B, .bool true] w fun e w' => e = .returned (.tuple #[.int .u32 ((U / V) % 4294967296), .int .u32 ((-(U % V)) % 4294967296)]) ∧ w = w' := by
  have hz : (B == 0) = false := by simp; omega
  clear hB
  have hAn : decide (-U < 0) = true := by simp; omega
  have hBn : decide (-V < 0) = true := by simp; omega
  have hU0 : 0 ≤ U := by omega
  have hL := LD.start hU0 hU2 hV
  have HL := Lib.hid hL
  clear hL
  go_enter Tryd.func50, Tryd.ntmps50
  go_wp2_with (go_at_call 53; first | ((with_reducible refine (SA.out _).mono ?_); rintro e w' ⟨rfl, rfl⟩) | ((with_reducible refine (SB.out _).mono ?_); rintro e w' ⟨rfl, rfl⟩))
  go_loop [13, 14, 15] (fun q r i => ∃ (d : Nat) (Q R : Int), i = .int .i64 ((d : Int) - 1) ∧ q = .int .i64 Q ∧ r = .int .i64 R ∧ LD U V d Q R) (fun _ _ i => (intOf i + 1).toNat)
  case atStart => exact ⟨33, 0, 0, by simp, rfl, rfl, HL.out⟩
  case round =>
    obtain ⟨d, Q, R, rfl, rfl, rfl, hl⟩ := hrel
    obtain ⟨l1, l2, l3, l4, l5, l6⟩ := id hl
    have HLL := Lib.hid hl
    clear l6 hl
    by_cases hd : d = 0
    · subst hd
      obtain ⟨e1, e2⟩ := LD.done hV HLL.out
      subst e1 e2
      go_wp2_with (go_at_call 51; refine (word_any _ _).mono ?_; rintro e w' ⟨rfl, rfl⟩)
      go_ret2
      exact ⟨rfl, rfl⟩
    · obtain ⟨m, rfl⟩ : ∃ m, d = m + 1 := ⟨d - 1, by omega⟩
      have hb := bit_of hU0 (by omega) m
      have hm : (((m + 1 : Nat) : Int) - 1) = m := by omega
      rw [hm]
      clear hm
      obtain ⟨t, ht⟩ : ∃ t, U / 2 ^ m % 2 = t := ⟨_, rfl⟩
      have t0 : 0 ≤ t := by omega
      have t1 : t ≤ 1 := by omega
      rw [ht] at hb
      have HT := Lib.hid ht
      clear ht
      have m33 : m ≤ 32 := by omega
      by_cases hc : V ≤ 2 * R + t
      · go_wp2
        go_round
        case rel => exact ⟨m, 2 * Q + 1, 2 * R + t - V, rfl, rfl, rfl, by have h := LD.up hU0 hV HLL.out (by rw [HT.out]; exact hc); rw [HT.out] at h; exact h⟩
        case measure => simp [intOf] <;> omega
      · go_wp2
        go_round
        case rel => exact ⟨m, 2 * Q, 2 * R + t, rfl, rfl, rfl, by have h := LD.no hU0 hV HLL.out (by rw [HT.out]; exact hc); rw [HT.out] at h; exact h⟩
        case measure => simp [intOf] <;> omega

theorem rparts_any (a b : Nat) (ha : a < 4294967296) (hb : b < 4294967296) (s : Bool) (w : World) : Calls Tryd.prog 50 #[.int .u32 a, .int .u32 b, .bool s] w fun e w' => e = .returned (.tuple #[.int .u32 (partsQ a b s), .int .u32 (partsR a b s)]) ∧ w = w' := by
  by_cases hz : b = 0
  · subst hz
    have e1 : (4294967295 : Int) = partsQ a 0 s := by unfold partsQ; simp
    have e2 : (a : Int) = partsR a 0 s := by unfold partsR; simp
    have E1 := Lib.hid e1
    have E2 := Lib.hid e2
    clear e1 e2 ha hb
    go_enter Tryd.func50, Tryd.ntmps50
    go_wp2
    go_ret2
    exact ⟨ret2 E1.out E2.out, rfl⟩
  · have bx := sgn_lt a ha s
    have by_ := sgn_lt b hb s
    have eQ : partsQ a b s = Int.tdiv (sgn a s) (sgn b s) % 4294967296 := by unfold partsQ; rw [if_neg hz]
    have eR : partsR a b s = Int.tmod (sgn a s) (sgn b s) % 4294967296 := by unfold partsR; rw [if_neg hz]
    rw [eQ, eR]
    cases s with
    | false =>
      rw [sgn_no, sgn_no]
      refine (rparts_f a b (by omega) (by omega) (by omega) (by omega) w).mono fun e w' h => ⟨?_, h.2⟩
      rw [h.1, Int.tdiv_eq_ediv_of_nonneg (by omega), Int.tmod_eq_emod_of_nonneg (by omega)]
    | true =>
      have SA := fun w => signed_any a ha w
      have SB := fun w => signed_any b hb w
      have hbI : (b : Int) ≠ 0 := by omega
      generalize sgn a true = X at *
      generalize sgn b true = Y at *
      obtain ⟨bx1, bx2, bx3⟩ := bx
      obtain ⟨by1, by2, by3⟩ := by_
      have hY : Y ≠ 0 := fun h => hz (by3.1 h)
      by_cases hx : X < 0
      · obtain ⟨U, rfl⟩ : ∃ U, X = -U := ⟨-X, by omega⟩
        by_cases hy : Y < 0
        · obtain ⟨V, rfl⟩ : ∃ V, Y = -V := ⟨-Y, by omega⟩
          refine (rparts_tnn U V a b hbI (by omega) (by omega) (by omega) (by omega) (Lib.hid SA) (Lib.hid SB) w).mono fun e w' h => ⟨?_, h.2⟩
          rw [h.1, Int.neg_tdiv, Int.tdiv_neg, Int.neg_neg, Int.tmod_neg, Int.neg_tmod, Int.tdiv_eq_ediv_of_nonneg (by omega), Int.tmod_eq_emod_of_nonneg (by omega)]
        · refine (rparts_tnp U Y a b hbI (by omega) (by omega) (by omega) (by omega) (Lib.hid SA) (Lib.hid SB) w).mono fun e w' h => ⟨?_, h.2⟩
          rw [h.1, Int.neg_tdiv, Int.neg_tmod, Int.tdiv_eq_ediv_of_nonneg (by omega), Int.tmod_eq_emod_of_nonneg (by omega)]
      · by_cases hy : Y < 0
        · obtain ⟨V, rfl⟩ : ∃ V, Y = -V := ⟨-Y, by omega⟩
          refine (rparts_tpn X V a b hbI (by omega) (by omega) (by omega) (by omega) (Lib.hid SA) (Lib.hid SB) w).mono fun e w' h => ⟨?_, h.2⟩
          rw [h.1, Int.tdiv_neg, Int.tmod_neg, Int.tdiv_eq_ediv_of_nonneg (by omega), Int.tmod_eq_emod_of_nonneg (by omega)]
        · refine (rparts_tpp X Y a b hbI (by omega) (by omega) (by omega) (by omega) (Lib.hid SA) (Lib.hid SB) w).mono fun e w' h => ⟨?_, h.2⟩
          rw [h.1, Int.tdiv_eq_ediv_of_nonneg (by omega), Int.tmod_eq_emod_of_nonneg (by omega)]

theorem do_div (a b : Nat) (ha : a < 4294967296) (hb : b < 4294967296) (w : World) : Calls Tryd.prog 20 #[.int .i64 14, .int .u32 a, .int .u32 b] w fun e w' => e = .returned (.tuple #[.int .u32 (partsQ a b true), .nilIface]) ∧ ∃ k, w.drewN k = w' := by
  have Wd := Lib.hid (fun x y w => wide_any a b ha hb x y w)
  have Pt := Lib.hid (fun x w => parts_any a b ha hb x w)
  clear ha hb
  go_enter Tryd.func20, Tryd.ntmps20
  go_wp2_with (first | (go_at_call 47; refine (Wd.out _ _ _).mono ?_; rintro e w' ⟨rfl, rfl⟩) | (go_at_call 48; refine (Pt.out _ _).mono ?_; rintro e w' ⟨rfl, k, rfl⟩))
  go_ret2
  exact ⟨rfl, _, rfl⟩
theorem do_rem (a b : Nat) (ha : a < 4294967296) (hb : b < 4294967296) (w : World) : Calls Tryd.prog 20 #[.int .i64 16, .int .u32 a, .int .u32 b] w fun e w' => e = .returned (.tuple #[.int .u32 (partsR a b true), .nilIface]) ∧ ∃ k, w.drewN k = w' := by
  have Wd := Lib.hid (fun x y w => wide_any a b ha hb x y w)
  have Pt := Lib.hid (fun x w => parts_any a b ha hb x w)
  clear ha hb
  go_enter Tryd.func20, Tryd.ntmps20
  go_wp2_with (first | (go_at_call 47; refine (Wd.out _ _ _).mono ?_; rintro e w' ⟨rfl, rfl⟩) | (go_at_call 48; refine (Pt.out _ _).mono ?_; rintro e w' ⟨rfl, k, rfl⟩))
  go_ret2
  exact ⟨rfl, _, rfl⟩
theorem sureA_div (w : World) : Calls Tryd.prog 20 #[.int .i64 14, .int .u32 4294967289, .int .u32 2] w fun e w' => e = .returned (.tuple #[.int .u32 4294967293, .nilIface]) ∧ ∃ k, w.drewN k = w' :=
  (do_div 4294967289 2 (by omega) (by omega) w).mono fun e w' h => ⟨by rw [h.1, show partsQ 4294967289 2 true = 4294967293 from by decide +kernel], h.2⟩
theorem sureA_rem (w : World) : Calls Tryd.prog 20 #[.int .i64 16, .int .u32 4294967289, .int .u32 2] w fun e w' => e = .returned (.tuple #[.int .u32 4294967295, .nilIface]) ∧ ∃ k, w.drewN k = w' :=
  (do_rem 4294967289 2 (by omega) (by omega) w).mono fun e w' h => ⟨by rw [h.1, show partsR 4294967289 2 true = 4294967295 from by decide +kernel], h.2⟩
theorem sureA_any (w : World) : Calls Tryd.prog 23 #[] w fun e w' => e = .returned (.bool true) ∧ ∃ k, w.drewN k = w' := by
  go_enter Tryd.func23, Tryd.ntmps23
  go_wp2_with (go_at_call 20; first | ((with_reducible refine (sureA_div _).mono ?_); rintro e w' ⟨rfl, k1, rfl⟩) | ((with_reducible refine (sureA_rem _).mono ?_); rintro e w' ⟨rfl, k2, rfl⟩))
  go_ret
  exact ⟨rfl, _, rfl⟩

end Go.Proofs.YtgbpalclapcfeaaDoor
