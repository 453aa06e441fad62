import Derived.Test.YtkcdnhennnjneaaGreatDoorZA
import Derived.Below
import Derived.Deep.Draws
import Derived.Deep.AppendLies
import Derived.Maps.AppendAt
import Derived.OwnWalk
import Derived.Laws.BytesArg
import Derived.Laws.MakeOwn
import Derived.Laws.OwnMore
import Derived.Deep.OwnRows
import Derived.Tactics
import Derived.Lib.ConvBytes
import Derived.Laws.Slices
import Derived.WalkKit
import Derived.KernelRfl
import Derived.RowKit3
import Derived.Deep.LoopGhost
import Derived.Deep.QuietTactic
import Derived.BigQuiet
import Derived.WideLaws
import Derived.Deep.DeepCutAuto
import Derived.Deep.CutBlock
import Derived.Deep.RegionHeld3
import Derived.Laws.Rows
import Derived.Lib.AppendStr
import Derived.ArgAppend
import Derived.Laws.IdiomCopy
import Derived.OrdersHeld
import Derived.Laws.BitsLemmas
import Derived.RowKit
import Derived.Lib.Hide
import Derived.Laws.BitsAllLaws
import Derived.WalkLawsBesides
import Derived.WalkSpells
import Derived.LaidEql
namespace Go.Proofs.YtkcdnhennnjneaaGreatDoor
open Go.RowKit
set_option maxRecDepth 100000
set_option linter.unusedVariables false
set_option linter.unusedSimpArgs false

def lowK (k : Nat) : Int := if k = 85 then -2147483648 else if k = 74 then -1048576 else if k = 73 ∨ k = 76 ∨ k = 70 ∨ k = 83 then -2048 else if k = 66 then -4096 else 0
def highK (k : Nat) : Int := if k = 85 then 2147483647 else if k = 74 then 1048575 else if k = 73 ∨ k = 76 ∨ k = 70 ∨ k = 83 then 2047 else if k = 66 then 4095 else if k = 72 then 31 else 0
def stepK (k : Nat) : Int := if k = 85 then 4096 else if k = 74 ∨ k = 66 then 2 else 1
/-- an instruction's parts are such as its form has -/
def Good (k : Nat) (rd r1 r2 imm csr : Int) : Prop :=
  (lowK k ≤ imm ∧ imm ≤ highK k ∧ imm % stepK k = 0) ∧ (0 ≤ rd ∧ rd ≤ if k = 66 ∨ k = 83 ∨ k = 78 then 0 else 31) ∧ (0 ≤ r1 ∧ r1 ≤ if k = 85 ∨ k = 74 ∨ k = 78 then 0 else 31) ∧ (0 ≤ r2 ∧ r2 ≤ if k = 66 ∨ k = 83 ∨ k = 82 then 31 else 0) ∧ (0 ≤ csr ∧ csr ≤ if k = 67 then 4095 else 0)
theorem sx_31 {n : Nat} (imm : Int) (h1 : -2147483648 ≤ imm) (h2 : imm ≤ 2147483647) (hn : (n : Int) = imm % 4294967296) : sx 2147483648 n = imm := by
  unfold sx
  by_cases h : n < 2147483648
  · rw [if_pos h]; omega
  · rw [if_neg h, show ((2 : Int) * ((2147483648 : Nat) : Int)) = 4294967296 from by decide]; omega
theorem good_U {b : Nat} {rd imm : Int} (hb : b < 128) (g1 : 0 ≤ rd) (g2 : rd ≤ 31) (i1 : -2147483648 ≤ imm) (i2 : imm ≤ 2147483647) (i3 : imm % 4096 = 0) (r2 csr : Int) :
    ((laidI 85 b rd 0 r2 imm csr / 128 % 32 : Nat) : Int) = rd ∧ immOf 85 (laidI 85 b rd 0 r2 imm csr) = imm := by
  unfold laidI
  obtain ⟨r, rfl⟩ := Int.eq_ofNat_of_zero_le g1
  obtain ⟨n, hn⟩ : ∃ n, n = (imm % 4294967296).toNat := ⟨_, rfl⟩
  have hnI : (n : Int) = imm % 4294967296 := by omega
  have hn4 : n / 4096 * 4096 = n := by omega
  rw [← hn, nat5 rfl (by omega), show ((0 : Int) % 32).toNat = 0 from rfl, laid_U hb (by omega), hn4]
  clear hn
  have hr : r < 32 := by omega
  obtain ⟨q, hq⟩ : ∃ q, q = n / 4096 := ⟨_, rfl⟩
  rw [← hq] at hn4
  clear hq
  refine ⟨by omega, ?_⟩
  unfold immOf
  rw [if_pos rfl, show (b + r * 128 + n) / 4096 * 4096 = n by omega]
  exact sx_31 imm i1 i2 hnI
theorem good_J {b : Nat} {rd imm : Int} (hb : b < 128) (g1 : 0 ≤ rd) (g2 : rd ≤ 31) (i1 : -1048576 ≤ imm) (i2 : imm ≤ 1048575) (i3 : imm % 2 = 0) (r2 csr : Int) :
    ((laidI 74 b rd 0 r2 imm csr / 128 % 32 : Nat) : Int) = rd ∧ immOf 74 (laidI 74 b rd 0 r2 imm csr) = imm := by
  unfold laidI
  obtain ⟨r, rfl⟩ := Int.eq_ofNat_of_zero_le g1
  obtain ⟨n, hn⟩ : ∃ n, n = (imm % 4294967296).toNat := ⟨_, rfl⟩
  rw [← hn, nat5 rfl (by omega), show ((0 : Int) % 32).toNat = 0 from rfl, laid_J hb (by omega)]
  obtain ⟨m, hm⟩ : ∃ m, m = n % 2097152 := ⟨_, rfl⟩
  have hmI : (if m < 1048576 then (m : Int) else (m : Int) - 2097152) = imm := by split <;> omega
  have hm2 : m % 2 = 0 := by omega
  have e1 : n / 1048576 % 2 = m / 1048576 := by omega
  have e2 : n / 4096 % 256 = m / 4096 % 256 := by omega
  have e3 : n / 2048 % 2 = m / 2048 % 2 := by omega
  have e4 : n / 2 % 1024 = m / 2 % 1024 := by omega
  have hml : m < 2097152 := by omega
  rw [e1, e2, e3, e4]
  clear hn hm e1 e2 e3 e4 i1 i2 i3
  obtain ⟨p1, h1⟩ : ∃ p, p = m / 1048576 := ⟨_, rfl⟩
  obtain ⟨p2, h2⟩ : ∃ p, p = m / 4096 % 256 := ⟨_, rfl⟩
  obtain ⟨p3, h3⟩ : ∃ p, p = m / 2048 % 2 := ⟨_, rfl⟩
  obtain ⟨p4, h4⟩ : ∃ p, p = m / 2 % 1024 := ⟨_, rfl⟩
  have hs : m = p1 * 1048576 + p2 * 4096 + p3 * 2048 + p4 * 2 := by
    have q1 : m = 2 * (m / 2) := by omega
    have q2 : m / 2 = 1024 * (m / 2048) + m / 2 % 1024 := by omega
    have q3 : m / 2048 = 2 * (m / 4096) + m / 2048 % 2 := by omega
    have q4 : m / 4096 = 256 * (m / 1048576) + m / 4096 % 256 := by omega
    rw [← h4] at q2
    rw [← h3] at q3
    rw [← h2, ← h1] at q4
    clear h1 h2 h3 h4 hmI hm2
    omega
  have f1 : p1 < 2 := by omega
  have f2 : p2 < 256 := by omega
  have f3 : p3 < 2 := by omega
  have f4 : p4 < 1024 := by omega
  rw [← h1, ← h2, ← h3, ← h4]
  clear h1 h2 h3 h4 hm2 hml
  have hr : r < 32 := by omega
  obtain ⟨x, hx⟩ : ∃ x, x = b + r * 128 + p1 * 2147483648 + p4 * 2097152 + p3 * 1048576 + p2 * 4096 := ⟨_, rfl⟩
  rw [← hx]
  have x1 : x / 2147483648 = p1 := by omega
  have x4 : x / 2097152 = 1024 * p1 + p4 := by omega
  have x3 : x / 1048576 = 2 * (1024 * p1 + p4) + p3 := by omega
  have x2 : x / 4096 = 256 * (2 * (1024 * p1 + p4) + p3) + p2 := by omega
  have x0 : x / 128 = 32 * (256 * (2 * (1024 * p1 + p4) + p3) + p2) + r := by omega
  refine ⟨by rw [x0]; omega, ?_⟩
  unfold immOf
  rw [if_neg (by decide), if_pos rfl, x1, x2, x3, x4, show (256 * (2 * (1024 * p1 + p4) + p3) + p2) % 256 = p2 by omega, show (2 * (1024 * p1 + p4) + p3) % 2 = p3 by omega, show (1024 * p1 + p4) % 1024 = p4 by omega, ← hs]
  unfold sx
  rw [← hmI]
  rfl

theorem good_I {k b : Nat} (hk : k = 73 ∨ k = 76 ∨ k = 70) {rd r1 imm : Int} (hb : b % 128 + b / 4096 % 8 * 4096 = b) (g1 : 0 ≤ rd) (g2 : rd ≤ 31) (g3 : 0 ≤ r1) (g4 : r1 ≤ 31) (i1 : -2048 ≤ imm) (i2 : imm ≤ 2047) (r2 csr : Int) :
    ((laidI k b rd r1 r2 imm csr / 128 % 32 : Nat) : Int) = rd ∧ ((laidI k b rd r1 r2 imm csr / 32768 % 32 : Nat) : Int) = r1 ∧ immOf k (laidI k b rd r1 r2 imm csr) = imm := by
  unfold laidI
  obtain ⟨r, rfl⟩ := Int.eq_ofNat_of_zero_le g1
  obtain ⟨s, rfl⟩ := Int.eq_ofNat_of_zero_le g3
  obtain ⟨n, hn⟩ : ∃ n, n = (imm % 4294967296).toNat := ⟨_, rfl⟩
  rw [← hn, nat5 rfl (by omega), nat5 rfl (by omega), laid_I hk hb (by omega) (by omega)]
  obtain ⟨m, hm⟩ : ∃ m, m = n % 4096 := ⟨_, rfl⟩
  have hmI : (if m < 2048 then (m : Int) else (m : Int) - 4096) = imm := by split <;> omega
  have hml : m < 4096 := by omega
  rw [← hm]
  clear hn hm i1 i2
  obtain ⟨b0, e0⟩ : ∃ p, p = b % 128 := ⟨_, rfl⟩
  obtain ⟨b3, e3⟩ : ∃ p, p = b / 4096 % 8 := ⟨_, rfl⟩
  rw [← e0, ← e3] at hb
  have f0 : b0 < 128 := by omega
  have f3 : b3 < 8 := by omega
  clear e0 e3
  subst hb
  have hr : r < 32 := by omega
  have hs : s < 32 := by omega
  obtain ⟨x, hx⟩ : ∃ x, x = b0 + b3 * 4096 + r * 128 + s * 32768 + m * 1048576 := ⟨_, rfl⟩
  rw [← hx]
  have x5 : x / 1048576 = m := by omega
  have x3 : x / 32768 = 32 * m + s := by omega
  have x2 : x / 128 = 32 * (8 * (32 * m + s) + b3) + r := by omega
  refine ⟨by rw [x2]; omega, by rw [x3]; omega, ?_⟩
  unfold immOf
  rw [if_neg (by omega), if_neg (by omega), if_pos hk, x5]
  unfold sx
  rw [← hmI]
  rfl
theorem good_C {b : Nat} {rd r1 csr : Int} (hb : b % 128 + b / 4096 % 8 * 4096 = b) (g1 : 0 ≤ rd) (g2 : rd ≤ 31) (g3 : 0 ≤ r1) (g4 : r1 ≤ 31) (i1 : 0 ≤ csr) (i2 : csr ≤ 4095) (r2 imm : Int) :
    ((laidI 67 b rd r1 r2 imm csr / 128 % 32 : Nat) : Int) = rd ∧ ((laidI 67 b rd r1 r2 imm csr / 32768 % 32 : Nat) : Int) = r1 ∧ ((laidI 67 b rd r1 r2 imm csr / 1048576 : Nat) : Int) = csr := by
  unfold laidI
  obtain ⟨r, rfl⟩ := Int.eq_ofNat_of_zero_le g1
  obtain ⟨s, rfl⟩ := Int.eq_ofNat_of_zero_le g3
  obtain ⟨m, rfl⟩ := Int.eq_ofNat_of_zero_le i1
  rw [nat5 rfl (by omega), nat5 rfl (by omega), nat32 rfl (by omega), laid_C hb (by omega) (by omega)]
  have hml : m < 4096 := by omega
  rw [Nat.mod_eq_of_lt hml]
  obtain ⟨b0, e0⟩ : ∃ p, p = b % 128 := ⟨_, rfl⟩
  obtain ⟨b3, e3⟩ : ∃ p, p = b / 4096 % 8 := ⟨_, rfl⟩
  rw [← e0, ← e3] at hb
  have f0 : b0 < 128 := by omega
  have f3 : b3 < 8 := by omega
  clear e0 e3
  subst hb
  have hr : r < 32 := by omega
  have hs : s < 32 := by omega
  obtain ⟨x, hx⟩ : ∃ x, x = b0 + b3 * 4096 + r * 128 + s * 32768 + m * 1048576 := ⟨_, rfl⟩
  rw [← hx]
  have x5 : x / 1048576 = m := by omega
  have x3 : x / 32768 = 32 * m + s := by omega
  have x2 : x / 128 = 32 * (8 * (32 * m + s) + b3) + r := by omega
  exact ⟨by rw [x2]; omega, by rw [x3]; omega, by rw [x5]⟩
theorem good_HR (b r s q : Nat) (hb : b % 128 + b / 4096 % 8 * 4096 + b / 33554432 * 33554432 = b) (hr : r < 32) (hs : s < 32) (hq : q < 32) :
    (b + r * 128 + s * 32768 + q * 1048576) / 128 % 32 = r ∧ (b + r * 128 + s * 32768 + q * 1048576) / 32768 % 32 = s ∧ (b + r * 128 + s * 32768 + q * 1048576) / 1048576 % 32 = q := by
  obtain ⟨b0, e0⟩ : ∃ p, p = b % 128 := ⟨_, rfl⟩
  obtain ⟨b3, e3⟩ : ∃ p, p = b / 4096 % 8 := ⟨_, rfl⟩
  obtain ⟨b7, e7⟩ : ∃ p, p = b / 33554432 := ⟨_, rfl⟩
  rw [← e0, ← e3, ← e7] at hb
  have f0 : b0 < 128 := by omega
  have f3 : b3 < 8 := by omega
  clear e0 e3 e7
  subst hb
  obtain ⟨x, hx⟩ : ∃ x, x = b0 + b3 * 4096 + b7 * 33554432 + r * 128 + s * 32768 + q * 1048576 := ⟨_, rfl⟩
  rw [← hx]
  have x5 : x / 1048576 = 32 * b7 + q := by omega
  have x3 : x / 32768 = 32 * (32 * b7 + q) + s := by omega
  have x2 : x / 128 = 32 * (8 * (32 * (32 * b7 + q) + s) + b3) + r := by omega
  exact ⟨by rw [x2]; omega, by rw [x3]; omega, by rw [x5]; omega⟩
theorem good_H {b : Nat} {rd r1 imm : Int} (hb : b % 128 + b / 4096 % 8 * 4096 + b / 33554432 * 33554432 = b) (g1 : 0 ≤ rd) (g2 : rd ≤ 31) (g3 : 0 ≤ r1) (g4 : r1 ≤ 31) (i1 : 0 ≤ imm) (i2 : imm ≤ 31) (r2 csr : Int) :
    ((laidI 72 b rd r1 r2 imm csr / 128 % 32 : Nat) : Int) = rd ∧ ((laidI 72 b rd r1 r2 imm csr / 32768 % 32 : Nat) : Int) = r1 ∧ ((laidI 72 b rd r1 r2 imm csr / 1048576 % 32 : Nat) : Int) = imm := by
  unfold laidI
  obtain ⟨r, rfl⟩ := Int.eq_ofNat_of_zero_le g1
  obtain ⟨s, rfl⟩ := Int.eq_ofNat_of_zero_le g3
  obtain ⟨m, rfl⟩ := Int.eq_ofNat_of_zero_le i1
  rw [nat5 rfl (by omega), nat5 rfl (by omega), nat32 (x := (m : Int)) rfl (by omega), laid_H hb (by omega) (by omega), show m % 32 = m by omega]
  obtain ⟨h1, h2, h3⟩ := good_HR b r s m hb (by omega) (by omega) (by omega)
  exact ⟨by rw [h1], by rw [h2], by rw [h3]⟩
theorem good_R {b : Nat} {rd r1 r2 : Int} (hb : b % 128 + b / 4096 % 8 * 4096 + b / 33554432 * 33554432 = b) (g1 : 0 ≤ rd) (g2 : rd ≤ 31) (g3 : 0 ≤ r1) (g4 : r1 ≤ 31) (i1 : 0 ≤ r2) (i2 : r2 ≤ 31) (imm csr : Int) :
    ((laidI 82 b rd r1 r2 imm csr / 128 % 32 : Nat) : Int) = rd ∧ ((laidI 82 b rd r1 r2 imm csr / 32768 % 32 : Nat) : Int) = r1 ∧ ((laidI 82 b rd r1 r2 imm csr / 1048576 % 32 : Nat) : Int) = r2 := by
  unfold laidI
  obtain ⟨r, rfl⟩ := Int.eq_ofNat_of_zero_le g1
  obtain ⟨s, rfl⟩ := Int.eq_ofNat_of_zero_le g3
  obtain ⟨m, rfl⟩ := Int.eq_ofNat_of_zero_le i1
  rw [nat5 rfl (by omega), nat5 rfl (by omega), nat5 rfl (by omega), laid_R hb (by omega) (by omega) (by omega)]
  obtain ⟨h1, h2, h3⟩ := good_HR b r s m hb (by omega) (by omega) (by omega)
  exact ⟨by rw [h1], by rw [h2], by rw [h3]⟩
theorem good_S {b : Nat} {r1 r2 imm : Int} (hb : b % 128 + b / 4096 % 8 * 4096 = b) (g1 : 0 ≤ r2) (g2 : r2 ≤ 31) (g3 : 0 ≤ r1) (g4 : r1 ≤ 31) (i1 : -2048 ≤ imm) (i2 : imm ≤ 2047) (csr : Int) :
    ((laidI 83 b 0 r1 r2 imm csr / 32768 % 32 : Nat) : Int) = r1 ∧ ((laidI 83 b 0 r1 r2 imm csr / 1048576 % 32 : Nat) : Int) = r2 ∧ immOf 83 (laidI 83 b 0 r1 r2 imm csr) = imm := by
  unfold laidI
  obtain ⟨q, rfl⟩ := Int.eq_ofNat_of_zero_le g1
  obtain ⟨s, rfl⟩ := Int.eq_ofNat_of_zero_le g3
  obtain ⟨n, hn⟩ : ∃ n, n = (imm % 4294967296).toNat := ⟨_, rfl⟩
  rw [← hn, nat5 rfl (by omega), nat5 rfl (by omega), show ((0 : Int) % 32).toNat = 0 from rfl, laid_S hb (by omega) (by omega)]
  obtain ⟨m, hm⟩ : ∃ m, m = n % 4096 := ⟨_, rfl⟩
  have hmI : (if m < 2048 then (m : Int) else (m : Int) - 4096) = imm := by split <;> omega
  have e1 : n / 32 % 128 = m / 32 := by omega
  have e2 : n % 32 = m % 32 := by omega
  have hml : m < 4096 := by omega
  rw [e1, e2]
  clear hn hm i1 i2 e1 e2
  obtain ⟨p1, h1⟩ : ∃ p, p = m / 32 := ⟨_, rfl⟩
  obtain ⟨p2, h2⟩ : ∃ p, p = m % 32 := ⟨_, rfl⟩
  have hs' : m = p1 * 32 + p2 := by omega
  have f1 : p1 < 128 := by omega
  have f2 : p2 < 32 := by omega
  rw [← h1, ← h2]
  clear h1 h2
  obtain ⟨b0, e0⟩ : ∃ p, p = b % 128 := ⟨_, rfl⟩
  obtain ⟨b3, e3⟩ : ∃ p, p = b / 4096 % 8 := ⟨_, rfl⟩
  rw [← e0, ← e3] at hb
  have f0 : b0 < 128 := by omega
  have f3 : b3 < 8 := by omega
  clear e0 e3
  subst hb
  have hq : q < 32 := by omega
  have hs : s < 32 := by omega
  obtain ⟨x, hx⟩ : ∃ x, x = b0 + b3 * 4096 + s * 32768 + q * 1048576 + p1 * 33554432 + p2 * 128 := ⟨_, rfl⟩
  rw [← hx]
  have x7 : x / 33554432 = p1 := by omega
  have x5 : x / 1048576 = 32 * p1 + q := by omega
  have x3 : x / 32768 = 32 * (32 * p1 + q) + s := by omega
  have x2 : x / 128 = 32 * (8 * (32 * (32 * p1 + q) + s) + b3) + p2 := by omega
  refine ⟨by rw [x3]; omega, by rw [x5]; omega, ?_⟩
  unfold immOf
  rw [if_neg (by decide), if_neg (by decide), if_neg (by decide), if_neg (by decide), if_pos rfl, x7, x2, show (32 * (8 * (32 * (32 * p1 + q) + s) + b3) + p2) % 32 = p2 by omega, ← hs']
  unfold sx
  rw [← hmI]
  rfl

theorem good_Bx (b0 b3 s q p1 p2 p3 p4 : Nat) (k0 : b0 < 128) (k3 : b3 < 8) (hs : s < 32) (hq : q < 32) (f1 : p1 < 2) (f2 : p2 < 64) (f3 : p3 < 16) (f4 : p4 < 2) (x : Nat) (hx : x = b0 + b3 * 4096 + s * 32768 + q * 1048576 + p1 * 2147483648 + p2 * 33554432 + p3 * 256 + p4 * 128) :
    x / 32768 % 32 = s ∧ x / 1048576 % 32 = q ∧ x / 2147483648 = p1 ∧ x / 128 % 2 = p4 ∧ x / 33554432 % 64 = p2 ∧ x / 256 % 16 = p3 := by
  have x9 : x / 2147483648 = p1 := by omega
  have x7 : x / 33554432 = 64 * p1 + p2 := by omega
  have x5 : x / 1048576 = 32 * (64 * p1 + p2) + q := by omega
  have x3 : x / 32768 = 32 * (32 * (64 * p1 + p2) + q) + s := by omega
  have x2 : x / 4096 = 8 * (32 * (32 * (64 * p1 + p2) + q) + s) + b3 := by omega
  have x1 : x / 256 = 16 * (8 * (32 * (32 * (64 * p1 + p2) + q) + s) + b3) + p3 := by omega
  have x0 : x / 128 = 2 * (16 * (8 * (32 * (32 * (64 * p1 + p2) + q) + s) + b3) + p3) + p4 := by omega
  clear hx
  rw [x9, x7, x5, x3, x1, x0]
  refine ⟨?_, ?_, rfl, ?_, ?_, ?_⟩ <;> rw [Nat.mul_add_mod] <;> exact Nat.mod_eq_of_lt (by assumption)
theorem good_Bm (m : Nat) (h : m % 2 = 0) : m = m / 4096 * 4096 + m / 2048 % 2 * 2048 + m / 32 % 64 * 32 + m / 2 % 16 * 2 := by
  have q1 : m = 2 * (m / 2) := by omega
  have q2 : m / 2 = 16 * (m / 32) + m / 2 % 16 := by omega
  have q3 : m / 32 = 64 * (m / 2048) + m / 32 % 64 := by omega
  have q4 : m / 2048 = 2 * (m / 4096) + m / 2048 % 2 := by omega
  generalize m / 2 % 16 = r1 at *
  generalize m / 32 % 64 = r2 at *
  generalize m / 2048 % 2 = r3 at *
  generalize m / 2 = a1 at *
  generalize m / 32 = a2 at *
  generalize m / 2048 = a3 at *
  generalize m / 4096 = a4 at *
  clear h
  omega
theorem good_B {b : Nat} {r1 r2 imm : Int} (hb : b % 128 + b / 4096 % 8 * 4096 = b) (g1 : 0 ≤ r2) (g2 : r2 ≤ 31) (g3 : 0 ≤ r1) (g4 : r1 ≤ 31) (i1 : -4096 ≤ imm) (i2 : imm ≤ 4095) (i3 : imm % 2 = 0) (csr : Int) :
    ((laidI 66 b 0 r1 r2 imm csr / 32768 % 32 : Nat) : Int) = r1 ∧ ((laidI 66 b 0 r1 r2 imm csr / 1048576 % 32 : Nat) : Int) = r2 ∧ immOf 66 (laidI 66 b 0 r1 r2 imm csr) = imm := by
  unfold laidI
  obtain ⟨q, rfl⟩ := Int.eq_ofNat_of_zero_le g1
  obtain ⟨s, rfl⟩ := Int.eq_ofNat_of_zero_le g3
  have hq : q < 32 := by omega
  have hs : s < 32 := by omega
  obtain ⟨n, hn⟩ : ∃ n, n = (imm % 4294967296).toNat := ⟨_, rfl⟩
  rw [← hn, nat5 rfl hq, nat5 rfl hs, show ((0 : Int) % 32).toNat = 0 from rfl, laid_B hb hs hq]
  obtain ⟨m, hm⟩ : ∃ m, m = n % 8192 := ⟨_, rfl⟩
  have hmI : sx 4096 m = imm := by unfold sx; split <;> omega
  have hm2 : m % 2 = 0 := by omega
  have hml : m < 8192 := by omega
  clear hn i1 i2 i3
  have e1 : n / 4096 % 2 = m / 4096 := by clear hmI hb; omega
  have e2 : n / 32 % 64 = m / 32 % 64 := by clear hmI hb; omega
  have e3 : n / 2 % 16 = m / 2 % 16 := by clear hmI hb; omega
  have e4 : n / 2048 % 2 = m / 2048 % 2 := by clear hmI hb; omega
  rw [e1, e2, e3, e4]
  clear hm e1 e2 e3 e4
  have hs' := good_Bm m hm2
  have f1 : m / 4096 < 2 := by omega
  have f2 : m / 32 % 64 < 64 := Nat.mod_lt _ (by decide)
  have f3 : m / 2 % 16 < 16 := Nat.mod_lt _ (by decide)
  have f4 : m / 2048 % 2 < 2 := Nat.mod_lt _ (by decide)
  obtain ⟨b0, e0⟩ : ∃ p, p = b % 128 := ⟨_, rfl⟩
  obtain ⟨b3, e3⟩ : ∃ p, p = b / 4096 % 8 := ⟨_, rfl⟩
  have k0 : b0 < 128 := by rw [e0]; exact Nat.mod_lt _ (by decide)
  have k3 : b3 < 8 := by rw [e3]; exact Nat.mod_lt _ (by decide)
  rw [← e0, ← e3] at hb
  clear e0 e3
  subst hb
  obtain ⟨x1, x2, x3, x4, x5, x6⟩ := good_Bx b0 b3 s q _ _ _ _ k0 k3 hs hq f1 f2 f3 f4 _ rfl
  refine ⟨by rw [x1], by rw [x2], ?_⟩
  unfold immOf
  rw [if_neg (by decide), if_neg (by decide), if_neg (by decide), if_pos rfl, x3, x4, x5, x6, ← hs']
  exact hmI

theorem step_sx (h v : Nat) (m : Int) (hm : 0 < m) (h1 : (v : Int) % m = 0) (h2 : (2 * (h : Int)) % m = 0) : sx h v % m = 0 := by
  unfold sx
  split
  · exact h1
  · rw [Int.sub_emod, h1, h2]; simp
theorem sx_range (h v : Nat) (hv : v < 2 * h) : -(h : Int) ≤ sx h v ∧ sx h v < (h : Int) := by
  unfold sx; split <;> omega
theorem good_read {k : Nat} (hk : k = 85 ∨ k = 74 ∨ k = 73 ∨ k = 76 ∨ k = 70 ∨ k = 66 ∨ k = 83 ∨ k = 72 ∨ k = 67 ∨ k = 82 ∨ k = 78) (x : Nat) (hx : x < 4294967296) : Good k (rdOf k x) (r1Of k x) (r2Of k x) (immOf k x) (csrOf k x) := by
  have hrd : 0 ≤ rdOf k x ∧ rdOf k x ≤ if k = 66 ∨ k = 83 ∨ k = 78 then 0 else 31 := by unfold rdOf; split <;> omega
  have hr1 : 0 ≤ r1Of k x ∧ r1Of k x ≤ if k = 85 ∨ k = 74 ∨ k = 78 then 0 else 31 := by unfold r1Of; split <;> omega
  have hr2 : 0 ≤ r2Of k x ∧ r2Of k x ≤ if k = 66 ∨ k = 83 ∨ k = 82 then 31 else 0 := by unfold r2Of; split <;> omega
  have hcs : 0 ≤ csrOf k x ∧ csrOf k x ≤ if k = 67 then 4095 else 0 := by unfold csrOf; split <;> omega
  refine ⟨?_, hrd, hr1, hr2, hcs⟩
  clear hrd hr1 hr2 hcs
  rcases hk with rfl | rfl | rfl | rfl | rfl | rfl | rfl | rfl | rfl | rfl | rfl
  · rw [show lowK 85 = -2147483648 from rfl, show highK 85 = 2147483647 from rfl, show stepK 85 = 4096 from rfl, show immOf 85 x = sx 2147483648 (x / 4096 * 4096) from by unfold immOf; rw [if_pos rfl]]
    have h := sx_range 2147483648 (x / 4096 * 4096) (by omega)
    exact ⟨h.1, Int.le_of_lt_add_one h.2, step_sx _ _ 4096 (by decide) (by omega) (by decide)⟩
  · rw [show lowK 74 = -1048576 from rfl, show highK 74 = 1048575 from rfl, show stepK 74 = 2 from rfl, show immOf 74 x = sx 1048576 (x / 2147483648 * 1048576 + x / 4096 % 256 * 4096 + x / 1048576 % 2 * 2048 + x / 2097152 % 1024 * 2) from by unfold immOf; rw [if_neg (by decide), if_pos rfl]]
    have h := sx_range 1048576 (x / 2147483648 * 1048576 + x / 4096 % 256 * 4096 + x / 1048576 % 2 * 2048 + x / 2097152 % 1024 * 2) (by omega)
    exact ⟨h.1, Int.le_of_lt_add_one h.2, step_sx _ _ 2 (by decide) (by omega) (by decide)⟩
  · rw [show immOf 73 x = sx 2048 (x / 1048576) from rfl, show lowK 73 = -2048 from rfl, show highK 73 = 2047 from rfl, show stepK 73 = 1 from rfl]
    have h := sx_range 2048 (x / 1048576) (by omega)
    exact ⟨h.1, Int.le_of_lt_add_one h.2, Int.emod_one _⟩
  · rw [show immOf 76 x = sx 2048 (x / 1048576) from rfl, show lowK 76 = -2048 from rfl, show highK 76 = 2047 from rfl, show stepK 76 = 1 from rfl]
    have h := sx_range 2048 (x / 1048576) (by omega)
    exact ⟨h.1, Int.le_of_lt_add_one h.2, Int.emod_one _⟩
  · rw [show immOf 70 x = sx 2048 (x / 1048576) from rfl, show lowK 70 = -2048 from rfl, show highK 70 = 2047 from rfl, show stepK 70 = 1 from rfl]
    have h := sx_range 2048 (x / 1048576) (by omega)
    exact ⟨h.1, Int.le_of_lt_add_one h.2, Int.emod_one _⟩
  · rw [show lowK 66 = -4096 from rfl, show highK 66 = 4095 from rfl, show stepK 66 = 2 from rfl, show immOf 66 x = sx 4096 (x / 2147483648 * 4096 + x / 128 % 2 * 2048 + x / 33554432 % 64 * 32 + x / 256 % 16 * 2) from by unfold immOf; rw [if_neg (by decide), if_neg (by decide), if_neg (by decide), if_pos rfl]]
    have h := sx_range 4096 (x / 2147483648 * 4096 + x / 128 % 2 * 2048 + x / 33554432 % 64 * 32 + x / 256 % 16 * 2) (by omega)
    exact ⟨h.1, Int.le_of_lt_add_one h.2, step_sx _ _ 2 (by decide) (by omega) (by decide)⟩
  · rw [show immOf 83 x = sx 2048 (x / 33554432 * 32 + x / 128 % 32) from rfl, show lowK 83 = -2048 from rfl, show highK 83 = 2047 from rfl, show stepK 83 = 1 from rfl]
    have h := sx_range 2048 (x / 33554432 * 32 + x / 128 % 32) (by omega)
    exact ⟨h.1, Int.le_of_lt_add_one h.2, Int.emod_one _⟩
  · rw [show immOf 72 x = ((x / 1048576 % 32 : Nat) : Int) from rfl, show lowK 72 = 0 from rfl, show highK 72 = 31 from rfl, show stepK 72 = 1 from rfl]
    exact ⟨by omega, by omega, Int.emod_one _⟩
  · rw [show immOf 67 x = 0 from rfl]
    exact ⟨by decide, by decide, by decide⟩
  · rw [show immOf 82 x = 0 from rfl]
    exact ⟨by decide, by decide, by decide⟩
  · rw [show immOf 78 x = 0 from rfl]
    exact ⟨by decide, by decide, by decide⟩
theorem st_parts {k b : Nat} (h : stB k b = true) : (k = 85 ∨ k = 74 → b < 128) ∧ (k = 73 ∨ k = 76 ∨ k = 70 ∨ k = 66 ∨ k = 83 ∨ k = 67 → b % 128 + b / 4096 % 8 * 4096 = b) ∧ (k = 72 ∨ k = 82 → b % 128 + b / 4096 % 8 * 4096 + b / 33554432 * 33554432 = b) := by
  unfold stB at h
  split at h <;> rename_i h1
  · exact ⟨fun _ => by simpa using h, fun _ => by omega, fun _ => by omega⟩
  · split at h <;> rename_i h2
    · exact ⟨fun _ => by omega, fun _ => by simpa using h, fun _ => by omega⟩
    · split at h <;> rename_i h3
      · have h' : b % 128 + b / 4096 % 8 * 4096 + b / 33554432 * 33554432 = b ∧ b < 4294967296 := by simpa using h
        exact ⟨fun _ => by omega, fun _ => by omega, fun _ => h'.1⟩
      · exact ⟨fun _ => by omega, fun _ => by omega, fun _ => by omega⟩
theorem read_good {k b : Nat} (hs : stB k b = true) (hk : k = 85 ∨ k = 74 ∨ k = 73 ∨ k = 76 ∨ k = 70 ∨ k = 66 ∨ k = 83 ∨ k = 72 ∨ k = 67 ∨ k = 82 ∨ k = 78) {rd r1 r2 imm csr : Int} (h : Good k rd r1 r2 imm csr) :
    rdOf k (laidI k b rd r1 r2 imm csr) = rd ∧ r1Of k (laidI k b rd r1 r2 imm csr) = r1 ∧ r2Of k (laidI k b rd r1 r2 imm csr) = r2 ∧ immOf k (laidI k b rd r1 r2 imm csr) = imm ∧ csrOf k (laidI k b rd r1 r2 imm csr) = csr := by
  obtain ⟨sU, sI, sH⟩ := st_parts hs
  obtain ⟨⟨i1, i2, i3⟩, ⟨d1, d2⟩, ⟨a1, a2⟩, ⟨c1, c2⟩, ⟨e1, e2⟩⟩ := h
  rcases hk with rfl | rfl | rfl | rfl | rfl | rfl | rfl | rfl | rfl | rfl | rfl
  · obtain rfl : r1 = 0 := Int.le_antisymm a2 a1
    obtain rfl : r2 = 0 := Int.le_antisymm c2 c1
    obtain rfl : csr = 0 := Int.le_antisymm e2 e1
    obtain ⟨g1, g2⟩ := good_U (sU (by decide)) d1 d2 i1 i2 i3 0 0
    exact ⟨g1, rfl, rfl, g2, rfl⟩
  · obtain rfl : r1 = 0 := Int.le_antisymm a2 a1
    obtain rfl : r2 = 0 := Int.le_antisymm c2 c1
    obtain rfl : csr = 0 := Int.le_antisymm e2 e1
    obtain ⟨g1, g2⟩ := good_J (sU (by decide)) d1 d2 i1 i2 i3 0 0
    exact ⟨g1, rfl, rfl, g2, rfl⟩
  · obtain rfl : r2 = 0 := Int.le_antisymm c2 c1
    obtain rfl : csr = 0 := Int.le_antisymm e2 e1
    obtain ⟨g1, g2, g3⟩ := good_I (k := 73) (by decide) (sI (by decide)) d1 d2 a1 a2 i1 i2 0 0
    exact ⟨g1, g2, rfl, g3, rfl⟩
  · obtain rfl : r2 = 0 := Int.le_antisymm c2 c1
    obtain rfl : csr = 0 := Int.le_antisymm e2 e1
    obtain ⟨g1, g2, g3⟩ := good_I (k := 76) (by decide) (sI (by decide)) d1 d2 a1 a2 i1 i2 0 0
    exact ⟨g1, g2, rfl, g3, rfl⟩
  · obtain rfl : r2 = 0 := Int.le_antisymm c2 c1
    obtain rfl : csr = 0 := Int.le_antisymm e2 e1
    obtain ⟨g1, g2, g3⟩ := good_I (k := 70) (by decide) (sI (by decide)) d1 d2 a1 a2 i1 i2 0 0
    exact ⟨g1, g2, rfl, g3, rfl⟩
  · obtain rfl : rd = 0 := Int.le_antisymm d2 d1
    obtain rfl : csr = 0 := Int.le_antisymm e2 e1
    obtain ⟨g1, g2, g3⟩ := good_B (sI (by decide)) c1 c2 a1 a2 i1 i2 i3 0
    exact ⟨rfl, g1, g2, g3, rfl⟩
  · obtain rfl : rd = 0 := Int.le_antisymm d2 d1
    obtain rfl : csr = 0 := Int.le_antisymm e2 e1
    obtain ⟨g1, g2, g3⟩ := good_S (sI (by decide)) c1 c2 a1 a2 i1 i2 0
    exact ⟨rfl, g1, g2, g3, rfl⟩
  · obtain rfl : r2 = 0 := Int.le_antisymm c2 c1
    obtain rfl : csr = 0 := Int.le_antisymm e2 e1
    obtain ⟨g1, g2, g3⟩ := good_H (sH (by decide)) d1 d2 a1 a2 i1 i2 0 0
    exact ⟨g1, g2, rfl, g3, rfl⟩
  · obtain rfl : r2 = 0 := Int.le_antisymm c2 c1
    obtain rfl : imm = 0 := Int.le_antisymm i2 i1
    obtain ⟨g1, g2, g3⟩ := good_C (sI (by decide)) d1 d2 a1 a2 e1 e2 0 0
    exact ⟨g1, g2, rfl, rfl, g3⟩
  · obtain rfl : csr = 0 := Int.le_antisymm e2 e1
    obtain rfl : imm = 0 := Int.le_antisymm i2 i1
    obtain ⟨g1, g2, g3⟩ := good_R (sH (by decide)) d1 d2 a1 a2 c1 c2 0 0
    exact ⟨g1, g2, g3, rfl, rfl⟩
  · obtain rfl : rd = 0 := Int.le_antisymm d2 d1
    obtain rfl : r1 = 0 := Int.le_antisymm a2 a1
    obtain rfl : r2 = 0 := Int.le_antisymm c2 c1
    obtain rfl : csr = 0 := Int.le_antisymm e2 e1
    obtain rfl : imm = 0 := Int.le_antisymm i2 i1
    exact ⟨rfl, rfl, rfl, rfl, rfl⟩

end Go.Proofs.YtkcdnhennnjneaaGreatDoor
