import Derived.Test.YtkcdnhennnjneaaGreatDoorProg
import Derived.Below
import Derived.Deep.Draws
import Derived.Deep.AppendLies
import Derived.Maps.AppendAt
import Derived.OwnWalk
import Derived.Laws.BytesArg
import Derived.Laws.MakeOwn
import Derived.Laws.OwnMore
import Derived.Deep.OwnRows
import Derived.Tactics
import Derived.Lib.ConvBytes
import Derived.Laws.Slices
import Derived.WalkKit
import Derived.KernelRfl
import Derived.RowKit3
import Derived.Deep.LoopGhost
import Derived.Deep.QuietTactic
import Derived.BigQuiet
import Derived.WideLaws
import Derived.Deep.DeepCutAuto
import Derived.Deep.CutBlock
import Derived.Deep.RegionHeld3
import Derived.Laws.Rows
import Derived.Lib.AppendStr
import Derived.ArgAppend
import Derived.Laws.IdiomCopy
import Derived.OrdersHeld
import Derived.Laws.BitsLemmas
import Derived.RowKit
import Derived.Lib.Hide
import Derived.Laws.BitsAllLaws
import Derived.WalkLawsBesides
import Derived.WalkSpells
import Derived.LaidEql
namespace Go.Proofs.YtkcdnhennnjneaaGreatDoor
open Go.RowKit
set_option maxRecDepth 100000
set_option linter.unusedVariables false
set_option linter.unusedSimpArgs false

/-- the letters of the forms -/
def kTab : List Nat := List.replicate 2 85 ++ [74, 73] ++ List.replicate 6 66 ++ List.replicate 5 76 ++ List.replicate 3 83 ++ List.replicate 6 73 ++ List.replicate 3 72 ++ List.replicate 18 82 ++ List.replicate 2 70 ++ List.replicate 4 78 ++ List.replicate 6 67
def kN (op : Nat) : Nat := kTab.getD op 0
/-- what an operation's word has beside its fields -/
def wTab : List Nat := [55, 23, 111, 103] ++ [0, 1, 4, 5, 6, 7].map (fun f => 99 + f * 4096) ++ [0, 1, 2, 4, 5].map (fun f => 3 + f * 4096) ++ [0, 1, 2].map (fun f => 35 + f * 4096) ++ [0, 2, 3, 4, 6, 7, 1, 5].map (fun f => 19 + f * 4096) ++ [19 + 5 * 4096 + 1073741824, 51, 51 + 1073741824] ++ [1, 2, 3, 4, 5].map (fun f => 51 + f * 4096) ++ [51 + 5 * 4096 + 1073741824, 51 + 6 * 4096, 51 + 7 * 4096] ++ (List.range 8).map (fun f => 51 + 33554432 + f * 4096) ++ [15, 15 + 4096, 115, 115 + 1048576, 115 + 770 * 1048576, 115 + 261 * 1048576] ++ [1, 2, 3, 5, 6, 7].map (fun f => 115 + f * 4096)
def wN (op : Nat) : Nat := wTab.getD op 0
theorem kTab_len : kTab.length = 57 := by decide
theorem wTab_len : wTab.length = 57 := by decide
/-- a word out of an instruction's parts -/
def laidN (k b rd r1 r2 n c : Nat) : Nat :=
  if k = 85 then (b ||| (rd * 128 ||| r1 * 32768)) ||| n / 4096 * 4096
  else if k = 74 then ((((b ||| (rd * 128 ||| r1 * 32768)) ||| n / 1048576 % 2 * 2147483648) ||| n / 2 % 1024 * 2097152) ||| n / 2048 % 2 * 1048576) ||| n / 4096 % 256 * 4096
  else if k = 73 ∨ k = 76 ∨ k = 70 then (b ||| (rd * 128 ||| r1 * 32768)) ||| n * 1048576 % 4294967296
  else if k = 66 then ((b ||| (rd * 128 ||| r1 * 32768)) ||| (((n / 4096 % 2 * 2147483648 ||| n / 32 % 64 * 33554432) ||| n / 2 % 16 * 256) ||| n / 2048 % 2 * 128)) ||| r2 * 1048576
  else if k = 83 then ((b ||| (rd * 128 ||| r1 * 32768)) ||| (n / 32 % 128 * 33554432 ||| n % 32 * 128)) ||| r2 * 1048576
  else if k = 72 then (b ||| (rd * 128 ||| r1 * 32768)) ||| n % 32 * 1048576
  else if k = 67 then (b ||| (rd * 128 ||| r1 * 32768)) ||| c * 1048576 % 4294967296
  else (b ||| (rd * 128 ||| r1 * 32768)) ||| r2 * 1048576
def laidI (k b : Nat) (rd r1 r2 imm csr : Int) : Nat := laidN k b (rd % 32).toNat (r1 % 32).toNat (r2 % 32).toNat (imm % 4294967296).toNat (csr % 4294967296).toNat
/-- a number of some bits with its sign -/
def sx (h v : Nat) : Int := if v < h then (v : Int) else (v : Int) - 2 * h
def rdOf (k w : Nat) : Int := if k = 66 ∨ k = 83 ∨ k = 78 then 0 else (w / 128 % 32 : Nat)
def r1Of (k w : Nat) : Int := if k = 85 ∨ k = 74 ∨ k = 78 then 0 else (w / 32768 % 32 : Nat)
def r2Of (k w : Nat) : Int := if k = 66 ∨ k = 83 ∨ k = 82 then (w / 1048576 % 32 : Nat) else 0
def csrOf (k w : Nat) : Int := if k = 67 then (w / 1048576 : Nat) else 0
def immOf (k w : Nat) : Int :=
  if k = 85 then sx 2147483648 (w / 4096 * 4096)
  else if k = 74 then sx 1048576 (w / 2147483648 * 1048576 + w / 4096 % 256 * 4096 + w / 1048576 % 2 * 2048 + w / 2097152 % 1024 * 2)
  else if k = 73 ∨ k = 76 ∨ k = 70 then sx 2048 (w / 1048576)
  else if k = 66 then sx 4096 (w / 2147483648 * 4096 + w / 128 % 2 * 2048 + w / 33554432 % 64 * 32 + w / 256 % 16 * 2)
  else if k = 83 then sx 2048 (w / 33554432 * 32 + w / 128 % 32)
  else if k = 72 then (w / 1048576 % 32 : Nat)
  else 0
/-- what an operation's word may have beside its fields -/
def stB (k b : Nat) : Bool :=
  if k = 85 ∨ k = 74 then decide (b < 128)
  else if k = 73 ∨ k = 76 ∨ k = 70 ∨ k = 66 ∨ k = 83 ∨ k = 67 then decide (b % 128 + b / 4096 % 8 * 4096 = b)
  else if k = 72 ∨ k = 82 then decide (b % 128 + b / 4096 % 8 * 4096 + b / 33554432 * 33554432 = b ∧ b < 4294967296)
  else decide (k = 78 ∧ b < 4294967296)
theorem st_all : ∀ op, op < 57 → stB (kN op) (wN op) = true := by decide +kernel
/-- a word has an operation's own bits -/
def Fit (k b w : Nat) : Prop :=
  if k = 85 ∨ k = 74 then w % 128 = b
  else if k = 73 ∨ k = 76 ∨ k = 70 ∨ k = 66 ∨ k = 83 ∨ k = 67 then w % 128 + w / 4096 % 8 * 4096 = b
  else if k = 72 ∨ k = 82 then w % 128 + w / 4096 % 8 * 4096 + w / 33554432 * 33554432 = b
  else w = b
def fitB (k b w : Nat) : Bool :=
  if k = 85 ∨ k = 74 then w % 128 == b
  else if k = 73 ∨ k = 76 ∨ k = 70 ∨ k = 66 ∨ k = 83 ∨ k = 67 then w % 128 + w / 4096 % 8 * 4096 == b
  else if k = 72 ∨ k = 82 then w % 128 + w / 4096 % 8 * 4096 + w / 33554432 * 33554432 == b
  else w == b
theorem j7 {x y : Nat} (hx : x % 128 = 0) (hy : y < 128) : x ||| y = x + y := nat_join 7 x y hx hy
theorem j8 {x y : Nat} (hx : x % 256 = 0) (hy : y < 256) : x ||| y = x + y := nat_join 8 x y hx hy
theorem j12 {x y : Nat} (hx : x % 4096 = 0) (hy : y < 4096) : x ||| y = x + y := nat_join 12 x y hx hy
theorem j15 {x y : Nat} (hx : x % 32768 = 0) (hy : y < 32768) : x ||| y = x + y := nat_join 15 x y hx hy
theorem j20 {x y : Nat} (hx : x % 1048576 = 0) (hy : y < 1048576) : x ||| y = x + y := nat_join 20 x y hx hy
theorem j21 {x y : Nat} (hx : x % 2097152 = 0) (hy : y < 2097152) : x ||| y = x + y := nat_join 21 x y hx hy
theorem j25 {x y : Nat} (hx : x % 33554432 = 0) (hy : y < 33554432) : x ||| y = x + y := nat_join 25 x y hx hy
theorem j31 {x y : Nat} (hx : x % 2147483648 = 0) (hy : y < 2147483648) : x ||| y = x + y := nat_join 31 x y hx hy
theorem laid_U {b rd n c r2 : Nat} (hb : b < 128) (hrd : rd < 32) : laidN 85 b rd 0 r2 n c = b + rd * 128 + n / 4096 * 4096 := by
  unfold laidN
  rw [if_pos rfl, show (b ||| (rd * 128 ||| 0 * 32768)) ||| n / 4096 * 4096 = n / 4096 * 4096 ||| (rd * 128 ||| b) from by rw [Nat.zero_mul, Nat.or_zero]; ac_rfl, j7 (by omega) hb, j12 (x := n / 4096 * 4096) (by omega) (by omega)]
  omega
theorem laid_J {b rd n c r2 : Nat} (hb : b < 128) (hrd : rd < 32) : laidN 74 b rd 0 r2 n c = b + rd * 128 + n / 1048576 % 2 * 2147483648 + n / 2 % 1024 * 2097152 + n / 2048 % 2 * 1048576 + n / 4096 % 256 * 4096 := by
  unfold laidN
  obtain ⟨p1, e1⟩ : ∃ p, p = n / 1048576 % 2 := ⟨_, rfl⟩
  obtain ⟨p2, e2⟩ : ∃ p, p = n / 2 % 1024 := ⟨_, rfl⟩
  obtain ⟨p3, e3⟩ : ∃ p, p = n / 2048 % 2 := ⟨_, rfl⟩
  obtain ⟨p4, e4⟩ : ∃ p, p = n / 4096 % 256 := ⟨_, rfl⟩
  rw [if_neg (by decide), if_pos rfl, ← e1, ← e2, ← e3, ← e4]
  have f1 : p1 < 2 := by omega
  have f2 : p2 < 1024 := by omega
  have f3 : p3 < 2 := by omega
  have f4 : p4 < 256 := by omega
  clear e1 e2 e3 e4
  rw [show ((((b ||| (rd * 128 ||| 0 * 32768)) ||| p1 * 2147483648) ||| p2 * 2097152) ||| p3 * 1048576) ||| p4 * 4096 = p1 * 2147483648 ||| (p2 * 2097152 ||| (p3 * 1048576 ||| (p4 * 4096 ||| (rd * 128 ||| b)))) from by rw [Nat.zero_mul, Nat.or_zero]; ac_rfl]
  rw [j7 (by omega) hb, j12 (x := p4 * 4096) (by omega) (by omega), j20 (x := p3 * 1048576) (by omega) (by omega), j21 (x := p2 * 2097152) (by omega) (by omega), j31 (x := p1 * 2147483648) (by omega) (by omega)]
  omega
theorem low_join {b rd r1 : Nat} (hb : b % 128 + b / 4096 % 8 * 4096 = b) (hrd : rd < 32) : r1 * 32768 ||| (rd * 128 ||| b) = b + rd * 128 + r1 * 32768 := by
  obtain ⟨b0, e0⟩ : ∃ p, p = b % 128 := ⟨_, rfl⟩
  obtain ⟨b3, e3⟩ : ∃ p, p = b / 4096 % 8 := ⟨_, rfl⟩
  rw [← e0, ← e3] at hb
  have f0 : b0 < 128 := by omega
  have f3 : b3 < 8 := by omega
  clear e0 e3
  subst hb
  rw [show r1 * 32768 ||| (rd * 128 ||| (b0 + b3 * 4096)) = r1 * 32768 ||| (b3 * 4096 ||| (rd * 128 ||| b0)) from by rw [Nat.add_comm b0, ← j12 (x := b3 * 4096) (y := b0) (by omega) (by omega)]; ac_rfl]
  rw [j7 (by omega) f0, j12 (x := b3 * 4096) (by omega) (by omega), j15 (x := r1 * 32768) (by omega) (by omega)]
  omega
theorem laid_I {k b rd r1 r2 n c : Nat} (hk : k = 73 ∨ k = 76 ∨ k = 70) (hb : b % 128 + b / 4096 % 8 * 4096 = b) (hrd : rd < 32) (hr1 : r1 < 32) : laidN k b rd r1 r2 n c = b + rd * 128 + r1 * 32768 + n % 4096 * 1048576 := by
  unfold laidN
  rw [if_neg (by omega), if_neg (by omega), if_pos hk, show (b ||| (rd * 128 ||| r1 * 32768)) ||| n * 1048576 % 4294967296 = n * 1048576 % 4294967296 ||| (r1 * 32768 ||| (rd * 128 ||| b)) from by ac_rfl, low_join hb hrd, j20 (by omega) (by omega)]
  omega
theorem laid_C {b rd r1 r2 n c : Nat} (hb : b % 128 + b / 4096 % 8 * 4096 = b) (hrd : rd < 32) (hr1 : r1 < 32) : laidN 67 b rd r1 r2 n c = b + rd * 128 + r1 * 32768 + c % 4096 * 1048576 := by
  unfold laidN
  rw [if_neg (by decide), if_neg (by decide), if_neg (by decide), if_neg (by decide), if_neg (by decide), if_neg (by decide), if_pos rfl, show (b ||| (rd * 128 ||| r1 * 32768)) ||| c * 1048576 % 4294967296 = c * 1048576 % 4294967296 ||| (r1 * 32768 ||| (rd * 128 ||| b)) from by ac_rfl, low_join hb hrd, j20 (by omega) (by omega)]
  omega
theorem laid_B {b r1 r2 n c : Nat} (hb : b % 128 + b / 4096 % 8 * 4096 = b) (hr1 : r1 < 32) (hr2 : r2 < 32) : laidN 66 b 0 r1 r2 n c = b + r1 * 32768 + r2 * 1048576 + n / 4096 % 2 * 2147483648 + n / 32 % 64 * 33554432 + n / 2 % 16 * 256 + n / 2048 % 2 * 128 := by
  unfold laidN
  obtain ⟨p1, e1⟩ : ∃ p, p = n / 4096 % 2 := ⟨_, rfl⟩
  obtain ⟨p2, e2⟩ : ∃ p, p = n / 32 % 64 := ⟨_, rfl⟩
  obtain ⟨p3, e3⟩ : ∃ p, p = n / 2 % 16 := ⟨_, rfl⟩
  obtain ⟨p4, e4⟩ : ∃ p, p = n / 2048 % 2 := ⟨_, rfl⟩
  rw [if_neg (by decide), if_neg (by decide), if_neg (by decide), if_pos rfl, ← e1, ← e2, ← e3, ← e4]
  have f1 : p1 < 2 := by omega
  have f2 : p2 < 64 := by omega
  have f3 : p3 < 16 := by omega
  have f4 : p4 < 2 := by omega
  clear e1 e2 e3 e4
  have hd : p3 * 256 ||| p4 * 128 = (p3 * 2 + p4) * 128 := by rw [j8 (by omega) (by omega)]; omega
  rw [show ((b ||| (0 * 128 ||| r1 * 32768)) ||| (((p1 * 2147483648 ||| p2 * 33554432) ||| p3 * 256) ||| p4 * 128)) ||| r2 * 1048576 = p1 * 2147483648 ||| (p2 * 33554432 ||| (r2 * 1048576 ||| (r1 * 32768 ||| ((p3 * 256 ||| p4 * 128) ||| b)))) from by rw [Nat.zero_mul, Nat.zero_or]; ac_rfl]
  rw [hd, low_join hb (by omega), j20 (x := r2 * 1048576) (by omega) (by omega), j25 (x := p2 * 33554432) (by omega) (by omega), j31 (x := p1 * 2147483648) (by omega) (by omega)]
  omega
theorem laid_S {b r1 r2 n c : Nat} (hb : b % 128 + b / 4096 % 8 * 4096 = b) (hr1 : r1 < 32) (hr2 : r2 < 32) : laidN 83 b 0 r1 r2 n c = b + r1 * 32768 + r2 * 1048576 + n / 32 % 128 * 33554432 + n % 32 * 128 := by
  unfold laidN
  obtain ⟨p1, e1⟩ : ∃ p, p = n / 32 % 128 := ⟨_, rfl⟩
  obtain ⟨p2, e2⟩ : ∃ p, p = n % 32 := ⟨_, rfl⟩
  rw [if_neg (by decide), if_neg (by decide), if_neg (by decide), if_neg (by decide), if_pos rfl, ← e1, ← e2]
  have f1 : p1 < 128 := by omega
  have f2 : p2 < 32 := by omega
  clear e1 e2
  rw [show ((b ||| (0 * 128 ||| r1 * 32768)) ||| (p1 * 33554432 ||| p2 * 128)) ||| r2 * 1048576 = p1 * 33554432 ||| (r2 * 1048576 ||| (r1 * 32768 ||| (p2 * 128 ||| b))) from by rw [Nat.zero_mul, Nat.zero_or]; ac_rfl]
  rw [low_join hb f2, j20 (x := r2 * 1048576) (by omega) (by omega), j25 (x := p1 * 33554432) (by omega) (by omega)]
  omega
theorem hi_join {b rd r1 q : Nat} (hb : b % 128 + b / 4096 % 8 * 4096 + b / 33554432 * 33554432 = b) (hrd : rd < 32) (hr1 : r1 < 32) (hq : q < 32) : (b ||| (rd * 128 ||| r1 * 32768)) ||| q * 1048576 = b + rd * 128 + r1 * 32768 + q * 1048576 := by
  obtain ⟨b0, e0⟩ : ∃ p, p = b % 128 + b / 4096 % 8 * 4096 := ⟨_, rfl⟩
  obtain ⟨b7, e7⟩ : ∃ p, p = b / 33554432 := ⟨_, rfl⟩
  have f0 : b0 % 128 + b0 / 4096 % 8 * 4096 = b0 := by omega
  have f1 : b0 < 33554432 := by omega
  rw [← e0, ← e7] at hb
  clear e0 e7
  subst hb
  rw [show (b0 + b7 * 33554432 ||| (rd * 128 ||| r1 * 32768)) ||| q * 1048576 = b7 * 33554432 ||| (q * 1048576 ||| (r1 * 32768 ||| (rd * 128 ||| b0))) from by rw [Nat.add_comm b0, ← j25 (x := b7 * 33554432) (y := b0) (by omega) f1]; ac_rfl]
  have f2 : b0 < 32768 := by omega
  rw [low_join f0 hrd, j20 (x := q * 1048576) (by omega) (by omega), j25 (x := b7 * 33554432) (by omega) (by omega)]
  omega
theorem laid_H {b rd r1 r2 n c : Nat} (hb : b % 128 + b / 4096 % 8 * 4096 + b / 33554432 * 33554432 = b) (hrd : rd < 32) (hr1 : r1 < 32) : laidN 72 b rd r1 r2 n c = b + rd * 128 + r1 * 32768 + n % 32 * 1048576 := by
  unfold laidN
  rw [if_neg (by decide), if_neg (by decide), if_neg (by decide), if_neg (by decide), if_neg (by decide), if_pos rfl, hi_join hb hrd hr1 (by omega)]
theorem laid_R {b rd r1 r2 n c : Nat} (hb : b % 128 + b / 4096 % 8 * 4096 + b / 33554432 * 33554432 = b) (hrd : rd < 32) (hr1 : r1 < 32) (hr2 : r2 < 32) : laidN 82 b rd r1 r2 n c = b + rd * 128 + r1 * 32768 + r2 * 1048576 := by
  unfold laidN
  rw [if_neg (by decide), if_neg (by decide), if_neg (by decide), if_neg (by decide), if_neg (by decide), if_neg (by decide), if_neg (by decide), hi_join hb hrd hr1 hr2]
theorem laid_N {b n c : Nat} : laidN 78 b 0 0 0 n c = b := by
  unfold laidN
  rw [if_neg (by decide), if_neg (by decide), if_neg (by decide), if_neg (by decide), if_neg (by decide), if_neg (by decide), if_neg (by decide)]
  simp

theorem nat5 {x : Int} {m : Nat} (h : x = (m : Nat)) (hm : m < 32) : (x % 32).toNat = m := by omega
theorem nat32 {x : Int} {m : Nat} (h : x = (m : Nat)) (hm : m < 4294967296) : (x % 4294967296).toNat = m := by omega
theorem sx_mod {h v : Nat} (hh : 0 < h) (hd : 2 * h ∣ 4294967296) (hv : v < 2 * h) : (sx h v % 4294967296).toNat % (2 * h) = v := by
  unfold sx
  obtain ⟨c, hc⟩ := hd
  split
  · have : ((v : Int) % 4294967296).toNat = v % 4294967296 := by omega
    rw [this, hc, Nat.mod_mul_right_mod, Nat.mod_eq_of_lt hv]
  · rename_i hn
    have hle : 2 * h ≤ 4294967296 := by
      rw [hc]; exact Nat.le_mul_of_pos_right _ (Nat.pos_of_ne_zero (by rintro rfl; simp at hc))
    have e : (((v : Int) - 2 * h) % 4294967296).toNat = v + (4294967296 - 2 * h) := by omega
    rw [e, hc]
    have e2 : 2 * h * c - 2 * h = 2 * h * (c - 1) := by rw [Nat.mul_sub, Nat.mul_one]
    rw [e2, Nat.add_mul_mod_self_left, Nat.mod_eq_of_lt hv]
theorem split_J {n p1 p2 p3 p4 : Nat} (f1 : p1 < 2) (f2 : p2 < 256) (f3 : p3 < 2) (f4 : p4 < 1024) (hm : n % (2 * 1048576) = p1 * 1048576 + p2 * 4096 + p3 * 2048 + p4 * 2) : n / 1048576 % 2 = p1 ∧ n / 4096 % 256 = p2 ∧ n / 2048 % 2 = p3 ∧ n / 2 % 1024 = p4 := by
  obtain ⟨q, m, hq, hl⟩ : ∃ q m, n = 2097152 * q + m ∧ m = p1 * 1048576 + p2 * 4096 + p3 * 2048 + p4 * 2 := ⟨n / 2097152, _, (Nat.div_add_mod n 2097152).symm, hm⟩
  clear hm
  have h1 : n / 1048576 = 2 * q + p1 := by omega
  have h2 : n / 4096 = 256 * (2 * q + p1) + p2 := by omega
  have h3 : n / 2048 = 2 * (256 * (2 * q + p1) + p2) + p3 := by omega
  have h4 : n / 2 = 1024 * (2 * (256 * (2 * q + p1) + p2) + p3) + p4 := by omega
  rw [h1, h2, h3, h4]
  refine ⟨?_, ?_, ?_, ?_⟩ <;> rw [Nat.mul_add_mod] <;> exact Nat.mod_eq_of_lt (by assumption)
theorem split_B {n p1 p2 p3 p4 : Nat} (f1 : p1 < 2) (f2 : p2 < 2) (f3 : p3 < 64) (f4 : p4 < 16) (hm : n % (2 * 4096) = p1 * 4096 + p2 * 2048 + p3 * 32 + p4 * 2) : n / 4096 % 2 = p1 ∧ n / 2048 % 2 = p2 ∧ n / 32 % 64 = p3 ∧ n / 2 % 16 = p4 := by
  obtain ⟨q, m, hq, hl⟩ : ∃ q m, n = 8192 * q + m ∧ m = p1 * 4096 + p2 * 2048 + p3 * 32 + p4 * 2 := ⟨n / 8192, _, (Nat.div_add_mod n 8192).symm, hm⟩
  clear hm
  have h1 : n / 4096 = 2 * q + p1 := by omega
  have h2 : n / 2048 = 2 * (2 * q + p1) + p2 := by omega
  have h3 : n / 32 = 64 * (2 * (2 * q + p1) + p2) + p3 := by omega
  have h4 : n / 2 = 16 * (64 * (2 * (2 * q + p1) + p2) + p3) + p4 := by omega
  rw [h1, h2, h3, h4]
  refine ⟨?_, ?_, ?_, ?_⟩ <;> rw [Nat.mul_add_mod] <;> exact Nat.mod_eq_of_lt (by assumption)
theorem split_S {n p1 p2 : Nat} (f1 : p1 < 128) (f2 : p2 < 32) (hm : n % (2 * 2048) = p1 * 32 + p2) : n / 32 % 128 = p1 ∧ n % 32 = p2 := by
  obtain ⟨q, m, hq, hl⟩ : ∃ q m, n = 4096 * q + m ∧ m = p1 * 32 + p2 := ⟨n / 4096, _, (Nat.div_add_mod n 4096).symm, hm⟩
  clear hm
  have h1 : n / 32 = 128 * q + p1 := by omega
  refine ⟨?_, by omega⟩
  rw [h1, Nat.mul_add_mod]
  exact Nat.mod_eq_of_lt f1
theorem dec_U (w : Nat) : w = w % 128 + w / 128 % 32 * 128 + w / 4096 * 4096 := by
  have h0 : w = w % 128 + 128 * (w / 128) := by omega
  have h7 : w / 128 = w / 128 % 32 + 32 * (w / 4096) := by omega
  generalize w % 128 = r0 at *
  generalize w / 128 % 32 = r7 at *
  generalize w / 128 = q7 at *
  generalize w / 4096 = q12 at *
  omega
theorem dec_J (w : Nat) : w = w % 128 + w / 128 % 32 * 128 + w / 4096 % 256 * 4096 + w / 1048576 % 2 * 1048576 + w / 2097152 % 1024 * 2097152 + w / 2147483648 * 2147483648 := by
  have h0 : w = w % 128 + 128 * (w / 128) := by omega
  have h7 : w / 128 = w / 128 % 32 + 32 * (w / 4096) := by omega
  have h12 : w / 4096 = w / 4096 % 256 + 256 * (w / 1048576) := by omega
  have h20 : w / 1048576 = w / 1048576 % 2 + 2 * (w / 2097152) := by omega
  have h21 : w / 2097152 = w / 2097152 % 1024 + 1024 * (w / 2147483648) := by omega
  generalize w % 128 = r0 at *
  generalize w / 128 % 32 = r7 at *
  generalize w / 4096 % 256 = r12 at *
  generalize w / 1048576 % 2 = r20 at *
  generalize w / 2097152 % 1024 = r21 at *
  generalize w / 128 = q7 at *
  generalize w / 4096 = q12 at *
  generalize w / 1048576 = q20 at *
  generalize w / 2097152 = q21 at *
  generalize w / 2147483648 = q31 at *
  omega
theorem dec_I (w : Nat) : w = w % 128 + w / 128 % 32 * 128 + w / 4096 % 8 * 4096 + w / 32768 % 32 * 32768 + w / 1048576 * 1048576 := by
  have h0 : w = w % 128 + 128 * (w / 128) := by omega
  have h7 : w / 128 = w / 128 % 32 + 32 * (w / 4096) := by omega
  have h12 : w / 4096 = w / 4096 % 8 + 8 * (w / 32768) := by omega
  have h15 : w / 32768 = w / 32768 % 32 + 32 * (w / 1048576) := by omega
  generalize w % 128 = r0 at *
  generalize w / 128 % 32 = r7 at *
  generalize w / 4096 % 8 = r12 at *
  generalize w / 32768 % 32 = r15 at *
  generalize w / 128 = q7 at *
  generalize w / 4096 = q12 at *
  generalize w / 32768 = q15 at *
  generalize w / 1048576 = q20 at *
  omega
theorem dec_B (w : Nat) : w = w % 128 + w / 128 % 2 * 128 + w / 256 % 16 * 256 + w / 4096 % 8 * 4096 + w / 32768 % 32 * 32768 + w / 1048576 % 32 * 1048576 + w / 33554432 % 64 * 33554432 + w / 2147483648 * 2147483648 := by
  have h0 : w = w % 128 + 128 * (w / 128) := by omega
  have h7 : w / 128 = w / 128 % 2 + 2 * (w / 256) := by omega
  have h8 : w / 256 = w / 256 % 16 + 16 * (w / 4096) := by omega
  have h12 : w / 4096 = w / 4096 % 8 + 8 * (w / 32768) := by omega
  have h15 : w / 32768 = w / 32768 % 32 + 32 * (w / 1048576) := by omega
  have h20 : w / 1048576 = w / 1048576 % 32 + 32 * (w / 33554432) := by omega
  have h25 : w / 33554432 = w / 33554432 % 64 + 64 * (w / 2147483648) := by omega
  generalize w % 128 = r0 at *
  generalize w / 128 % 2 = r7 at *
  generalize w / 256 % 16 = r8 at *
  generalize w / 4096 % 8 = r12 at *
  generalize w / 32768 % 32 = r15 at *
  generalize w / 1048576 % 32 = r20 at *
  generalize w / 33554432 % 64 = r25 at *
  generalize w / 128 = q7 at *
  generalize w / 256 = q8 at *
  generalize w / 4096 = q12 at *
  generalize w / 32768 = q15 at *
  generalize w / 1048576 = q20 at *
  generalize w / 33554432 = q25 at *
  generalize w / 2147483648 = q31 at *
  omega
theorem dec_S (w : Nat) : w = w % 128 + w / 128 % 32 * 128 + w / 4096 % 8 * 4096 + w / 32768 % 32 * 32768 + w / 1048576 % 32 * 1048576 + w / 33554432 * 33554432 := by
  have h0 : w = w % 128 + 128 * (w / 128) := by omega
  have h7 : w / 128 = w / 128 % 32 + 32 * (w / 4096) := by omega
  have h12 : w / 4096 = w / 4096 % 8 + 8 * (w / 32768) := by omega
  have h15 : w / 32768 = w / 32768 % 32 + 32 * (w / 1048576) := by omega
  have h20 : w / 1048576 = w / 1048576 % 32 + 32 * (w / 33554432) := by omega
  generalize w % 128 = r0 at *
  generalize w / 128 % 32 = r7 at *
  generalize w / 4096 % 8 = r12 at *
  generalize w / 32768 % 32 = r15 at *
  generalize w / 1048576 % 32 = r20 at *
  generalize w / 128 = q7 at *
  generalize w / 4096 = q12 at *
  generalize w / 32768 = q15 at *
  generalize w / 1048576 = q20 at *
  generalize w / 33554432 = q25 at *
  omega
theorem dec_R (w : Nat) : w = w % 128 + w / 128 % 32 * 128 + w / 4096 % 8 * 4096 + w / 32768 % 32 * 32768 + w / 1048576 % 32 * 1048576 + w / 33554432 * 33554432 := by
  have h0 : w = w % 128 + 128 * (w / 128) := by omega
  have h7 : w / 128 = w / 128 % 32 + 32 * (w / 4096) := by omega
  have h12 : w / 4096 = w / 4096 % 8 + 8 * (w / 32768) := by omega
  have h15 : w / 32768 = w / 32768 % 32 + 32 * (w / 1048576) := by omega
  have h20 : w / 1048576 = w / 1048576 % 32 + 32 * (w / 33554432) := by omega
  generalize w % 128 = r0 at *
  generalize w / 128 % 32 = r7 at *
  generalize w / 4096 % 8 = r12 at *
  generalize w / 32768 % 32 = r15 at *
  generalize w / 1048576 % 32 = r20 at *
  generalize w / 128 = q7 at *
  generalize w / 4096 = q12 at *
  generalize w / 32768 = q15 at *
  generalize w / 1048576 = q20 at *
  generalize w / 33554432 = q25 at *
  omega
theorem read_fit {k b w : Nat} (hw : w < 4294967296) (hs : stB k b = true) : laidI k b (rdOf k w) (r1Of k w) (r2Of k w) (immOf k w) (csrOf k w) = w ↔ Fit k b w := by
  have hk : k = 85 ∨ k = 74 ∨ (k = 73 ∨ k = 76 ∨ k = 70) ∨ k = 66 ∨ k = 83 ∨ k = 67 ∨ k = 72 ∨ k = 82 ∨ k = 78 := by
    unfold stB at hs
    split at hs
    · omega
    · split at hs
      · omega
      · split at hs
        · omega
        · simp at hs; omega
  unfold laidI
  rcases hk with rfl | rfl | hk | rfl | rfl | rfl | rfl | rfl | rfl
  · have hb : b < 128 := by simpa [stB] using hs
    rw [show rdOf 85 w = ((w / 128 % 32 : Nat) : Int) from rfl, show r1Of 85 w = 0 from rfl, show immOf 85 w = sx 2147483648 (w / 4096 * 4096) from by unfold immOf; rw [if_pos rfl]]
    have hm := sx_mod (h := 2147483648) (v := w / 4096 * 4096) (by decide) (by decide) (by omega)
    obtain ⟨n, hn⟩ : ∃ n, n = (sx 2147483648 (w / 4096 * 4096) % 4294967296).toNat := ⟨_, rfl⟩
    rw [← hn] at hm ⊢
    have hn1 : n < 4294967296 := by omega
    clear hn
    rw [nat5 rfl (by omega), show ((0 : Int) % 32).toNat = 0 from rfl, laid_U hb (by omega)]
    unfold Fit
    rw [if_pos (by decide)]
    have hW := dec_U w
    have hn2 : n / 4096 * 4096 = w / 4096 * 4096 := by omega
    rw [hn2]
    generalize w % 128 = r0 at hW ⊢
    generalize w / 128 % 32 = r1 at hW ⊢
    generalize w / 4096 = r2 at hW ⊢
    clear hs hw hm hn1 hn2
    omega
  · have hb : b < 128 := by simpa [stB] using hs
    obtain ⟨p1, e1⟩ : ∃ p, p = w / 2147483648 := ⟨_, rfl⟩
    obtain ⟨p2, e2⟩ : ∃ p, p = w / 4096 % 256 := ⟨_, rfl⟩
    obtain ⟨p3, e3⟩ : ∃ p, p = w / 1048576 % 2 := ⟨_, rfl⟩
    obtain ⟨p4, e4⟩ : ∃ p, p = w / 2097152 % 1024 := ⟨_, rfl⟩
    rw [show rdOf 74 w = ((w / 128 % 32 : Nat) : Int) from rfl, show r1Of 74 w = 0 from rfl, show immOf 74 w = sx 1048576 (w / 2147483648 * 1048576 + w / 4096 % 256 * 4096 + w / 1048576 % 2 * 2048 + w / 2097152 % 1024 * 2) from by unfold immOf; rw [if_neg (by decide), if_pos rfl], ← e1, ← e2, ← e3, ← e4]
    have f1 : p1 < 2 := by omega
    have f2 : p2 < 256 := by omega
    have f3 : p3 < 2 := by omega
    have f4 : p4 < 1024 := by omega
    have hm := sx_mod (h := 1048576) (v := p1 * 1048576 + p2 * 4096 + p3 * 2048 + p4 * 2) (by decide) (by decide) (by omega)
    obtain ⟨n, hn⟩ : ∃ n, n = (sx 1048576 (p1 * 1048576 + p2 * 4096 + p3 * 2048 + p4 * 2) % 4294967296).toNat := ⟨_, rfl⟩
    rw [← hn] at hm ⊢
    clear hn
    rw [nat5 rfl (by omega), show ((0 : Int) % 32).toNat = 0 from rfl, laid_J hb (by omega)]
    unfold Fit
    rw [if_pos (by decide)]
    obtain ⟨g1, g2, g3, g4⟩ := split_J f1 f2 f3 f4 hm
    rw [g1, g2, g3, g4]
    clear hm g1 g2 g3 g4
    have hW := dec_J w
    rw [← e1, ← e2, ← e3, ← e4] at hW
    generalize w % 128 = r0 at hW ⊢
    generalize w / 128 % 32 = r1 at hW ⊢
    clear hs hw e1 e2 e3 e4 f1 f2 f3 f4
    omega
  · have hb : b % 128 + b / 4096 % 8 * 4096 = b := by
      unfold stB at hs
      rw [if_neg (by omega), if_pos (by omega)] at hs
      simpa using hs
    rw [show rdOf k w = ((w / 128 % 32 : Nat) : Int) from by unfold rdOf; rw [if_neg (by omega)], show r1Of k w = ((w / 32768 % 32 : Nat) : Int) from by unfold r1Of; rw [if_neg (by omega)], show immOf k w = sx 2048 (w / 1048576) from by unfold immOf; rw [if_neg (by omega), if_neg (by omega), if_pos hk]]
    have hm := sx_mod (h := 2048) (v := w / 1048576) (by decide) (by decide) (by omega)
    obtain ⟨n, hn⟩ : ∃ n, n = (sx 2048 (w / 1048576) % 4294967296).toNat := ⟨_, rfl⟩
    rw [← hn] at hm ⊢
    clear hn
    rw [nat5 rfl (by omega), nat5 rfl (by omega), laid_I hk hb (by omega) (by omega)]
    unfold Fit
    rw [if_neg (by omega), if_pos (by omega)]
    have hW := dec_I w
    rw [show (4096 : Nat) = 2 * 2048 from rfl, hm, show (2 * 2048 : Nat) = 4096 from rfl]
    generalize w % 128 = r0 at hW ⊢
    generalize w / 128 % 32 = r1 at hW ⊢
    generalize w / 4096 % 8 = r2 at hW ⊢
    generalize w / 32768 % 32 = r3 at hW ⊢
    generalize w / 1048576 = r4 at hW ⊢
    clear hs hw hm hk
    omega
  · have hb : b % 128 + b / 4096 % 8 * 4096 = b := by simpa [stB] using hs
    obtain ⟨p1, e1⟩ : ∃ p, p = w / 2147483648 := ⟨_, rfl⟩
    obtain ⟨p2, e2⟩ : ∃ p, p = w / 128 % 2 := ⟨_, rfl⟩
    obtain ⟨p3, e3⟩ : ∃ p, p = w / 33554432 % 64 := ⟨_, rfl⟩
    obtain ⟨p4, e4⟩ : ∃ p, p = w / 256 % 16 := ⟨_, rfl⟩
    rw [show rdOf 66 w = 0 from rfl, show r1Of 66 w = ((w / 32768 % 32 : Nat) : Int) from rfl, show r2Of 66 w = ((w / 1048576 % 32 : Nat) : Int) from rfl, show immOf 66 w = sx 4096 (w / 2147483648 * 4096 + w / 128 % 2 * 2048 + w / 33554432 % 64 * 32 + w / 256 % 16 * 2) from by unfold immOf; rw [if_neg (by decide), if_neg (by decide), if_neg (by decide), if_pos rfl], ← e1, ← e2, ← e3, ← e4]
    have f1 : p1 < 2 := by omega
    have f2 : p2 < 2 := by omega
    have f3 : p3 < 64 := by omega
    have f4 : p4 < 16 := by omega
    have hm := sx_mod (h := 4096) (v := p1 * 4096 + p2 * 2048 + p3 * 32 + p4 * 2) (by decide) (by decide) (by omega)
    obtain ⟨n, hn⟩ : ∃ n, n = (sx 4096 (p1 * 4096 + p2 * 2048 + p3 * 32 + p4 * 2) % 4294967296).toNat := ⟨_, rfl⟩
    rw [← hn] at hm ⊢
    clear hn
    rw [nat5 rfl (by omega), nat5 rfl (by omega), show ((0 : Int) % 32).toNat = 0 from rfl, laid_B hb (by omega) (by omega)]
    unfold Fit
    rw [if_neg (by decide), if_pos (by decide)]
    obtain ⟨g1, g2, g3, g4⟩ := split_B f1 f2 f3 f4 hm
    rw [g1, g2, g3, g4]
    clear hm g1 g2 g3 g4
    have hW := dec_B w
    rw [← e1, ← e2, ← e3, ← e4] at hW
    generalize w % 128 = r0 at hW ⊢
    generalize w / 4096 % 8 = r1 at hW ⊢
    generalize w / 32768 % 32 = r2 at hW ⊢
    generalize w / 1048576 % 32 = r3 at hW ⊢
    clear hs hw e1 e2 e3 e4 f1 f2 f3 f4
    omega
  · have hb : b % 128 + b / 4096 % 8 * 4096 = b := by simpa [stB] using hs
    obtain ⟨p1, e1⟩ : ∃ p, p = w / 33554432 := ⟨_, rfl⟩
    obtain ⟨p2, e2⟩ : ∃ p, p = w / 128 % 32 := ⟨_, rfl⟩
    rw [show rdOf 83 w = 0 from rfl, show r1Of 83 w = ((w / 32768 % 32 : Nat) : Int) from rfl, show r2Of 83 w = ((w / 1048576 % 32 : Nat) : Int) from rfl, show immOf 83 w = sx 2048 (w / 33554432 * 32 + w / 128 % 32) from rfl, ← e1, ← e2]
    have f1 : p1 < 128 := by omega
    have f2 : p2 < 32 := by omega
    have hm := sx_mod (h := 2048) (v := p1 * 32 + p2) (by decide) (by decide) (by omega)
    obtain ⟨n, hn⟩ : ∃ n, n = (sx 2048 (p1 * 32 + p2) % 4294967296).toNat := ⟨_, rfl⟩
    rw [← hn] at hm ⊢
    clear hn
    rw [nat5 rfl (by omega), nat5 rfl (by omega), show ((0 : Int) % 32).toNat = 0 from rfl, laid_S hb (by omega) (by omega)]
    unfold Fit
    rw [if_neg (by decide), if_pos (by decide)]
    obtain ⟨g1, g2⟩ := split_S f1 f2 hm
    rw [g1, g2]
    clear hm g1 g2
    have hW := dec_S w
    rw [← e1, ← e2] at hW
    generalize w % 128 = r0 at hW ⊢
    generalize w / 4096 % 8 = r1 at hW ⊢
    generalize w / 32768 % 32 = r2 at hW ⊢
    generalize w / 1048576 % 32 = r3 at hW ⊢
    clear hs hw e1 e2 f1 f2
    omega
  · have hb : b % 128 + b / 4096 % 8 * 4096 = b := by simpa [stB] using hs
    rw [show rdOf 67 w = ((w / 128 % 32 : Nat) : Int) from rfl, show r1Of 67 w = ((w / 32768 % 32 : Nat) : Int) from rfl, show csrOf 67 w = ((w / 1048576 : Nat) : Int) from rfl]
    rw [nat5 rfl (by omega), nat5 rfl (by omega), nat32 (x := ((w / 1048576 : Nat) : Int)) rfl (by omega), laid_C hb (by omega) (by omega)]
    unfold Fit
    rw [if_neg (by decide), if_pos (by decide)]
    have hW := dec_I w
    rw [show w / 1048576 % 4096 = w / 1048576 from by omega]
    generalize w % 128 = r0 at hW ⊢
    generalize w / 128 % 32 = r1 at hW ⊢
    generalize w / 4096 % 8 = r2 at hW ⊢
    generalize w / 32768 % 32 = r3 at hW ⊢
    generalize w / 1048576 = r4 at hW ⊢
    clear hs hw
    omega
  · have hb : b % 128 + b / 4096 % 8 * 4096 + b / 33554432 * 33554432 = b ∧ b < 4294967296 := by simpa [stB] using hs
    rw [show rdOf 72 w = ((w / 128 % 32 : Nat) : Int) from rfl, show r1Of 72 w = ((w / 32768 % 32 : Nat) : Int) from rfl, show immOf 72 w = ((w / 1048576 % 32 : Nat) : Int) from rfl]
    rw [nat5 rfl (by omega), nat5 rfl (by omega), nat32 (x := ((w / 1048576 % 32 : Nat) : Int)) rfl (by omega), laid_H hb.1 (by omega) (by omega)]
    unfold Fit
    rw [if_neg (by decide), if_neg (by decide), if_pos (by decide)]
    have hW := dec_R w
    rw [show w / 1048576 % 32 % 32 = w / 1048576 % 32 from by omega]
    generalize w % 128 = r0 at hW ⊢
    generalize w / 128 % 32 = r1 at hW ⊢
    generalize w / 4096 % 8 = r2 at hW ⊢
    generalize w / 32768 % 32 = r3 at hW ⊢
    generalize w / 1048576 % 32 = r4 at hW ⊢
    generalize w / 33554432 = r5 at hW ⊢
    clear hs hw
    omega
  · have hb : b % 128 + b / 4096 % 8 * 4096 + b / 33554432 * 33554432 = b ∧ b < 4294967296 := by simpa [stB] using hs
    rw [show rdOf 82 w = ((w / 128 % 32 : Nat) : Int) from rfl, show r1Of 82 w = ((w / 32768 % 32 : Nat) : Int) from rfl, show r2Of 82 w = ((w / 1048576 % 32 : Nat) : Int) from rfl]
    rw [nat5 rfl (by omega), nat5 rfl (by omega), nat5 rfl (by omega), laid_R hb.1 (by omega) (by omega) (by omega)]
    unfold Fit
    rw [if_neg (by decide), if_neg (by decide), if_pos (by decide)]
    have hW := dec_R w
    generalize w % 128 = r0 at hW ⊢
    generalize w / 128 % 32 = r1 at hW ⊢
    generalize w / 4096 % 8 = r2 at hW ⊢
    generalize w / 32768 % 32 = r3 at hW ⊢
    generalize w / 1048576 % 32 = r4 at hW ⊢
    generalize w / 33554432 = r5 at hW ⊢
    clear hs hw
    omega
  · rw [show rdOf 78 w = 0 from rfl, show r1Of 78 w = 0 from rfl, show r2Of 78 w = 0 from rfl, show ((0 : Int) % 32).toNat = 0 from rfl, laid_N]
    unfold Fit
    rw [if_neg (by decide), if_neg (by decide), if_neg (by decide)]
    exact eq_comm
/-- two operations never have one word -/
def clashB (a b : Nat) : Bool :=
  let f := fun k => k != 85 && k != 74
  let g := fun k => k == 72 || k == 82
  wN a % 128 != wN b % 128 || (f (kN a) && f (kN b) && wN a / 4096 % 8 != wN b / 4096 % 8) || (g (kN a) && g (kN b) && wN a / 33554432 != wN b / 33554432) || (kN a == 78 && !fitB (kN b) (wN b) (wN a)) || (kN b == 78 && !fitB (kN a) (wN a) (wN b))
theorem clash_all : ∀ a, a < 57 → ∀ b, b < 57 → a ≠ b → clashB a b = true := by decide +kernel
theorem fit_b {k b w : Nat} (h : Fit k b w) : fitB k b w = true := by
  unfold Fit at h
  unfold fitB
  split <;> rename_i h1
  · rw [if_pos h1] at h; simp [h]
  · rw [if_neg h1] at h
    split <;> rename_i h2
    · rw [if_pos h2] at h; simp [h]
    · rw [if_neg h2] at h
      split <;> rename_i h3
      · rw [if_pos h3] at h; simp [h]
      · rw [if_neg h3] at h; simp [h]
theorem fit_op {k b w : Nat} (hs : stB k b = true) (h : Fit k b w) : w % 128 = b % 128 ∧ ((k ≠ 85 ∧ k ≠ 74) → w / 4096 % 8 = b / 4096 % 8) ∧ ((k = 72 ∨ k = 82) → w / 33554432 = b / 33554432) ∧ (k = 78 → w = b) := by
  unfold stB at hs
  unfold Fit at h
  split at hs <;> rename_i h1
  · rw [if_pos h1] at h
    simp at hs
    refine ⟨by omega, by omega, by omega, by omega⟩
  · rw [if_neg h1] at h
    split at hs <;> rename_i h2
    · rw [if_pos h2] at h
      refine ⟨by omega, by omega, by omega, by omega⟩
    · rw [if_neg h2] at h
      split at hs <;> rename_i h3
      · rw [if_pos h3] at h
        refine ⟨by omega, by omega, by omega, by omega⟩
      · rw [if_neg h3] at h
        subst h
        exact ⟨rfl, fun _ => rfl, fun _ => rfl, fun _ => rfl⟩
theorem fit_unique {a b w : Nat} (ha : a < 57) (hb : b < 57) (h1 : Fit (kN a) (wN a) w) (h2 : Fit (kN b) (wN b) w) : a = b := by
  by_cases e : a = b
  · exact e
  exfalso
  have hc := clash_all a ha b hb e
  obtain ⟨p1, p2, p3, p4⟩ := fit_op (st_all a ha) h1
  obtain ⟨q1, q2, q3, q4⟩ := fit_op (st_all b hb) h2
  have r1 := fit_b h1
  have r2 := fit_b h2
  unfold clashB at hc
  simp only [Bool.or_eq_true, Bool.and_eq_true, bne_iff_ne, ne_eq, beq_iff_eq, Bool.not_eq_true'] at hc
  rcases hc with (((hc | hc) | hc) | hc) | hc
  · exact hc (p1.symm.trans q1)
  · exact hc.2 ((p2 hc.1.1).symm.trans (q2 hc.1.2))
  · exact hc.2 ((p3 hc.1.1).symm.trans (q3 hc.1.2))
  · rw [← p4 hc.1, r2] at hc; cases hc.2
  · rw [← q4 hc.1, r1] at hc; cases hc.2

theorem mapM_at {α β : Type} {f : α → Option β} : ∀ {l : List α} {ys : List β}, l.mapM f = some ys → ∀ {i : Nat} {a : α}, l[i]? = some a → ∃ y, f a = some y ∧ ys[i]? = some y
  | [], ys, h, i, a, hi => by simp at hi
  | x :: l, ys, h, i, a, hi => by
    rw [List.mapM_cons] at h
    cases h1 : f x with
    | none => simp [h1] at h
    | some y =>
      cases h2 : l.mapM f with
      | none => simp [h1, h2] at h
      | some ys' =>
        obtain rfl : y :: ys' = ys := by simpa [h1, h2] using h
        cases i with
        | zero => simp at hi; subst hi; exact ⟨y, h1, rfl⟩
        | succ i => simpa using mapM_at h2 (by simpa using hi)
/-- an array of cells, read as data: cell by cell -/
theorem tab_at {H : Type} {enc : TypeId × Value → H} {P : Program} {w : World} {base : Nat} {sp : Nat → Bool} {held : Bool} {fuel : Nat} {t : TypeId} {n : Nat} {e : TypeId} {cs : List Value} {ds : List (DataW H)} {p : List MemPlace}
    (ht : P.underlying t = some (.array n e)) (hc : P.cellsOf e = 1) (hct : P.cellsOf t = n) (h : DataW.trod enc P w base sp held fuel t cs = some (.agg ds, p)) :
    cs.length = n ∧ ∀ j, j < n → ∃ c fuel' y, cs[j]? = some c ∧ DataW.trod enc P w base sp held fuel' e [c] = some y ∧ ds[j]? = some y.1 := by
  cases fuel with
  | zero => simp [DataW.trod] at h
  | succ fuel =>
    simp only [DataW.trod, ht, hc, hct] at h
    split at h
    · rename_i hl
      simp only [Option.map_eq_some_iff] at h
      obtain ⟨xs, hx, he⟩ := h
      simp only [Prod.mk.injEq, DataW.agg.injEq] at he
      obtain ⟨rfl, _⟩ := he
      refine ⟨hl, fun j hj => ?_⟩
      obtain ⟨y, hy, hi⟩ := mapM_at hx (i := j) (a := j) (by simp [hj])
      have hj' : j < cs.length := by omega
      refine ⟨cs[j], fuel, y, by simp [hj'], ?_, by simp [hi]⟩
      have e1 : List.take 1 (List.drop (j * 1) cs) = [cs[j]] := by
        rw [Nat.mul_one, List.drop_eq_getElem_cons hj']; rfl
      rw [e1] at hy
      exact hy
    · cases h
theorem int_at {H : Type} {enc : TypeId × Value → H} {P : Program} {w : World} {base : Nat} {sp : Nat → Bool} {held : Bool} {fuel : Nat} {t : TypeId} {k : IntKind} {c : Value} {y : DataW H × List MemPlace}
    (ht : P.underlying t = some (.int k)) (h : DataW.trod enc P w base sp held fuel t [c] = some y) : ∃ n, c = .int k n ∧ y.1 = .lit (.int k n) := by
  cases fuel with
  | zero => simp [DataW.trod] at h
  | succ fuel =>
    cases c <;> simp [DataW.trod, ht] at h
    rename_i k' n
    obtain ⟨⟨rfl, _⟩, rfl⟩ := h
    exact ⟨n, rfl, rfl⟩
theorem str_at {H : Type} {enc : TypeId × Value → H} {P : Program} {w : World} {base : Nat} {sp : Nat → Bool} {held : Bool} {fuel : Nat} {t : TypeId} {c : Value} {y : DataW H × List MemPlace}
    (ht : P.underlying t = some .string) (h : DataW.trod enc P w base sp held fuel t [c] = some y) : ∃ s, c = .string s ∧ y.1 = .lit (.string s.data.toList) := by
  cases fuel with
  | zero => simp [DataW.trod] at h
  | succ fuel =>
    cases c <;> simp [DataW.trod, ht] at h
    rename_i s
    obtain ⟨_, rfl⟩ := h
    exact ⟨s, rfl, rfl⟩

end Go.Proofs.YtkcdnhennnjneaaGreatDoor
