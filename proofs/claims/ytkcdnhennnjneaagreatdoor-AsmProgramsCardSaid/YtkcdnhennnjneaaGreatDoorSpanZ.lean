import Derived.Test.YtkcdnhennnjneaaGreatDoorZA
import Derived.Below
import Derived.Deep.Draws
import Derived.Deep.AppendLies
import Derived.Maps.AppendAt
import Derived.OwnWalk
import Derived.Laws.BytesArg
import Derived.Laws.MakeOwn
import Derived.Laws.OwnMore
import Derived.Deep.OwnRows
import Derived.Tactics
import Derived.Lib.ConvBytes
import Derived.Laws.Slices
import Derived.WalkKit
import Derived.KernelRfl
import Derived.RowKit3
import Derived.Deep.LoopGhost
import Derived.Deep.QuietTactic
import Derived.BigQuiet
import Derived.WideLaws
import Derived.Deep.DeepCutAuto
import Derived.Deep.CutBlock
import Derived.Deep.RegionHeld3
import Derived.Laws.Rows
import Derived.Lib.AppendStr
import Derived.ArgAppend
import Derived.Laws.IdiomCopy
import Derived.OrdersHeld
import Derived.Laws.BitsLemmas
import Derived.RowKit
import Derived.Lib.Hide
import Derived.Laws.BitsAllLaws
import Derived.WalkLawsBesides
import Derived.WalkSpells
import Derived.LaidEql
namespace Go.Proofs.YtkcdnhennnjneaaGreatDoor
open Go.RowKit
set_option maxRecDepth 100000
set_option linter.unusedVariables false
set_option linter.unusedSimpArgs false

theorem news_i (w : World) (v : Value) (t : TypeId) : ∀ (j : Nat) (u : Value), [v][j]? = some u → (w.alloc (.cells #[v] t)).cell? ((⟨w.heap.size, 0, none⟩ : Addr).add j) = some u := by
  intro z u hz
  rcases z with _ | z
  · simp at hz; subst hz; simp [Addr.add]
  · simp at hz
/-- a list of numbers in a row of the call's own -/
def RowN (w : World) (base : Nat) (v : Value) (l : List Nat) : Prop := w.ownsRow base 3 1 v l.length (l.map fun i => Value.int .i64 (i : Nat))
theorem RowN.below {w w' : World} {base : Nat} {v : Value} {l : List Nat} (h : RowN w base v l) (hb : Below w.heap.size w w') : RowN w' base v l := by
  obtain ⟨h0, h1⟩ := h
  refine ⟨h0, ?_⟩
  rcases h1 with h1 | ⟨g, cap, cur, rfl, h2, h3, h4⟩
  · exact .inl h1
  · exact .inr ⟨g, cap, cur, rfl, h2, (hb.block g (heap_lt h3)).trans h3, h4⟩
theorem RowN.form {w : World} {base : Nat} {v : Value} {l : List Nat} (h : RowN w base v l) : ∃ a cap, v = .slice a l.length cap ∧ (0 < l.length → ∃ B, a = some ⟨B, 0, none⟩ ∧ B < w.heap.size ∧ l.length ≤ cap ∧ ∀ j, j < l.length → w.cell? ⟨B, j, none⟩ = some (.int .i64 (l.getD j 0 : Nat))) := by
  obtain ⟨_, h1⟩ := h
  rcases h1 with ⟨rfl, h0⟩ | ⟨g, cap, cur, rfl, h2, h3, h4, _, hsz, htake⟩
  · rw [h0]; exact ⟨none, 0, rfl, fun h => by omega⟩
  · refine ⟨_, cap, rfl, fun _ => ⟨g, rfl, heap_lt h3, h4, fun j hj => ?_⟩⟩
    rw [cell_of_row _ _ _ _ _ _ h3]
    have e1 : cur[j]? = (cur.toList.take (l.length * 1))[j]? := by
      rw [List.getElem?_take_of_lt (by omega)]; simp
    rw [e1, htake, List.getElem?_map, List.getElem?_eq_getElem hj]
    simp [List.getD, List.getElem?_eq_getElem hj]

/-- places from one down to another one, the first k -/
def dnk (a k : Nat) : List Nat := (List.range k).map fun i => a - i
def dn (a b : Nat) : List Nat := dnk a (a + 1 - b)
theorem dnk_next (a k : Nat) : dnk a (k + 1) = dnk a k ++ [a - k] := by unfold dnk; rw [List.range_succ, List.map_append]; rfl
theorem dnk_len (a k : Nat) : (dnk a k).length = k := by simp [dnk]
theorem dnk_cons (a k : Nat) (_h : 1 ≤ a) : dnk a (k + 1) = a :: dnk (a - 1) k := by
  unfold dnk
  rw [List.range_succ_eq_map, List.map_cons, List.map_map, Nat.sub_zero]
  congr 1
  refine List.map_congr_left fun i _ => ?_
  simp only [Function.comp]
  omega
/-- bits as a number, the highest first -/
def foldB (x : Nat) (l : List Nat) (n : Int) : Int := l.foldl (fun n q => 2 * n + ((x / 2 ^ q % 2 : Nat) : Int)) n
theorem foldB_app (x : Nat) (l m : List Nat) (n : Int) : foldB x (l ++ m) n = foldB x m (foldB x l n) := by unfold foldB; rw [List.foldl_append]
theorem foldB_dnk (x : Nat) (n : Int) : ∀ k a, k ≤ a + 1 → foldB x (dnk a k) n = n * ((2 ^ k : Nat) : Int) + ((x / 2 ^ (a + 1 - k) % 2 ^ k : Nat) : Int)
  | 0, a, _ => by simp [foldB, dnk, Nat.mod_one]
  | k + 1, a, h => by
    rw [dnk_next, foldB_app, foldB_dnk x n k a (by omega)]
    show 2 * (n * ((2 ^ k : Nat) : Int) + ((x / 2 ^ (a + 1 - k) % 2 ^ k : Nat) : Int)) + ((x / 2 ^ (a - k) % 2 : Nat) : Int) = _
    obtain ⟨s, hs⟩ : ∃ s, s = a - k := ⟨_, rfl⟩
    have e1 : a + 1 - k = s + 1 := by omega
    have e2 : a + 1 - (k + 1) = s := by omega
    rw [e1, e2, ← hs]
    have hm : x / 2 ^ s % 2 ^ (k + 1) = 2 * (x / 2 ^ (s + 1) % 2 ^ k) + x / 2 ^ s % 2 := by
      rw [Nat.pow_succ 2 s, ← Nat.div_div_eq_div_mul, Nat.pow_succ 2 k, Nat.mul_comm (2 ^ k) 2, Nat.mod_mul]
      omega
    rw [hm, Nat.pow_succ 2 k]
    generalize x / 2 ^ (s + 1) % 2 ^ k = A
    generalize x / 2 ^ s % 2 = B
    generalize 2 ^ k = C
    simp only [Int.natCast_add, Int.natCast_mul, Int.mul_add]
    have e3 : 2 * (n * (C : Int)) = n * ((C : Int) * ((2 : Nat) : Int)) := by rw [← Int.mul_assoc, Int.mul_comm 2 n, Int.mul_assoc, Int.mul_comm 2]; rfl
    rw [e3, Int.add_assoc]
    rfl
/-- bits as a number with its sign -/
def bvN (x : Nat) : List Nat → Int
  | [] => 0
  | p :: l => foldB x l (-((x / 2 ^ p % 2 : Nat) : Int))

set_option maxHeartbeats 2000000 in
theorem down_any (a b : Nat) (hab : b ≤ a + 1) (ha : a ≤ 31) (r : Value) (l : List Nat) (base : Nat) (hl : l.length ≤ 32) (w : World) (hbase : base ≤ w.heap.size) (h : RowN w base r l) :
    Calls Tryz.prog 61 #[r, .int .i64 (a : Nat), .int .i64 (b : Nat)] w fun e w' => ∃ r', e = .returned r' ∧ RowN w' base r' (l ++ dn a b) ∧ Below base w w' := by
  have HI : Hid (∃ i, Tryz.prog.info? 3 = some i ∧ i.zero = some (.int .i64 0) ∧ i.size = 1 ∧ i.bytes = 8) := Lib.hid ⟨_, rfl, rfl, rfl, rfl⟩
  have H0 := Lib.hid h
  clear h
  go_enter Tryz.func61, Tryz.ntmps61
  go_upto_region 2 with (fail)
  go_loopw [0, 7] (fun r i wr => ∃ (k : Nat) (m : Int), k ≤ a + 1 - b ∧ m = (a : Int) - k ∧ i = .int .i64 m ∧ RowN wr base r (l ++ dnk a k) ∧ Below base w wr) (fun _ i _ => (intOf i + 1 - b).toNat)
  case atStart => exact ⟨0, a, by omega, by simp, rfl, by simpa [dnk] using H0.out, Below.refl _ _⟩
  case round =>
    rename_i wr
    obtain ⟨k, m, hk, hm, rfl, hrow, hbel⟩ := hrel
    have HR := Lib.hid hrow
    have HBl := Lib.hid hbel
    have hsz := hbel.size
    have hlen : (l ++ dnk a k).length ≤ 65 := by rw [List.length_append, dnk_len]; omega
    clear hrow hbel
    by_cases hkk : k < a + 1 - b
    · have hbm : (b : Int) ≤ m := by omega
      have hml : -9223372036854775808 ≤ m - 1 := by omega
      have hmh : m < 9223372036854775808 := by omega
      obtain ⟨p, hp⟩ : ∃ p : Nat, p = a - k := ⟨_, rfl⟩
      have hpm : m = (p : Int) := by omega
      have HM := Lib.hid (And.intro hm (And.intro hp hkk))
      clear hm hp
      subst hpm
      go_wp2_with (at_builtin; (obtain ⟨i0, hi, hz0, hz1, hz2⟩ := HI.out); refine wpList_append_own _ rfl _ _ 49 rfl base 3 i0 (.int .i64 0) 1 8 Tryz.underlying49 hi hz0 hz1 hz2 rfl (by decide) _ _ _ rfl (HR.out.alloc _) ⟨wr.heap.size, 0, none⟩ 1 1 [.int .i64 (p : Nat)] rfl rfl (news_i wr _ _) (by intro u hu; simp at hu; subst hu; rfl) (by unfold maxLen; omega) (by omega) (by simp; omega) ?_; intro v' w1 hown hgrow hnil; have HO1 := Lib.hid hown; have HG1 := Lib.hid hgrow; clear hown hgrow hnil hi hz0 hz1 hz2)
      obtain ⟨hm, hp, hkk⟩ := HM.out
      refine ⟨⟨k + 1, (p : Int) - 1, by omega, by omega, rfl, ?_, (HBl.out.alloc (by omega) _).grown HG1.out (by simp; omega) (fun k hk => (HR.out.lt k hk).1)⟩, by simp [intOf]; omega⟩
      have h := HO1.out
      unfold RowN
      rw [dnk_next, ← hp, ← List.append_assoc, List.map_append, List.length_append]
      simpa using h
    · have he : k = a + 1 - b := by omega
      have hbm : m < (b : Int) := by omega
      clear hm
      go_wp2
      go_ret
      refine ⟨_, rfl, ?_, HBl.out⟩
      unfold dn
      rw [← he]
      exact HR.out

theorem foldB_bound (x : Nat) : ∀ (l : List Nat) (n : Int) (c : Nat), -((2 ^ c : Nat) : Int) ≤ n → n < ((2 ^ c : Nat) : Int) → -((2 ^ (c + l.length) : Nat) : Int) ≤ foldB x l n ∧ foldB x l n < ((2 ^ (c + l.length) : Nat) : Int)
  | [], n, c, h1, h2 => by simpa [foldB] using ⟨h1, h2⟩
  | q :: l, n, c, h1, h2 => by
    have h := foldB_bound x l (2 * n + ((x / 2 ^ q % 2 : Nat) : Int)) (c + 1) (by rw [Nat.pow_succ]; omega) (by rw [Nat.pow_succ]; omega)
    rw [List.length_cons, show c + (l.length + 1) = c + 1 + l.length by omega]
    exact h
theorem bvN_bound (x : Nat) (l : List Nat) : -((2 ^ l.length : Nat) : Int) ≤ bvN x l ∧ bvN x l < ((2 ^ l.length : Nat) : Int) := by
  cases l with
  | nil => simp [bvN]
  | cons p l =>
    have h := foldB_bound x l (-((x / 2 ^ p % 2 : Nat) : Int)) 1 (by omega) (by omega)
    rw [List.length_cons, Nat.add_comm]
    exact h
theorem bvN_next (x : Nat) (l : List Nat) (j : Nat) (h : j < l.length) (h0 : 0 < j) : bvN x (l.take (j + 1)) = 2 * bvN x (l.take j) + ((x / 2 ^ l[j] % 2 : Nat) : Int) := by
  cases l with
  | nil => simp at h
  | cons p l =>
    obtain ⟨i, rfl⟩ : ∃ i, j = i + 1 := ⟨j - 1, by omega⟩
    have hi : i < l.length := by simpa using h
    show foldB x (l.take (i + 1)) _ = 2 * foldB x (l.take i) _ + _
    rw [List.take_succ_eq_append_getElem hi, foldB_app]
    rfl

theorem rowN_lit (w : World) (base : Nat) (cs : List Nat) (hb : base ≤ w.heap.size) (hl : cs.length ≤ 64) : RowN (w.alloc (.cells (cs.map fun i => Value.int .i64 (i : Nat)).toArray 3)) base (.slice (some ⟨w.heap.size, 0, none⟩) cs.length cs.length) cs :=
  ⟨by simp, .inr ⟨w.heap.size, cs.length, _, rfl, hb, heap_alloc_new w _, Nat.le_refl _, by unfold maxLen; omega, by simp, List.take_of_length_le (by simp)⟩⟩
/-- the places of a form's number, and the noughts below -/
def plc (k : Nat) : List Nat := if k = 85 then dn 31 12 else if k = 74 then (([31] ++ dn 19 12) ++ [20]) ++ dn 30 25 ++ dn 24 21 else if k = 66 then ([31, 7] ++ dn 30 25) ++ dn 11 8 else if k = 83 then dn 31 25 ++ dn 11 7 else dn 31 20
theorem dn_cons (a b : Nat) (h : b ≤ a) (ha : 1 ≤ a) : dn a b = a :: dn (a - 1) b := by
  unfold dn
  rw [show a + 1 - b = (a - b) + 1 by omega, dnk_cons a _ ha, show a - 1 + 1 - b = a - b by omega]
theorem fold_dn (x : Nat) (n : Int) (a b : Nat) (h : b ≤ a + 1) : foldB x (dn a b) n = n * ((2 ^ (a + 1 - b) : Nat) : Int) + ((x / 2 ^ b % 2 ^ (a + 1 - b) : Nat) : Int) := by
  unfold dn
  rw [foldB_dnk x n _ a (by omega), show a + 1 - (a + 1 - b) = b by omega]
theorem num_U (x : Nat) (hx : x < 4294967296) : bvN x (dn 31 12) * ((2 ^ 12 : Nat) : Int) = immOf 85 x := by
  rw [dn_cons 31 12 (by decide) (by decide)]
  show foldB x (dn 30 12) _ * _ = _
  rw [fold_dn x _ 30 12 (by decide), show (2 : Nat) ^ (30 + 1 - 12) = 524288 from by decide, show (2 : Nat) ^ 12 = 4096 from by decide, show (2 : Nat) ^ 31 = 2147483648 from by decide]
  unfold immOf
  rw [if_pos rfl]
  unfold sx
  split
  · omega
  · rw [show ((2 : Int) * ((2147483648 : Nat) : Int)) = 4294967296 from by decide]
    omega
theorem num_I (k x : Nat) (hk : k = 73 ∨ k = 76 ∨ k = 70) (hx : x < 4294967296) : bvN x (dn 31 20) * ((2 ^ 0 : Nat) : Int) = immOf k x := by
  rw [dn_cons 31 20 (by decide) (by decide)]
  show foldB x (dn 30 20) _ * _ = _
  rw [fold_dn x _ 30 20 (by decide), show (2 : Nat) ^ (30 + 1 - 20) = 2048 from by decide, show (2 : Nat) ^ 20 = 1048576 from by decide, show (2 : Nat) ^ 31 = 2147483648 from by decide, show (2 : Nat) ^ 0 = 1 from rfl]
  unfold immOf
  rw [if_neg (by omega), if_neg (by omega), if_pos hk]
  unfold sx
  split <;> omega
theorem bvN_cons (x p : Nat) (l : List Nat) : bvN x (p :: l) = foldB x l (-((x / 2 ^ p % 2 : Nat) : Int)) := rfl
theorem foldB_cons (x q : Nat) (l : List Nat) (n : Int) : foldB x (q :: l) n = foldB x l (2 * n + ((x / 2 ^ q % 2 : Nat) : Int)) := rfl
theorem num_S (x : Nat) (hx : x < 4294967296) : bvN x (dn 31 25 ++ dn 11 7) * ((2 ^ 0 : Nat) : Int) = immOf 83 x := by
  rw [dn_cons 31 25 (by decide) (by decide), List.cons_append, bvN_cons, foldB_app, fold_dn x _ (31 - 1) 25 (by decide), fold_dn x _ 11 7 (by decide), show (2 : Nat) ^ (31 - 1 + 1 - 25) = 64 from by decide, show (2 : Nat) ^ 25 = 33554432 from by decide, show (2 : Nat) ^ 31 = 2147483648 from by decide, show (2 : Nat) ^ (11 + 1 - 7) = 32 from by decide, show (2 : Nat) ^ 7 = 128 from by decide, show (2 : Nat) ^ 0 = 1 from rfl]
  unfold immOf
  rw [if_neg (by decide), if_neg (by decide), if_neg (by decide), if_neg (by decide), if_pos rfl]
  have h1 : x / 2147483648 % 2 = x / 2147483648 := by omega
  have h2 : x / 33554432 = 64 * (x / 2147483648) + x / 33554432 % 64 := by omega
  have b1 : x / 2147483648 < 2 := by omega
  have b2 : x / 33554432 % 64 < 64 := by omega
  have b3 : x / 128 % 32 < 32 := by omega
  rw [h1]
  generalize x / 33554432 % 64 = F at *
  generalize x / 128 % 32 = G at *
  rw [h2]
  generalize x / 2147483648 = B at *
  clear h1 h2
  unfold sx
  split <;> omega
theorem num_B (x : Nat) (hx : x < 4294967296) : bvN x (([31, 7] ++ dn 30 25) ++ dn 11 8) * ((2 ^ 1 : Nat) : Int) = immOf 66 x := by
  simp only [List.cons_append, List.nil_append]
  rw [bvN_cons, foldB_cons, foldB_app, fold_dn x _ 30 25 (by decide), fold_dn x _ 11 8 (by decide), show (2 : Nat) ^ (30 + 1 - 25) = 64 from by decide, show (2 : Nat) ^ 25 = 33554432 from by decide, show (2 : Nat) ^ 31 = 2147483648 from by decide, show (2 : Nat) ^ (11 + 1 - 8) = 16 from by decide, show (2 : Nat) ^ 8 = 256 from by decide, show (2 : Nat) ^ 7 = 128 from by decide, show (2 : Nat) ^ 1 = 2 from rfl]
  unfold immOf
  rw [if_neg (by decide), if_neg (by decide), if_neg (by decide), if_pos rfl]
  have h1 : x / 2147483648 % 2 = x / 2147483648 := by omega
  have b1 : x / 2147483648 < 2 := by omega
  have b2 : x / 33554432 % 64 < 64 := by omega
  have b3 : x / 256 % 16 < 16 := by omega
  have b4 : x / 128 % 2 < 2 := by omega
  rw [h1]
  generalize x / 33554432 % 64 = F at *
  generalize x / 256 % 16 = G at *
  generalize x / 128 % 2 = H at *
  generalize x / 2147483648 = B at *
  clear h1
  unfold sx
  split <;> omega
theorem num_J (x : Nat) (hx : x < 4294967296) : bvN x ((([31] ++ dn 19 12) ++ [20]) ++ dn 30 25 ++ dn 24 21) * ((2 ^ 1 : Nat) : Int) = immOf 74 x := by
  simp only [List.append_assoc, List.cons_append, List.nil_append]
  rw [bvN_cons, foldB_app, fold_dn x _ 19 12 (by decide), foldB_cons, foldB_app, fold_dn x _ 30 25 (by decide), fold_dn x _ 24 21 (by decide), show (2 : Nat) ^ (30 + 1 - 25) = 64 from by decide, show (2 : Nat) ^ 25 = 33554432 from by decide, show (2 : Nat) ^ 31 = 2147483648 from by decide, show (2 : Nat) ^ (24 + 1 - 21) = 16 from by decide, show (2 : Nat) ^ 21 = 2097152 from by decide, show (2 : Nat) ^ 20 = 1048576 from by decide, show (2 : Nat) ^ (19 + 1 - 12) = 256 from by decide, show (2 : Nat) ^ 12 = 4096 from by decide, show (2 : Nat) ^ 1 = 2 from rfl]
  unfold immOf
  rw [if_neg (by decide), if_pos rfl]
  have h1 : x / 2147483648 % 2 = x / 2147483648 := by omega
  have h2 : x / 2097152 % 1024 = 16 * (x / 33554432 % 64) + x / 2097152 % 16 := by omega
  have b1 : x / 2147483648 < 2 := by omega
  have b2 : x / 33554432 % 64 < 64 := by omega
  have b3 : x / 2097152 % 16 < 16 := by omega
  have b4 : x / 1048576 % 2 < 2 := by omega
  have b5 : x / 4096 % 256 < 256 := by omega
  rw [h1, h2]
  generalize x / 33554432 % 64 = F at *
  generalize x / 2097152 % 16 = G at *
  generalize x / 1048576 % 2 = H at *
  generalize x / 4096 % 256 = K at *
  generalize x / 2147483648 = B at *
  clear h1 h2
  unfold sx
  split <;> omega

theorem down_at (A B : Int) (a b : Nat) (hA : A = (a : Nat)) (hB : B = (b : Nat)) (hab : b ≤ a + 1) (ha : a ≤ 31) (r : Value) (l : List Nat) (base : Nat) (hl : l.length ≤ 32) (w : World) (hbase : base ≤ w.heap.size) (h : RowN w base r l) :
    Calls Tryz.prog 61 #[r, .int .i64 A, .int .i64 B] w fun e w' => ∃ r', e = .returned r' ∧ RowN w' base r' (l ++ dn a b) ∧ Below base w w' := by
  subst hA hB
  exact down_any a b hab ha r l base hl w hbase h

theorem rowN_snoc {w : World} {base : Nat} {v : Value} {l m : List Nat} {q : Nat} (e : l ++ [q] = m) (h : w.ownsRow base 3 1 v (l.length + 1) ((l.map fun i => Value.int .i64 (i : Nat)) ++ [.int .i64 (q : Nat)])) : RowN w base v m := by
  subst e
  unfold RowN
  rw [List.map_append, List.length_append]
  exact h

theorem and_top (x s t : Nat) : x &&& ((2 ^ t - 1) * 2 ^ s) = x / 2 ^ s % 2 ^ t * 2 ^ s := by
  apply Nat.eq_of_testBit_eq
  intro i
  rw [Nat.testBit_and, ← Nat.shiftLeft_eq, ← Nat.shiftLeft_eq, Nat.testBit_shiftLeft, Nat.testBit_shiftLeft, Nat.testBit_two_pow_sub_one, Nat.testBit_mod_two_pow, Nat.testBit_div_two_pow]
  by_cases h : s ≤ i
  · rw [show i - s + s = i by omega]
    simp only [ge_iff_le, h, decide_true, Bool.true_and]
    exact Bool.and_comm _ _
  · simp [show ¬ i ≥ s by omega]
/-- which bits are fields -/
def spanN (k : Nat) : Nat := if k = 85 ∨ k = 74 then 4294967168 else if k = 73 ∨ k = 76 ∨ k = 70 ∨ k = 66 ∨ k = 83 ∨ k = 67 then 4294938496 else if k = 72 ∨ k = 82 then 33525632 else 0
theorem spanN_lt (k : Nat) : spanN k < 4294967296 := by unfold spanN; split; · decide
                                                        · split; · decide
                                                          · split <;> decide
theorem span_fit (k b x : Nat) (hx : x < 4294967296) : (x &&& (4294967295 - spanN k)) = b ↔ Fit k b x := by
  have m12 : x &&& 28672 = x / 4096 % 8 * 4096 := and_top x 12 3
  have m25 : x &&& 4261412864 = x / 33554432 % 128 * 33554432 := and_top x 25 7
  have m7 : x &&& 127 = x % 128 := nat_mask7 x
  unfold spanN Fit
  by_cases h1 : k = 85 ∨ k = 74
  · rw [if_pos h1, if_pos h1, show 4294967295 - 4294967168 = 127 from rfl, m7]
  · rw [if_neg h1, if_neg h1]
    by_cases h2 : k = 73 ∨ k = 76 ∨ k = 70 ∨ k = 66 ∨ k = 83 ∨ k = 67
    · rw [if_pos h2, if_pos h2, show (4294967295 - 4294938496 : Nat) = 28672 ||| 127 from by decide, Nat.and_or_distrib_left, m12, m7, j12 (x := x / 4096 % 8 * 4096) (by omega) (by omega), Nat.add_comm]
    · rw [if_neg h2, if_neg h2]
      by_cases h3 : k = 72 ∨ k = 82
      · rw [if_pos h3, if_pos h3, show (4294967295 - 33525632 : Nat) = 4261412864 ||| (28672 ||| 127) from by decide, Nat.and_or_distrib_left, Nat.and_or_distrib_left, m25, m12, m7, j12 (x := x / 4096 % 8 * 4096) (by omega) (by omega), j25 (x := x / 33554432 % 128 * 33554432) (by omega) (by omega)]
        have e : x / 33554432 % 128 = x / 33554432 := by omega
        rw [e]
        omega
      · rw [if_neg h3, if_neg h3, show (4294967295 - 0 : Nat) = 2 ^ 32 - 1 from by decide, Nat.and_two_pow_sub_one_eq_mod, Nat.mod_eq_of_lt hx]

def wCells : Array Value := ((List.range 57).map fun j => Value.int .u32 (wN j)).toArray

theorem w_lit : ((#[.int .u32 55, .int .u32 23, .int .u32 111, .int .u32 103, .int .u32 99, .int .u32 4195, .int .u32 16483, .int .u32 20579, .int .u32 24675, .int .u32 28771, .int .u32 3, .int .u32 4099, .int .u32 8195, .int .u32 16387, .int .u32 20483, .int .u32 35, .int .u32 4131, .int .u32 8227, .int .u32 19, .int .u32 8211, .int .u32 12307, .int .u32 16403, .int .u32 24595, .int .u32 28691, .int .u32 4115, .int .u32 20499, .int .u32 1073762323, .int .u32 51, .int .u32 1073741875, .int .u32 4147, .int .u32 8243, .int .u32 12339, .int .u32 16435, .int .u32 20531, .int .u32 1073762355, .int .u32 24627, .int .u32 28723, .int .u32 33554483, .int .u32 33558579, .int .u32 33562675, .int .u32 33566771, .int .u32 33570867, .int .u32 33574963, .int .u32 33579059, .int .u32 33583155, .int .u32 15, .int .u32 4111, .int .u32 115, .int .u32 1048691, .int .u32 807403635, .int .u32 273678451, .int .u32 4211, .int .u32 8307, .int .u32 12403, .int .u32 20595, .int .u32 24691, .int .u32 28787]) : Array Value) = wCells := by kernel_rfl
theorem w_cell (op : Nat) (h : op < 57) : ((#[.int .u32 55, .int .u32 23, .int .u32 111, .int .u32 103, .int .u32 99, .int .u32 4195, .int .u32 16483, .int .u32 20579, .int .u32 24675, .int .u32 28771, .int .u32 3, .int .u32 4099, .int .u32 8195, .int .u32 16387, .int .u32 20483, .int .u32 35, .int .u32 4131, .int .u32 8227, .int .u32 19, .int .u32 8211, .int .u32 12307, .int .u32 16403, .int .u32 24595, .int .u32 28691, .int .u32 4115, .int .u32 20499, .int .u32 1073762323, .int .u32 51, .int .u32 1073741875, .int .u32 4147, .int .u32 8243, .int .u32 12339, .int .u32 16435, .int .u32 20531, .int .u32 1073762355, .int .u32 24627, .int .u32 28723, .int .u32 33554483, .int .u32 33558579, .int .u32 33562675, .int .u32 33566771, .int .u32 33570867, .int .u32 33574963, .int .u32 33579059, .int .u32 33583155, .int .u32 15, .int .u32 4111, .int .u32 115, .int .u32 1048691, .int .u32 807403635, .int .u32 273678451, .int .u32 4211, .int .u32 8307, .int .u32 12403, .int .u32 20595, .int .u32 24691, .int .u32 28787]) : Array Value)[op]? = some (.int .u32 (wN op)) := by
  rw [w_lit]
  unfold wCells
  simp [List.getElem?_map, h]
set_option maxHeartbeats 4000000 in
theorem plain_any (op : Nat) (h : op < 57) (w : World) : Calls Tryz.prog 60 #[.int .i64 op] w fun e w' => e = .returned (.int .u32 (wN op : Nat)) ∧ Below w.heap.size w w' := by
  have hopI : (op : Int) < 57 := by omega
  have hc : (w.alloc (.cells (#[.int .u32 55, .int .u32 23, .int .u32 111, .int .u32 103, .int .u32 99, .int .u32 4195, .int .u32 16483, .int .u32 20579, .int .u32 24675, .int .u32 28771, .int .u32 3, .int .u32 4099, .int .u32 8195, .int .u32 16387, .int .u32 20483, .int .u32 35, .int .u32 4131, .int .u32 8227, .int .u32 19, .int .u32 8211, .int .u32 12307, .int .u32 16403, .int .u32 24595, .int .u32 28691, .int .u32 4115, .int .u32 20499, .int .u32 1073762323, .int .u32 51, .int .u32 1073741875, .int .u32 4147, .int .u32 8243, .int .u32 12339, .int .u32 16435, .int .u32 20531, .int .u32 1073762355, .int .u32 24627, .int .u32 28723, .int .u32 33554483, .int .u32 33558579, .int .u32 33562675, .int .u32 33566771, .int .u32 33570867, .int .u32 33574963, .int .u32 33579059, .int .u32 33583155, .int .u32 15, .int .u32 4111, .int .u32 115, .int .u32 1048691, .int .u32 807403635, .int .u32 273678451, .int .u32 4211, .int .u32 8307, .int .u32 12403, .int .u32 20595, .int .u32 24691, .int .u32 28787]) 44)).cell? ⟨w.heap.size, op, none⟩ = some (.int .u32 (wN op)) := (cell_of_row _ _ _ _ _ _ (heap_alloc_new w _)).trans (w_cell op h)
  have hb := (Below.refl w.heap.size w).alloc (Nat.le_refl _) (.cells (#[.int .u32 55, .int .u32 23, .int .u32 111, .int .u32 103, .int .u32 99, .int .u32 4195, .int .u32 16483, .int .u32 20579, .int .u32 24675, .int .u32 28771, .int .u32 3, .int .u32 4099, .int .u32 8195, .int .u32 16387, .int .u32 20483, .int .u32 35, .int .u32 4131, .int .u32 8227, .int .u32 19, .int .u32 8211, .int .u32 12307, .int .u32 16403, .int .u32 24595, .int .u32 28691, .int .u32 4115, .int .u32 20499, .int .u32 1073762323, .int .u32 51, .int .u32 1073741875, .int .u32 4147, .int .u32 8243, .int .u32 12339, .int .u32 16435, .int .u32 20531, .int .u32 1073762355, .int .u32 24627, .int .u32 28723, .int .u32 33554483, .int .u32 33558579, .int .u32 33562675, .int .u32 33566771, .int .u32 33570867, .int .u32 33574963, .int .u32 33579059, .int .u32 33583155, .int .u32 15, .int .u32 4111, .int .u32 115, .int .u32 1048691, .int .u32 807403635, .int .u32 273678451, .int .u32 4211, .int .u32 8307, .int .u32 12403, .int .u32 20595, .int .u32 24691, .int .u32 28787]) 44)
  have HB := Lib.hid hb
  have HC := Lib.hid hc
  clear hb hc
  generalize wN op = s at *
  go_enter Tryz.func60, Tryz.ntmps60
  go_upto_region 2 with (fail)
  have hc := HC.out
  have hb := HB
  generalize w.alloc (.cells (#[.int .u32 55, .int .u32 23, .int .u32 111, .int .u32 103, .int .u32 99, .int .u32 4195, .int .u32 16483, .int .u32 20579, .int .u32 24675, .int .u32 28771, .int .u32 3, .int .u32 4099, .int .u32 8195, .int .u32 16387, .int .u32 20483, .int .u32 35, .int .u32 4131, .int .u32 8227, .int .u32 19, .int .u32 8211, .int .u32 12307, .int .u32 16403, .int .u32 24595, .int .u32 28691, .int .u32 4115, .int .u32 20499, .int .u32 1073762323, .int .u32 51, .int .u32 1073741875, .int .u32 4147, .int .u32 8243, .int .u32 12339, .int .u32 16435, .int .u32 20531, .int .u32 1073762355, .int .u32 24627, .int .u32 28723, .int .u32 33554483, .int .u32 33558579, .int .u32 33562675, .int .u32 33566771, .int .u32 33570867, .int .u32 33574963, .int .u32 33579059, .int .u32 33583155, .int .u32 15, .int .u32 4111, .int .u32 115, .int .u32 1048691, .int .u32 807403635, .int .u32 273678451, .int .u32 4211, .int .u32 8307, .int .u32 12403, .int .u32 20595, .int .u32 24691, .int .u32 28787]) 44) = W at *
  go_wp2
  go_ret
  exact ⟨rfl, hb.out⟩

end Go.Proofs.YtkcdnhennnjneaaGreatDoor
