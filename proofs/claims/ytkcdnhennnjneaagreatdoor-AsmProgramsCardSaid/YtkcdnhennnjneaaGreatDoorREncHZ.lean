import Derived.Test.YtkcdnhennnjneaaGreatDoorSpanZ
import Derived.Test.YtkcdnhennnjneaaGreatDoorGoodZ
import Derived.Below
import Derived.Deep.Draws
import Derived.Deep.AppendLies
import Derived.Maps.AppendAt
import Derived.OwnWalk
import Derived.Laws.BytesArg
import Derived.Laws.MakeOwn
import Derived.Laws.OwnMore
import Derived.Deep.OwnRows
import Derived.Tactics
import Derived.Lib.ConvBytes
import Derived.Laws.Slices
import Derived.WalkKit
import Derived.KernelRfl
import Derived.RowKit3
import Derived.Deep.LoopGhost
import Derived.Deep.QuietTactic
import Derived.BigQuiet
import Derived.WideLaws
import Derived.Deep.DeepCutAuto
import Derived.Deep.CutBlock
import Derived.Deep.RegionHeld3
import Derived.Laws.Rows
import Derived.Lib.AppendStr
import Derived.ArgAppend
import Derived.Laws.IdiomCopy
import Derived.OrdersHeld
import Derived.Laws.BitsLemmas
import Derived.RowKit
import Derived.Lib.Hide
import Derived.Laws.BitsAllLaws
import Derived.WalkLawsBesides
import Derived.WalkSpells
import Derived.LaidEql
namespace Go.Proofs.YtkcdnhennnjneaaGreatDoor
open Go.RowKit
set_option maxRecDepth 100000
set_option linter.unusedVariables false
set_option linter.unusedSimpArgs false

theorem held6r_keep {w wa wb : World} {op rd r1 r2 imm csr : Int} (h : wa.cell? ⟨w.heap.size, 0, none⟩ = some (.int .i64 op) ∧ wa.cell? ⟨w.heap.size, 1, none⟩ = some (.int .i64 rd) ∧ wa.cell? ⟨w.heap.size, 2, none⟩ = some (.int .i64 r1) ∧ wa.cell? ⟨w.heap.size, 3, none⟩ = some (.int .i64 r2) ∧ wa.cell? ⟨w.heap.size, 4, none⟩ = some (.int .i64 imm) ∧ wa.cell? ⟨w.heap.size, 5, none⟩ = some (.int .i64 csr) ∧ Below w.heap.size w wa) (hb : Below wa.heap.size wa wb) :
    wb.cell? ⟨w.heap.size, 0, none⟩ = some (.int .i64 op) ∧ wb.cell? ⟨w.heap.size, 1, none⟩ = some (.int .i64 rd) ∧ wb.cell? ⟨w.heap.size, 2, none⟩ = some (.int .i64 r1) ∧ wb.cell? ⟨w.heap.size, 3, none⟩ = some (.int .i64 r2) ∧ wb.cell? ⟨w.heap.size, 4, none⟩ = some (.int .i64 imm) ∧ wb.cell? ⟨w.heap.size, 5, none⟩ = some (.int .i64 csr) ∧ Below w.heap.size w wb := by
  obtain ⟨h0, h1, h2, h3, h4, h5, hB⟩ := h
  have hl := block_lt_of_cell h0
  have k : ∀ j v, wa.cell? ⟨w.heap.size, j, none⟩ = some v → wb.cell? ⟨w.heap.size, j, none⟩ = some v := fun j v h => (World.cell?_of_block (a := ⟨w.heap.size, j, none⟩) (hb.block _ hl)).trans h
  exact ⟨k _ _ h0, k _ _ h1, k _ _ h2, k _ _ h3, k _ _ h4, k _ _ h5, hB.trans (hb.mono hB.size)⟩

/-- one bit set -/
def put1 (y t : Nat) (b : Bool) : Nat := fromN (setB y t 1 b.toNat) 32
theorem put1_bit {y : Nat} (hy : y < 4294967296) (t : Nat) (b : Bool) (i : Nat) (hi : i < 32) : (put1 y t b).testBit i = if i = t then b else y.testBit i := by
  unfold put1
  rw [testBit_fromN, decide_eq_true hi, Bool.true_and]
  unfold setB
  have hbl : b.toNat < 4294967296 := by cases b <;> decide
  by_cases h : i = t
  · subst h
    rw [if_pos (by omega), if_pos rfl, bitI_nat hbl, show ((i : Int) - (i : Int)) = 0 by omega]
    cases b <;> rfl
  · rw [if_neg (by omega), if_neg h, bitI_nat hy, decide_eq_true (by omega : 0 ≤ (i : Int)), Bool.true_and, Int.toNat_natCast]
theorem put1_lt (y t : Nat) (b : Bool) : put1 y t b < 4294967296 := fromN_lt _ 32
/-- bits put one by one -/
def putAll (n : Nat) : List (Nat × Nat) → Nat → Nat
  | [], y => y
  | p :: l, y => putAll n l (put1 y p.2 (n.testBit p.1))
theorem putAll_lt (n : Nat) : ∀ (l : List (Nat × Nat)) (y : Nat), y < 4294967296 → putAll n l y < 4294967296
  | [], y, h => h
  | p :: l, y, _ => putAll_lt n l _ (put1_lt _ _ _)
theorem putAll_bit (n : Nat) : ∀ (l : List (Nat × Nat)) (y : Nat), y < 4294967296 → ∀ i, i < 32 → (putAll n l y).testBit i = match (l.reverse.find? fun p => p.2 == i) with | some p => n.testBit p.1 | none => y.testBit i
  | [], y, _, i, _ => rfl
  | p :: l, y, h, i, hi => by
    show (putAll n l (put1 y p.2 (n.testBit p.1))).testBit i = _
    rw [putAll_bit n l _ (put1_lt _ _ _) i hi, List.reverse_cons, List.find?_append]
    cases hf : l.reverse.find? fun p => p.2 == i with
    | some q => rfl
    | none =>
      rw [put1_bit h p.2 _ i hi]
      by_cases e : i = p.2
      · subst e; simp
      · simp [e, Ne.symm e]

theorem lw_R {b r s q : Nat} (hb : b % 128 + b / 4096 % 8 * 4096 + b / 33554432 * 33554432 = b) (hr : r < 32) (hs : s < 32) (hq : q < 32) : laidI 82 b r s q 0 0 = b + r * 128 + s * 32768 + q * 1048576 := by
  unfold laidI
  rw [nat5 rfl hr, nat5 rfl hs, nat5 rfl hq, laid_R hb hr hs hq]
theorem lw_U {b r n : Nat} {imm : Int} (hb : b < 128) (hr : r < 32) (hn : (imm % 4294967296).toNat = n) (h0 : n % 4096 = 0) : laidI 85 b r 0 0 imm 0 = b + r * 128 + n := by
  unfold laidI
  rw [nat5 rfl hr, hn, show ((0 : Int) % 32).toNat = 0 from rfl, laid_U hb hr]
  omega
theorem lw_I {k b r s n : Nat} {imm : Int} (hk : k = 73 ∨ k = 76 ∨ k = 70) (hb : b % 128 + b / 4096 % 8 * 4096 = b) (hr : r < 32) (hs : s < 32) (hn : (imm % 4294967296).toNat = n) : laidI k b r s 0 imm 0 = b + r * 128 + s * 32768 + n % 4096 * 1048576 := by
  unfold laidI
  rw [nat5 rfl hr, nat5 rfl hs, hn, laid_I hk hb hr hs]
theorem lw_H {b r s m : Nat} (hb : b % 128 + b / 4096 % 8 * 4096 + b / 33554432 * 33554432 = b) (hr : r < 32) (hs : s < 32) (hm : m < 32) : laidI 72 b r s 0 m 0 = b + r * 128 + s * 32768 + m * 1048576 := by
  unfold laidI
  rw [nat5 rfl hr, nat5 rfl hs, nat32 (x := (m : Int)) rfl (by omega), laid_H hb hr hs, Nat.mod_eq_of_lt hm]
theorem lw_C {b r s c : Nat} (hb : b % 128 + b / 4096 % 8 * 4096 = b) (hr : r < 32) (hs : s < 32) (hc : c < 4096) : laidI 67 b r s 0 0 c = b + r * 128 + s * 32768 + c * 1048576 := by
  unfold laidI
  rw [nat5 rfl hr, nat5 rfl hs, nat32 (x := (c : Int)) rfl (by omega), laid_C hb hr hs, Nat.mod_eq_of_lt hc]
theorem lw_N {b : Nat} : laidI 78 b 0 0 0 0 0 = b := by
  unfold laidI
  rw [show ((0 : Int) % 32).toNat = 0 from rfl, laid_N]

theorem fldbit (x : Nat) {s t u S T U : Nat} (hs : S = 2 ^ s) (ht : T = 2 ^ t) (hu : U = 2 ^ u) (i : Nat) : (x / S % T * U).testBit i = (decide (u ≤ i) && (decide (i - u < t) && x.testBit (i - u + s))) := by
  subst hs ht hu
  rw [← Nat.shiftLeft_eq, Nat.testBit_shiftLeft, Nat.testBit_mod_two_pow, Nat.testBit_div_two_pow]
theorem fldbit0 (x : Nat) {t u T U : Nat} (ht : T = 2 ^ t) (hu : U = 2 ^ u) (i : Nat) : (x % T * U).testBit i = (decide (u ≤ i) && (decide (i - u < t) && x.testBit (i - u))) := by
  have h := fldbit x (s := 0) (S := 1) rfl ht hu i
  rwa [Nat.div_one, Nat.add_zero] at h
theorem tb_ext32 {a b : Nat} (ha : a < 4294967296) (hb : b < 4294967296) (h : ∀ i, i < 32 → a.testBit i = b.testBit i) : a = b := by
  apply Nat.eq_of_testBit_eq
  intro i
  by_cases hi : i < 32
  · exact h i hi
  · have p : (4294967296 : Nat) ≤ 2 ^ i := by rw [show (4294967296 : Nat) = 2 ^ 32 from rfl]; exact Nat.pow_le_pow_right (by omega) (by omega)
    rw [Nat.testBit_lt_two_pow (Nat.lt_of_lt_of_le ha p), Nat.testBit_lt_two_pow (Nat.lt_of_lt_of_le hb p)]
def fromJ : List Nat := dn 20 1
def toJ : List Nat := [31] ++ dn 19 12 ++ [20] ++ dn 30 25 ++ dn 24 21
def fromB : List Nat := dn 12 1
def toB : List Nat := [31, 7] ++ dn 30 25 ++ dn 11 8
def fromS : List Nat := dn 11 0
def toS : List Nat := dn 31 25 ++ dn 11 7
def srcJ (i : Nat) : Nat := if i = 31 then 20 else if 21 ≤ i then i - 20 else if i = 20 then 11 else i
def srcB (i : Nat) : Nat := if i = 31 then 12 else if 25 ≤ i then i - 20 else if i = 7 then 11 else i - 7
def srcS (i : Nat) : Nat := if 25 ≤ i then i - 20 else i - 7
theorem findJ : ∀ i, i < 32 → ((fromJ.zip toJ).reverse.find? fun p => p.2 == i) = if 12 ≤ i then some (srcJ i, i) else none := by decide +kernel
theorem findB : ∀ i, i < 32 → ((fromB.zip toB).reverse.find? fun p => p.2 == i) = if 25 ≤ i ∨ (7 ≤ i ∧ i ≤ 11) then some (srcB i, i) else none := by decide +kernel
theorem findS : ∀ i, i < 32 → ((fromS.zip toS).reverse.find? fun p => p.2 == i) = if 25 ≤ i ∨ (7 ≤ i ∧ i ≤ 11) then some (srcS i, i) else none := by decide +kernel
theorem lt32_cases {i : Nat} (h : i < 32) : i = 0 ∨ i = 1 ∨ i = 2 ∨ i = 3 ∨ i = 4 ∨ i = 5 ∨ i = 6 ∨ i = 7 ∨ i = 8 ∨ i = 9 ∨ i = 10 ∨ i = 11 ∨ i = 12 ∨ i = 13 ∨ i = 14 ∨ i = 15 ∨ i = 16 ∨ i = 17 ∨ i = 18 ∨ i = 19 ∨ i = 20 ∨ i = 21 ∨ i = 22 ∨ i = 23 ∨ i = 24 ∨ i = 25 ∨ i = 26 ∨ i = 27 ∨ i = 28 ∨ i = 29 ∨ i = 30 ∨ i = 31 := by omega
theorem lw_J {b r n : Nat} {imm : Int} (hb : b < 128) (hr : r < 32) (hn : (imm % 4294967296).toNat = n) (hl : laidI 74 b r 0 0 imm 0 < 4294967296) : laidI 74 b r 0 0 imm 0 = putAll n (fromJ.zip toJ) (b + r * 128) := by
  have hy : b + r * 128 < 4096 := by omega
  refine tb_ext32 hl (putAll_lt n _ _ (by omega)) fun i hi => ?_
  rw [putAll_bit n _ _ (by omega) i hi, findJ i hi]
  have e0 : b + r * 128 = b ||| (r * 128 ||| 0 * 32768) := by
    rw [Nat.zero_mul, Nat.or_zero, Nat.or_comm, j7 (by omega) hb]; omega
  have E : (laidI 74 b r 0 0 imm 0).testBit i = (((((b + r * 128).testBit i || (decide (31 ≤ i) && (decide (i - 31 < 1) && n.testBit (i - 31 + 20)))) || (decide (21 ≤ i) && (decide (i - 21 < 10) && n.testBit (i - 21 + 1)))) || (decide (20 ≤ i) && (decide (i - 20 < 1) && n.testBit (i - 20 + 11)))) || (decide (12 ≤ i) && (decide (i - 12 < 8) && n.testBit (i - 12 + 12)))) := by
    unfold laidI laidN
    rw [if_neg (by decide), if_pos rfl, hn, nat5 rfl hr, show ((0 : Int) % 32).toNat = 0 from rfl, ← e0]
    rw [Nat.testBit_or, Nat.testBit_or, Nat.testBit_or, Nat.testBit_or, fldbit n (s := 20) (t := 1) (u := 31) rfl rfl rfl, fldbit n (s := 1) (t := 10) (u := 21) rfl rfl rfl, fldbit n (s := 11) (t := 1) (u := 20) rfl rfl rfl, fldbit n (s := 12) (t := 8) (u := 12) rfl rfl rfl]
  rw [E]
  by_cases h12 : 12 ≤ i
  · have hz : (b + r * 128).testBit i = false := Nat.testBit_lt_two_pow (Nat.lt_of_lt_of_le hy (by rw [show (4096 : Nat) = 2 ^ 12 from rfl]; exact Nat.pow_le_pow_right (by omega) h12))
    rw [hz, if_pos h12]
    clear E hz e0
    rcases lt32_cases hi with rfl | rfl | rfl | rfl | rfl | rfl | rfl | rfl | rfl | rfl | rfl | rfl | rfl | rfl | rfl | rfl | rfl | rfl | rfl | rfl | rfl | rfl | rfl | rfl | rfl | rfl | rfl | rfl | rfl | rfl | rfl | rfl
    all_goals first | omega | simp [srcJ]
  · rw [if_neg h12, decide_eq_false h12, decide_eq_false (by omega : ¬ 31 ≤ i), decide_eq_false (by omega : ¬ 21 ≤ i), decide_eq_false (by omega : ¬ 20 ≤ i)]
    simp

theorem low_bits {b s q : Nat} (hb : b % 128 + b / 4096 % 8 * 4096 = b) (hs : s < 32) (hq : q < 32) {i : Nat} (h : 25 ≤ i ∨ (7 ≤ i ∧ i ≤ 11)) : (b + s * 32768 + q * 1048576).testBit i = false := by
  obtain ⟨c, hc⟩ : ∃ c, c = b % 128 := ⟨_, rfl⟩
  obtain ⟨d, hd⟩ : ∃ d, d = b / 4096 % 8 := ⟨_, rfl⟩
  rw [← hc, ← hd] at hb
  have c1 : c < 128 := by omega
  have d1 : d < 8 := by omega
  clear hc hd
  subst hb
  rcases h with h | ⟨h1, h2⟩
  · exact Nat.testBit_lt_two_pow (Nat.lt_of_lt_of_le (show _ < 33554432 by omega) (by rw [show (33554432 : Nat) = 2 ^ 25 from rfl]; exact Nat.pow_le_pow_right (by omega) h))
  · rw [Nat.testBit_eq_decide_div_mod_eq]
    have h5 : i = 7 ∨ i = 8 ∨ i = 9 ∨ i = 10 ∨ i = 11 := by omega
    rcases h5 with rfl | rfl | rfl | rfl | rfl
    · exact decide_eq_false (by rw [show (2 : Nat) ^ 7 = 128 from rfl]; omega)
    · exact decide_eq_false (by rw [show (2 : Nat) ^ 8 = 256 from rfl]; omega)
    · exact decide_eq_false (by rw [show (2 : Nat) ^ 9 = 512 from rfl]; omega)
    · exact decide_eq_false (by rw [show (2 : Nat) ^ 10 = 1024 from rfl]; omega)
    · exact decide_eq_false (by rw [show (2 : Nat) ^ 11 = 2048 from rfl]; omega)
theorem low_or {b s q : Nat} (hb : b % 128 + b / 4096 % 8 * 4096 = b) (hs : s < 32) : b + s * 32768 + q * 1048576 = (b ||| (0 * 128 ||| s * 32768)) ||| q * 1048576 := by
  have e1 : b ||| (0 * 128 ||| s * 32768) = b + s * 32768 := by
    rw [Nat.zero_mul, Nat.zero_or, Nat.or_comm, j15 (by omega) (by omega)]; omega
  rw [e1, Nat.or_comm, j20 (by omega) (by omega)]; omega
theorem lw_B {b s q n : Nat} {imm : Int} (hb : b % 128 + b / 4096 % 8 * 4096 = b) (hs : s < 32) (hq : q < 32) (hn : (imm % 4294967296).toNat = n) (hl : laidI 66 b 0 s q imm 0 < 4294967296) : laidI 66 b 0 s q imm 0 = putAll n (fromB.zip toB) (b + s * 32768 + q * 1048576) := by
  refine tb_ext32 hl (putAll_lt n _ _ (by omega)) fun i hi => ?_
  rw [putAll_bit n _ _ (by omega) i hi, findB i hi]
  have E : (laidI 66 b 0 s q imm 0).testBit i = ((b + s * 32768 + q * 1048576).testBit i || ((((decide (31 ≤ i) && (decide (i - 31 < 1) && n.testBit (i - 31 + 12))) || (decide (25 ≤ i) && (decide (i - 25 < 6) && n.testBit (i - 25 + 5)))) || (decide (8 ≤ i) && (decide (i - 8 < 4) && n.testBit (i - 8 + 1)))) || (decide (7 ≤ i) && (decide (i - 7 < 1) && n.testBit (i - 7 + 11))))) := by
    rw [low_or hb hs]
    unfold laidI laidN
    rw [if_neg (by decide), if_neg (by decide), if_neg (by decide), if_pos rfl, hn, nat5 rfl hs, nat5 rfl hq, show ((0 : Int) % 32).toNat = 0 from rfl]
    simp only [Nat.testBit_or]
    rw [fldbit n (s := 12) (t := 1) (u := 31) rfl rfl rfl, fldbit n (s := 5) (t := 6) (u := 25) rfl rfl rfl, fldbit n (s := 1) (t := 4) (u := 8) rfl rfl rfl, fldbit n (s := 11) (t := 1) (u := 7) rfl rfl rfl]
    ac_rfl
  rw [E]
  by_cases h : 25 ≤ i ∨ (7 ≤ i ∧ i ≤ 11)
  · rw [low_bits hb hs hq h, if_pos h]
    clear E
    rcases lt32_cases hi with rfl | rfl | rfl | rfl | rfl | rfl | rfl | rfl | rfl | rfl | rfl | rfl | rfl | rfl | rfl | rfl | rfl | rfl | rfl | rfl | rfl | rfl | rfl | rfl | rfl | rfl | rfl | rfl | rfl | rfl | rfl | rfl
    all_goals first | omega | simp [srcB]
  · rw [if_neg h]
    clear E
    rcases lt32_cases hi with rfl | rfl | rfl | rfl | rfl | rfl | rfl | rfl | rfl | rfl | rfl | rfl | rfl | rfl | rfl | rfl | rfl | rfl | rfl | rfl | rfl | rfl | rfl | rfl | rfl | rfl | rfl | rfl | rfl | rfl | rfl | rfl
    all_goals first | omega | simp
theorem lw_S {b s q n : Nat} {imm : Int} (hb : b % 128 + b / 4096 % 8 * 4096 = b) (hs : s < 32) (hq : q < 32) (hn : (imm % 4294967296).toNat = n) (hl : laidI 83 b 0 s q imm 0 < 4294967296) : laidI 83 b 0 s q imm 0 = putAll n (fromS.zip toS) (b + s * 32768 + q * 1048576) := by
  refine tb_ext32 hl (putAll_lt n _ _ (by omega)) fun i hi => ?_
  rw [putAll_bit n _ _ (by omega) i hi, findS i hi]
  have E : (laidI 83 b 0 s q imm 0).testBit i = ((b + s * 32768 + q * 1048576).testBit i || ((decide (25 ≤ i) && (decide (i - 25 < 7) && n.testBit (i - 25 + 5))) || (decide (7 ≤ i) && (decide (i - 7 < 5) && n.testBit (i - 7))))) := by
    rw [low_or hb hs]
    unfold laidI laidN
    rw [if_neg (by decide), if_neg (by decide), if_neg (by decide), if_neg (by decide), if_pos rfl, hn, nat5 rfl hs, nat5 rfl hq, show ((0 : Int) % 32).toNat = 0 from rfl]
    simp only [Nat.testBit_or]
    rw [fldbit n (s := 5) (t := 7) (u := 25) rfl rfl rfl, fldbit0 n (t := 5) (u := 7) rfl rfl]
    ac_rfl
  rw [E]
  by_cases h : 25 ≤ i ∨ (7 ≤ i ∧ i ≤ 11)
  · rw [low_bits hb hs hq h, if_pos h]
    clear E
    rcases lt32_cases hi with rfl | rfl | rfl | rfl | rfl | rfl | rfl | rfl | rfl | rfl | rfl | rfl | rfl | rfl | rfl | rfl | rfl | rfl | rfl | rfl | rfl | rfl | rfl | rfl | rfl | rfl | rfl | rfl | rfl | rfl | rfl | rfl
    all_goals first | omega | simp [srcS]
  · rw [if_neg h]
    clear E
    rcases lt32_cases hi with rfl | rfl | rfl | rfl | rfl | rfl | rfl | rfl | rfl | rfl | rfl | rfl | rfl | rfl | rfl | rfl | rfl | rfl | rfl | rfl | rfl | rfl | rfl | rfl | rfl | rfl | rfl | rfl | rfl | rfl | rfl | rfl
    all_goals first | omega | simp

theorem row_news {w : World} {g : Nat} {l : List Nat} (h : ∀ j, j < l.length → w.cell? ⟨g, j, none⟩ = some (.int .i64 (l.getD j 0 : Nat))) : ∀ (j : Nat) (u : Value), (l.map fun i => Value.int .i64 (i : Nat))[j]? = some u → w.cell? ((⟨g, 0, none⟩ : Addr).add j) = some u := by
  intro j u hu
  have hj : j < l.length := by have := (List.getElem?_eq_some_iff.1 hu).1; simpa using this
  have e : (⟨g, 0, none⟩ : Addr).add j = ⟨g, j, none⟩ := by unfold Addr.add; split <;> simp_all
  rw [e, h j hj]
  rw [List.getElem?_map, List.getElem?_eq_getElem hj] at hu
  rw [← hu]
  simp [List.getD, List.getElem?_eq_getElem hj]
theorem row_one (l : List Nat) : ∀ u ∈ (l.map fun i => Value.int .i64 (i : Nat)), u.oneCell' = true := by
  intro u hu
  simp only [List.mem_map] at hu
  obtain ⟨i, _, rfl⟩ := hu
  rfl
theorem rowN_app {w : World} {base : Nat} {v : Value} {l m r : List Nat} (e : l ++ m = r) (h : w.ownsRow base 3 1 v (l.length + m.length) ((l.map fun i => Value.int .i64 (i : Nat)) ++ (m.map fun i => Value.int .i64 (i : Nat)))) : RowN w base v r := by
  subst e
  unfold RowN
  rw [List.map_append, List.length_append]
  exact h
theorem putAll_snoc (n : Nat) : ∀ (l : List (Nat × Nat)) (y : Nat) (p : Nat × Nat), putAll n (l ++ [p]) y = put1 (putAll n l y) p.2 (n.testBit p.1)
  | [], _, _ => rfl
  | q :: l, y, p => by show putAll n (l ++ [p]) (put1 y q.2 (n.testBit q.1)) = _; rw [putAll_snoc n l]; rfl
theorem take_snoc' {α : Type} (l : List α) (k : Nat) (h : k < l.length) : l.take (k + 1) = l.take k ++ [l[k]] := by rw [List.take_succ_eq_append_getElem h]
theorem bit_val (v : Nat) (hv : v < 4294967296) (i : Nat) (hi : i < 32) : bitI v i = v.testBit i := by
  rw [bitI_nat hv]; simp
theorem two_keep {A : World} {w wb : World} {g1 g2 j f t : Nat} (h : w.cell? ⟨g1, j, none⟩ = some (.int .i64 (f : Nat)) ∧ w.cell? ⟨g2, j, none⟩ = some (.int .i64 (t : Nat)) ∧ g1 < w.heap.size ∧ g2 < w.heap.size ∧ Below A.heap.size A w) (hb : Below w.heap.size w wb) :
    wb.cell? ⟨g1, j, none⟩ = some (.int .i64 (f : Nat)) ∧ wb.cell? ⟨g2, j, none⟩ = some (.int .i64 (t : Nat)) ∧ g1 < wb.heap.size ∧ g2 < wb.heap.size ∧ Below A.heap.size A wb :=
  ⟨(hb.cell (p := ⟨g1, j, none⟩) h.2.2.1).trans h.1, (hb.cell (p := ⟨g2, j, none⟩) h.2.2.2.1).trans h.2.1, Nat.lt_of_lt_of_le h.2.2.1 hb.size, Nat.lt_of_lt_of_le h.2.2.2.1 hb.size, h.2.2.2.2.trans (hb.mono h.2.2.2.2.size)⟩
theorem two_drew {A : World} {w : World} {g1 g2 j f t : Nat} (h : w.cell? ⟨g1, j, none⟩ = some (.int .i64 (f : Nat)) ∧ w.cell? ⟨g2, j, none⟩ = some (.int .i64 (t : Nat)) ∧ g1 < w.heap.size ∧ g2 < w.heap.size ∧ Below A.heap.size A w) (k : Nat) :
    (w.drewN k).cell? ⟨g1, j, none⟩ = some (.int .i64 (f : Nat)) ∧ (w.drewN k).cell? ⟨g2, j, none⟩ = some (.int .i64 (t : Nat)) ∧ g1 < (w.drewN k).heap.size ∧ g2 < (w.drewN k).heap.size ∧ Below A.heap.size A (w.drewN k) :=
  ⟨h.1, h.2.1, h.2.2.1, h.2.2.2.1, below_drewN h.2.2.2.2 k⟩
theorem two_below {A : World} {w : World} {g1 g2 j f t : Nat} (h : w.cell? ⟨g1, j, none⟩ = some (.int .i64 (f : Nat)) ∧ w.cell? ⟨g2, j, none⟩ = some (.int .i64 (t : Nat)) ∧ g1 < w.heap.size ∧ g2 < w.heap.size ∧ Below A.heap.size A w) : Below A.heap.size A w := h.2.2.2.2
theorem fromJ_lt : ∀ j, j < 20 → fromJ.getD j 0 < 32 := by decide
theorem fromB_lt : ∀ j, j < 12 → fromB.getD j 0 < 32 := by decide
theorem fromS_lt : ∀ j, j < 12 → fromS.getD j 0 < 32 := by decide
theorem toJ_lt : ∀ j, j < 20 → toJ.getD j 0 < 32 := by decide
theorem toB_lt : ∀ j, j < 12 → toB.getD j 0 < 32 := by decide
theorem toS_lt : ∀ j, j < 12 → toS.getD j 0 < 32 := by decide
theorem zipJ (j : Nat) (h : j < 20) {hh : j < (fromJ.zip toJ).length} : (fromJ.zip toJ)[j] = (fromJ.getD j 0, toJ.getD j 0) := by
  have k : ∀ j : Fin 20, (fromJ.zip toJ)[j.val]? = some (fromJ.getD j.val 0, toJ.getD j.val 0) := by decide
  have := k ⟨j, h⟩
  rw [List.getElem?_eq_getElem hh] at this
  exact Option.some.inj this
theorem zipB (j : Nat) (h : j < 12) {hh : j < (fromB.zip toB).length} : (fromB.zip toB)[j] = (fromB.getD j 0, toB.getD j 0) := by
  have k : ∀ j : Fin 12, (fromB.zip toB)[j.val]? = some (fromB.getD j.val 0, toB.getD j.val 0) := by decide
  have := k ⟨j, h⟩
  rw [List.getElem?_eq_getElem hh] at this
  exact Option.some.inj this
theorem zipS (j : Nat) (h : j < 12) {hh : j < (fromS.zip toS).length} : (fromS.zip toS)[j] = (fromS.getD j 0, toS.getD j 0) := by
  have k : ∀ j : Fin 12, (fromS.zip toS)[j.val]? = some (fromS.getD j.val 0, toS.getD j.val 0) := by decide
  have := k ⟨j, h⟩
  rw [List.getElem?_eq_getElem hh] at this
  exact Option.some.inj this

end Go.Proofs.YtkcdnhennnjneaaGreatDoor
