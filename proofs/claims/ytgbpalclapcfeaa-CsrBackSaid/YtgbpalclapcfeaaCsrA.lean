import Derived.Test.YtgbpalclapcfeaaWordA
import Derived.Below
import Derived.Deep.Draws
import Derived.Deep.AppendLies
import Derived.Maps.AppendAt
import Derived.OwnWalk
import Derived.Laws.BytesArg
import Derived.Laws.MakeOwn
import Derived.Laws.OwnMore
import Derived.Deep.OwnRows
import Derived.Tactics
import Derived.Lib.ConvBytes
import Derived.Laws.Slices
import Derived.WalkKit
import Derived.KernelRfl
import Derived.RowKit3
import Derived.Deep.LoopGhost
import Derived.Deep.QuietTactic
import Derived.BigQuiet
import Derived.WideLaws
import Derived.Deep.DeepCutAuto
import Derived.Deep.CutBlock
import Derived.Deep.RegionHeld3
import Derived.Laws.Rows
import Derived.Lib.AppendStr
import Derived.ArgAppend
import Derived.Laws.IdiomCopy
import Derived.OrdersHeld
import Derived.Laws.BitsLemmas
import Derived.RowKit
import Derived.Lib.Hide
import Derived.Laws.BitsAllLaws
import Derived.WalkLawsBesides
import Derived.WalkSpells
import Derived.LaidEql
namespace Go.Proofs.Ytgbpalclapcfeaa
open Go.RowKit
set_option maxRecDepth 100000
set_option linter.unusedVariables false
set_option linter.unusedSimpArgs false

/-- a control state -/
structure St where
  status : Nat
  enable : Nat
  vector : Nat
  scratch : Nat
  epc : Nat
  cause : Nat
  value : Nat
  count : Nat
def St.cells (s : St) : Array Value := #[.int .u32 s.status, .int .u32 s.enable, .int .u32 s.vector, .int .u32 s.scratch, .int .u32 s.epc, .int .u32 s.cause, .int .u32 s.value, .int .u64 s.count]
def St.v (s : St) : Value := .agg s.cells
structure St.ok (s : St) : Prop where
  status : s.status < 4294967296
  enable : s.enable < 4294967296
  vector : s.vector < 4294967296
  scratch : s.scratch < 4294967296
  epc : s.epc < 4294967296
  cause : s.cause < 4294967296
  value : s.value < 4294967296
  count : s.count < 18446744073709551616
/-- a word without some bits -/
def clr (v m : Nat) : Nat := v &&& (4294967295 - m)
theorem clr_lt {v m : Nat} (hv : v < 4294967296) : clr v m < 4294967296 := Nat.lt_of_le_of_lt Nat.and_le_left hv
theorem tb_high {v : Nat} (hv : v < 4294967296) {j : Nat} (hj : 32 ≤ j) : v.testBit j = false :=
  Nat.testBit_lt_two_pow (Nat.lt_of_lt_of_le hv (by rw [show (4294967296 : Nat) = 2 ^ 32 from rfl]; exact Nat.pow_le_pow_right (by omega) hj))
theorem tb_clr {v m : Nat} (hm : m < 4294967296) {j : Nat} (hj : j < 32) : (clr v m).testBit j = (v.testBit j && !m.testBit j) := by
  have e : 4294967295 - m = 2 ^ 32 - (m + 1) := by rw [show (2 : Nat) ^ 32 = 4294967296 from rfl]; omega
  rw [clr, Nat.testBit_and, e, Nat.testBit_two_pow_sub_succ hm]; simp [hj]
theorem word_ext {a b : Nat} (ha : a < 4294967296) (hb : b < 4294967296) (h : ∀ j, j < 32 → a.testBit j = b.testBit j) : a = b := by
  apply Nat.eq_of_testBit_eq
  intro j
  by_cases hj : j < 32
  · exact h j hj
  · rw [tb_high ha (by omega), tb_high hb (by omega)]
/-- one bit set -/
def setBit1 (v i x : Nat) : Nat := fromN (setB v i 1 x) 32
theorem setBit1_lt (v i x : Nat) : setBit1 v i x < 4294967296 := fromN_lt _ 32
theorem tb_setBit1 {v : Nat} (hv : v < 4294967296) (i x : Nat) {j : Nat} (hj : j < 32) : (setBit1 v i x).testBit j = if j = i then x.testBit 0 else v.testBit j := by
  rw [setBit1, testBit_fromN, decide_eq_true hj, Bool.true_and]
  unfold setB
  by_cases h : j = i
  · subst h
    rw [if_pos (by omega), if_pos rfl]
    simp [bitI]
  · rw [if_neg (by omega), if_neg h, bitI_nat hv]
    simp
/-- one bit got -/
def getBit1 (v i : Nat) : Nat := fromN (fieldB v i 1) 32
theorem getBit1_eq {v : Nat} (hv : v < 4294967296) {i : Nat} (hi : i < 32) : getBit1 v i = (v.testBit i).toNat := by
  apply word_ext (fromN_lt _ 32) (by cases v.testBit i <;> simp)
  intro j hj
  show (fromN (fieldB v i 1) 32).testBit j = _
  rw [testBit_fromN, decide_eq_true hj, Bool.true_and]
  unfold fieldB
  by_cases h : j = 0
  · subst h
    rw [bitI_nat hv]
    rw [decide_eq_true (by omega : ((0 : Nat) : Int) < 1), decide_eq_true (by omega : 0 ≤ (i : Int) + ((0 : Nat) : Int))]
    simp
    cases v.testBit i <;> simp
  · rw [decide_eq_false (by omega)]
    obtain ⟨m, rfl⟩ : ∃ m, j = m + 1 := ⟨j - 1, by omega⟩
    cases v.testBit i <;> simp [Nat.testBit_succ]
/-- some bits away -/
def butN (v : Nat) (l : List Nat) : Nat := l.foldl (fun v i => setBit1 v i 0) v
theorem pow_tb (i j : Nat) : (2 ^ i : Nat).testBit j = decide (i = j) := Nat.testBit_two_pow
theorem but01 {v : Nat} (hv : v < 4294967296) : butN v [0, 1] = clr v 3 := by
  apply word_ext (setBit1_lt _ _ _) (clr_lt hv)
  intro j hj
  simp only [butN, List.foldl]
  rw [tb_setBit1 (setBit1_lt _ _ _) _ _ hj, tb_setBit1 hv _ _ hj, tb_clr (by omega) hj]
  by_cases h1 : j = 1
  · subst h1; simp [show Nat.testBit 3 1 = true from by decide]
  · by_cases h0 : j = 0
    · subst h0; simp
    · have : (3 : Nat).testBit j = false := by
        rw [show (3 : Nat) = 2 ^ 2 - 1 from rfl, Nat.testBit_two_pow_sub_one]; simp; omega
      simp [h1, h0, this]
theorem but1 {v : Nat} (hv : v < 4294967296) : butN v [1] = clr v 2 := by
  apply word_ext (setBit1_lt _ _ _) (clr_lt hv)
  intro j hj
  show (setBit1 v 1 0).testBit j = _
  rw [tb_setBit1 hv _ _ hj, tb_clr (by omega) hj]
  by_cases h1 : j = 1
  · subst h1; simp [show Nat.testBit 2 1 = true from by decide]
  · have : (2 : Nat).testBit j = false := by
      have e := pow_tb 1 j; rw [show (2 : Nat) ^ 1 = 2 from rfl] at e; rw [e]; exact decide_eq_false (Ne.symm h1)
    simp [h1, this]
/-- the status behind a trap -/
def trapStatus (v : Nat) : Nat := if v.testBit 3 = true then clr (clr v 128) 8 ||| 128 else clr v 128
theorem trapStatus_lt {v : Nat} (hv : v < 4294967296) : trapStatus v < 4294967296 := by
  unfold trapStatus; split
  · exact Nat.or_lt_two_pow (n := 32) (clr_lt (clr_lt hv)) (by decide)
  · exact clr_lt hv
theorem trapStatus_ref {v : Nat} (hv : v < 4294967296) : setBit1 (setBit1 v 7 (getBit1 v 3)) 3 0 = trapStatus v := by
  apply word_ext (setBit1_lt _ _ _) (trapStatus_lt hv)
  intro j hj
  have h128 : (128 : Nat).testBit j = decide (7 = j) := pow_tb 7 j
  have h8 : (8 : Nat).testBit j = decide (3 = j) := pow_tb 3 j
  rw [tb_setBit1 (setBit1_lt _ _ _) _ _ hj, tb_setBit1 hv _ _ hj, getBit1_eq hv (by omega)]
  unfold trapStatus
  by_cases h : v.testBit 3 = true
  · rw [if_pos h, Nat.testBit_or, tb_clr (by omega) hj, tb_clr (by omega) hj, h128, h8]
    by_cases j3 : j = 3
    · subst j3; simp
    · by_cases j7 : j = 7
      · subst j7; simp [h]
      · simp [j3, j7, Ne.symm j3, Ne.symm j7]
  · rw [if_neg h, tb_clr (by omega) hj, h128]
    by_cases j3 : j = 3
    · subst j3; simpa using h
    · by_cases j7 : j = 7
      · subst j7; simp [h]
      · simp [j3, j7, Ne.symm j7]
/-- where a trap goes on -/
def trapTo (vector cause : Nat) : Nat := if vector % 2 = 1 ∧ 2147483648 ≤ cause then (clr vector 3 + cause * 4) % 4294967296 else clr vector 3
def trapS (s : St) (cause value pc : Nat) : St := { s with epc := clr pc 3, cause := cause, value := value, status := trapStatus s.status }
theorem trapS_ok {s : St} (h : s.ok) {cause value pc : Nat} (h1 : cause < 4294967296) (h2 : value < 4294967296) (h3 : pc < 4294967296) : (trapS s cause value pc).ok :=
  { h with epc := clr_lt h3, cause := h1, value := h2, status := trapStatus_lt h.status }
theorem trapTo_lt {vector cause : Nat} (hv : vector < 4294967296) : trapTo vector cause < 4294967296 := by
  unfold trapTo; split
  · exact Nat.mod_lt _ (by omega)
  · exact clr_lt hv
theorem and_pow_ne {v : Nat} (i : Nat) : v &&& 2 ^ i = if v.testBit i = true then 2 ^ i else 0 := by
  rw [Go.nat_bit, Nat.testBit_eq_decide_div_mod_eq]
  rcases Nat.mod_two_eq_zero_or_one (v / 2 ^ i) with h | h <;> simp [h]
theorem tb31 {v : Nat} (hv : v < 4294967296) : v.testBit 31 = decide (2147483648 ≤ v) := by
  by_cases h : 2147483648 ≤ v
  · rw [decide_eq_true h]; exact Nat.testBit_of_two_pow_le_and_two_pow_add_one_gt h hv
  · rw [decide_eq_false h]; exact Nat.testBit_lt_two_pow (by rw [show (2 : Nat) ^ 31 = 2147483648 from rfl]; omega)

theorem u32c_andNot {v : Nat} (m : Nat) (hv : v < 4294967296) (hm : m < 4294967296) : Go.bits .andNot .u32 (v : Int) (m : Int) = ((clr v m : Nat) : Int) := Go.u32_andNot_nat v m hv hm
theorem u32c_bit {v : Nat} (i : Nat) (hv : v < 4294967296) (hi : i < 32) : Go.bits .and .u32 (v : Int) ((2 ^ i : Nat) : Int) = if v.testBit i = true then ((2 ^ i : Nat) : Int) else 0 := by
  rw [Go.u32_and_nat _ _ hv (by rw [show (4294967296 : Nat) = 2 ^ 32 from rfl]; exact Nat.pow_lt_pow_right (by omega) hi), and_pow_ne]
  split <;> rfl
set_option maxHeartbeats 2000000 in
theorem trap_any (s : St) (hs : s.ok) (cause value pc : Nat) (h1 : cause < 4294967296) (h2 : value < 4294967296) (h3 : pc < 4294967296) (w : World) :
    Calls Try.prog 12 #[s.v, .int .u32 cause, .int .u32 value, .int .u32 pc] w fun e w' => e = .returned (.tuple #[(trapS s cause value pc).v, .int .u32 (trapTo s.vector cause)]) ∧ Below w.heap.size w w' := by
  obtain ⟨st, en, ve, sc, ep, ca, va, co⟩ := s
  obtain ⟨g1, g2, g3, g4, g5, g6, g7, g8⟩ := hs
  simp only at g1 g2 g3 g4 g5 g6 g7 g8
  have e1 : Go.bits .andNot .u32 (pc : Int) 3 = (clr pc 3 : Nat) := u32c_andNot 3 h3 (by omega)
  have e2 : Go.bits .andNot .u32 (st : Int) 128 = (clr st 128 : Nat) := u32c_andNot 128 g1 (by omega)
  have e3 : Go.bits .and .u32 ((clr st 128 : Nat) : Int) 8 = if (clr st 128).testBit 3 = true then 8 else 0 := u32c_bit (v := clr st 128) 3 (clr_lt g1) (by omega)
  have e4 : Go.bits .andNot .u32 ((clr st 128 : Nat) : Int) 8 = (clr (clr st 128) 8 : Nat) := u32c_andNot (v := clr st 128) 8 (clr_lt g1) (by omega)
  have e5 : Go.bits .or .u32 ((clr (clr st 128) 8 : Nat) : Int) 128 = (clr (clr st 128) 8 ||| 128 : Nat) := Go.u32_or_nat (clr (clr st 128) 8) 128 (clr_lt (clr_lt g1)) (by omega)
  have e6 : Go.bits .andNot .u32 (ve : Int) 3 = (clr ve 3 : Nat) := u32c_andNot 3 g3 (by omega)
  have e7 : Go.bits .and .u32 (ve : Int) 1 = if ve.testBit 0 = true then 1 else 0 := u32c_bit (v := ve) 0 g3 (by omega)
  have e8 : Go.bits .and .u32 (cause : Int) 2147483648 = if cause.testBit 31 = true then 2147483648 else 0 := u32c_bit (v := cause) 31 h1 (by omega)
  have b3 : (clr st 128).testBit 3 = st.testBit 3 := by rw [tb_clr (by omega) (by omega), show Nat.testBit 128 3 = false from by decide]; simp
  rw [b3] at e3
  have b0 : ve.testBit 0 = decide (ve % 2 = 1) := by simp [Nat.testBit_zero]
  rw [b0] at e7
  rw [tb31 h1] at e8
  unfold trapS trapTo trapStatus St.v St.cells
  simp only
  by_cases c1 : st.testBit 3 = true <;> by_cases c2 : ve % 2 = 1 <;> by_cases c3 : 2147483648 ≤ cause
  all_goals
    simp only [c1, c2, c3, decide_true, decide_false, if_true, if_false, and_true, and_false, true_and, false_and, Bool.false_eq_true] at e3 e7 e8 ⊢
    clear c1 c2 c3 b3 b0
    go_enter Try.func12, Try.ntmps12
    go_wp2
    refine bodyPost_ret (v := ?_) ?_ rfl ⟨?_, ?_⟩
    rotate_left
    · simp [results, Try.results12, go_sem]; exact rfl
    · simp; try omega
    · exact ((Below.refl _ _).alloc (Nat.le_refl _) _).alloc (by simp) _

theorem below_drew1 {n : Nat} {a w : World} (h : Below n a w) : Below n a w.drew := below_drewN h 1
/-- a box that holds a state -/
def BoxS (w : World) (B : Nat) (t : TypeId) (s : St) : Prop := w.heap[B]? = some (.cells s.cells t (0, 0))
theorem BoxS.lt {w : World} {B : Nat} {t : TypeId} {s : St} (h : BoxS w B t s) : B < w.heap.size := heap_lt h
theorem BoxS.below {w w' : World} {B : Nat} {t : TypeId} {s : St} (h : BoxS w B t s) (hb : Below w.heap.size w w') : BoxS w' B t s := (hb.block B h.lt).trans h
theorem BoxS.facts {w : World} {B : Nat} {t : TypeId} {s : St} (h : BoxS w B t s) :
    w.cell? ⟨B, 0, none⟩ = some (.int .u32 s.status) ∧ w.cell? ⟨B, 1, none⟩ = some (.int .u32 s.enable) ∧ w.cell? ⟨B, 2, none⟩ = some (.int .u32 s.vector) ∧ w.cell? ⟨B, 3, none⟩ = some (.int .u32 s.scratch) ∧
    w.cell? ⟨B, 4, none⟩ = some (.int .u32 s.epc) ∧ w.cell? ⟨B, 5, none⟩ = some (.int .u32 s.cause) ∧ w.cell? ⟨B, 6, none⟩ = some (.int .u32 s.value) ∧ w.cell? ⟨B, 7, none⟩ = some (.int .u64 s.count) ∧
    (∀ i, w.frozen? ⟨B, i, none⟩ = false) ∧ B < w.heap.size := by
  refine ⟨?_, ?_, ?_, ?_, ?_, ?_, ?_, ?_, fun i => frozen_of_row _ _ _ _ _ h, h.lt⟩ <;> (rw [cell_of_row _ _ _ _ _ _ h]; rfl)

/-- the interrupt that is taken next -/
def askBit (s : St) (lines i : Nat) : Bool := lines.testBit i && s.enable.testBit i
def asksS (s : St) (lines : Nat) : Nat := if s.status.testBit 3 = true then (if askBit s lines 11 = true then 2147483659 else if askBit s lines 3 = true then 2147483651 else if askBit s lines 7 = true then 2147483655 else 0) else 0
theorem ask_bit {en ln : Nat} (i : Nat) (h1 : ln < 4294967296) (h2 : en < 4294967296) : Go.bits .and .u32 (((ln &&& en : Nat) : Int) / 2 ^ i) 1 = if (ln.testBit i && en.testBit i) = true then 1 else 0 := by
  have e : (((ln &&& en : Nat) : Int) / 2 ^ i) = (((ln &&& en) / 2 ^ i : Nat) : Int) := by simp
  have hlt : (ln &&& en) / 2 ^ i < 4294967296 := Nat.lt_of_le_of_lt (Nat.div_le_self _ _) (Nat.lt_of_le_of_lt Nat.and_le_left h1)
  rw [e, show (1 : Int) = ((1 : Nat) : Int) from rfl, Go.u32_and_nat _ _ hlt (by decide), Go.nat_mask1, ← Nat.testBit_and, Nat.testBit_eq_decide_div_mod_eq]
  rcases Nat.mod_two_eq_zero_or_one ((ln &&& en) / 2 ^ i) with h | h <;> simp [h]
set_option maxHeartbeats 4000000 in
theorem asks_any (s : St) (hs : s.ok) (ln : Nat) (hl : ln < 4294967296) (w : World) :
    Calls Try.prog 15 #[s.v, .int .u32 ln] w fun e w' => e = .returned (.int .u32 (asksS s ln)) ∧ Below w.heap.size w w' := by
  obtain ⟨st, en, ve, sc, ep, ca, va, co⟩ := s
  obtain ⟨g1, g2, g3, g4, g5, g6, g7, g8⟩ := hs
  simp only at g1 g2 g3 g4 g5 g6 g7 g8
  have e1 : Go.bits .and .u32 (st : Int) 8 = if st.testBit 3 = true then 8 else 0 := u32c_bit 3 g1 (by omega)
  have e2 := Go.u32_and_nat ln en hl g2
  have b11 : Go.bits .and .u32 (((ln &&& en : Nat) : Int) / 2048) 1 = if askBit ⟨st, en, ve, sc, ep, ca, va, co⟩ ln 11 = true then 1 else 0 := ask_bit 11 hl g2
  have b3 : Go.bits .and .u32 (((ln &&& en : Nat) : Int) / 8) 1 = if askBit ⟨st, en, ve, sc, ep, ca, va, co⟩ ln 3 = true then 1 else 0 := ask_bit 3 hl g2
  have b7 : Go.bits .and .u32 (((ln &&& en : Nat) : Int) / 128) 1 = if askBit ⟨st, en, ve, sc, ep, ca, va, co⟩ ln 7 = true then 1 else 0 := ask_bit 7 hl g2
  have i0 : ∀ w : World, (Instr.index 26 (.agg #[.int .u32 11, .int .u32 3, .int .u32 7]) (.int .i64 0)).run Try.prog w = .ok (.int .u32 11) w := fun _ => by kernel_rfl
  have i1 : ∀ w : World, (Instr.index 26 (.agg #[.int .u32 11, .int .u32 3, .int .u32 7]) (.int .i64 1)).run Try.prog w = .ok (.int .u32 3) w := fun _ => by kernel_rfl
  have i2 : ∀ w : World, (Instr.index 26 (.agg #[.int .u32 11, .int .u32 3, .int .u32 7]) (.int .i64 2)).run Try.prog w = .ok (.int .u32 7) w := fun _ => by kernel_rfl
  unfold asksS
  generalize askBit ⟨st, en, ve, sc, ep, ca, va, co⟩ ln 11 = x11 at *
  generalize askBit ⟨st, en, ve, sc, ep, ca, va, co⟩ ln 3 = x3 at *
  generalize askBit ⟨st, en, ve, sc, ep, ca, va, co⟩ ln 7 = x7 at *
  unfold St.v St.cells
  simp only
  have o11 : Go.bits .or .u32 2147483648 11 = 2147483659 := by decide +kernel
  have o3 : Go.bits .or .u32 2147483648 3 = 2147483651 := by decide +kernel
  have o7 : Go.bits .or .u32 2147483648 7 = 2147483655 := by decide +kernel
  cases c : st.testBit 3 <;> cases x11 <;> cases x3 <;> cases x7
  all_goals
    simp only [c, if_true, if_false, Bool.false_eq_true] at e1 b11 b3 b7 ⊢
    clear c
    go_enter Try.func15, Try.ntmps15
    go_wp2
    try (refine wp_loop_rounds 4 ?_; rw [rounds_succ]; go_wp2; try (rw [rounds_succ]; go_wp2); try (rw [rounds_succ]; go_wp2); try (rw [rounds_succ]; go_wp2))
    go_ret
    exact ⟨rfl, (Below.refl _ _).alloc (Nat.le_refl _) _⟩

theorem quiet_add_same {P : Program} {f : FuncId} {args : Array Value} {w : World} {a n : Nat} {v : Value}
    (h : Calls P f args (w.drewN (a + n)) fun e w' => e = .returned v ∧ w' = w.drewN (a + n)) : Calls P f args (w.drewN (a + n)) fun e w'' => e = .returned v ∧ ∃ m, w'' = w.drewN (a + m) :=
  h.mono fun _ _ ⟨he, hm⟩ => ⟨he, n, hm⟩
/-- what is asked from the k-th line on -/
def restAsk (x11 x3 x7 : Bool) : Nat → Nat
  | 0 => if x11 = true then 2147483659 else if x3 = true then 2147483651 else if x7 = true then 2147483655 else 0
  | 1 => if x3 = true then 2147483651 else if x7 = true then 2147483655 else 0
  | 2 => if x7 = true then 2147483655 else 0
  | _ => 0
theorem bit_val (v : Nat) (hv : v < 4294967296) (i : Nat) (hi : i < 32) : bitI v i = v.testBit i := by
  rw [bitI_nat hv]; simp
set_option maxHeartbeats 4000000 in
theorem rasks_any (s : St) (hs : s.ok) (ln : Nat) (hl : ln < 4294967296) (w : World) :
    Calls Try.prog 16 #[s.v, .int .u32 ln] w fun e w' => e = .returned (.int .u32 (asksS s ln)) ∧ Below w.heap.size w w' := by
  obtain ⟨st, en, ve, sc, ep, ca, va, co⟩ := s
  obtain ⟨g1, g2, g3, g4, g5, g6, g7, g8⟩ := hs
  simp only at g1 g2 g3 g4 g5 g6 g7 g8
  have key : ∀ (v : Nat) (_ : v < 4294967296) (i : Nat) (_ : i < 32) (w : World), Calls Try.prog 30 #[.int .u32 v, .int .i64 i] w fun e w' => e = .returned (.int .i64 ((v.testBit i).toNat : Nat)) ∧ w' = w :=
    fun v hv i hi w => (bit_any v hv i w).mono fun e w' h => ⟨by rw [h.1, bit_val v hv i hi], h.2.symm⟩
  have S3 : ∀ w : World, Calls Try.prog 30 #[.int .u32 st, .int .i64 3] w fun e w' => e = .returned (.int .i64 ((st.testBit 3).toNat : Nat)) ∧ w' = w := fun w => key st g1 3 (by omega) w
  have L11 : ∀ w : World, Calls Try.prog 30 #[.int .u32 ln, .int .i64 11] w fun e w' => e = .returned (.int .i64 ((ln.testBit 11).toNat : Nat)) ∧ w' = w := fun w => key ln hl 11 (by omega) w
  have L3 : ∀ w : World, Calls Try.prog 30 #[.int .u32 ln, .int .i64 3] w fun e w' => e = .returned (.int .i64 ((ln.testBit 3).toNat : Nat)) ∧ w' = w := fun w => key ln hl 3 (by omega) w
  have L7 : ∀ w : World, Calls Try.prog 30 #[.int .u32 ln, .int .i64 7] w fun e w' => e = .returned (.int .i64 ((ln.testBit 7).toNat : Nat)) ∧ w' = w := fun w => key ln hl 7 (by omega) w
  have E11 : ∀ w : World, Calls Try.prog 30 #[.int .u32 en, .int .i64 11] w fun e w' => e = .returned (.int .i64 ((en.testBit 11).toNat : Nat)) ∧ w' = w := fun w => key en g2 11 (by omega) w
  have E3 : ∀ w : World, Calls Try.prog 30 #[.int .u32 en, .int .i64 3] w fun e w' => e = .returned (.int .i64 ((en.testBit 3).toNat : Nat)) ∧ w' = w := fun w => key en g2 3 (by omega) w
  have E7 : ∀ w : World, Calls Try.prog 30 #[.int .u32 en, .int .i64 7] w fun e w' => e = .returned (.int .i64 ((en.testBit 7).toNat : Nat)) ∧ w' = w := fun w => key en g2 7 (by omega) w
  have hr : asksS ⟨st, en, ve, sc, ep, ca, va, co⟩ ln = if st.testBit 3 = true then restAsk (ln.testBit 11 && en.testBit 11) (ln.testBit 3 && en.testBit 3) (ln.testBit 7 && en.testBit 7) 0 else 0 := rfl
  rw [hr]
  clear hr key
  unfold St.v St.cells
  simp only
  cases c : st.testBit 3 with
  | false =>
    rw [c] at S3
    have HS3 := Lib.hid S3
    clear c S3 L11 L3 L7 E11 E3 E7
    rw [if_neg (by decide)]
    go_enter Try.func16, Try.ntmps16
    go_wp2
    go_loopw [6] (fun i wr => ∃ k m : Nat, k ≤ 3 ∧ i = .int .i64 k ∧ wr = ((w.alloc (.cells #[.int .u32 st, .int .u32 en, .int .u32 ve, .int .u32 sc, .int .u32 ep, .int .u32 ca, .int .u32 va, .int .u64 co] 25)).alloc (.cells #[.int .i64 11, .int .i64 3, .int .i64 7] 3)).drewN m) (fun i _ => 3 - (intOf i).toNat)
    case atStart => exact ⟨0, 0, by omega, rfl, rfl⟩
    case round =>
      obtain ⟨k, m, hk, rfl, rfl⟩ := hrel
      by_cases hlt : k < 3
      · go_wp2
        go_quiet ((go_at_call 30; exact quiet_add_same (HS3.out _)))
        go_wp2
        go_roundw
        case rel => exact ⟨k + 1, _, by omega, by go_num, rfl⟩
        case measure => simp [intOf]; omega
      · go_wp2
        go_ret
        exact ⟨rfl, below_drewN (((Below.refl _ _).alloc (Nat.le_refl _) _).alloc (by simp) _) _⟩
  | true =>
    rw [c] at S3
    have HS3 := Lib.hid S3
    generalize ln.testBit 11 = l11 at *
    generalize ln.testBit 3 = l3 at *
    generalize ln.testBit 7 = l7 at *
    generalize en.testBit 11 = e11 at *
    generalize en.testBit 3 = e3 at *
    generalize en.testBit 7 = e7 at *
    have HL11 := Lib.hid L11
    have HL3 := Lib.hid L3
    have HL7 := Lib.hid L7
    have HE11 := Lib.hid E11
    have HE3 := Lib.hid E3
    have HE7 := Lib.hid E7
    clear c S3 L11 L3 L7 E11 E3 E7
    rw [if_pos rfl]
    obtain ⟨res, hres0⟩ : ∃ res, restAsk (l11 && e11) (l3 && e3) (l7 && e7) 0 = res := ⟨_, rfl⟩
    rw [hres0]
    have HR := Lib.hid hres0
    clear hres0
    go_enter Try.func16, Try.ntmps16
    go_wp2
    go_loopw [6] (fun i wr => ∃ k m : Nat, k ≤ 3 ∧ i = .int .i64 k ∧ wr = ((w.alloc (.cells #[.int .u32 st, .int .u32 en, .int .u32 ve, .int .u32 sc, .int .u32 ep, .int .u32 ca, .int .u32 va, .int .u64 co] 25)).alloc (.cells #[.int .i64 11, .int .i64 3, .int .i64 7] 3)).drewN m ∧ restAsk (l11 && e11) (l3 && e3) (l7 && e7) k = res) (fun i _ => 3 - (intOf i).toNat)
    case atStart => exact ⟨0, 0, by omega, rfl, rfl, HR.out⟩
    case round =>
      obtain ⟨k, m, hk, rfl, rfl, hres0⟩ := hrel
      have hres := Lib.hid hres0
      clear hres0 HR
      have hk4 : k = 0 ∨ k = 1 ∨ k = 2 ∨ k = 3 := by omega
      rcases hk4 with rfl | rfl | rfl | rfl
      · go_wp2
        cases l11 <;> cases e11
        all_goals
          go_quiet ((first | (go_at_call 30; with_reducible exact quiet_add_same (HS3.out _)) | (go_at_call 30; with_reducible exact quiet_add_same (HL11.out _)) | (go_at_call 30; with_reducible exact quiet_add_same (HE11.out _))))
          go_wp2
          first
            | (go_roundw
               case rel => exact ⟨1, _, by omega, rfl, rfl, hres.out⟩
               case measure => simp [intOf])
            | (go_ret
               exact ⟨ret_int (by rw [← hres.out]; rfl), below_drewN (((Below.refl _ _).alloc (Nat.le_refl _) _).alloc (by simp) _) _⟩)
      · go_wp2
        cases l3 <;> cases e3
        all_goals
          go_quiet ((first | (go_at_call 30; with_reducible exact quiet_add_same (HS3.out _)) | (go_at_call 30; with_reducible exact quiet_add_same (HL3.out _)) | (go_at_call 30; with_reducible exact quiet_add_same (HE3.out _))))
          go_wp2
          first
            | (go_roundw
               case rel => exact ⟨2, _, by omega, rfl, rfl, hres.out⟩
               case measure => simp [intOf])
            | (go_ret
               exact ⟨ret_int (by rw [← hres.out]; rfl), below_drewN (((Below.refl _ _).alloc (Nat.le_refl _) _).alloc (by simp) _) _⟩)
      · go_wp2
        cases l7 <;> cases e7
        all_goals
          go_quiet ((first | (go_at_call 30; with_reducible exact quiet_add_same (HS3.out _)) | (go_at_call 30; with_reducible exact quiet_add_same (HL7.out _)) | (go_at_call 30; with_reducible exact quiet_add_same (HE7.out _))))
          go_wp2
          first
            | (go_roundw
               case rel => exact ⟨3, _, by omega, rfl, rfl, hres.out⟩
               case measure => simp [intOf])
            | (go_ret
               exact ⟨ret_int (by rw [← hres.out]; rfl), below_drewN (((Below.refl _ _).alloc (Nat.le_refl _) _).alloc (by simp) _) _⟩)
      · go_wp2
        go_ret
        exact ⟨ret_int (by rw [← hres.out]; rfl), below_drewN (((Below.refl _ _).alloc (Nat.le_refl _) _).alloc (by simp) _) _⟩

end Go.Proofs.Ytgbpalclapcfeaa
