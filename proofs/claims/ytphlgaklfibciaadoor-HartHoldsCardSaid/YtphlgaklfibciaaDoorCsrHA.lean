import Derived.Test.YtphlgaklfibciaaDoorWordHC
import Derived.Test.YtphlgaklfibciaaDoorDoorK
import Derived.Below
import Derived.Deep.Draws
import Derived.Deep.AppendLies
import Derived.Maps.AppendAt
import Derived.OwnWalk
import Derived.Laws.BytesArg
import Derived.Laws.MakeOwn
import Derived.Laws.OwnMore
import Derived.Deep.OwnRows
import Derived.Tactics
import Derived.Lib.ConvBytes
import Derived.Laws.Slices
import Derived.WalkKit
import Derived.KernelRfl
import Derived.RowKit3
import Derived.Deep.LoopGhost
import Derived.Deep.QuietTactic
import Derived.BigQuiet
import Derived.WideLaws
import Derived.Deep.DeepCutAuto
import Derived.Deep.CutBlock
import Derived.Deep.RegionHeld3
import Derived.Laws.Rows
import Derived.Lib.AppendStr
import Derived.ArgAppend
import Derived.Laws.IdiomCopy
import Derived.OrdersHeld
import Derived.Laws.BitsLemmas
import Derived.RowKit
import Derived.Lib.Hide
import Derived.Laws.BitsAllLaws
import Derived.WalkLawsBesides
import Derived.WalkSpells
import Derived.LaidEql
namespace Go.Proofs.YtphlgaklfibciaaDoor
open Go.RowKit
set_option maxRecDepth 100000
set_option linter.unusedVariables false
set_option linter.unusedSimpArgs false

/-- a control state -/
structure St where
  status : Nat
  enable : Nat
  vector : Nat
  scratch : Nat
  epc : Nat
  cause : Nat
  value : Nat
  count : Nat
def St.cells (s : St) : Array Value := #[.int .u32 s.status, .int .u32 s.enable, .int .u32 s.vector, .int .u32 s.scratch, .int .u32 s.epc, .int .u32 s.cause, .int .u32 s.value, .int .u64 s.count]
def St.v (s : St) : Value := .agg s.cells
structure St.ok (s : St) : Prop where
  status : s.status < 4294967296
  enable : s.enable < 4294967296
  vector : s.vector < 4294967296
  scratch : s.scratch < 4294967296
  epc : s.epc < 4294967296
  cause : s.cause < 4294967296
  value : s.value < 4294967296
  count : s.count < 18446744073709551616
/-- a word without some bits -/
def clr (v m : Nat) : Nat := v &&& (4294967295 - m)
theorem clr_lt {v m : Nat} (hv : v < 4294967296) : clr v m < 4294967296 := Nat.lt_of_le_of_lt Nat.and_le_left hv
theorem tb_high {v : Nat} (hv : v < 4294967296) {j : Nat} (hj : 32 ≤ j) : v.testBit j = false :=
  Nat.testBit_lt_two_pow (Nat.lt_of_lt_of_le hv (by rw [show (4294967296 : Nat) = 2 ^ 32 from rfl]; exact Nat.pow_le_pow_right (by omega) hj))
theorem tb_clr {v m : Nat} (hm : m < 4294967296) {j : Nat} (hj : j < 32) : (clr v m).testBit j = (v.testBit j && !m.testBit j) := by
  have e : 4294967295 - m = 2 ^ 32 - (m + 1) := by rw [show (2 : Nat) ^ 32 = 4294967296 from rfl]; omega
  rw [clr, Nat.testBit_and, e, Nat.testBit_two_pow_sub_succ hm]; simp [hj]
theorem word_ext {a b : Nat} (ha : a < 4294967296) (hb : b < 4294967296) (h : ∀ j, j < 32 → a.testBit j = b.testBit j) : a = b := by
  apply Nat.eq_of_testBit_eq
  intro j
  by_cases hj : j < 32
  · exact h j hj
  · rw [tb_high ha (by omega), tb_high hb (by omega)]
/-- one bit set -/
def setBit1 (v i x : Nat) : Nat := fromN (setB v i 1 x) 32
theorem setBit1_lt (v i x : Nat) : setBit1 v i x < 4294967296 := fromN_lt _ 32
theorem tb_setBit1 {v : Nat} (hv : v < 4294967296) (i x : Nat) {j : Nat} (hj : j < 32) : (setBit1 v i x).testBit j = if j = i then x.testBit 0 else v.testBit j := by
  rw [setBit1, testBit_fromN, decide_eq_true hj, Bool.true_and]
  unfold setB
  by_cases h : j = i
  · subst h
    rw [if_pos (by omega), if_pos rfl]
    simp [bitI]
  · rw [if_neg (by omega), if_neg h, bitI_nat hv]
    simp
/-- one bit got -/
def getBit1 (v i : Nat) : Nat := fromN (fieldB v i 1) 32
theorem getBit1_eq {v : Nat} (hv : v < 4294967296) {i : Nat} (hi : i < 32) : getBit1 v i = (v.testBit i).toNat := by
  apply word_ext (fromN_lt _ 32) (by cases v.testBit i <;> simp)
  intro j hj
  show (fromN (fieldB v i 1) 32).testBit j = _
  rw [testBit_fromN, decide_eq_true hj, Bool.true_and]
  unfold fieldB
  by_cases h : j = 0
  · subst h
    rw [bitI_nat hv]
    rw [decide_eq_true (by omega : ((0 : Nat) : Int) < 1), decide_eq_true (by omega : 0 ≤ (i : Int) + ((0 : Nat) : Int))]
    simp
    cases v.testBit i <;> simp
  · rw [decide_eq_false (by omega)]
    obtain ⟨m, rfl⟩ : ∃ m, j = m + 1 := ⟨j - 1, by omega⟩
    cases v.testBit i <;> simp [Nat.testBit_succ]
/-- some bits away -/
def butN (v : Nat) (l : List Nat) : Nat := l.foldl (fun v i => setBit1 v i 0) v
theorem pow_tb (i j : Nat) : (2 ^ i : Nat).testBit j = decide (i = j) := Nat.testBit_two_pow
theorem but01 {v : Nat} (hv : v < 4294967296) : butN v [0, 1] = clr v 3 := by
  apply word_ext (setBit1_lt _ _ _) (clr_lt hv)
  intro j hj
  simp only [butN, List.foldl]
  rw [tb_setBit1 (setBit1_lt _ _ _) _ _ hj, tb_setBit1 hv _ _ hj, tb_clr (by omega) hj]
  by_cases h1 : j = 1
  · subst h1; simp [show Nat.testBit 3 1 = true from by decide]
  · by_cases h0 : j = 0
    · subst h0; simp
    · have : (3 : Nat).testBit j = false := by
        rw [show (3 : Nat) = 2 ^ 2 - 1 from rfl, Nat.testBit_two_pow_sub_one]; simp; omega
      simp [h1, h0, this]
theorem but1 {v : Nat} (hv : v < 4294967296) : butN v [1] = clr v 2 := by
  apply word_ext (setBit1_lt _ _ _) (clr_lt hv)
  intro j hj
  show (setBit1 v 1 0).testBit j = _
  rw [tb_setBit1 hv _ _ hj, tb_clr (by omega) hj]
  by_cases h1 : j = 1
  · subst h1; simp [show Nat.testBit 2 1 = true from by decide]
  · have : (2 : Nat).testBit j = false := by
      have e := pow_tb 1 j; rw [show (2 : Nat) ^ 1 = 2 from rfl] at e; rw [e]; exact decide_eq_false (Ne.symm h1)
    simp [h1, this]
/-- the status behind a trap -/
def trapStatus (v : Nat) : Nat := if v.testBit 3 = true then clr (clr v 128) 8 ||| 128 else clr v 128
theorem trapStatus_lt {v : Nat} (hv : v < 4294967296) : trapStatus v < 4294967296 := by
  unfold trapStatus; split
  · exact Nat.or_lt_two_pow (n := 32) (clr_lt (clr_lt hv)) (by decide)
  · exact clr_lt hv
theorem trapStatus_ref {v : Nat} (hv : v < 4294967296) : setBit1 (setBit1 v 7 (getBit1 v 3)) 3 0 = trapStatus v := by
  apply word_ext (setBit1_lt _ _ _) (trapStatus_lt hv)
  intro j hj
  have h128 : (128 : Nat).testBit j = decide (7 = j) := pow_tb 7 j
  have h8 : (8 : Nat).testBit j = decide (3 = j) := pow_tb 3 j
  rw [tb_setBit1 (setBit1_lt _ _ _) _ _ hj, tb_setBit1 hv _ _ hj, getBit1_eq hv (by omega)]
  unfold trapStatus
  by_cases h : v.testBit 3 = true
  · rw [if_pos h, Nat.testBit_or, tb_clr (by omega) hj, tb_clr (by omega) hj, h128, h8]
    by_cases j3 : j = 3
    · subst j3; simp
    · by_cases j7 : j = 7
      · subst j7; simp [h]
      · simp [j3, j7, Ne.symm j3, Ne.symm j7]
  · rw [if_neg h, tb_clr (by omega) hj, h128]
    by_cases j3 : j = 3
    · subst j3; simpa using h
    · by_cases j7 : j = 7
      · subst j7; simp [h]
      · simp [j3, j7, Ne.symm j7]
/-- where a trap goes on -/
def trapTo (vector cause : Nat) : Nat := if vector % 2 = 1 ∧ 2147483648 ≤ cause then (clr vector 3 + cause * 4) % 4294967296 else clr vector 3
def trapS (s : St) (cause value pc : Nat) : St := { s with epc := clr pc 3, cause := cause, value := value, status := trapStatus s.status }
theorem trapS_ok {s : St} (h : s.ok) {cause value pc : Nat} (h1 : cause < 4294967296) (h2 : value < 4294967296) (h3 : pc < 4294967296) : (trapS s cause value pc).ok :=
  { h with epc := clr_lt h3, cause := h1, value := h2, status := trapStatus_lt h.status }
theorem trapTo_lt {vector cause : Nat} (hv : vector < 4294967296) : trapTo vector cause < 4294967296 := by
  unfold trapTo; split
  · exact Nat.mod_lt _ (by omega)
  · exact clr_lt hv
theorem and_pow_ne {v : Nat} (i : Nat) : v &&& 2 ^ i = if v.testBit i = true then 2 ^ i else 0 := by
  rw [Go.nat_bit, Nat.testBit_eq_decide_div_mod_eq]
  rcases Nat.mod_two_eq_zero_or_one (v / 2 ^ i) with h | h <;> simp [h]
theorem tb31 {v : Nat} (hv : v < 4294967296) : v.testBit 31 = decide (2147483648 ≤ v) := by
  by_cases h : 2147483648 ≤ v
  · rw [decide_eq_true h]; exact Nat.testBit_of_two_pow_le_and_two_pow_add_one_gt h hv
  · rw [decide_eq_false h]; exact Nat.testBit_lt_two_pow (by rw [show (2 : Nat) ^ 31 = 2147483648 from rfl]; omega)

theorem u32c_andNot {v : Nat} (m : Nat) (hv : v < 4294967296) (hm : m < 4294967296) : Go.bits .andNot .u32 (v : Int) (m : Int) = ((clr v m : Nat) : Int) := Go.u32_andNot_nat v m hv hm
theorem u32c_bit {v : Nat} (i : Nat) (hv : v < 4294967296) (hi : i < 32) : Go.bits .and .u32 (v : Int) ((2 ^ i : Nat) : Int) = if v.testBit i = true then ((2 ^ i : Nat) : Int) else 0 := by
  rw [Go.u32_and_nat _ _ hv (by rw [show (4294967296 : Nat) = 2 ^ 32 from rfl]; exact Nat.pow_lt_pow_right (by omega) hi), and_pow_ne]
  split <;> rfl
set_option maxHeartbeats 2000000 in
theorem trap_any (s : St) (hs : s.ok) (cause value pc : Nat) (h1 : cause < 4294967296) (h2 : value < 4294967296) (h3 : pc < 4294967296) (w : World) :
    Calls Tryd.prog 52 #[s.v, .int .u32 cause, .int .u32 value, .int .u32 pc] w fun e w' => e = .returned (.tuple #[(trapS s cause value pc).v, .int .u32 (trapTo s.vector cause)]) ∧ Below w.heap.size w w' := by
  obtain ⟨st, en, ve, sc, ep, ca, va, co⟩ := s
  obtain ⟨g1, g2, g3, g4, g5, g6, g7, g8⟩ := hs
  simp only at g1 g2 g3 g4 g5 g6 g7 g8
  have e1 : Go.bits .andNot .u32 (pc : Int) 3 = (clr pc 3 : Nat) := u32c_andNot 3 h3 (by omega)
  have e2 : Go.bits .andNot .u32 (st : Int) 128 = (clr st 128 : Nat) := u32c_andNot 128 g1 (by omega)
  have e3 : Go.bits .and .u32 ((clr st 128 : Nat) : Int) 8 = if (clr st 128).testBit 3 = true then 8 else 0 := u32c_bit (v := clr st 128) 3 (clr_lt g1) (by omega)
  have e4 : Go.bits .andNot .u32 ((clr st 128 : Nat) : Int) 8 = (clr (clr st 128) 8 : Nat) := u32c_andNot (v := clr st 128) 8 (clr_lt g1) (by omega)
  have e5 : Go.bits .or .u32 ((clr (clr st 128) 8 : Nat) : Int) 128 = (clr (clr st 128) 8 ||| 128 : Nat) := Go.u32_or_nat (clr (clr st 128) 8) 128 (clr_lt (clr_lt g1)) (by omega)
  have e6 : Go.bits .andNot .u32 (ve : Int) 3 = (clr ve 3 : Nat) := u32c_andNot 3 g3 (by omega)
  have e7 : Go.bits .and .u32 (ve : Int) 1 = if ve.testBit 0 = true then 1 else 0 := u32c_bit (v := ve) 0 g3 (by omega)
  have e8 : Go.bits .and .u32 (cause : Int) 2147483648 = if cause.testBit 31 = true then 2147483648 else 0 := u32c_bit (v := cause) 31 h1 (by omega)
  have b3 : (clr st 128).testBit 3 = st.testBit 3 := by rw [tb_clr (by omega) (by omega), show Nat.testBit 128 3 = false from by decide]; simp
  rw [b3] at e3
  have b0 : ve.testBit 0 = decide (ve % 2 = 1) := by simp [Nat.testBit_zero]
  rw [b0] at e7
  rw [tb31 h1] at e8
  unfold trapS trapTo trapStatus St.v St.cells
  simp only
  by_cases c1 : st.testBit 3 = true <;> by_cases c2 : ve % 2 = 1 <;> by_cases c3 : 2147483648 ≤ cause
  all_goals
    simp only [c1, c2, c3, decide_true, decide_false, if_true, if_false, and_true, and_false, true_and, false_and, Bool.false_eq_true] at e3 e7 e8 ⊢
    clear c1 c2 c3 b3 b0
    go_enter Tryd.func52, Tryd.ntmps52
    go_wp2
    refine bodyPost_ret (v := ?_) ?_ rfl ⟨?_, ?_⟩
    rotate_left
    · simp [results, Tryd.results52, go_sem]; exact rfl
    · simp; try omega
    · exact ((Below.refl _ _).alloc (Nat.le_refl _) _).alloc (by simp) _

theorem below_drew1 {n : Nat} {a w : World} (h : Below n a w) : Below n a w.drew := below_drewN h 1
/-- a box that holds a state -/
def BoxS (w : World) (B : Nat) (t : TypeId) (s : St) : Prop := w.heap[B]? = some (.cells s.cells t (0, 0))
theorem BoxS.lt {w : World} {B : Nat} {t : TypeId} {s : St} (h : BoxS w B t s) : B < w.heap.size := heap_lt h
theorem BoxS.below {w w' : World} {B : Nat} {t : TypeId} {s : St} (h : BoxS w B t s) (hb : Below w.heap.size w w') : BoxS w' B t s := (hb.block B h.lt).trans h
theorem BoxS.facts {w : World} {B : Nat} {t : TypeId} {s : St} (h : BoxS w B t s) :
    w.cell? ⟨B, 0, none⟩ = some (.int .u32 s.status) ∧ w.cell? ⟨B, 1, none⟩ = some (.int .u32 s.enable) ∧ w.cell? ⟨B, 2, none⟩ = some (.int .u32 s.vector) ∧ w.cell? ⟨B, 3, none⟩ = some (.int .u32 s.scratch) ∧
    w.cell? ⟨B, 4, none⟩ = some (.int .u32 s.epc) ∧ w.cell? ⟨B, 5, none⟩ = some (.int .u32 s.cause) ∧ w.cell? ⟨B, 6, none⟩ = some (.int .u32 s.value) ∧ w.cell? ⟨B, 7, none⟩ = some (.int .u64 s.count) ∧
    (∀ i, w.frozen? ⟨B, i, none⟩ = false) ∧ B < w.heap.size := by
  refine ⟨?_, ?_, ?_, ?_, ?_, ?_, ?_, ?_, fun i => frozen_of_row _ _ _ _ _ h, h.lt⟩ <;> (rw [cell_of_row _ _ _ _ _ _ h]; rfl)

/-- the box of a state and, behind it, the one of the result -/
def TwoS (w0 : World) (t1 t2 : TypeId) (s z : St) (w' : World) : Prop := BoxS w' w0.heap.size t1 s ∧ BoxS w' (w0.heap.size + 1) t2 z ∧ Below w0.heap.size w0 w'
theorem TwoS.start (w : World) (t1 t2 : TypeId) (s z : St) : TwoS w t1 t2 s z ((w.alloc (.cells s.cells t1)).alloc (.cells z.cells t2)) :=
  ⟨heap_alloc2_old w _ _, heap_alloc2_new w _ _, ((Below.refl _ _).alloc (Nat.le_refl _) _).alloc (by simp) _⟩
theorem TwoS.drew {w0 w' : World} {t1 t2 : TypeId} {s z : St} (h : TwoS w0 t1 t2 s z w') (k : Nat) : TwoS w0 t1 t2 s z (w'.drewN k) := ⟨h.1, h.2.1, below_drewN h.2.2 k⟩
theorem TwoS.below {w0 wa wb : World} {t1 t2 : TypeId} {s z : St} (h : TwoS w0 t1 t2 s z wa) (hb : Below wa.heap.size wa wb) : TwoS w0 t1 t2 s z wb :=
  ⟨h.1.below hb, h.2.1.below hb, h.2.2.trans (hb.mono h.2.2.size)⟩
theorem TwoS.cell0 {w0 w' : World} {t1 t2 : TypeId} {s z : St} (h : TwoS w0 t1 t2 s z w') : w'.cell? ⟨w0.heap.size, 0, none⟩ = some (.int .u32 s.status) := h.1.facts.1
theorem TwoS.set0 {w0 wa : World} {t1 t2 : TypeId} {s z : St} (h : TwoS w0 t1 t2 s z wa) (v : Nat) : TwoS w0 t1 t2 { s with status := v } z (wa.setCell ⟨w0.heap.size, 0, none⟩ (.int .u32 v)) :=
  ⟨heap_setCell_same _ _ _ _ _ _ h.1, (heap_setCell_other _ _ _ _ (by simp)).trans h.2.1, h.2.2.setCell (Nat.le_refl _) _⟩
theorem TwoS.all {w0 wa : World} {t1 t2 : TypeId} {s z : St} (h : TwoS w0 t1 t2 s z wa) :
    wa.cell? ⟨w0.heap.size, 0, none⟩ = some (.int .u32 s.status) ∧ wa.cell? ⟨w0.heap.size, 1, none⟩ = some (.int .u32 s.enable) ∧ wa.cell? ⟨w0.heap.size, 2, none⟩ = some (.int .u32 s.vector) ∧ wa.cell? ⟨w0.heap.size, 3, none⟩ = some (.int .u32 s.scratch) ∧
    wa.cell? ⟨w0.heap.size, 4, none⟩ = some (.int .u32 s.epc) ∧ wa.cell? ⟨w0.heap.size, 5, none⟩ = some (.int .u32 s.cause) ∧ wa.cell? ⟨w0.heap.size, 6, none⟩ = some (.int .u32 s.value) ∧ wa.cell? ⟨w0.heap.size, 7, none⟩ = some (.int .u64 s.count) ∧
    (∀ i, wa.frozen? ⟨w0.heap.size, i, none⟩ = false) ∧ w0.heap.size < wa.heap.size := h.1.facts
theorem TwoS.all2 {w0 wa : World} {t1 t2 : TypeId} {s z : St} (h : TwoS w0 t1 t2 s z wa) :
    wa.cell? ⟨w0.heap.size + 1, 0, none⟩ = some (.int .u32 z.status) ∧ wa.cell? ⟨w0.heap.size + 1, 1, none⟩ = some (.int .u32 z.enable) ∧ wa.cell? ⟨w0.heap.size + 1, 2, none⟩ = some (.int .u32 z.vector) ∧ wa.cell? ⟨w0.heap.size + 1, 3, none⟩ = some (.int .u32 z.scratch) ∧
    wa.cell? ⟨w0.heap.size + 1, 4, none⟩ = some (.int .u32 z.epc) ∧ wa.cell? ⟨w0.heap.size + 1, 5, none⟩ = some (.int .u32 z.cause) ∧ wa.cell? ⟨w0.heap.size + 1, 6, none⟩ = some (.int .u32 z.value) ∧ wa.cell? ⟨w0.heap.size + 1, 7, none⟩ = some (.int .u64 z.count) ∧
    (∀ i, wa.frozen? ⟨w0.heap.size + 1, i, none⟩ = false) ∧ w0.heap.size + 1 < wa.heap.size := h.2.1.facts
def St.zero : St := ⟨0, 0, 0, 0, 0, 0, 0, 0⟩

theorem get_ref (v : Nat) (hv : v < 4294967296) (i : Nat) (w : World) : Calls Tryd.prog 80 #[.int .u32 v, .int .i64 i, .int .i64 1] w fun e w' => e = .returned (.int .u32 (getBit1 v i)) ∧ Below w.heap.size w w' := field_any v hv i 1 w
theorem set_ref (v : Nat) (hv : v < 4294967296) (i : Nat) (hi : i < 32) (x : Nat) (hx : x < 4294967296) (w : World) : Calls Tryd.prog 79 #[.int .u32 v, .int .i64 i, .int .i64 1, .int .u32 x] w fun e w' => e = .returned (.int .u32 (setBit1 v i x)) ∧ Below w.heap.size w w' :=
  set_any v hv i 1 x hx (by omega) (by omega) (by omega) w
theorem getBit1_lt (v i : Nat) : getBit1 v i < 4294967296 := fromN_lt _ 32

theorem butN_snoc (v : Nat) (l : List Nat) (i : Nat) : butN v (l ++ [i]) = setBit1 (butN v l) i 0 := by simp [butN]
theorem butN_lt (l : List Nat) : ∀ v : Nat, v < 4294967296 → butN v l < 4294967296 := by
  induction l with
  | nil => intro v h; simpa [butN] using h
  | cons i l ih =>
    intro v _
    have := ih (setBit1 v i 0) (setBit1_lt _ _ _)
    simpa only [butN, List.foldl_cons] using this
theorem take_snoc' (l : List Nat) (k : Nat) (h : k < l.length) : l.take (k + 1) = l.take k ++ [l[k]] := by rw [List.take_succ_eq_append_getElem h]
set_option maxHeartbeats 1000000 in
theorem but_any (v : Nat) (hv : v < 4294967296) (B n : Nat) (l : List Nat) (hn : l.length = n) (hn2 : n ≤ 32) (hl : ∀ i ∈ l, i < 32) (w : World) (hc : ∀ (j : Nat) (i : Nat), l[j]? = some i → w.cell? ⟨B, j, none⟩ = some (.int .i64 (i : Int))) (hB : B < w.heap.size) :
    Calls Tryd.prog 68 #[.int .u32 v, .slice (some ⟨B, 0, none⟩) n n] w fun e w' => e = .returned (.int .u32 (butN v l)) ∧ Below w.heap.size w w' := by
  have HC := Lib.hid hc
  have HL := Lib.hid hl
  have HN := Lib.hid hn
  clear hc hl hn
  go_enter Tryd.func68, Tryd.ntmps68
  go_wp2
  go_loopw [0, 5] (fun x i wr => ∃ k y : Nat, k ≤ n ∧ i = .int .i64 k ∧ x = .int .u32 y ∧ y = butN v (l.take k) ∧ Below w.heap.size w wr) (fun _ i _ => n - (intOf i).toNat)
  case atStart => exact ⟨0, v, by omega, rfl, rfl, rfl, Below.refl _ _⟩
  case round =>
    rename_i wr
    obtain ⟨k, y, hk, rfl, rfl, hy, hbel⟩ := hrel
    have hy2 : y < 4294967296 := by rw [hy]; exact butN_lt _ _ hv
    have HY := Lib.hid hy
    clear hy
    by_cases hlt : k < n
    · have hkl : k < l.length := by rw [HN.out]; exact hlt
      obtain ⟨i, hi⟩ : ∃ i, l[k] = i := ⟨_, rfl⟩
      have hi32 : i < 32 := HL.out i (by rw [← hi]; exact List.getElem_mem hkl)
      have hcell : wr.cell? ⟨B, k, none⟩ = some (.int .i64 (i : Int)) := (hbel.cell (p := ⟨B, k, none⟩) hB).trans (HC.out k i (by rw [List.getElem?_eq_getElem hkl, hi]))
      have ST : Hid (∀ w : World, Calls Tryd.prog 79 #[.int .u32 y, .int .i64 i, .int .i64 1, .int .u32 0] w fun e w' => e = .returned (.int .u32 (setBit1 y i 0)) ∧ Below w.heap.size w w') := Lib.hid (fun w => set_ref y hy2 i hi32 0 (by omega) w)
      have HI := Lib.hid hi
      clear hi
      go_wp2_with (go_at_call 79; refine (ST.out _).mono ?_; rintro e w' ⟨rfl, hb⟩)
      go_roundw
      case rel => exact ⟨k + 1, setBit1 y i 0, by omega, by go_num, rfl, by rw [take_snoc' l k (by rw [HN.out]; exact hlt), butN_snoc, HI.out, ← HY.out], hbel.trans (hb.mono hbel.size)⟩
      case measure => simp [intOf]; omega
    · go_wp2
      go_ret
      exact ⟨ret_int (by rw [HY.out, List.take_of_length_le (by rw [HN.out]; omega)]), hbel⟩

/-- some bits alone -/
def onlyN (v : Nat) (l : List Nat) : Nat := l.foldl (fun o i => setBit1 o i (getBit1 v i)) 0
theorem onlyN_snoc (v : Nat) (l : List Nat) (i : Nat) : onlyN v (l ++ [i]) = setBit1 (onlyN v l) i (getBit1 v i) := by simp [onlyN]
theorem foldOnly_lt (v : Nat) (l : List Nat) : ∀ o : Nat, o < 4294967296 → l.foldl (fun o i => setBit1 o i (getBit1 v i)) o < 4294967296 := by
  induction l with
  | nil => intro o h; simpa using h
  | cons i l ih =>
    intro o _
    have := ih (setBit1 o i (getBit1 v i)) (setBit1_lt _ _ _)
    simpa only [List.foldl_cons] using this
theorem onlyN_lt (v : Nat) (l : List Nat) : onlyN v l < 4294967296 := foldOnly_lt v l 0 (by omega)
theorem tb_only {v : Nat} (hv : v < 4294967296) {o : Nat} (ho : o < 4294967296) {i : Nat} (hi : i < 32) {j : Nat} (hj : j < 32) : (setBit1 o i (getBit1 v i)).testBit j = if j = i then v.testBit i else o.testBit j := by
  rw [tb_setBit1 ho _ _ hj, getBit1_eq hv hi]
  split
  · cases v.testBit i <;> simp
  · rfl
theorem tb_136 (j : Nat) : (136 : Nat).testBit j = (decide (j = 3) || decide (j = 7)) := by
  have e : (136 : Nat) = 2 ^ 3 ||| 2 ^ 7 := by decide
  rw [e, Nat.testBit_or, pow_tb, pow_tb]
  rw [Bool.eq_iff_iff]; simp; omega
theorem tb_2184 (j : Nat) : (2184 : Nat).testBit j = (decide (j = 3) || decide (j = 7) || decide (j = 11)) := by
  have e : (2184 : Nat) = 2 ^ 3 ||| 2 ^ 7 ||| 2 ^ 11 := by decide
  rw [e, Nat.testBit_or, Nat.testBit_or, pow_tb, pow_tb, pow_tb]
  rw [Bool.eq_iff_iff]; simp; omega
theorem only37 {v : Nat} (hv : v < 4294967296) : onlyN v [3, 7] = v &&& 136 := by
  apply word_ext (onlyN_lt _ _) (Nat.lt_of_le_of_lt Nat.and_le_left hv)
  intro j hj
  show (setBit1 (setBit1 0 3 (getBit1 v 3)) 7 (getBit1 v 7)).testBit j = _
  rw [tb_only hv (setBit1_lt _ _ _) (by omega) hj, tb_only hv (by omega) (by omega) hj, Nat.testBit_and, tb_136]
  by_cases h7 : j = 7
  · subst h7; simp
  · by_cases h3 : j = 3
    · subst h3; simp
    · simp [h7, h3]
theorem only3711 {v : Nat} (hv : v < 4294967296) : onlyN v [3, 7, 11] = v &&& 2184 := by
  apply word_ext (onlyN_lt _ _) (Nat.lt_of_le_of_lt Nat.and_le_left hv)
  intro j hj
  show (setBit1 (setBit1 (setBit1 0 3 (getBit1 v 3)) 7 (getBit1 v 7)) 11 (getBit1 v 11)).testBit j = _
  rw [tb_only hv (setBit1_lt _ _ _) (by omega) hj, tb_only hv (setBit1_lt _ _ _) (by omega) hj, tb_only hv (by omega) (by omega) hj, Nat.testBit_and, tb_2184]
  by_cases h11 : j = 11
  · subst h11; simp
  · by_cases h7 : j = 7
    · subst h7; simp
    · by_cases h3 : j = 3
      · subst h3; simp
      · simp [h11, h7, h3]
/-- a cell that stays -/
def OneC (w0 : World) (B k i : Nat) (wa : World) : Prop := wa.cell? ⟨B, k, none⟩ = some (.int .i64 (i : Int)) ∧ B < wa.heap.size ∧ Below w0.heap.size w0 wa
theorem OneC.below {w0 wa wb : World} {B k i : Nat} (h : OneC w0 B k i wa) (hb : Below wa.heap.size wa wb) : OneC w0 B k i wb :=
  ⟨(hb.cell (p := ⟨B, k, none⟩) h.2.1).trans h.1, Nat.lt_of_lt_of_le h.2.1 hb.size, h.2.2.trans (hb.mono h.2.2.size)⟩
theorem OneC.drew {w0 wa : World} {B k i : Nat} (h : OneC w0 B k i wa) (n : Nat) : OneC w0 B k i (wa.drewN n) := ⟨h.1, h.2.1, below_drewN h.2.2 n⟩
theorem OneC.out_ {w0 wa : World} {B k i : Nat} (h : OneC w0 B k i wa) : Below w0.heap.size w0 wa := h.2.2
set_option maxHeartbeats 1000000 in
theorem only_any (v : Nat) (hv : v < 4294967296) (B n : Nat) (l : List Nat) (hn : l.length = n) (hn2 : n ≤ 32) (hl : ∀ i ∈ l, i < 32) (w : World) (hc : ∀ (j : Nat) (i : Nat), l[j]? = some i → w.cell? ⟨B, j, none⟩ = some (.int .i64 (i : Int))) (hB : B < w.heap.size) :
    Calls Tryd.prog 67 #[.int .u32 v, .slice (some ⟨B, 0, none⟩) n n] w fun e w' => e = .returned (.int .u32 (onlyN v l)) ∧ Below w.heap.size w w' := by
  have HC := Lib.hid hc
  have HL := Lib.hid hl
  have HN := Lib.hid hn
  clear hc hl hn
  go_enter Tryd.func67, Tryd.ntmps67
  go_wp2
  go_loopw [5, 6] (fun x i wr => ∃ k y : Nat, k ≤ n ∧ i = .int .i64 k ∧ x = .int .u32 y ∧ y = onlyN v (l.take k) ∧ Below w.heap.size w wr) (fun _ i _ => n - (intOf i).toNat)
  case atStart => exact ⟨0, 0, by omega, rfl, rfl, rfl, Below.refl _ _⟩
  case round =>
    rename_i wr
    obtain ⟨k, y, hk, rfl, rfl, hy, hbel⟩ := hrel
    have hy2 : y < 4294967296 := by rw [hy]; exact onlyN_lt _ _
    have HY := Lib.hid hy
    clear hy
    by_cases hlt : k < n
    · have hkl : k < l.length := by rw [HN.out]; exact hlt
      obtain ⟨i, hi⟩ : ∃ i, l[k] = i := ⟨_, rfl⟩
      have hi32 : i < 32 := HL.out i (by rw [← hi]; exact List.getElem_mem hkl)
      have hcell : wr.cell? ⟨B, k, none⟩ = some (.int .i64 (i : Int)) := (hbel.cell (p := ⟨B, k, none⟩) hB).trans (HC.out k i (by rw [List.getElem?_eq_getElem hkl, hi]))
      have O0 := Lib.hid (show OneC w B k i wr from ⟨hcell, Nat.lt_of_lt_of_le hB hbel.size, hbel⟩)
      have G : Hid (∀ w : World, Calls Tryd.prog 80 #[.int .u32 v, .int .i64 i, .int .i64 1] w fun e w' => e = .returned (.int .u32 (getBit1 v i)) ∧ Below w.heap.size w w') := Lib.hid (fun w => get_ref v hv i w)
      have ST : Hid (∀ w : World, Calls Tryd.prog 79 #[.int .u32 y, .int .i64 i, .int .i64 1, .int .u32 (getBit1 v i)] w fun e w' => e = .returned (.int .u32 (setBit1 y i (getBit1 v i))) ∧ Below w.heap.size w w') := Lib.hid (fun w => set_ref y hy2 i hi32 _ (getBit1_lt _ _) w)
      have HI := Lib.hid hi
      clear hi
      clear hbel
      have O1 := Lib.hid (O0.out.drew 1)
      go_wp2_with fail
      go_region_held3 (fun w' => w'.cell? ⟨B, k, none⟩ = some (.int .i64 (i : Int)) ∧ B < w'.heap.size ∧ Below w.heap.size w w')
        (first | exact O1.out | exact OneC.below (w0 := w) (B := B) (k := k) (i := i) (by assumption) hb)
        (first | (go_at_call 80; refine (G.out _).mono ?_; rintro e w' ⟨rfl, hb⟩) | (go_at_call 79; refine (ST.out _).mono ?_; rintro e w' ⟨rfl, hb⟩))
      all_goals
        go_wp2
        go_roundw
        case rel => exact ⟨k + 1, setBit1 y i (getBit1 v i), by omega, by go_num, rfl, by rw [take_snoc' l k (by rw [HN.out]; exact hlt), onlyN_snoc, HI.out, ← HY.out], OneC.out_ (k := k) (i := i) (B := B) (by assumption)⟩
        case measure => simp [intOf]; omega
    · go_wp2
      go_ret
      exact ⟨ret_int (by rw [HY.out, List.take_of_length_le (by rw [HN.out]; omega)]), hbel⟩

/-- which cell the plain register of a place is -/
def plainI (a : Int) : Option Nat := if a = 832 then some 3 else if a = 834 then some 5 else if a = 835 then some 6 else none
/-- which cell the masked register of a place is, and the bits that it never holds -/
def maskI (a : Int) : Option (Nat × Nat) := if a = 768 then some (0, 4294967159) else if a = 772 then some (1, 4294965111) else if a = 773 then some (2, 2) else if a = 833 then some (4, 3) else none
/-- which half of the count a place is -/
def halfI (a : Int) : Option Nat := if a = 2816 ∨ a = 2818 then some 0 else if a = 2944 ∨ a = 2946 then some 32 else none
def fixI (a : Int) : Bool := decide (3857 ≤ a ∧ a ≤ 3860)
/-- a register's value -/
def creadV (s : St) (a : Int) (ln : Nat) : Option Nat :=
  if a = 832 then some s.scratch else if a = 834 then some s.cause else if a = 835 then some s.value else
  if a = 768 then some (s.status ||| 6144) else if a = 772 then some s.enable else if a = 773 then some s.vector else if a = 833 then some s.epc else
  if a = 2816 ∨ a = 2818 then some (s.count % 4294967296) else if a = 2944 ∨ a = 2946 then some (s.count / 4294967296) else
  if a = 769 then some 1073746176 else if a = 836 then some (ln &&& 2184) else if 3857 ≤ a ∧ a ≤ 3860 then some 0 else none
def readR : Option Nat → Value
  | some v => .tuple #[.int .u32 v, errV 0]
  | none => .tuple #[.int .u32 0, errV 8]
/-- a state with a register written, or the number of the error -/
def writeV (s : St) (a : Int) (v : Nat) : St × Int :=
  if a = 832 then ({ s with scratch := v }, 0) else if a = 834 then ({ s with cause := v }, 0) else if a = 835 then ({ s with value := v }, 0) else
  if a = 768 then ({ s with status := v &&& 136 }, 0) else if a = 772 then ({ s with enable := v &&& 2184 }, 0) else if a = 773 then ({ s with vector := clr v 2 }, 0) else if a = 833 then ({ s with epc := clr v 3 }, 0) else
  if a = 2816 ∨ a = 2818 then ({ s with count := s.count / 4294967296 * 4294967296 + v }, 0) else if a = 2944 ∨ a = 2946 then ({ s with count := v * 4294967296 + s.count % 4294967296 }, 0) else
  if a = 769 ∨ a = 836 then (s, 0) else if 3857 ≤ a ∧ a ≤ 3860 then (St.zero, 33) else (St.zero, 8)
def writeR (r : St × Int) : Value := .tuple #[r.1.v, errV r.2]
/-- whether a state may be -/
def mayB (s : St) : Bool := decide (clr s.status 136 = 0) && decide (clr s.enable 2184 = 0) && decide (s.vector &&& 2 = 0) && decide (s.epc &&& 3 = 0)

def ptrV (B : Nat) : Option Nat → Value
  | some i => .pointer (some ⟨B, i, none⟩)
  | none => .pointer none
theorem plain_any (B : Nat) (a : Int) (w : World) :
    Calls Tryd.prog 84 #[.pointer (some ⟨B, 0, none⟩), .int .i64 a] w fun e w' => e = .returned (ptrV B (plainI a)) ∧ w = w' := by
  unfold plainI
  by_cases h1 : a = 832
  · subst h1
    go_enter Tryd.func84, Tryd.ntmps84
    go_wp2
    go_ret
    exact ⟨rfl, rfl⟩
  by_cases h2 : a = 834
  · subst h2
    go_enter Tryd.func84, Tryd.ntmps84
    go_wp2
    go_ret
    exact ⟨rfl, rfl⟩
  by_cases h3 : a = 835
  · subst h3
    go_enter Tryd.func84, Tryd.ntmps84
    go_wp2
    go_ret
    exact ⟨rfl, rfl⟩
  rw [if_neg h1, if_neg h2, if_neg h3]
  have n1 : (a == 832) = false := by simp [h1]
  have n2 : (a == 834) = false := by simp [h2]
  have n3 : (a == 835) = false := by simp [h3]
  clear h1 h2 h3
  go_enter Tryd.func84, Tryd.ntmps84
  go_wp2
  go_ret
  exact ⟨rfl, rfl⟩
def maskV (B : Nat) : Option (Nat × Nat) → Value
  | some x => .tuple #[.pointer (some ⟨B, x.1, none⟩), .int .u32 x.2]
  | none => .tuple #[.pointer none, .int .u32 0]
theorem masked_any (B : Nat) (a : Int) (w : World) :
    Calls Tryd.prog 85 #[.pointer (some ⟨B, 0, none⟩), .int .i64 a] w fun e w' => e = .returned (maskV B (maskI a)) ∧ w = w' := by
  unfold maskI
  by_cases h1 : a = 768
  · subst h1
    go_enter Tryd.func85, Tryd.ntmps85
    go_wp2
    go_ret2
    exact ⟨rfl, rfl⟩
  by_cases h2 : a = 772
  · subst h2
    go_enter Tryd.func85, Tryd.ntmps85
    go_wp2
    go_ret2
    exact ⟨rfl, rfl⟩
  by_cases h3 : a = 773
  · subst h3
    go_enter Tryd.func85, Tryd.ntmps85
    go_wp2
    go_ret2
    exact ⟨rfl, rfl⟩
  by_cases h4 : a = 833
  · subst h4
    go_enter Tryd.func85, Tryd.ntmps85
    go_wp2
    go_ret2
    exact ⟨rfl, rfl⟩
  rw [if_neg h1, if_neg h2, if_neg h3, if_neg h4]
  have n1 : (a == 768) = false := by simp [h1]
  have n2 : (a == 772) = false := by simp [h2]
  have n3 : (a == 773) = false := by simp [h3]
  have n4 : (a == 833) = false := by simp [h4]
  clear h1 h2 h3 h4
  go_enter Tryd.func85, Tryd.ntmps85
  go_wp2
  go_ret2
  exact ⟨rfl, rfl⟩
def halfV : Option Nat → Value
  | some x => .tuple #[.int .i64 x, .bool true]
  | none => .tuple #[.int .i64 0, .bool false]
theorem half_any (a : Int) (w : World) :
    Calls Tryd.prog 86 #[.int .i64 a] w fun e w' => e = .returned (halfV (halfI a)) ∧ w = w' := by
  unfold halfI
  by_cases h1 : a = 2816 ∨ a = 2818
  · rw [if_pos h1]
    rcases h1 with rfl | rfl
    all_goals
      go_enter Tryd.func86, Tryd.ntmps86
      go_wp2
      go_ret2
      exact ⟨rfl, rfl⟩
  by_cases h2 : a = 2944 ∨ a = 2946
  · rw [if_neg h1, if_pos h2]
    rcases h2 with rfl | rfl
    all_goals
      go_enter Tryd.func86, Tryd.ntmps86
      go_wp2
      go_ret2
      exact ⟨rfl, rfl⟩
  rw [if_neg h1, if_neg h2]
  have n1 : (a == 2816) = false := by rw [Bool.eq_false_iff]; simp; omega
  have n2 : (a == 2818) = false := by rw [Bool.eq_false_iff]; simp; omega
  have n3 : (a == 2944) = false := by rw [Bool.eq_false_iff]; simp; omega
  have n4 : (a == 2946) = false := by rw [Bool.eq_false_iff]; simp; omega
  clear h1 h2
  go_enter Tryd.func86, Tryd.ntmps86
  go_wp2
  go_ret2
  exact ⟨rfl, rfl⟩
theorem fixed_any (a : Int) (w : World) :
    Calls Tryd.prog 87 #[.int .i64 a] w fun e w' => e = .returned (.bool (fixI a)) ∧ w = w' := by
  by_cases h1 : 3857 ≤ a
  · by_cases h2 : a ≤ 3860
    · have e : fixI a = true := decide_eq_true ⟨h1, h2⟩
      rw [e]; clear e
      go_enter Tryd.func87, Tryd.ntmps87
      go_wp2
      go_ret
      exact ⟨rfl, rfl⟩
    · have e : fixI a = false := decide_eq_false (fun h => h2 h.2)
      rw [e]; clear e
      go_enter Tryd.func87, Tryd.ntmps87
      go_wp2
      go_ret
      exact ⟨rfl, rfl⟩
  · have e : fixI a = false := decide_eq_false (fun h => h1 h.1)
    rw [e]; clear e
    go_enter Tryd.func87, Tryd.ntmps87
    go_wp2
    go_ret
    exact ⟨rfl, rfl⟩

/-- the interrupt that is taken next -/
def askBit (s : St) (lines i : Nat) : Bool := lines.testBit i && s.enable.testBit i
def asksS (s : St) (lines : Nat) : Nat := if s.status.testBit 3 = true then (if askBit s lines 11 = true then 2147483659 else if askBit s lines 3 = true then 2147483651 else if askBit s lines 7 = true then 2147483655 else 0) else 0
theorem ask_bit {en ln : Nat} (i : Nat) (h1 : ln < 4294967296) (h2 : en < 4294967296) : Go.bits .and .u32 (((ln &&& en : Nat) : Int) / 2 ^ i) 1 = if (ln.testBit i && en.testBit i) = true then 1 else 0 := by
  have e : (((ln &&& en : Nat) : Int) / 2 ^ i) = (((ln &&& en) / 2 ^ i : Nat) : Int) := by simp
  have hlt : (ln &&& en) / 2 ^ i < 4294967296 := Nat.lt_of_le_of_lt (Nat.div_le_self _ _) (Nat.lt_of_le_of_lt Nat.and_le_left h1)
  rw [e, show (1 : Int) = ((1 : Nat) : Int) from rfl, Go.u32_and_nat _ _ hlt (by decide), Go.nat_mask1, ← Nat.testBit_and, Nat.testBit_eq_decide_div_mod_eq]
  rcases Nat.mod_two_eq_zero_or_one ((ln &&& en) / 2 ^ i) with h | h <;> simp [h]
set_option maxHeartbeats 4000000 in
theorem asks_any (s : St) (hs : s.ok) (ln : Nat) (hl : ln < 4294967296) (w : World) :
    Calls Tryd.prog 31 #[s.v, .int .u32 ln] w fun e w' => e = .returned (.int .u32 (asksS s ln)) ∧ Below w.heap.size w w' := by
  obtain ⟨st, en, ve, sc, ep, ca, va, co⟩ := s
  obtain ⟨g1, g2, g3, g4, g5, g6, g7, g8⟩ := hs
  simp only at g1 g2 g3 g4 g5 g6 g7 g8
  have e1 : Go.bits .and .u32 (st : Int) 8 = if st.testBit 3 = true then 8 else 0 := u32c_bit 3 g1 (by omega)
  have e2 := Go.u32_and_nat ln en hl g2
  have b11 : Go.bits .and .u32 (((ln &&& en : Nat) : Int) / 2048) 1 = if askBit ⟨st, en, ve, sc, ep, ca, va, co⟩ ln 11 = true then 1 else 0 := ask_bit 11 hl g2
  have b3 : Go.bits .and .u32 (((ln &&& en : Nat) : Int) / 8) 1 = if askBit ⟨st, en, ve, sc, ep, ca, va, co⟩ ln 3 = true then 1 else 0 := ask_bit 3 hl g2
  have b7 : Go.bits .and .u32 (((ln &&& en : Nat) : Int) / 128) 1 = if askBit ⟨st, en, ve, sc, ep, ca, va, co⟩ ln 7 = true then 1 else 0 := ask_bit 7 hl g2
  have i0 : ∀ w : World, (Instr.index 106 (.agg #[.int .u32 11, .int .u32 3, .int .u32 7]) (.int .i64 0)).run Tryd.prog w = .ok (.int .u32 11) w := fun _ => by kernel_rfl
  have i1 : ∀ w : World, (Instr.index 106 (.agg #[.int .u32 11, .int .u32 3, .int .u32 7]) (.int .i64 1)).run Tryd.prog w = .ok (.int .u32 3) w := fun _ => by kernel_rfl
  have i2 : ∀ w : World, (Instr.index 106 (.agg #[.int .u32 11, .int .u32 3, .int .u32 7]) (.int .i64 2)).run Tryd.prog w = .ok (.int .u32 7) w := fun _ => by kernel_rfl
  unfold asksS
  generalize askBit ⟨st, en, ve, sc, ep, ca, va, co⟩ ln 11 = x11 at *
  generalize askBit ⟨st, en, ve, sc, ep, ca, va, co⟩ ln 3 = x3 at *
  generalize askBit ⟨st, en, ve, sc, ep, ca, va, co⟩ ln 7 = x7 at *
  unfold St.v St.cells
  simp only
  have o11 : Go.bits .or .u32 2147483648 11 = 2147483659 := by decide +kernel
  have o3 : Go.bits .or .u32 2147483648 3 = 2147483651 := by decide +kernel
  have o7 : Go.bits .or .u32 2147483648 7 = 2147483655 := by decide +kernel
  cases c : st.testBit 3 <;> cases x11 <;> cases x3 <;> cases x7
  all_goals
    simp only [c, if_true, if_false, Bool.false_eq_true] at e1 b11 b3 b7 ⊢
    clear c
    go_enter Tryd.func31, Tryd.ntmps31
    go_wp2
    try (refine wp_loop_rounds 4 ?_; rw [rounds_succ]; go_wp2; try (rw [rounds_succ]; go_wp2); try (rw [rounds_succ]; go_wp2); try (rw [rounds_succ]; go_wp2))
    go_ret
    exact ⟨rfl, (Below.refl _ _).alloc (Nat.le_refl _) _⟩
/-- the status behind a return -/
def retStatus (v : Nat) : Nat := (if v.testBit 7 = true then clr v 8 ||| 8 else clr v 8) ||| 128
def retS (s : St) : St := { s with status := retStatus s.status }
theorem retStatus_lt {v : Nat} (hv : v < 4294967296) : retStatus v < 4294967296 := by
  unfold retStatus
  refine Nat.or_lt_two_pow (n := 32) ?_ (by decide)
  split
  · exact Nat.or_lt_two_pow (n := 32) (clr_lt hv) (by decide)
  · exact clr_lt hv
theorem retS_ok {s : St} (h : s.ok) : (retS s).ok := { h with status := retStatus_lt h.status }
theorem retStatus_ref {v : Nat} (hv : v < 4294967296) : setBit1 (setBit1 v 3 (getBit1 v 7)) 7 1 = retStatus v := by
  apply word_ext (setBit1_lt _ _ _) (retStatus_lt hv)
  intro j hj
  have h128 : (128 : Nat).testBit j = decide (7 = j) := pow_tb 7 j
  have h8 : (8 : Nat).testBit j = decide (3 = j) := pow_tb 3 j
  rw [tb_setBit1 (setBit1_lt _ _ _) _ _ hj, tb_setBit1 hv _ _ hj, getBit1_eq hv (by omega)]
  unfold retStatus
  by_cases h : v.testBit 7 = true
  · rw [if_pos h, Nat.testBit_or, Nat.testBit_or, tb_clr (by omega) hj, h128, h8]
    by_cases j7 : j = 7
    · subst j7; simp
    · by_cases j3 : j = 3
      · subst j3; simp [h]
      · simp [j3, j7, Ne.symm j3, Ne.symm j7]
  · rw [if_neg h, Nat.testBit_or, tb_clr (by omega) hj, h128, h8]
    by_cases j7 : j = 7
    · subst j7; simp
    · by_cases j3 : j = 3
      · subst j3; simp [h]
      · simp [j3, j7, Ne.symm j3, Ne.symm j7]
set_option maxHeartbeats 2000000 in
theorem return_any (s : St) (hs : s.ok) (w : World) :
    Calls Tryd.prog 76 #[s.v] w fun e w' => e = .returned (.tuple #[(retS s).v, .int .u32 s.epc]) ∧ Below w.heap.size w w' := by
  obtain ⟨st, en, ve, sc, ep, ca, va, co⟩ := s
  obtain ⟨g1, g2, g3, g4, g5, g6, g7, g8⟩ := hs
  simp only at g1 g2 g3 g4 g5 g6 g7 g8
  have e2 : Go.bits .andNot .u32 (st : Int) 8 = (clr st 8 : Nat) := u32c_andNot 8 g1 (by omega)
  have e3 : Go.bits .and .u32 ((clr st 8 : Nat) : Int) 128 = if (clr st 8).testBit 7 = true then 128 else 0 := u32c_bit (v := clr st 8) 7 (clr_lt g1) (by omega)
  have e4 : Go.bits .or .u32 ((clr st 8 : Nat) : Int) 8 = (clr st 8 ||| 8 : Nat) := Go.u32_or_nat (clr st 8) 8 (clr_lt g1) (by omega)
  have e5 : Go.bits .or .u32 ((clr st 8 : Nat) : Int) 128 = (clr st 8 ||| 128 : Nat) := Go.u32_or_nat (clr st 8) 128 (clr_lt g1) (by omega)
  have e6 : Go.bits .or .u32 ((clr st 8 ||| 8 : Nat) : Int) 128 = (clr st 8 ||| 8 ||| 128 : Nat) := Go.u32_or_nat (clr st 8 ||| 8) 128 (Nat.or_lt_two_pow (n := 32) (clr_lt g1) (by decide)) (by omega)
  have b7 : (clr st 8).testBit 7 = st.testBit 7 := by rw [tb_clr (by omega) (by omega), show Nat.testBit 8 7 = false from by decide]; simp
  rw [b7] at e3
  unfold retS retStatus St.v St.cells
  simp only
  by_cases c1 : st.testBit 7 = true
  all_goals
    simp only [c1, if_true, if_false, Bool.false_eq_true] at e3 ⊢
    clear c1 b7
    go_enter Tryd.func76, Tryd.ntmps76
    go_wp2
    go_region
    all_goals
      go_wp2
      refine bodyPost_ret (v := ?_) ?_ rfl ⟨?_, ?_⟩
      rotate_left
      · simp [results, Tryd.results76, go_sem]; exact rfl
      · rfl
      · exact below_drewN (((Below.refl _ _).alloc (Nat.le_refl _) _).alloc (by simp) _) 1
theorem tb_trapStatus {v : Nat} (hv : v < 4294967296) {j : Nat} (hj : j < 32) : (trapStatus v).testBit j = if j = 3 then false else if j = 7 then v.testBit 3 else v.testBit j := by
  rw [← trapStatus_ref hv, tb_setBit1 (setBit1_lt _ _ _) _ _ hj, tb_setBit1 hv _ _ hj, getBit1_eq hv (by omega)]
  by_cases h3 : j = 3
  · rw [if_pos h3, if_pos h3]; rfl
  · rw [if_neg h3, if_neg h3]
    split
    · cases v.testBit 3 <;> simp
    · rfl
theorem tb_retStatus {v : Nat} (hv : v < 4294967296) {j : Nat} (hj : j < 32) : (retStatus v).testBit j = if j = 7 then true else if j = 3 then v.testBit 7 else v.testBit j := by
  rw [← retStatus_ref hv, tb_setBit1 (setBit1_lt _ _ _) _ _ hj, tb_setBit1 hv _ _ hj, getBit1_eq hv (by omega)]
  by_cases h7 : j = 7
  · rw [if_pos h7, if_pos h7]; rfl
  · rw [if_neg h7, if_neg h7]
    split
    · cases v.testBit 7 <;> simp
    · rfl
theorem clr_zero {v m : Nat} (hv : v < 4294967296) (hm : m < 4294967296) : clr v m = 0 ↔ ∀ j, j < 32 → v.testBit j = true → m.testBit j = true := by
  constructor
  · intro h j hj ht
    have e : (clr v m).testBit j = false := by rw [h]; simp
    rw [tb_clr hm hj, ht] at e
    simpa using e
  · intro h
    apply word_ext (clr_lt hv) (by omega)
    intro j hj
    rw [tb_clr hm hj]
    cases ht : v.testBit j with
    | false => simp
    | true => rw [h j hj ht]; simp
theorem mayB_iff (s : St) : mayB s = true ↔ clr s.status 136 = 0 ∧ clr s.enable 2184 = 0 ∧ s.vector &&& 2 = 0 ∧ s.epc &&& 3 = 0 := by
  simp [mayB, and_assoc]
theorem clr_and {v m : Nat} (hv : v < 4294967296) (hm : m < 4294967296) : clr v m &&& m = 0 := by
  apply word_ext (Nat.lt_of_le_of_lt Nat.and_le_left (clr_lt hv)) (by omega)
  intro j hj
  rw [Nat.testBit_and, tb_clr hm hj]
  cases m.testBit j <;> simp
theorem and_clr {v m : Nat} (hv : v < 4294967296) (hm : m < 4294967296) : clr (v &&& m) m = 0 := by
  rw [clr_zero (Nat.lt_of_le_of_lt Nat.and_le_left hv) hm]
  intro j hj h
  rw [Nat.testBit_and] at h
  simp at h
  exact h.2
theorem mayB_trap {s : St} (hs : s.ok) (h : mayB s = true) {c v p : Nat} (hp : p < 4294967296) : mayB (trapS s c v p) = true := by
  rw [mayB_iff] at h ⊢
  obtain ⟨a1, a2, a3, a4⟩ := h
  refine ⟨?_, a2, a3, clr_and hp (by omega)⟩
  rw [clr_zero hs.status (by omega)] at a1
  show clr (trapStatus s.status) 136 = 0
  rw [clr_zero (trapStatus_lt hs.status) (by omega)]
  intro j hj ht
  rw [tb_trapStatus hs.status hj] at ht
  by_cases h3 : j = 3
  · simp [h3] at ht
  · rw [if_neg h3] at ht
    by_cases h7 : j = 7
    · subst h7; decide
    · rw [if_neg h7] at ht; exact a1 j hj ht
theorem mayB_ret {s : St} (hs : s.ok) (h : mayB s = true) : mayB (retS s) = true := by
  rw [mayB_iff] at h ⊢
  obtain ⟨a1, a2, a3, a4⟩ := h
  refine ⟨?_, a2, a3, a4⟩
  rw [clr_zero hs.status (by omega)] at a1
  show clr (retStatus s.status) 136 = 0
  rw [clr_zero (retStatus_lt hs.status) (by omega)]
  intro j hj ht
  rw [tb_retStatus hs.status hj] at ht
  by_cases h7 : j = 7
  · subst h7; decide
  · rw [if_neg h7] at ht
    by_cases h3 : j = 3
    · subst h3; decide
    · rw [if_neg h3] at ht; exact a1 j hj ht
theorem asks_trap {s : St} (hs : s.ok) (c v p ln : Nat) : asksS (trapS s c v p) ln = 0 := by
  have e : (trapS s c v p).status.testBit 3 = false := by
    show (trapStatus s.status).testBit 3 = false
    rw [tb_trapStatus hs.status (by omega)]; rfl
  unfold asksS
  rw [e]; rfl
theorem asks_back {s : St} (hs : s.ok) (c v p ln : Nat) : asksS (retS (trapS s c v p)) ln = asksS s ln := by
  have e : (retS (trapS s c v p)).status.testBit 3 = s.status.testBit 3 := by
    show (retStatus (trapStatus s.status)).testBit 3 = _
    rw [tb_retStatus (trapStatus_lt hs.status) (by omega), if_neg (by omega), if_pos rfl, tb_trapStatus hs.status (by omega)]; rfl
  unfold asksS
  rw [e]; rfl
theorem writeV_may {s : St} (h : mayB s = true) (a : Int) {v : Nat} (hv : v < 4294967296) (h0 : (writeV s a v).2 = 0) : mayB (writeV s a v).1 = true := by
  rw [mayB_iff] at h
  obtain ⟨a1, a2, a3, a4⟩ := h
  unfold writeV at h0 ⊢
  repeat' split
  all_goals first
    | (exfalso; simp_all; done)
    | (rw [mayB_iff]; exact ⟨a1, a2, a3, a4⟩)
    | (rw [mayB_iff]; exact ⟨and_clr hv (by omega), a2, a3, a4⟩)
    | (rw [mayB_iff]; exact ⟨a1, and_clr hv (by omega), a3, a4⟩)
    | (rw [mayB_iff]; exact ⟨a1, a2, clr_and hv (by omega), a4⟩)
    | (rw [mayB_iff]; exact ⟨a1, a2, a3, clr_and hv (by omega)⟩)
    | (rw [mayB_iff]; exact ⟨by decide, by decide, by decide, by decide⟩)
theorem and_lt32 {v m : Nat} (hv : v < 4294967296) : v &&& m < 4294967296 := Nat.lt_of_le_of_lt Nat.and_le_left hv
theorem zero_ok : St.zero.ok := ⟨by decide, by decide, by decide, by decide, by decide, by decide, by decide, by decide⟩
theorem writeV_ok {s : St} (hs : s.ok) (a : Int) {v : Nat} (hv : v < 4294967296) : (writeV s a v).1.ok := by
  obtain ⟨st, en, ve, sc, ep, ca, va, co⟩ := s
  obtain ⟨a1, a2, a3, a4, a5, a6, a7, a8⟩ := hs
  simp only at a1 a2 a3 a4 a5 a6 a7 a8
  have c1 : co / 4294967296 * 4294967296 + v < 18446744073709551616 := by clear a1 a2 a3 a4 a5 a6 a7; omega
  have c2 : v * 4294967296 + co % 4294967296 < 18446744073709551616 := by
    clear a1 a2 a3 a4 a5 a6 a7
    obtain ⟨x, hx⟩ : ∃ x, x = v * 4294967296 := ⟨_, rfl⟩
    rw [← hx]
    have h1 : x ≤ 18446744069414584320 := by rw [hx]; exact Nat.mul_le_mul_right 4294967296 (show v ≤ 4294967295 by omega)
    have h2 : co % 4294967296 < 4294967296 := Nat.mod_lt _ (by decide)
    clear hx
    omega
  unfold writeV
  by_cases h0 : a = 832
  · rw [if_pos h0]; exact ⟨a1, a2, a3, hv, a5, a6, a7, a8⟩
  rw [if_neg h0]
  by_cases h1 : a = 834
  · rw [if_pos h1]; exact ⟨a1, a2, a3, a4, a5, hv, a7, a8⟩
  rw [if_neg h1]
  by_cases h2 : a = 835
  · rw [if_pos h2]; exact ⟨a1, a2, a3, a4, a5, a6, hv, a8⟩
  rw [if_neg h2]
  by_cases h3 : a = 768
  · rw [if_pos h3]; exact ⟨and_lt32 hv, a2, a3, a4, a5, a6, a7, a8⟩
  rw [if_neg h3]
  by_cases h4 : a = 772
  · rw [if_pos h4]; exact ⟨a1, and_lt32 hv, a3, a4, a5, a6, a7, a8⟩
  rw [if_neg h4]
  by_cases h5 : a = 773
  · rw [if_pos h5]; exact ⟨a1, a2, clr_lt hv, a4, a5, a6, a7, a8⟩
  rw [if_neg h5]
  by_cases h6 : a = 833
  · rw [if_pos h6]; exact ⟨a1, a2, a3, a4, clr_lt hv, a6, a7, a8⟩
  rw [if_neg h6]
  by_cases h7 : a = 2816 ∨ a = 2818
  · rw [if_pos h7]; exact ⟨a1, a2, a3, a4, a5, a6, a7, c1⟩
  rw [if_neg h7]
  by_cases h8 : a = 2944 ∨ a = 2946
  · rw [if_pos h8]; exact ⟨a1, a2, a3, a4, a5, a6, a7, c2⟩
  rw [if_neg h8]
  by_cases h9 : a = 769 ∨ a = 836
  · rw [if_pos h9]; exact ⟨a1, a2, a3, a4, a5, a6, a7, a8⟩
  rw [if_neg h9]
  by_cases h10 : 3857 ≤ a ∧ a ≤ 3860
  · rw [if_pos h10]; exact zero_ok
  rw [if_neg h10]
  exact zero_ok

end Go.Proofs.YtphlgaklfibciaaDoor
