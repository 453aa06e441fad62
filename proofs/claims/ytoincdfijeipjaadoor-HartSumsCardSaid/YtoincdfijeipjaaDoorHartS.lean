import Derived.Test.YtoincdfijeipjaaDoorHartO
import Derived.Below
import Derived.Deep.Draws
import Derived.Deep.AppendLies
import Derived.Maps.AppendAt
import Derived.OwnWalk
import Derived.Laws.BytesArg
import Derived.Laws.MakeOwn
import Derived.Laws.OwnMore
import Derived.Deep.OwnRows
import Derived.Tactics
import Derived.Lib.ConvBytes
import Derived.Laws.Slices
import Derived.WalkKit
import Derived.KernelRfl
import Derived.RowKit3
import Derived.Deep.LoopGhost
import Derived.Deep.QuietTactic
import Derived.BigQuiet
import Derived.WideLaws
import Derived.Deep.DeepCutAuto
import Derived.Deep.CutBlock
import Derived.Deep.RegionHeld3
import Derived.Laws.Rows
import Derived.Lib.AppendStr
import Derived.ArgAppend
import Derived.Laws.IdiomCopy
import Derived.OrdersHeld
import Derived.Laws.BitsLemmas
import Derived.RowKit
import Derived.Lib.Hide
import Derived.Laws.BitsAllLaws
import Derived.WalkLawsBesides
import Derived.WalkSpells
import Derived.LaidEql
namespace Go.Proofs.YtoincdfijeipjaaDoor
open Go.RowKit
set_option maxRecDepth 100000
set_option linter.unusedVariables false
set_option linter.unusedSimpArgs false

/-- the five words of the program -/
theorem sum_de0 : Hid (∀ w : World, TabW w → Calls Tryd.prog 11 #[.int .u32 ((165987 : Nat) : Int)] w fun e w' => e = .returned (.tuple #[.agg #[.int .i64 ((4 : Nat) : Int), .int .i64 ((0 : Nat) : Int), .int .i64 ((5 : Nat) : Int), .int .i64 ((0 : Nat) : Int), .int .i64 16, .int .i64 0], .nilIface]) ∧ Below w.heap.size w w') :=
  de_of 165987 (by decide) 4 (by decide) (by unfold Fit; decide +kernel) (by decide +kernel) (by decide +kernel) (by decide +kernel) (by decide +kernel) (by decide +kernel)
theorem sum_de1 : Hid (∀ w : World, TabW w → Calls Tryd.prog 11 #[.int .u32 ((5440307 : Nat) : Int)] w fun e w' => e = .returned (.tuple #[.agg #[.int .i64 ((27 + 0 : Nat) : Int), .int .i64 ((6 : Nat) : Int), .int .i64 ((6 : Nat) : Int), .int .i64 ((5 : Nat) : Int), .int .i64 0, .int .i64 0], .nilIface]) ∧ Below w.heap.size w w') :=
  de_of 5440307 (by decide) 27 (by decide) (by unfold Fit; decide +kernel) (by decide +kernel) (by decide +kernel) (by decide +kernel) (by decide +kernel) (by decide +kernel)
theorem sum_de2 : Hid (∀ w : World, TabW w → Calls Tryd.prog 11 #[.int .u32 ((4294083219 : Nat) : Int)] w fun e w' => e = .returned (.tuple #[.agg #[.int .i64 ((18 : Nat) : Int), .int .i64 ((5 : Nat) : Int), .int .i64 ((5 : Nat) : Int), .int .i64 ((0 : Nat) : Int), .int .i64 (-1), .int .i64 0], .nilIface]) ∧ Below w.heap.size w w') :=
  de_of 4294083219 (by decide) 18 (by decide) (by unfold Fit; decide +kernel) (by decide +kernel) (by decide +kernel) (by decide +kernel) (by decide +kernel) (by decide +kernel)
theorem sum_de3 : Hid (∀ w : World, TabW w → Calls Tryd.prog 11 #[.int .u32 ((4284477551 : Nat) : Int)] w fun e w' => e = .returned (.tuple #[.agg #[.int .i64 ((2 : Nat) : Int), .int .i64 ((0 : Nat) : Int), .int .i64 ((0 : Nat) : Int), .int .i64 ((0 : Nat) : Int), .int .i64 (-12), .int .i64 0], .nilIface]) ∧ Below w.heap.size w w') :=
  de_of 4284477551 (by decide) 2 (by decide) (by unfold Fit; decide +kernel) (by decide +kernel) (by decide +kernel) (by decide +kernel) (by decide +kernel) (by decide +kernel)
theorem sum_de4 : Hid (∀ w : World, TabW w → Calls Tryd.prog 11 #[.int .u32 ((273678451 : Nat) : Int)] w fun e w' => e = .returned (.tuple #[.agg #[.int .i64 ((50 : Nat) : Int), .int .i64 ((0 : Nat) : Int), .int .i64 ((0 : Nat) : Int), .int .i64 ((0 : Nat) : Int), .int .i64 0, .int .i64 0], .nilIface]) ∧ Below w.heap.size w w') :=
  de_of 273678451 (by decide) 50 (by decide) (by unfold Fit; decide +kernel) (by decide +kernel) (by decide +kernel) (by decide +kernel) (by decide +kernel) (by decide +kernel)
/-- the five words, by their place -/
def prog5 : List Nat := [165987, 5440307, 4294083219, 4284477551, 273678451]

theorem toH_al {h : HS} {a : Nat} (ha : a % 4 = 0) : (toH h a).pc = a ∧ (toH h a).x = h.x ∧ (toH h a).wait = h.wait := by
  unfold toH; rw [if_pos ha]; exact ⟨rfl, rfl, rfl⟩
/-- hart.Do at beq -/
theorem do_beq_yes (h : HS) (hk : h.ok) (x ln n : Nat) {rd r1 r2 : Nat} {imm : Int} (hn : IntKind.u32.wrap imm = (n : Int)) (hnl : n < 4294967296) (hrd : rd < 32) (hr1 : r1 < 32) (hr2 : r2 < 32) (hr : h.x r1 = h.x r2)
    (DE : Hid (∀ w : World, TabW w → Calls Tryd.prog 11 #[.int .u32 x] w fun e w' => e = .returned (.tuple #[.agg #[.int .i64 ((4 : Nat) : Int), .int .i64 rd, .int .i64 r1, .int .i64 r2, .int .i64 imm, .int .i64 0], .nilIface]) ∧ Below w.heap.size w w')) (w : World) (hT : TabW w) :
    Calls Tryd.prog 26 #[.agg h.cells.toArray, .int .u32 x, .int .u32 ln] w fun e w' => e = .returned (.tuple #[.agg (toH h ((h.pc + n) % 4294967296)).cells.toArray, .agg acc0]) ∧ Below w.heap.size w w' := by
  have HO : Hid (∀ w : World, Calls Tryd.prog 94 #[.int .i64 ((0 : Nat) : Int), .int .u32 (h.x r1 : Nat), .int .u32 (h.x r2 : Nat)] w fun e w' => e = .returned (.tuple #[.bool true, .nilIface]) ∧ w = w') := Lib.hid fun w => by
    have q := pholds_0 (h.x r1) (h.x r2) w
    rw [show holdsB 0 (h.x r1) (h.x r2) = true by simp [holdsB, hr]] at q
    exact q
  exact do_gone h hk x ln DE (branchH h true n) (a0 := 0) (a1 := 0) (a2 := 0) (a3 := false) (a4 := 0) (a5 := 0) (Lib.hid fun b w H D => one_br h hk b n 0 true (by decide) hn hnl HO rfl hrd hr1 hr2 w H D) w hT
theorem do_beq_no (h : HS) (hk : h.ok) (x ln n : Nat) {rd r1 r2 : Nat} {imm : Int} (hn : IntKind.u32.wrap imm = (n : Int)) (hnl : n < 4294967296) (hrd : rd < 32) (hr1 : r1 < 32) (hr2 : r2 < 32) (hr : h.x r1 ≠ h.x r2)
    (DE : Hid (∀ w : World, TabW w → Calls Tryd.prog 11 #[.int .u32 x] w fun e w' => e = .returned (.tuple #[.agg #[.int .i64 ((4 : Nat) : Int), .int .i64 rd, .int .i64 r1, .int .i64 r2, .int .i64 imm, .int .i64 0], .nilIface]) ∧ Below w.heap.size w w')) (w : World) (hT : TabW w) :
    Calls Tryd.prog 26 #[.agg h.cells.toArray, .int .u32 x, .int .u32 ln] w fun e w' => e = .returned (.tuple #[.agg (toH h ((h.pc + 4) % 4294967296)).cells.toArray, .agg acc0]) ∧ Below w.heap.size w w' := by
  have HO : Hid (∀ w : World, Calls Tryd.prog 94 #[.int .i64 ((0 : Nat) : Int), .int .u32 (h.x r1 : Nat), .int .u32 (h.x r2 : Nat)] w fun e w' => e = .returned (.tuple #[.bool false, .nilIface]) ∧ w = w') := Lib.hid fun w => by
    have q := pholds_0 (h.x r1) (h.x r2) w
    rw [show holdsB 0 (h.x r1) (h.x r2) = false by simp [holdsB, hr]] at q
    exact q
  exact do_on h hk x ln DE h hk (a0 := 0) (a1 := 0) (a2 := 0) (a3 := false) (a4 := 0) (a5 := 0) (Lib.hid fun b w H D => one_br h hk b n 0 false (by decide) hn hnl HO rfl hrd hr1 hr2 w H D) w hT
theorem do_jal (h : HS) (hk : h.ok) (x ln n : Nat) {rd : Nat} {imm : Int} (hn : IntKind.u32.wrap imm = (n : Int)) (hnl : n < 4294967296) (hrd : rd < 32)
    (DE : Hid (∀ w : World, TabW w → Calls Tryd.prog 11 #[.int .u32 x] w fun e w' => e = .returned (.tuple #[.agg #[.int .i64 ((2 : Nat) : Int), .int .i64 rd, .int .i64 ((0 : Nat) : Int), .int .i64 ((0 : Nat) : Int), .int .i64 imm, .int .i64 0], .nilIface]) ∧ Below w.heap.size w w')) (w : World) (hT : TabW w) :
    Calls Tryd.prog 26 #[.agg h.cells.toArray, .int .u32 x, .int .u32 ln] w fun e w' => e = .returned (.tuple #[.agg (jumpH h rd ((h.pc + n) % 4294967296)).cells.toArray, .agg acc0]) ∧ Below w.heap.size w w' :=
  do_gone h hk x ln DE (jumpH h rd ((h.pc + n) % 4294967296)) (a0 := 0) (a1 := 0) (a2 := 0) (a3 := false) (a4 := 0) (a5 := 0) (Lib.hid fun b w H D => one_jal h hk b n hn hnl hrd (by decide) (by decide) w H D) w hT
theorem do_wfi (h : HS) (hk : h.ok) (x ln : Nat)
    (DE : Hid (∀ w : World, TabW w → Calls Tryd.prog 11 #[.int .u32 x] w fun e w' => e = .returned (.tuple #[.agg #[.int .i64 ((50 : Nat) : Int), .int .i64 ((0 : Nat) : Int), .int .i64 ((0 : Nat) : Int), .int .i64 ((0 : Nat) : Int), .int .i64 0, .int .i64 0], .nilIface]) ∧ Below w.heap.size w w')) (w : World) (hT : TabW w) :
    Calls Tryd.prog 26 #[.agg h.cells.toArray, .int .u32 x, .int .u32 ln] w fun e w' => e = .returned (.tuple #[.agg (toH ({ h with wait := true } : HS) ((h.pc + 4) % 4294967296)).cells.toArray, .agg acc0]) ∧ Below w.heap.size w w' :=
  do_on h hk x ln DE ({ h with wait := true } : HS) ⟨hk.pc, hk.x, hk.c⟩ (a0 := 0) (a1 := 0) (a2 := 0) (a3 := false) (a4 := 0) (a5 := 0) (Lib.hid fun b w H D => one_wfi h hk b (by decide) (by decide) (by decide) w H D) w hT
/-- the sum's hart: its place, what is left, the round -/
structure SumJ (k at_ m i : Nat) (h : HS) : Prop where
  ok : h.ok
  pc : h.pc = 256 + 4 * at_
  x0 : h.x 0 = 0
  x5 : h.x 5 = m
  mle : m ≤ k
  k60 : k < 60
  wait : h.wait = decide (at_ = 5)
  inv : (at_ = 0 ∧ i + 4 * m = 4 * k ∧ 2 * h.x 6 + m * (m + 1) = k * (k + 1)) ∨ (at_ = 1 ∧ 1 ≤ m ∧ i + 4 * m = 4 * k + 1 ∧ 2 * h.x 6 + m * (m + 1) = k * (k + 1)) ∨ (at_ = 2 ∧ 1 ≤ m ∧ i + 4 * m = 4 * k + 2 ∧ 2 * h.x 6 + m * (m - 1) = k * (k + 1)) ∨ (at_ = 3 ∧ i + 4 * m + 1 = 4 * k ∧ 2 * h.x 6 + m * (m + 1) = k * (k + 1)) ∨ (at_ = 4 ∧ m = 0 ∧ i = 4 * k + 1 ∧ 2 * h.x 6 = k * (k + 1)) ∨ (at_ = 5 ∧ m = 0 ∧ i = 4 * k + 2 ∧ 2 * h.x 6 = k * (k + 1))
theorem SumJ.toH {k at_ m i at' m' i' a : Nat} {h : HS} (g : HS) (J : SumJ k at_ m i h) (hg : g.ok) (ha : a = 256 + 4 * at') (hx0 : g.x 0 = 0) (hx5 : g.x 5 = m') (hm : m' ≤ k) (hw : g.wait = decide (at' = 5))
    (hi : (at' = 0 ∧ i' + 4 * m' = 4 * k ∧ 2 * g.x 6 + m' * (m' + 1) = k * (k + 1)) ∨ (at' = 1 ∧ 1 ≤ m' ∧ i' + 4 * m' = 4 * k + 1 ∧ 2 * g.x 6 + m' * (m' + 1) = k * (k + 1)) ∨ (at' = 2 ∧ 1 ≤ m' ∧ i' + 4 * m' = 4 * k + 2 ∧ 2 * g.x 6 + m' * (m' - 1) = k * (k + 1)) ∨ (at' = 3 ∧ i' + 4 * m' + 1 = 4 * k ∧ 2 * g.x 6 + m' * (m' + 1) = k * (k + 1)) ∨ (at' = 4 ∧ m' = 0 ∧ i' = 4 * k + 1 ∧ 2 * g.x 6 = k * (k + 1)) ∨ (at' = 5 ∧ m' = 0 ∧ i' = 4 * k + 2 ∧ 2 * g.x 6 = k * (k + 1))) (hat : at' < 6) : SumJ k at' m' i' (toH g a) := by
  obtain ⟨h1, h2, h3⟩ := toH_al (h := g) (a := a) (by omega)
  exact ⟨toH_ok hg (by omega), by rw [h1, ha], by rw [h2]; exact hx0, by rw [h2]; exact hx5, hm, J.k60, by rw [h3]; exact hw, by rw [h2]; exact hi⟩
theorem sum_lt {k x m : Nat} (hk : k < 60) (h : 2 * x + m = k * (k + 1)) : x < 2000 := by
  have : k * (k + 1) ≤ 59 * 60 := Nat.mul_le_mul (by omega) (by omega)
  omega
theorem sum_step {k at_ m i : Nat} {h : HS} (J : SumJ k at_ m i h) (hat : at_ < 5) : ∃ (h' : HS) (at' m' : Nat), SumJ k at' m' (i + 1) h' ∧ Hid (∀ w : World, TabW w → Calls Tryd.prog 26 #[.agg h.cells.toArray, .int .u32 (prog5.getD at_ 0 : Nat), .int .u32 0] w fun e w' => e = .returned (.tuple #[.agg h'.cells.toArray, .agg acc0]) ∧ Below w.heap.size w w') := by
  have hpc := J.pc
  have hk := J.ok
  have hm := J.mle
  have hk60 := J.k60
  rcases J.inv with ⟨rfl, hi, hs⟩ | ⟨rfl, h1, hi, hs⟩ | ⟨rfl, h1, hi, hs⟩ | ⟨rfl, hi, hs⟩ | ⟨rfl, rfl, hi, hs⟩ | ⟨rfl, _⟩
  · by_cases h0 : m = 0
    · subst h0
      refine ⟨_, 4, 0, ?_, Lib.hid fun w hT => do_beq_yes h hk 165987 0 16 (by decide) (by decide) (by decide) (by decide) (by decide) (by rw [J.x5, J.x0]) sum_de0 w hT⟩
      exact J.toH h hk (by omega) J.x0 J.x5 hm J.wait (Or.inr (Or.inr (Or.inr (Or.inr (Or.inl ⟨rfl, rfl, by omega, by omega⟩))))) (by decide)
    · refine ⟨_, 1, m, ?_, Lib.hid fun w hT => do_beq_no h hk 165987 0 16 (by decide) (by decide) (by decide) (by decide) (by decide) (by rw [J.x5, J.x0]; exact h0) sum_de0 w hT⟩
      exact J.toH h hk (by omega) J.x0 J.x5 hm J.wait (Or.inr (Or.inl ⟨rfl, by omega, by omega, hs⟩)) (by decide)
  · have hl := sum_lt hk60 hs
    have hv : (h.x 6 + m) % 4294967296 < 4294967296 := Nat.mod_lt _ (by decide)
    refine ⟨_, 2, m, ?_, Lib.hid fun w hT => do_reg h hk 5440307 0 0 ((h.x 6 + m) % 4294967296) (by decide) hv (by decide) (by decide) (by decide) sum_de1 (by rw [J.x5]; exact al_0 (h.x 6) m (by omega) (by omega)) w hT⟩
    refine J.toH (setH h 6 ((h.x 6 + m) % 4294967296)) (setH_ok hk hv) (by omega) J.x0 J.x5 hm J.wait (Or.inr (Or.inr (Or.inl ⟨rfl, h1, by omega, ?_⟩))) (by decide)
    show 2 * ((h.x 6 + m) % 4294967296) + m * (m - 1) = k * (k + 1)
    rw [Nat.mod_eq_of_lt (by omega)]
    obtain ⟨q, rfl⟩ : ∃ q, m = q + 1 := ⟨m - 1, by omega⟩
    rw [← hs, Nat.add_sub_cancel]
    simp only [Nat.mul_add, Nat.add_mul]
    omega
  · refine ⟨_, 3, m - 1, ?_, Lib.hid fun w hT => do_addi h hk 4294083219 0 4294967295 (by decide) (by decide) (by decide) (by decide) sum_de2 w hT⟩
    have hv : (h.x 5 + 4294967295) % 4294967296 = m - 1 := by rw [J.x5]; omega
    rw [hv]
    refine J.toH (setH h 5 (m - 1)) (setH_ok hk (by omega)) (by omega) J.x0 rfl (by omega) J.wait (Or.inr (Or.inr (Or.inr (Or.inl ⟨rfl, by omega, ?_⟩)))) (by decide)
    show 2 * h.x 6 + (m - 1) * (m - 1 + 1) = k * (k + 1)
    rw [← hs, Nat.sub_add_cancel h1, Nat.mul_comm (m - 1) m]
  · refine ⟨_, 0, m, ?_, Lib.hid fun w hT => do_jal h hk 4284477551 0 4294967284 (by decide) (by decide) (by decide) sum_de3 w hT⟩
    have hv : (h.pc + 4294967284) % 4294967296 = 256 := by omega
    rw [hv]
    unfold jumpH
    rw [if_pos (by decide)]
    exact J.toH h hk (by omega) J.x0 J.x5 hm J.wait (Or.inl ⟨rfl, by omega, hs⟩) (by decide)
  · refine ⟨_, 5, 0, ?_, Lib.hid fun w hT => do_wfi h hk 273678451 0 sum_de4 w hT⟩
    exact J.toH ({ h with wait := true } : HS) ⟨hk.pc, hk.x, hk.c⟩ (by omega) J.x0 J.x5 hm rfl (Or.inr (Or.inr (Or.inr (Or.inr (Or.inr ⟨rfl, rfl, by omega, hs⟩))))) (by decide)
  · omega

/-- what the world of the sum holds -/
structure SumW (w0 : World) (X L : Nat) (h : HS) (w : World) : Prop where
  a : HAt w X h
  r : ∃ c : Array Value, w.heap[X]? = some (.cells c 55 (0, 0)) ∧ c.size = 42
  l : w.heap[L]? = some (.cells (ws prog5) 22 (0, 0))
  ne : L ≠ X
  b : Below w0.heap.size w0 w
  x : w0.heap.size ≤ X
theorem SumW.below {w0 wa wb : World} {X L : Nat} {h : HS} (s : SumW w0 X L h wa) (hb : Below wa.heap.size wa wb) : SumW w0 X L h wb := by
  obtain ⟨c, hc, hz⟩ := s.r
  exact ⟨s.a.below hb, ⟨c, (hb.block _ (heap_lt hc)).trans hc, hz⟩, (hb.block _ (heap_lt s.l)).trans s.l, s.ne, s.b.trans (hb.mono s.b.size), s.x⟩
theorem SumW.setRow {w0 w : World} {X L : Nat} {h : HS} (s : SumW w0 X L h w) {g : Nat} (hX : X ≠ g) (hL : L ≠ g) (hg : w0.heap.size ≤ g) (cs : Array Value) : SumW w0 X L h (w.setRow g cs) := by
  obtain ⟨c, hc, hz⟩ := s.r
  exact ⟨s.a.setRow hX cs, ⟨c, setRow_row hc hX, hz⟩, setRow_row s.l hL, s.ne, below_setRow s.b hg cs, s.x⟩
theorem SumW.put {w0 w : World} {X L : Nat} {h : HS} (s : SumW w0 X L h w) (z : HS) : SumW w0 X L z (w.setRow X z.cells.toArray) := by
  obtain ⟨c, hc, hz⟩ := s.r
  have hn := setRow_heap _ _ _ z.cells.toArray _ _ hc
  exact ⟨HAt.of_row (r := []) (by rw [List.append_nil]; exact hn), ⟨_, hn, hs_size z⟩, setRow_row s.l s.ne, s.ne, below_setRow s.b s.x _, s.x⟩
theorem SumW.drew1 {w0 w : World} {X L : Nat} {h : HS} (s : SumW w0 X L h w) : SumW w0 X L h w.drew := s.below (Below.drew (Below.refl _ _))
theorem SumW.lx {w0 w : World} {X L : Nat} {h : HS} (s : SumW w0 X L h w) : X < w.heap.size := s.a.2.2
theorem SumW.ll {w0 w : World} {X L : Nat} {h : HS} (s : SumW w0 X L h w) : L < w.heap.size := heap_lt s.l
theorem wp_runK {P : Program} {o : Oper} {a : Act} {w : World} {K : Act → World → Prop} {Q : Exit → Act → World → Prop} (v : Value) (w' : World) (hrun : (execOp a.eval o).run P w = .ok (.value v) w') (h : K (a.put o.dst v) w') : o.wp P a w K Q := by
  unfold Oper.wp
  rw [hrun]
  exact h
theorem row_setOwn {w : World} {b i : Nat} {cs : Array Value} {T : TypeId} {fr : Nat × Nat} (hb : w.heap[b]? = some (.cells cs T fr)) (v : Value) :
    (w.setCell ⟨b, i, none⟩ v).heap[b]? = some (.cells (cs.setIfInBounds i v) T fr) := by
  simp [World.setCell, Array.getElem?_modify, hb]

set_option maxHeartbeats 8000000 in
theorem sums_h (n : Int) (K : Int) (k : Nat) (hK : IntKind.u64.wrap n = K) (hk60 : k < 60) (eK : IntKind.u32.wrap (K.tmod 60) = (k : Int)) (w : World) (hT : TabW w) : Calls Tryd.prog 6 #[.int .i64 n] w fun e w' => e = .returned (.bool true) ∧ Below w.heap.size w w' := by
  have RS := Lib.hid (fun w => reset_any 256 (by decide) w)
  have SU := Lib.hid (fun w hT => hsure_any w hT)
  have HTT := Lib.hid hT
  have hsz := hs_size (resetH 256)
  have hone := hs_one (resetH 256)
  obtain ⟨cs, hcs⟩ : ∃ cs, cs = (resetH 256).cells.toArray := ⟨_, rfl⟩
  rw [← hcs] at RS hsz hone
  have HC := Lib.hid hcs
  have HR : ∃ w : World, w = w := ⟨w, rfl⟩
  clear hcs HR hT
  go_enter Tryd.func6, Tryd.ntmps6
  go_upto_region 2 with (fail)
  refine wp_region_lit ?_
  refine wpList_callR rfl (some 14) rfl 25 #[.int .u32 256] (by kernel_rfl) (.agg cs) (Below w.heap.size w) (RS.out _) ?_
  intro w1 hb1
  try simp only [Act.put, List.setIfInBounds_toArray, List.set_cons_zero, List.set_cons_succ]
  refine Go.Great.wpList_allocTo rfl (some 4) rfl (.pointer (some ⟨w1.heap.size, 0, none⟩)) (.cells Z42 55) rfl ?_
  try simp only [Act.put, List.setIfInBounds_toArray, List.set_cons_zero, List.set_cons_succ]
  refine Go.wpList_store_rowTo rfl 55 _ _ rfl rfl w1.heap.size cs rfl rfl _ _ (heap_alloc_new _ _) (by rw [hsz]; kernel_rfl) (by rw [hsz]; rfl) hone ?_
  rw [World.setRow_alloc_new]
  have rX0 := heap_alloc_new w1 (.cells cs 55)
  have bw2 : Below w.heap.size w (w1.alloc (.cells cs 55)) := hb1.alloc hb1.size _
  have hXw : w.heap.size ≤ w1.heap.size := hb1.size
  generalize w1.alloc (.cells cs 55) = w2 at rX0 bw2 ⊢
  obtain ⟨X, hX⟩ : ∃ X, X = w1.heap.size := ⟨_, rfl⟩
  rw [← hX] at rX0 hXw ⊢
  clear hX hb1
  have HX2 : HAt w2 X (resetH 256) := HAt.of_row (h := resetH 256) (r := []) (by rw [List.append_nil, ← HC.out]; exact rX0)
  have c6 : w2.cell? ⟨X, 6, none⟩ = some (.int .u32 0) := HX2.1 6 (by decide)
  have cf := HX2.fz
  have KX := Lib.hid HX2
  have KR := Lib.hid rX0
  have KB := Lib.hid bw2
  clear HX2 rX0 bw2 hone
  have KZ := Lib.hid hsz
  clear hsz
  go_upto_region 5 with (fail)
  have W0 : SumW w X w2.heap.size (setH (resetH 256) 5 k) ((w2.setCell ⟨X, 6, none⟩ (.int .u32 k)).alloc (.cells (ws prog5) 22)) := by
    have hl := heap_lt KR.out
    refine ⟨(HAt.setX KX.out (by decide) (by decide) k).below ((Below.refl _ _).alloc (Nat.le_refl _) _), ⟨_, row_alloc (row_setOwn KR.out _) _, by rw [Array.size_setIfInBounds]; exact KZ.out⟩, ?_, Nat.ne_of_gt hl, (KB.out.setCell (p := ⟨X, 6, none⟩) hXw _).alloc ?_ _, hXw⟩
    · have q := heap_alloc_new (w2.setCell ⟨X, 6, none⟩ (.int .u32 k)) (.cells (ws prog5) 22); rw [World.size_setCell] at q; exact q
    · rw [World.size_setCell]; exact KB.out.size
  have J0 : SumJ k 0 k 0 (setH (resetH 256) 5 k) := ⟨setH_ok (resetH_ok (by decide)) (by omega), rfl, rfl, rfl, Nat.le_refl _, hk60, rfl, Or.inl ⟨rfl, by omega, by show 2 * 0 + _ = _; omega⟩⟩
  have eW : ((w2.setCell ⟨X, 6, none⟩ (.int .u32 k)).alloc (.cells (ws prog5) 22)) = ((w2.setCell ⟨X, 6, none⟩ (.int .u32 k)).alloc (.cells #[.int .u32 165987, .int .u32 5440307, .int .u32 4294083219, .int .u32 4284477551, .int .u32 273678451] 22)) := rfl
  rw [eW] at W0
  clear eW c6 cf
  generalize (w2.setCell ⟨X, 6, none⟩ (.int .u32 k)).alloc (.cells #[.int .u32 165987, .int .u32 5440307, .int .u32 4294083219, .int .u32 4284477551, .int .u32 273678451] 22) = w3 at W0 ⊢
  generalize w2.heap.size = L at W0 ⊢
  clear KX KR KB KZ
  go_upto_region 6 with (fail)
  go_loopw [6] (fun i wr => ∃ (j m a : Nat) (g : HS), i = .int .i64 j ∧ SumJ k a m j g ∧ SumW w X L g wr) (fun i _ => 300 - (intOf i).toNat)
  case atStart => exact ⟨0, k, 0, _, rfl, J0, W0⟩
  case round =>
    rename_i wr
    clear J0 W0
    obtain ⟨j, m, a, g, rfl, J, SW⟩ := hrel
    have hj : j < 300 := by have := J.mle; rcases J.inv with h | h | h | h | h | h <;> omega
    have hjI : (j : Int) < 300 := by omega
    have c33 : wr.cell? ⟨X, 33, none⟩ = some (.bool g.wait) := SW.a.1 33 (by decide)
    have cf := SW.a.fz
    have JJ := Lib.hid J
    have SS := Lib.hid SW
    by_cases h5 : a = 5
    · have hw : g.wait = true := by rw [J.wait]; simpa using h5
      rw [hw] at c33
      have c6 : wr.cell? ⟨X, 6, none⟩ = some (.int .u32 0) := by
        have q := SW.a.x_ (j := 5) (by decide)
        rw [J.x5] at q
        rcases J.inv with h | h | h | h | h | h
        · omega
        · omega
        · omega
        · omega
        · omega
        · rw [h.2.1] at q; exact q
      have c7 : wr.cell? ⟨X, 7, none⟩ = some (.int .u32 (g.x 6 : Nat)) := SW.a.x_ (j := 6) (by decide)
      have hs6 : 2 * g.x 6 = k * (k + 1) := by
        rcases J.inv with h | h | h | h | h | h
        · omega
        · omega
        · omega
        · omega
        · omega
        · exact h.2.2.2
      have hl6 := sum_lt (m := 0) hk60 hs6
      have h6 : ((g.x 6 : Nat) : Int) = (k : Int) * ((k : Int) + 1) % 4294967296 / 2 := by
        have q : (k : Int) * ((k : Int) + 1) = ((k * (k + 1) : Nat) : Int) := by rw [Int.natCast_mul, Int.natCast_add]; rfl
        rw [q, ← hs6]
        omega
      rw [h6] at c7
      clear hs6 hl6 h6
      have TS := Lib.hid (HTT.out.below SW.b)
      have BS := Lib.hid SW.b
      clear J SW
      go_upto_region 13 with (fail)
      go_wp2_with (go_at_call 27; refine (SU.out _ TS.out).mono ?_; rintro e w4 ⟨rfl, hb⟩; have G4 := Lib.hid (BS.out.trans (hb.mono BS.out.size)); clear hb)
      go_ret
      exact ⟨rfl, G4.out⟩
    · have hw : g.wait = false := by rw [J.wait]; simpa using h5
      rw [hw] at c33
      have ha5 : a < 5 := by rcases J.inv with h | h | h | h | h | h <;> omega
      have haI : (a : Int) < 5 := by omega
      have c0 : wr.cell? ⟨X, 0, none⟩ = some (.int .u32 g.pc) := SW.a.pc_
      have hpc := J.pc
      obtain ⟨P, hP⟩ : ∃ P : Int, P = (g.pc : Int) := ⟨_, rfl⟩
      rw [← hP] at c0
      have e8 : (P - 256) % 4294967296 / 4 = (a : Int) := by omega
      obtain ⟨z, a', m', J', DO⟩ := sum_step J ha5
      obtain ⟨x, hx⟩ : ∃ x, x = prog5.getD a 0 := ⟨_, rfl⟩
      rw [← hx] at DO
      have HX := Lib.hid hx
      have hsz7 := hs_size z
      have hone7 := hs_one z
      obtain ⟨zs, hzs⟩ : ∃ zs, zs = z.cells.toArray := ⟨_, rfl⟩
      rw [← hzs] at DO hsz7 hone7
      obtain ⟨qs, hqs⟩ : ∃ qs, qs = g.cells := ⟨_, rfl⟩
      rw [← hqs] at DO
      have HQ := Lib.hid hqs
      have HZZ := Lib.hid hzs
      have Z7 := Lib.hid hsz7
      have O7 := Lib.hid hone7
      have HJ := Lib.hid J'
      clear J SW hP hpc J' hx hzs hqs hsz7 hone7 hw h5
      go_upto_region 9 with (fail)
      simp only [e8]
      clear c0 c33 e8 cf
      go_upto_region 11 with (fail)
      refine wp_region_held_drew (S := SumW w X L g) (by kernel_rfl) SS.out.drew1 (fun hHeld => ?_)
      refine wpAnyH_take (i := 0) (v := .agg qs.toArray) rfl (by kernel_rfl) (by kernel_rfl) (by kernel_rfl) (fun _ _ _ h => h) ?_ (by assumption) ?_
      · exact yieldsIf_load_mid (by rfl) 55 _ rfl X 0 rfl qs _ (fun w hw => by rw [HQ.out]; exact hw.a.range) Tryd.underlying55 rfl (by rw [HQ.out, HS.len]; kernel_rfl)
      try simp only [Act.put, List.getElem_toArray, List.getElem_cons_zero, List.getElem_cons_succ, List.setIfInBounds_toArray, List.set_cons_zero, List.set_cons_succ]
      refine wpAnyH_take (i := 1) (v := ?_) rfl (by kernel_rfl) (by kernel_rfl) (by kernel_rfl) (fun _ _ _ h => h) (Or.inl ⟨by rfl, ?_⟩) (by assumption) ?_
      rotate_left
      · (intro w hSw; go_simp; try with_reducible rfl)
      try simp only [Act.put, List.getElem_toArray, List.getElem_cons_zero, List.getElem_cons_succ, List.setIfInBounds_toArray, List.set_cons_zero, List.set_cons_succ]
      refine wpAnyH_take (i := 2) (v := ?_) rfl (by kernel_rfl) (by kernel_rfl) (by kernel_rfl) (fun _ _ _ h => h) (Or.inl ⟨by rfl, ?_⟩) (by assumption) ?_
      rotate_left
      · (intro w hSw; go_simp; try with_reducible rfl)
      try simp only [Act.put, List.getElem_toArray, List.getElem_cons_zero, List.getElem_cons_succ, List.setIfInBounds_toArray, List.set_cons_zero, List.set_cons_succ]
      refine wpAnyH_take (i := 3) (v := .pointer (some ⟨L, a, none⟩)) rfl (by kernel_rfl) (by kernel_rfl) (by kernel_rfl) (fun _ _ _ h => h) (Or.inl ⟨by rfl, ?_⟩) (by assumption) ?_
      · (intro w hSw; go_simp; try with_reducible rfl)
      try simp only [Act.put, List.getElem_toArray, List.getElem_cons_zero, List.getElem_cons_succ, List.setIfInBounds_toArray, List.set_cons_zero, List.set_cons_succ]
      refine wpAnyH_take (i := 4) (v := .int .u32 (x : Nat)) rfl (by kernel_rfl) (by kernel_rfl) (by kernel_rfl) (fun _ _ _ h => h) (Or.inl ⟨by rfl, ?_⟩) (by assumption) ?_
      · (intro w hSw; have q := (cell_of_row _ _ _ _ _ _ hSw.l).trans (ws_at prog5 a (by simpa [prog5] using ha5)); rw [← HX.out] at q; have qf : w.frozen? ⟨L, a, none⟩ = false := frozen_of_row _ _ _ _ _ hSw.l; clear hSw; go_simp; try with_reducible rfl)
      try simp only [Act.put, List.getElem_toArray, List.getElem_cons_zero, List.getElem_cons_succ, List.setIfInBounds_toArray, List.set_cons_zero, List.set_cons_succ]
      have hS0 := hHeld
      clear hHeld
      generalize hw0 : wr.drew = w0 at *
      refine wpAnyH_ready (rs := [5, 9, 10]) (by kernel_rfl) (by simp) ?_
      refine AllReadyH.cons rfl (fun K0_5 hK0_5 => ?_) (AllReadyH.cons rfl (fun K0_9 hK0_9 => ?_) (AllReadyH.cons rfl (fun K0_10 hK0_10 => ?_) AllReadyH.nil))
      · go_simp
        go_at_call 26
        refine (DO.out _ (HTT.out.below hS0.b)).mono ?_
        rintro e w1 ⟨rfl, hb1⟩
        refine hK0_5.out _ _ (hS0.below hb1) (fun hS1 => ?_)
        try simp only [Act.put, List.getElem_toArray, List.getElem_cons_zero, List.getElem_cons_succ, List.setIfInBounds_toArray, List.set_cons_zero, List.set_cons_succ]
        refine wpAnyH_take (i := 6) (v := .tuple #[.agg zs, .agg acc0]) rfl (by kernel_rfl) (by kernel_rfl) (by kernel_rfl) (fun _ _ _ h => h) (Or.inl ⟨by rfl, ?_⟩) (by assumption) ?_
        · (intro w hSw; go_simp; try with_reducible rfl)
        try simp only [Act.put, List.getElem_toArray, List.getElem_cons_zero, List.getElem_cons_succ, List.setIfInBounds_toArray, List.set_cons_zero, List.set_cons_succ]
        refine wpAnyH_take (i := 7) (v := .agg zs) rfl (by kernel_rfl) (by kernel_rfl) (by kernel_rfl) (fun _ _ _ h => h) (Or.inl ⟨by rfl, ?_⟩) (by assumption) ?_
        · (intro w hSw; go_simp; try with_reducible rfl)
        try simp only [Act.put, List.getElem_toArray, List.getElem_cons_zero, List.getElem_cons_succ, List.setIfInBounds_toArray, List.set_cons_zero, List.set_cons_succ]
        refine wpAnyH_take (i := 8) (v := .agg acc0) rfl (by kernel_rfl) (by kernel_rfl) (by kernel_rfl) (fun _ _ _ h => h) (Or.inl ⟨by rfl, ?_⟩) (by assumption) ?_
        · (intro w hSw; go_simp; try with_reducible rfl)
        try simp only [Act.put, List.getElem_toArray, List.getElem_cons_zero, List.getElem_cons_succ, List.setIfInBounds_toArray, List.set_cons_zero, List.set_cons_succ]
        clear hb1
        refine wpAnyH_ready (rs := [9, 10]) (by kernel_rfl) (by simp) ?_
        refine AllReadyH.cons rfl (fun K1_9 hK1_9 => ?_) (AllReadyH.cons rfl (fun K1_10 hK1_10 => ?_) AllReadyH.nil)
        · refine wp_runK (.pointer (some ⟨w1.heap.size, 0, none⟩)) (w1.alloc (.cells Z42 55)) (by kernel_rfl) ?_
          have y9_2 := heap_alloc_new w1 (.cells Z42 55)
          have b9_2 : Below w1.heap.size w1 (w1.alloc (.cells Z42 55)) := (Below.refl _ _).alloc (Nat.le_refl _) _
          have l9_2 := hS1.lx
          have m9_2 := hS1.ll
          have s9_2 := hS1.b.size
          refine hK1_9.out _ _ (hS1.below b9_2) (fun hS2 => ?_)
          try simp only [Act.put, List.getElem_toArray, List.getElem_cons_zero, List.getElem_cons_succ, List.setIfInBounds_toArray, List.set_cons_zero, List.set_cons_succ]
          generalize hw2 : w1.alloc (.cells Z42 55) = w2 at *
          clear hw2
          refine wpAnyH_ready (rs := [10]) (by kernel_rfl) (by simp) ?_
          refine AllReadyH.cons rfl (fun K2_10 hK2_10 => ?_) AllReadyH.nil
          · refine wp_runK (.pointer (some ⟨w2.heap.size, 0, none⟩)) (w2.alloc (.cells acc0 59)) (by kernel_rfl) ?_
            have y10_3 := heap_alloc_new w2 (.cells acc0 59)
            have b10_3 : Below w2.heap.size w2 (w2.alloc (.cells acc0 59)) := (Below.refl _ _).alloc (Nat.le_refl _) _
            have l10_3 := hS2.lx
            have m10_3 := hS2.ll
            have s10_3 := hS2.b.size
            refine hK2_10.out _ _ (hS2.below b10_3) (fun hS3 => ?_)
            try simp only [Act.put, List.getElem_toArray, List.getElem_cons_zero, List.getElem_cons_succ, List.setIfInBounds_toArray, List.set_cons_zero, List.set_cons_succ]
            have y9_3 := row_alloc y9_2 (.cells acc0 59)
            have d9_3 := heap_lt y9_2
            generalize hw3 : w2.alloc (.cells acc0 59) = w3 at *
            clear hw3
            have nXY : X ≠ w1.heap.size := by omega
            have nLY : L ≠ w1.heap.size := by omega
            have nXA : X ≠ w2.heap.size := by omega
            have nLA : L ≠ w2.heap.size := by omega
            have nYA : w1.heap.size ≠ w2.heap.size := by omega
            have gY : w.heap.size ≤ w1.heap.size := by omega
            have gA : w.heap.size ≤ w2.heap.size := by omega
            refine wpAnyH_ready (rs := [11]) (by kernel_rfl) (by simp) ?_
            refine AllReadyH.cons rfl (fun K11 hK11 => ?_) AllReadyH.nil
            refine wp_store_row 55 _ _ rfl w1.heap.size zs rfl rfl _ _ y9_3 (by rw [Z7.out]; kernel_rfl) (by rw [Z7.out]; rfl) O7.out ?_
            refine hK11.out _ _ (hS3.setRow nXY nLY gY _) (fun hSa => ?_)
            try simp only [Act.put, List.getElem_toArray, List.getElem_cons_zero, List.getElem_cons_succ, List.setIfInBounds_toArray, List.set_cons_zero, List.set_cons_succ]
            have ya := setRow_heap _ _ _ zs _ _ y9_3
            have yb := setRow_row (g := w1.heap.size) (cs := zs) y10_3 (Ne.symm nYA)
            refine wpAnyH_ready (rs := [12]) (by kernel_rfl) (by simp) ?_
            refine AllReadyH.cons rfl (fun K12 hK12 => ?_) AllReadyH.nil
            refine wp_store_row 59 _ _ rfl w2.heap.size acc0 rfl rfl _ _ yb (by kernel_rfl) (by rfl) (by kernel_rfl) ?_
            refine hK12.out _ _ (hSa.setRow nXA nLA gA _) (fun hSb => ?_)
            try simp only [Act.put, List.getElem_toArray, List.getElem_cons_zero, List.getElem_cons_succ, List.setIfInBounds_toArray, List.set_cons_zero, List.set_cons_succ]
            have yc := setRow_row (g := w2.heap.size) (cs := acc0) ya nYA
            refine wpAnyH_done (by kernel_rfl) ?_ _
            generalize World.setRow (World.setRow _ _ _) _ _ = wf at hSb yc ⊢
            have HSb := Lib.hid hSb
            have HYc := Lib.hid yc
            clear hSa hSb yc ya yb
            go_upto_region 12 with (fail)
            refine wp_region_lit ?_
            refine wpList_load_row rfl 55 _ rfl w1.heap.size rfl _ zs (0, 0) _ HYc.out Tryd.underlying55 rfl (by rw [Z7.out]; kernel_rfl) ?_
            try simp only [Act.put, List.getElem_toArray, List.getElem_cons_zero, List.getElem_cons_succ, List.setIfInBounds_toArray, List.set_cons_zero, List.set_cons_succ]
            obtain ⟨cX, hcX, hcZ⟩ := HSb.out.r
            refine Go.wpList_store_rowTo rfl 55 _ _ rfl rfl X zs rfl rfl _ _ hcX (by rw [Z7.out]; kernel_rfl) (by rw [Z7.out]; exact hcZ) O7.out ?_
            try simp only [Act.put, List.getElem_toArray, List.getElem_cons_zero, List.getElem_cons_succ, List.setIfInBounds_toArray, List.set_cons_zero, List.set_cons_succ]
            have HSz : Hid (SumW w X L z (wf.setRow X zs)) := Lib.hid (by rw [HZZ.out]; exact HSb.out.put z)
            generalize wf.setRow X zs = wg at HSz ⊢
            clear hcX hcZ
            go_wp2
            go_roundw
            case rel => exact ⟨j + 1, m', a', z, by go_num, HJ.out, HSz.out⟩
            case measure => simp [intOf]; omega
        · refine wp_runK (.pointer (some ⟨w1.heap.size, 0, none⟩)) (w1.alloc (.cells acc0 59)) (by kernel_rfl) ?_
          have y10_2 := heap_alloc_new w1 (.cells acc0 59)
          have b10_2 : Below w1.heap.size w1 (w1.alloc (.cells acc0 59)) := (Below.refl _ _).alloc (Nat.le_refl _) _
          have l10_2 := hS1.lx
          have m10_2 := hS1.ll
          have s10_2 := hS1.b.size
          refine hK1_10.out _ _ (hS1.below b10_2) (fun hS2 => ?_)
          try simp only [Act.put, List.getElem_toArray, List.getElem_cons_zero, List.getElem_cons_succ, List.setIfInBounds_toArray, List.set_cons_zero, List.set_cons_succ]
          generalize hw2 : w1.alloc (.cells acc0 59) = w2 at *
          clear hw2
          refine wpAnyH_ready (rs := [9]) (by kernel_rfl) (by simp) ?_
          refine AllReadyH.cons rfl (fun K2_9 hK2_9 => ?_) AllReadyH.nil
          · refine wp_runK (.pointer (some ⟨w2.heap.size, 0, none⟩)) (w2.alloc (.cells Z42 55)) (by kernel_rfl) ?_
            have y9_3 := heap_alloc_new w2 (.cells Z42 55)
            have b9_3 : Below w2.heap.size w2 (w2.alloc (.cells Z42 55)) := (Below.refl _ _).alloc (Nat.le_refl _) _
            have l9_3 := hS2.lx
            have m9_3 := hS2.ll
            have s9_3 := hS2.b.size
            refine hK2_9.out _ _ (hS2.below b9_3) (fun hS3 => ?_)
            try simp only [Act.put, List.getElem_toArray, List.getElem_cons_zero, List.getElem_cons_succ, List.setIfInBounds_toArray, List.set_cons_zero, List.set_cons_succ]
            have y10_3 := row_alloc y10_2 (.cells Z42 55)
            have d10_3 := heap_lt y10_2
            generalize hw3 : w2.alloc (.cells Z42 55) = w3 at *
            clear hw3
            have nXY : X ≠ w2.heap.size := by omega
            have nLY : L ≠ w2.heap.size := by omega
            have nXA : X ≠ w1.heap.size := by omega
            have nLA : L ≠ w1.heap.size := by omega
            have nYA : w2.heap.size ≠ w1.heap.size := by omega
            have gY : w.heap.size ≤ w2.heap.size := by omega
            have gA : w.heap.size ≤ w1.heap.size := by omega
            refine wpAnyH_ready (rs := [11]) (by kernel_rfl) (by simp) ?_
            refine AllReadyH.cons rfl (fun K11 hK11 => ?_) AllReadyH.nil
            refine wp_store_row 55 _ _ rfl w2.heap.size zs rfl rfl _ _ y9_3 (by rw [Z7.out]; kernel_rfl) (by rw [Z7.out]; rfl) O7.out ?_
            refine hK11.out _ _ (hS3.setRow nXY nLY gY _) (fun hSa => ?_)
            try simp only [Act.put, List.getElem_toArray, List.getElem_cons_zero, List.getElem_cons_succ, List.setIfInBounds_toArray, List.set_cons_zero, List.set_cons_succ]
            have ya := setRow_heap _ _ _ zs _ _ y9_3
            have yb := setRow_row (g := w2.heap.size) (cs := zs) y10_3 (Ne.symm nYA)
            refine wpAnyH_ready (rs := [12]) (by kernel_rfl) (by simp) ?_
            refine AllReadyH.cons rfl (fun K12 hK12 => ?_) AllReadyH.nil
            refine wp_store_row 59 _ _ rfl w1.heap.size acc0 rfl rfl _ _ yb (by kernel_rfl) (by rfl) (by kernel_rfl) ?_
            refine hK12.out _ _ (hSa.setRow nXA nLA gA _) (fun hSb => ?_)
            try simp only [Act.put, List.getElem_toArray, List.getElem_cons_zero, List.getElem_cons_succ, List.setIfInBounds_toArray, List.set_cons_zero, List.set_cons_succ]
            have yc := setRow_row (g := w1.heap.size) (cs := acc0) ya nYA
            refine wpAnyH_done (by kernel_rfl) ?_ _
            generalize World.setRow (World.setRow _ _ _) _ _ = wf at hSb yc ⊢
            have HSb := Lib.hid hSb
            have HYc := Lib.hid yc
            clear hSa hSb yc ya yb
            go_upto_region 12 with (fail)
            refine wp_region_lit ?_
            refine wpList_load_row rfl 55 _ rfl w2.heap.size rfl _ zs (0, 0) _ HYc.out Tryd.underlying55 rfl (by rw [Z7.out]; kernel_rfl) ?_
            try simp only [Act.put, List.getElem_toArray, List.getElem_cons_zero, List.getElem_cons_succ, List.setIfInBounds_toArray, List.set_cons_zero, List.set_cons_succ]
            obtain ⟨cX, hcX, hcZ⟩ := HSb.out.r
            refine Go.wpList_store_rowTo rfl 55 _ _ rfl rfl X zs rfl rfl _ _ hcX (by rw [Z7.out]; kernel_rfl) (by rw [Z7.out]; exact hcZ) O7.out ?_
            try simp only [Act.put, List.getElem_toArray, List.getElem_cons_zero, List.getElem_cons_succ, List.setIfInBounds_toArray, List.set_cons_zero, List.set_cons_succ]
            have HSz : Hid (SumW w X L z (wf.setRow X zs)) := Lib.hid (by rw [HZZ.out]; exact HSb.out.put z)
            generalize wf.setRow X zs = wg at HSz ⊢
            clear hcX hcZ
            go_wp2
            go_roundw
            case rel => exact ⟨j + 1, m', a', z, by go_num, HJ.out, HSz.out⟩
            case measure => simp [intOf]; omega
      · refine wp_runK (.pointer (some ⟨w0.heap.size, 0, none⟩)) (w0.alloc (.cells Z42 55)) (by kernel_rfl) ?_
        have y9_1 := heap_alloc_new w0 (.cells Z42 55)
        have b9_1 : Below w0.heap.size w0 (w0.alloc (.cells Z42 55)) := (Below.refl _ _).alloc (Nat.le_refl _) _
        have l9_1 := hS0.lx
        have m9_1 := hS0.ll
        have s9_1 := hS0.b.size
        refine hK0_9.out _ _ (hS0.below b9_1) (fun hS1 => ?_)
        try simp only [Act.put, List.getElem_toArray, List.getElem_cons_zero, List.getElem_cons_succ, List.setIfInBounds_toArray, List.set_cons_zero, List.set_cons_succ]
        generalize hw1 : w0.alloc (.cells Z42 55) = w1 at *
        clear hw1
        refine wpAnyH_ready (rs := [5, 10]) (by kernel_rfl) (by simp) ?_
        refine AllReadyH.cons rfl (fun K1_5 hK1_5 => ?_) (AllReadyH.cons rfl (fun K1_10 hK1_10 => ?_) AllReadyH.nil)
        · go_simp
          go_at_call 26
          refine (DO.out _ (HTT.out.below hS1.b)).mono ?_
          rintro e w2 ⟨rfl, hb2⟩
          refine hK1_5.out _ _ (hS1.below hb2) (fun hS2 => ?_)
          try simp only [Act.put, List.getElem_toArray, List.getElem_cons_zero, List.getElem_cons_succ, List.setIfInBounds_toArray, List.set_cons_zero, List.set_cons_succ]
          have y9_2 := (hb2.block _ (heap_lt y9_1)).trans y9_1
          refine wpAnyH_take (i := 6) (v := .tuple #[.agg zs, .agg acc0]) rfl (by kernel_rfl) (by kernel_rfl) (by kernel_rfl) (fun _ _ _ h => h) (Or.inl ⟨by rfl, ?_⟩) (by assumption) ?_
          · (intro w hSw; go_simp; try with_reducible rfl)
          try simp only [Act.put, List.getElem_toArray, List.getElem_cons_zero, List.getElem_cons_succ, List.setIfInBounds_toArray, List.set_cons_zero, List.set_cons_succ]
          refine wpAnyH_take (i := 7) (v := .agg zs) rfl (by kernel_rfl) (by kernel_rfl) (by kernel_rfl) (fun _ _ _ h => h) (Or.inl ⟨by rfl, ?_⟩) (by assumption) ?_
          · (intro w hSw; go_simp; try with_reducible rfl)
          try simp only [Act.put, List.getElem_toArray, List.getElem_cons_zero, List.getElem_cons_succ, List.setIfInBounds_toArray, List.set_cons_zero, List.set_cons_succ]
          refine wpAnyH_take (i := 8) (v := .agg acc0) rfl (by kernel_rfl) (by kernel_rfl) (by kernel_rfl) (fun _ _ _ h => h) (Or.inl ⟨by rfl, ?_⟩) (by assumption) ?_
          · (intro w hSw; go_simp; try with_reducible rfl)
          try simp only [Act.put, List.getElem_toArray, List.getElem_cons_zero, List.getElem_cons_succ, List.setIfInBounds_toArray, List.set_cons_zero, List.set_cons_succ]
          clear hb2
          refine wpAnyH_ready (rs := [10]) (by kernel_rfl) (by simp) ?_
          refine AllReadyH.cons rfl (fun K2_10 hK2_10 => ?_) AllReadyH.nil
          · refine wp_runK (.pointer (some ⟨w2.heap.size, 0, none⟩)) (w2.alloc (.cells acc0 59)) (by kernel_rfl) ?_
            have y10_3 := heap_alloc_new w2 (.cells acc0 59)
            have b10_3 : Below w2.heap.size w2 (w2.alloc (.cells acc0 59)) := (Below.refl _ _).alloc (Nat.le_refl _) _
            have l10_3 := hS2.lx
            have m10_3 := hS2.ll
            have s10_3 := hS2.b.size
            refine hK2_10.out _ _ (hS2.below b10_3) (fun hS3 => ?_)
            try simp only [Act.put, List.getElem_toArray, List.getElem_cons_zero, List.getElem_cons_succ, List.setIfInBounds_toArray, List.set_cons_zero, List.set_cons_succ]
            have y9_3 := row_alloc y9_2 (.cells acc0 59)
            have d9_3 := heap_lt y9_2
            generalize hw3 : w2.alloc (.cells acc0 59) = w3 at *
            clear hw3
            have nXY : X ≠ w0.heap.size := by omega
            have nLY : L ≠ w0.heap.size := by omega
            have nXA : X ≠ w2.heap.size := by omega
            have nLA : L ≠ w2.heap.size := by omega
            have nYA : w0.heap.size ≠ w2.heap.size := by omega
            have gY : w.heap.size ≤ w0.heap.size := by omega
            have gA : w.heap.size ≤ w2.heap.size := by omega
            refine wpAnyH_ready (rs := [11]) (by kernel_rfl) (by simp) ?_
            refine AllReadyH.cons rfl (fun K11 hK11 => ?_) AllReadyH.nil
            refine wp_store_row 55 _ _ rfl w0.heap.size zs rfl rfl _ _ y9_3 (by rw [Z7.out]; kernel_rfl) (by rw [Z7.out]; rfl) O7.out ?_
            refine hK11.out _ _ (hS3.setRow nXY nLY gY _) (fun hSa => ?_)
            try simp only [Act.put, List.getElem_toArray, List.getElem_cons_zero, List.getElem_cons_succ, List.setIfInBounds_toArray, List.set_cons_zero, List.set_cons_succ]
            have ya := setRow_heap _ _ _ zs _ _ y9_3
            have yb := setRow_row (g := w0.heap.size) (cs := zs) y10_3 (Ne.symm nYA)
            refine wpAnyH_ready (rs := [12]) (by kernel_rfl) (by simp) ?_
            refine AllReadyH.cons rfl (fun K12 hK12 => ?_) AllReadyH.nil
            refine wp_store_row 59 _ _ rfl w2.heap.size acc0 rfl rfl _ _ yb (by kernel_rfl) (by rfl) (by kernel_rfl) ?_
            refine hK12.out _ _ (hSa.setRow nXA nLA gA _) (fun hSb => ?_)
            try simp only [Act.put, List.getElem_toArray, List.getElem_cons_zero, List.getElem_cons_succ, List.setIfInBounds_toArray, List.set_cons_zero, List.set_cons_succ]
            have yc := setRow_row (g := w2.heap.size) (cs := acc0) ya nYA
            refine wpAnyH_done (by kernel_rfl) ?_ _
            generalize World.setRow (World.setRow _ _ _) _ _ = wf at hSb yc ⊢
            have HSb := Lib.hid hSb
            have HYc := Lib.hid yc
            clear hSa hSb yc ya yb
            go_upto_region 12 with (fail)
            refine wp_region_lit ?_
            refine wpList_load_row rfl 55 _ rfl w0.heap.size rfl _ zs (0, 0) _ HYc.out Tryd.underlying55 rfl (by rw [Z7.out]; kernel_rfl) ?_
            try simp only [Act.put, List.getElem_toArray, List.getElem_cons_zero, List.getElem_cons_succ, List.setIfInBounds_toArray, List.set_cons_zero, List.set_cons_succ]
            obtain ⟨cX, hcX, hcZ⟩ := HSb.out.r
            refine Go.wpList_store_rowTo rfl 55 _ _ rfl rfl X zs rfl rfl _ _ hcX (by rw [Z7.out]; kernel_rfl) (by rw [Z7.out]; exact hcZ) O7.out ?_
            try simp only [Act.put, List.getElem_toArray, List.getElem_cons_zero, List.getElem_cons_succ, List.setIfInBounds_toArray, List.set_cons_zero, List.set_cons_succ]
            have HSz : Hid (SumW w X L z (wf.setRow X zs)) := Lib.hid (by rw [HZZ.out]; exact HSb.out.put z)
            generalize wf.setRow X zs = wg at HSz ⊢
            clear hcX hcZ
            go_wp2
            go_roundw
            case rel => exact ⟨j + 1, m', a', z, by go_num, HJ.out, HSz.out⟩
            case measure => simp [intOf]; omega
        · refine wp_runK (.pointer (some ⟨w1.heap.size, 0, none⟩)) (w1.alloc (.cells acc0 59)) (by kernel_rfl) ?_
          have y10_2 := heap_alloc_new w1 (.cells acc0 59)
          have b10_2 : Below w1.heap.size w1 (w1.alloc (.cells acc0 59)) := (Below.refl _ _).alloc (Nat.le_refl _) _
          have l10_2 := hS1.lx
          have m10_2 := hS1.ll
          have s10_2 := hS1.b.size
          refine hK1_10.out _ _ (hS1.below b10_2) (fun hS2 => ?_)
          try simp only [Act.put, List.getElem_toArray, List.getElem_cons_zero, List.getElem_cons_succ, List.setIfInBounds_toArray, List.set_cons_zero, List.set_cons_succ]
          have y9_2 := row_alloc y9_1 (.cells acc0 59)
          have d9_2 := heap_lt y9_1
          generalize hw2 : w1.alloc (.cells acc0 59) = w2 at *
          clear hw2
          refine wpAnyH_ready (rs := [5]) (by kernel_rfl) (by simp) ?_
          refine AllReadyH.cons rfl (fun K2_5 hK2_5 => ?_) AllReadyH.nil
          · go_simp
            go_at_call 26
            refine (DO.out _ (HTT.out.below hS2.b)).mono ?_
            rintro e w3 ⟨rfl, hb3⟩
            refine hK2_5.out _ _ (hS2.below hb3) (fun hS3 => ?_)
            try simp only [Act.put, List.getElem_toArray, List.getElem_cons_zero, List.getElem_cons_succ, List.setIfInBounds_toArray, List.set_cons_zero, List.set_cons_succ]
            have y9_3 := (hb3.block _ (heap_lt y9_2)).trans y9_2
            have y10_3 := (hb3.block _ (heap_lt y10_2)).trans y10_2
            refine wpAnyH_take (i := 6) (v := .tuple #[.agg zs, .agg acc0]) rfl (by kernel_rfl) (by kernel_rfl) (by kernel_rfl) (fun _ _ _ h => h) (Or.inl ⟨by rfl, ?_⟩) (by assumption) ?_
            · (intro w hSw; go_simp; try with_reducible rfl)
            try simp only [Act.put, List.getElem_toArray, List.getElem_cons_zero, List.getElem_cons_succ, List.setIfInBounds_toArray, List.set_cons_zero, List.set_cons_succ]
            refine wpAnyH_take (i := 7) (v := .agg zs) rfl (by kernel_rfl) (by kernel_rfl) (by kernel_rfl) (fun _ _ _ h => h) (Or.inl ⟨by rfl, ?_⟩) (by assumption) ?_
            · (intro w hSw; go_simp; try with_reducible rfl)
            try simp only [Act.put, List.getElem_toArray, List.getElem_cons_zero, List.getElem_cons_succ, List.setIfInBounds_toArray, List.set_cons_zero, List.set_cons_succ]
            refine wpAnyH_take (i := 8) (v := .agg acc0) rfl (by kernel_rfl) (by kernel_rfl) (by kernel_rfl) (fun _ _ _ h => h) (Or.inl ⟨by rfl, ?_⟩) (by assumption) ?_
            · (intro w hSw; go_simp; try with_reducible rfl)
            try simp only [Act.put, List.getElem_toArray, List.getElem_cons_zero, List.getElem_cons_succ, List.setIfInBounds_toArray, List.set_cons_zero, List.set_cons_succ]
            clear hb3
            have nXY : X ≠ w0.heap.size := by omega
            have nLY : L ≠ w0.heap.size := by omega
            have nXA : X ≠ w1.heap.size := by omega
            have nLA : L ≠ w1.heap.size := by omega
            have nYA : w0.heap.size ≠ w1.heap.size := by omega
            have gY : w.heap.size ≤ w0.heap.size := by omega
            have gA : w.heap.size ≤ w1.heap.size := by omega
            refine wpAnyH_ready (rs := [11]) (by kernel_rfl) (by simp) ?_
            refine AllReadyH.cons rfl (fun K11 hK11 => ?_) AllReadyH.nil
            refine wp_store_row 55 _ _ rfl w0.heap.size zs rfl rfl _ _ y9_3 (by rw [Z7.out]; kernel_rfl) (by rw [Z7.out]; rfl) O7.out ?_
            refine hK11.out _ _ (hS3.setRow nXY nLY gY _) (fun hSa => ?_)
            try simp only [Act.put, List.getElem_toArray, List.getElem_cons_zero, List.getElem_cons_succ, List.setIfInBounds_toArray, List.set_cons_zero, List.set_cons_succ]
            have ya := setRow_heap _ _ _ zs _ _ y9_3
            have yb := setRow_row (g := w0.heap.size) (cs := zs) y10_3 (Ne.symm nYA)
            refine wpAnyH_ready (rs := [12]) (by kernel_rfl) (by simp) ?_
            refine AllReadyH.cons rfl (fun K12 hK12 => ?_) AllReadyH.nil
            refine wp_store_row 59 _ _ rfl w1.heap.size acc0 rfl rfl _ _ yb (by kernel_rfl) (by rfl) (by kernel_rfl) ?_
            refine hK12.out _ _ (hSa.setRow nXA nLA gA _) (fun hSb => ?_)
            try simp only [Act.put, List.getElem_toArray, List.getElem_cons_zero, List.getElem_cons_succ, List.setIfInBounds_toArray, List.set_cons_zero, List.set_cons_succ]
            have yc := setRow_row (g := w1.heap.size) (cs := acc0) ya nYA
            refine wpAnyH_done (by kernel_rfl) ?_ _
            generalize World.setRow (World.setRow _ _ _) _ _ = wf at hSb yc ⊢
            have HSb := Lib.hid hSb
            have HYc := Lib.hid yc
            clear hSa hSb yc ya yb
            go_upto_region 12 with (fail)
            refine wp_region_lit ?_
            refine wpList_load_row rfl 55 _ rfl w0.heap.size rfl _ zs (0, 0) _ HYc.out Tryd.underlying55 rfl (by rw [Z7.out]; kernel_rfl) ?_
            try simp only [Act.put, List.getElem_toArray, List.getElem_cons_zero, List.getElem_cons_succ, List.setIfInBounds_toArray, List.set_cons_zero, List.set_cons_succ]
            obtain ⟨cX, hcX, hcZ⟩ := HSb.out.r
            refine Go.wpList_store_rowTo rfl 55 _ _ rfl rfl X zs rfl rfl _ _ hcX (by rw [Z7.out]; kernel_rfl) (by rw [Z7.out]; exact hcZ) O7.out ?_
            try simp only [Act.put, List.getElem_toArray, List.getElem_cons_zero, List.getElem_cons_succ, List.setIfInBounds_toArray, List.set_cons_zero, List.set_cons_succ]
            have HSz : Hid (SumW w X L z (wf.setRow X zs)) := Lib.hid (by rw [HZZ.out]; exact HSb.out.put z)
            generalize wf.setRow X zs = wg at HSz ⊢
            clear hcX hcZ
            go_wp2
            go_roundw
            case rel => exact ⟨j + 1, m', a', z, by go_num, HJ.out, HSz.out⟩
            case measure => simp [intOf]; omega
      · refine wp_runK (.pointer (some ⟨w0.heap.size, 0, none⟩)) (w0.alloc (.cells acc0 59)) (by kernel_rfl) ?_
        have y10_1 := heap_alloc_new w0 (.cells acc0 59)
        have b10_1 : Below w0.heap.size w0 (w0.alloc (.cells acc0 59)) := (Below.refl _ _).alloc (Nat.le_refl _) _
        have l10_1 := hS0.lx
        have m10_1 := hS0.ll
        have s10_1 := hS0.b.size
        refine hK0_10.out _ _ (hS0.below b10_1) (fun hS1 => ?_)
        try simp only [Act.put, List.getElem_toArray, List.getElem_cons_zero, List.getElem_cons_succ, List.setIfInBounds_toArray, List.set_cons_zero, List.set_cons_succ]
        generalize hw1 : w0.alloc (.cells acc0 59) = w1 at *
        clear hw1
        refine wpAnyH_ready (rs := [5, 9]) (by kernel_rfl) (by simp) ?_
        refine AllReadyH.cons rfl (fun K1_5 hK1_5 => ?_) (AllReadyH.cons rfl (fun K1_9 hK1_9 => ?_) AllReadyH.nil)
        · go_simp
          go_at_call 26
          refine (DO.out _ (HTT.out.below hS1.b)).mono ?_
          rintro e w2 ⟨rfl, hb2⟩
          refine hK1_5.out _ _ (hS1.below hb2) (fun hS2 => ?_)
          try simp only [Act.put, List.getElem_toArray, List.getElem_cons_zero, List.getElem_cons_succ, List.setIfInBounds_toArray, List.set_cons_zero, List.set_cons_succ]
          have y10_2 := (hb2.block _ (heap_lt y10_1)).trans y10_1
          refine wpAnyH_take (i := 6) (v := .tuple #[.agg zs, .agg acc0]) rfl (by kernel_rfl) (by kernel_rfl) (by kernel_rfl) (fun _ _ _ h => h) (Or.inl ⟨by rfl, ?_⟩) (by assumption) ?_
          · (intro w hSw; go_simp; try with_reducible rfl)
          try simp only [Act.put, List.getElem_toArray, List.getElem_cons_zero, List.getElem_cons_succ, List.setIfInBounds_toArray, List.set_cons_zero, List.set_cons_succ]
          refine wpAnyH_take (i := 7) (v := .agg zs) rfl (by kernel_rfl) (by kernel_rfl) (by kernel_rfl) (fun _ _ _ h => h) (Or.inl ⟨by rfl, ?_⟩) (by assumption) ?_
          · (intro w hSw; go_simp; try with_reducible rfl)
          try simp only [Act.put, List.getElem_toArray, List.getElem_cons_zero, List.getElem_cons_succ, List.setIfInBounds_toArray, List.set_cons_zero, List.set_cons_succ]
          refine wpAnyH_take (i := 8) (v := .agg acc0) rfl (by kernel_rfl) (by kernel_rfl) (by kernel_rfl) (fun _ _ _ h => h) (Or.inl ⟨by rfl, ?_⟩) (by assumption) ?_
          · (intro w hSw; go_simp; try with_reducible rfl)
          try simp only [Act.put, List.getElem_toArray, List.getElem_cons_zero, List.getElem_cons_succ, List.setIfInBounds_toArray, List.set_cons_zero, List.set_cons_succ]
          clear hb2
          refine wpAnyH_ready (rs := [9]) (by kernel_rfl) (by simp) ?_
          refine AllReadyH.cons rfl (fun K2_9 hK2_9 => ?_) AllReadyH.nil
          · refine wp_runK (.pointer (some ⟨w2.heap.size, 0, none⟩)) (w2.alloc (.cells Z42 55)) (by kernel_rfl) ?_
            have y9_3 := heap_alloc_new w2 (.cells Z42 55)
            have b9_3 : Below w2.heap.size w2 (w2.alloc (.cells Z42 55)) := (Below.refl _ _).alloc (Nat.le_refl _) _
            have l9_3 := hS2.lx
            have m9_3 := hS2.ll
            have s9_3 := hS2.b.size
            refine hK2_9.out _ _ (hS2.below b9_3) (fun hS3 => ?_)
            try simp only [Act.put, List.getElem_toArray, List.getElem_cons_zero, List.getElem_cons_succ, List.setIfInBounds_toArray, List.set_cons_zero, List.set_cons_succ]
            have y10_3 := row_alloc y10_2 (.cells Z42 55)
            have d10_3 := heap_lt y10_2
            generalize hw3 : w2.alloc (.cells Z42 55) = w3 at *
            clear hw3
            have nXY : X ≠ w2.heap.size := by omega
            have nLY : L ≠ w2.heap.size := by omega
            have nXA : X ≠ w0.heap.size := by omega
            have nLA : L ≠ w0.heap.size := by omega
            have nYA : w2.heap.size ≠ w0.heap.size := by omega
            have gY : w.heap.size ≤ w2.heap.size := by omega
            have gA : w.heap.size ≤ w0.heap.size := by omega
            refine wpAnyH_ready (rs := [11]) (by kernel_rfl) (by simp) ?_
            refine AllReadyH.cons rfl (fun K11 hK11 => ?_) AllReadyH.nil
            refine wp_store_row 55 _ _ rfl w2.heap.size zs rfl rfl _ _ y9_3 (by rw [Z7.out]; kernel_rfl) (by rw [Z7.out]; rfl) O7.out ?_
            refine hK11.out _ _ (hS3.setRow nXY nLY gY _) (fun hSa => ?_)
            try simp only [Act.put, List.getElem_toArray, List.getElem_cons_zero, List.getElem_cons_succ, List.setIfInBounds_toArray, List.set_cons_zero, List.set_cons_succ]
            have ya := setRow_heap _ _ _ zs _ _ y9_3
            have yb := setRow_row (g := w2.heap.size) (cs := zs) y10_3 (Ne.symm nYA)
            refine wpAnyH_ready (rs := [12]) (by kernel_rfl) (by simp) ?_
            refine AllReadyH.cons rfl (fun K12 hK12 => ?_) AllReadyH.nil
            refine wp_store_row 59 _ _ rfl w0.heap.size acc0 rfl rfl _ _ yb (by kernel_rfl) (by rfl) (by kernel_rfl) ?_
            refine hK12.out _ _ (hSa.setRow nXA nLA gA _) (fun hSb => ?_)
            try simp only [Act.put, List.getElem_toArray, List.getElem_cons_zero, List.getElem_cons_succ, List.setIfInBounds_toArray, List.set_cons_zero, List.set_cons_succ]
            have yc := setRow_row (g := w0.heap.size) (cs := acc0) ya nYA
            refine wpAnyH_done (by kernel_rfl) ?_ _
            generalize World.setRow (World.setRow _ _ _) _ _ = wf at hSb yc ⊢
            have HSb := Lib.hid hSb
            have HYc := Lib.hid yc
            clear hSa hSb yc ya yb
            go_upto_region 12 with (fail)
            refine wp_region_lit ?_
            refine wpList_load_row rfl 55 _ rfl w2.heap.size rfl _ zs (0, 0) _ HYc.out Tryd.underlying55 rfl (by rw [Z7.out]; kernel_rfl) ?_
            try simp only [Act.put, List.getElem_toArray, List.getElem_cons_zero, List.getElem_cons_succ, List.setIfInBounds_toArray, List.set_cons_zero, List.set_cons_succ]
            obtain ⟨cX, hcX, hcZ⟩ := HSb.out.r
            refine Go.wpList_store_rowTo rfl 55 _ _ rfl rfl X zs rfl rfl _ _ hcX (by rw [Z7.out]; kernel_rfl) (by rw [Z7.out]; exact hcZ) O7.out ?_
            try simp only [Act.put, List.getElem_toArray, List.getElem_cons_zero, List.getElem_cons_succ, List.setIfInBounds_toArray, List.set_cons_zero, List.set_cons_succ]
            have HSz : Hid (SumW w X L z (wf.setRow X zs)) := Lib.hid (by rw [HZZ.out]; exact HSb.out.put z)
            generalize wf.setRow X zs = wg at HSz ⊢
            clear hcX hcZ
            go_wp2
            go_roundw
            case rel => exact ⟨j + 1, m', a', z, by go_num, HJ.out, HSz.out⟩
            case measure => simp [intOf]; omega
        · refine wp_runK (.pointer (some ⟨w1.heap.size, 0, none⟩)) (w1.alloc (.cells Z42 55)) (by kernel_rfl) ?_
          have y9_2 := heap_alloc_new w1 (.cells Z42 55)
          have b9_2 : Below w1.heap.size w1 (w1.alloc (.cells Z42 55)) := (Below.refl _ _).alloc (Nat.le_refl _) _
          have l9_2 := hS1.lx
          have m9_2 := hS1.ll
          have s9_2 := hS1.b.size
          refine hK1_9.out _ _ (hS1.below b9_2) (fun hS2 => ?_)
          try simp only [Act.put, List.getElem_toArray, List.getElem_cons_zero, List.getElem_cons_succ, List.setIfInBounds_toArray, List.set_cons_zero, List.set_cons_succ]
          have y10_2 := row_alloc y10_1 (.cells Z42 55)
          have d10_2 := heap_lt y10_1
          generalize hw2 : w1.alloc (.cells Z42 55) = w2 at *
          clear hw2
          refine wpAnyH_ready (rs := [5]) (by kernel_rfl) (by simp) ?_
          refine AllReadyH.cons rfl (fun K2_5 hK2_5 => ?_) AllReadyH.nil
          · go_simp
            go_at_call 26
            refine (DO.out _ (HTT.out.below hS2.b)).mono ?_
            rintro e w3 ⟨rfl, hb3⟩
            refine hK2_5.out _ _ (hS2.below hb3) (fun hS3 => ?_)
            try simp only [Act.put, List.getElem_toArray, List.getElem_cons_zero, List.getElem_cons_succ, List.setIfInBounds_toArray, List.set_cons_zero, List.set_cons_succ]
            have y10_3 := (hb3.block _ (heap_lt y10_2)).trans y10_2
            have y9_3 := (hb3.block _ (heap_lt y9_2)).trans y9_2
            refine wpAnyH_take (i := 6) (v := .tuple #[.agg zs, .agg acc0]) rfl (by kernel_rfl) (by kernel_rfl) (by kernel_rfl) (fun _ _ _ h => h) (Or.inl ⟨by rfl, ?_⟩) (by assumption) ?_
            · (intro w hSw; go_simp; try with_reducible rfl)
            try simp only [Act.put, List.getElem_toArray, List.getElem_cons_zero, List.getElem_cons_succ, List.setIfInBounds_toArray, List.set_cons_zero, List.set_cons_succ]
            refine wpAnyH_take (i := 7) (v := .agg zs) rfl (by kernel_rfl) (by kernel_rfl) (by kernel_rfl) (fun _ _ _ h => h) (Or.inl ⟨by rfl, ?_⟩) (by assumption) ?_
            · (intro w hSw; go_simp; try with_reducible rfl)
            try simp only [Act.put, List.getElem_toArray, List.getElem_cons_zero, List.getElem_cons_succ, List.setIfInBounds_toArray, List.set_cons_zero, List.set_cons_succ]
            refine wpAnyH_take (i := 8) (v := .agg acc0) rfl (by kernel_rfl) (by kernel_rfl) (by kernel_rfl) (fun _ _ _ h => h) (Or.inl ⟨by rfl, ?_⟩) (by assumption) ?_
            · (intro w hSw; go_simp; try with_reducible rfl)
            try simp only [Act.put, List.getElem_toArray, List.getElem_cons_zero, List.getElem_cons_succ, List.setIfInBounds_toArray, List.set_cons_zero, List.set_cons_succ]
            clear hb3
            have nXY : X ≠ w1.heap.size := by omega
            have nLY : L ≠ w1.heap.size := by omega
            have nXA : X ≠ w0.heap.size := by omega
            have nLA : L ≠ w0.heap.size := by omega
            have nYA : w1.heap.size ≠ w0.heap.size := by omega
            have gY : w.heap.size ≤ w1.heap.size := by omega
            have gA : w.heap.size ≤ w0.heap.size := by omega
            refine wpAnyH_ready (rs := [11]) (by kernel_rfl) (by simp) ?_
            refine AllReadyH.cons rfl (fun K11 hK11 => ?_) AllReadyH.nil
            refine wp_store_row 55 _ _ rfl w1.heap.size zs rfl rfl _ _ y9_3 (by rw [Z7.out]; kernel_rfl) (by rw [Z7.out]; rfl) O7.out ?_
            refine hK11.out _ _ (hS3.setRow nXY nLY gY _) (fun hSa => ?_)
            try simp only [Act.put, List.getElem_toArray, List.getElem_cons_zero, List.getElem_cons_succ, List.setIfInBounds_toArray, List.set_cons_zero, List.set_cons_succ]
            have ya := setRow_heap _ _ _ zs _ _ y9_3
            have yb := setRow_row (g := w1.heap.size) (cs := zs) y10_3 (Ne.symm nYA)
            refine wpAnyH_ready (rs := [12]) (by kernel_rfl) (by simp) ?_
            refine AllReadyH.cons rfl (fun K12 hK12 => ?_) AllReadyH.nil
            refine wp_store_row 59 _ _ rfl w0.heap.size acc0 rfl rfl _ _ yb (by kernel_rfl) (by rfl) (by kernel_rfl) ?_
            refine hK12.out _ _ (hSa.setRow nXA nLA gA _) (fun hSb => ?_)
            try simp only [Act.put, List.getElem_toArray, List.getElem_cons_zero, List.getElem_cons_succ, List.setIfInBounds_toArray, List.set_cons_zero, List.set_cons_succ]
            have yc := setRow_row (g := w0.heap.size) (cs := acc0) ya nYA
            refine wpAnyH_done (by kernel_rfl) ?_ _
            generalize World.setRow (World.setRow _ _ _) _ _ = wf at hSb yc ⊢
            have HSb := Lib.hid hSb
            have HYc := Lib.hid yc
            clear hSa hSb yc ya yb
            go_upto_region 12 with (fail)
            refine wp_region_lit ?_
            refine wpList_load_row rfl 55 _ rfl w1.heap.size rfl _ zs (0, 0) _ HYc.out Tryd.underlying55 rfl (by rw [Z7.out]; kernel_rfl) ?_
            try simp only [Act.put, List.getElem_toArray, List.getElem_cons_zero, List.getElem_cons_succ, List.setIfInBounds_toArray, List.set_cons_zero, List.set_cons_succ]
            obtain ⟨cX, hcX, hcZ⟩ := HSb.out.r
            refine Go.wpList_store_rowTo rfl 55 _ _ rfl rfl X zs rfl rfl _ _ hcX (by rw [Z7.out]; kernel_rfl) (by rw [Z7.out]; exact hcZ) O7.out ?_
            try simp only [Act.put, List.getElem_toArray, List.getElem_cons_zero, List.getElem_cons_succ, List.setIfInBounds_toArray, List.set_cons_zero, List.set_cons_succ]
            have HSz : Hid (SumW w X L z (wf.setRow X zs)) := Lib.hid (by rw [HZZ.out]; exact HSb.out.put z)
            generalize wf.setRow X zs = wg at HSz ⊢
            clear hcX hcZ
            go_wp2
            go_roundw
            case rel => exact ⟨j + 1, m', a', z, by go_num, HJ.out, HSz.out⟩
            case measure => simp [intOf]; omega

theorem hartSums_walk (n : Int) (_ : -9223372036854775808 ≤ n) (_ : n < 9223372036854775808) (w : World) (hT : TabW w) : Calls Tryd.prog 6 #[.int .i64 n] w fun e w' => e = .returned (.bool true) ∧ Below w.heap.size w w' := by
  have h0 : 0 ≤ n % 18446744073709551616 := Int.emod_nonneg _ (by decide)
  have h1 := Int.emod_nonneg (n % 18446744073709551616) (show (60 : Int) ≠ 0 by decide)
  have h2 := Int.emod_lt_of_pos (n % 18446744073709551616) (show (0 : Int) < 60 by decide)
  refine sums_h n _ (n % 18446744073709551616 % 60).toNat rfl (by omega) ?_ w hT
  rw [Go.IntKind.wrap_u64, Int.tmod_eq_emod_of_nonneg h0, Go.IntKind.wrap_u32]
  omega

end Go.Proofs.YtoincdfijeipjaaDoor
