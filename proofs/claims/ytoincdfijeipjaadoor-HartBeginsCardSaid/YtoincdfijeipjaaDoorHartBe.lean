import Derived.Test.YtoincdfijeipjaaDoorHartBb
import Derived.Test.YtoincdfijeipjaaDoorHartBd
import Derived.Below
import Derived.Deep.Draws
import Derived.Deep.AppendLies
import Derived.Maps.AppendAt
import Derived.OwnWalk
import Derived.Laws.BytesArg
import Derived.Laws.MakeOwn
import Derived.Laws.OwnMore
import Derived.Deep.OwnRows
import Derived.Tactics
import Derived.Lib.ConvBytes
import Derived.Laws.Slices
import Derived.WalkKit
import Derived.KernelRfl
import Derived.RowKit3
import Derived.Deep.LoopGhost
import Derived.Deep.QuietTactic
import Derived.BigQuiet
import Derived.WideLaws
import Derived.Deep.DeepCutAuto
import Derived.Deep.CutBlock
import Derived.Deep.RegionHeld3
import Derived.Laws.Rows
import Derived.Lib.AppendStr
import Derived.ArgAppend
import Derived.Laws.IdiomCopy
import Derived.OrdersHeld
import Derived.Laws.BitsLemmas
import Derived.RowKit
import Derived.Lib.Hide
import Derived.Laws.BitsAllLaws
import Derived.WalkLawsBesides
import Derived.WalkSpells
import Derived.LaidEql
namespace Go.Proofs.YtoincdfijeipjaaDoor
open Go.RowKit
set_option maxRecDepth 100000
set_option linter.unusedVariables false
set_option linter.unusedSimpArgs false

theorem any_zero (h : HS) (ln : Nat) : anyB h ln = false ↔ ln &&& h.c.enable &&& 2184 = 0 := by
  unfold anyB
  constructor
  · intro hx
    simp only [Bool.or_eq_false_iff] at hx
    obtain ⟨⟨h3, h7⟩, h11⟩ := hx
    refine Nat.eq_of_testBit_eq fun j => ?_
    rw [Nat.testBit_and, Nat.testBit_and, tb_2184, Nat.zero_testBit]
    by_cases e3 : j = 3
    · subst e3; rw [h3]; rfl
    by_cases e7 : j = 7
    · subst e7; rw [h7]; rfl
    by_cases e11 : j = 11
    · subst e11; rw [h11]; rfl
    simp [e3, e7, e11]
  · intro hz
    have t : ∀ j, (ln.testBit j && h.c.enable.testBit j && (2184 : Nat).testBit j) = false := fun j => by rw [← Nat.testBit_and, ← Nat.testBit_and, hz]; simp
    have t3 := t 3
    have t7 := t 7
    have t11 := t 11
    rw [tb_2184] at t3 t7 t11
    generalize ln.testBit 3 = a3 at *
    generalize ln.testBit 7 = a7 at *
    generalize ln.testBit 11 = a11 at *
    generalize h.c.enable.testBit 3 = b3 at *
    generalize h.c.enable.testBit 7 = b7 at *
    generalize h.c.enable.testBit 11 = b11 at *
    clear t hz
    revert t3 t7 t11
    cases a3 <;> cases b3 <;> cases a7 <;> cases b7 <;> cases a11 <;> cases b11 <;> decide
theorem rbegin8_no (h : HS) (hk : h.ok) (ln : Nat) (hl : ln < 4294967296) (hs : stayB h ln = true) (w : World) : Calls Tryd.prog 34 #[.agg h.cells.toArray, .int .u32 ln] w fun e w' => e = .returned (.tuple #[.agg h.cells.toArray, .bool false]) ∧ Below w.heap.size w w' := by
  unfold stayB at hs
  simp only [Bool.and_eq_true, decide_eq_true_eq] at hs
  exact rbegin_n h hk ln hl hs.1 ((any_zero h ln).2 hs.2) w
theorem rbegin8_on (h : HS) (hk : h.ok) (ln : Nat) (hl : ln < 4294967296) (hs : stayB h ln = false) (w : World) : Calls Tryd.prog 34 #[.agg h.cells.toArray, .int .u32 ln] w fun e w' => e = .returned (.tuple #[.agg (beginH h ln).cells.toArray, .bool true]) ∧ Below w.heap.size w w' := by
  unfold stayB at hs
  unfold beginH
  by_cases hw : h.wait = true
  · have h0 : anyB h ln = true := by
      cases hb : anyB h ln with
      | true => rfl
      | false => have := (any_zero h ln).1 hb; simp [hw, this] at hs
    by_cases ha : asksS h.c ln = 0
    · rw [if_pos ha]; exact rbegin_wn h hk ln hl hw h0 ha w
    · rw [if_neg ha]; exact rbegin_wt h hk ln hl hw h0 ha w
  · have hw' : h.wait = false := by simpa using hw
    by_cases ha : asksS h.c ln = 0
    · rw [if_pos ha]; exact rbegin_rn h hk ln hl hw' ha w
    · rw [if_neg ha]; exact rbegin_rt h hk ln hl hw' ha w

end Go.Proofs.YtoincdfijeipjaaDoor
