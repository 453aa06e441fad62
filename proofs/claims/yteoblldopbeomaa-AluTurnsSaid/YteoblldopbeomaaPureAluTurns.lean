/- Proved: AluTurns, for every two words: what is added is taken away again, what is moved higher and lower again has its low bits, of each two contrary conditions one holds. No condition. -/
import Derived.Test.YteoblldopbeomaaPAluTurnsx2
import Derived.Laws.BitsAllLaws
import Derived.OpenShut
namespace Go.Proofs.Yteoblldopbeomaa.Pure
open Go.RowKit Go.Proofs.Yteoblldopbeomaa.PAluTurns Go.Proofs.YteoblldopbeomaaW.PrintWords Go.Proofs.YteoblldopbeomaaW.PrintLast Go.Proofs.YteoblldopbeomaaW.PrintMore
set_option linter.unusedVariables false

theorem tu_sure : pinnacelaw02_sure.f 36 = some true := by decide +kernel
theorem do_add (k : Nat) (a b : Int) : alu_Do.f (k + 1) 0 a b = some ((a + b) % 4294967296, none) := by
  simp [alu_Do.f, alu_Do.j0, alu_plain.f]
theorem do_sub (k : Nat) (a b : Int) : alu_Do.f (k + 1) 1 a b = some ((a - b) % 4294967296, none) := by
  simp [alu_Do.f, alu_Do.j0, alu_plain.f]
theorem do_sll (k : Nat) (a b : Int) (h : 0 ≤ Go.bits .and .u32 b 31) : alu_Do.f (k + 1) 2 a b = some (shl .u32 a (Go.bits .and .u32 b 31), none) := by
  simp [alu_Do.f, alu_Do.j0, alu_plain.f, h]
theorem do_srl (k : Nat) (a b : Int) (h : 0 ≤ Go.bits .and .u32 b 31) : alu_Do.f (k + 1) 6 a b = some (shr .u32 a (Go.bits .and .u32 b 31), none) := by
  simp [alu_Do.f, alu_Do.j0, alu_plain.f, h]
theorem holds0 (k : Nat) (a b : Int) : alu_Holds.f (k + 2) 0 a b = some (a == b, none) := by
  simp [alu_Holds.f, alu_Holds.j0, alu_Holds.j1]
theorem holds1 (k : Nat) (a b : Int) : alu_Holds.f (k + 2) 1 a b = some (!(a == b), none) := by
  simp [alu_Holds.f, alu_Holds.j0, alu_Holds.j1]
theorem holds2 (k : Nat) (a b : Int) : alu_Holds.f (k + 2) 2 a b = some (decide (wrap32 a < wrap32 b), none) := by
  simp [alu_Holds.f, alu_Holds.j0, alu_Holds.j1]
theorem holds3 (k : Nat) (a b : Int) : alu_Holds.f (k + 2) 3 a b = some (!decide (wrap32 a < wrap32 b), none) := by
  simp [alu_Holds.f, alu_Holds.j0, alu_Holds.j1]
theorem holds4 (k : Nat) (a b : Int) : alu_Holds.f (k + 2) 4 a b = some (decide (a < b), none) := by
  simp [alu_Holds.f, alu_Holds.j0, alu_Holds.j1]
theorem holds5 (k : Nat) (a b : Int) : alu_Holds.f (k + 2) 5 a b = some (!decide (a < b), none) := by
  simp [alu_Holds.f, alu_Holds.j0, alu_Holds.j1]

theorem turns_loop_k (m : Nat) (hs : pinnacelaw02_sure.f (m + 3) = some true) (a b : Int) : pinnacelaw02_AluTurns.l0 (m + 7) a b 0 = some true := by
  have w1 : wrap64 (0 + 1) = 1 := by decide +kernel
  have w2 : wrap64 (0 + 2) = 2 := by decide +kernel
  have w3 : wrap64 (2 + 1) = 3 := by decide +kernel
  have w4 : wrap64 (2 + 2) = 4 := by decide +kernel
  have w5 : wrap64 (4 + 1) = 5 := by decide +kernel
  have w6 : wrap64 (4 + 2) = 6 := by decide +kernel
  have e : pinnacelaw02_AluTurns.l0 (m + 4) a b 6 = some true := by
    simp only [pinnacelaw02_AluTurns.l0]; rw [if_neg (by decide), hs]; rfl
  have e4 : pinnacelaw02_AluTurns.l0 (m + 5) a b 4 = some true := by
    rw [pinnacelaw02_AluTurns.l0]; rw [if_pos (by decide), w5, w6, holds4 (m + 2), holds5 (m + 2)]
    cases h : decide (a < b) <;> simpa using e
  have e2 : pinnacelaw02_AluTurns.l0 (m + 6) a b 2 = some true := by
    rw [pinnacelaw02_AluTurns.l0]; rw [if_pos (by decide), w3, w4, holds2 (m + 3), holds3 (m + 3)]
    cases h : decide (wrap32 a < wrap32 b) <;> simpa using e4
  rw [pinnacelaw02_AluTurns.l0]; rw [if_pos (by decide), w1, w2, holds0 (m + 4), holds1 (m + 4)]
  cases h : (a == b) <;> simpa using e2
theorem turns_loop (a b : Int) : pinnacelaw02_AluTurns.l0 40 a b 0 = some true := turns_loop_k 33 tu_sure a b

theorem AluTurns : pinnacelaw02_AluTurns.Pure := by
  intro a b wa wb
  obtain ⟨ha0, ha⟩ := bounds_u32 wa
  obtain ⟨hb0, hb⟩ := bounds_u32 wb
  have hn : 0 ≤ Go.bits .and .u32 b 31 := by rw [Go.u32_and b 31 hb0 (by omega) (by omega) (by omega)]; exact Int.natCast_nonneg _
  refine ⟨41, ?_⟩
  unfold pinnacelaw02_AluTurns.f
  rw [do_add 40]; simp only [Option.bind_some]
  rw [do_sub 40]; simp only [Option.bind_some]
  rw [do_sll 40 _ _ hn]; simp only [Option.bind_some]
  rw [do_srl 40 _ _ hn]; simp only [Option.bind_some]
  simp only [Option.isNone_none, if_true]
  rw [if_pos (by omega), if_pos hn, bne_self_eq_false]
  rw [pinnacelaw02_AluTurns.j0, if_neg (by decide)]
  exact turns_loop a b

end Go.Proofs.Yteoblldopbeomaa.Pure
