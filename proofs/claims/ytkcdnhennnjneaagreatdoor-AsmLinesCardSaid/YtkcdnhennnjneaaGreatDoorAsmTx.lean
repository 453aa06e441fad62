import Derived.Test.YtkcdnhennnjneaaGreatDoorRefE
import Derived.Test.YtkcdnhennnjneaaGreatDoorAsmB
import Derived.Test.YtkcdnhennnjneaaGreatDoorAsD
import Derived.Below
import Derived.Deep.Draws
import Derived.Deep.AppendLies
import Derived.Maps.AppendAt
import Derived.OwnWalk
import Derived.Laws.BytesArg
import Derived.Laws.MakeOwn
import Derived.Laws.OwnMore
import Derived.Deep.OwnRows
import Derived.Tactics
import Derived.Lib.ConvBytes
import Derived.Laws.Slices
import Derived.WalkKit
import Derived.KernelRfl
import Derived.RowKit3
import Derived.Deep.LoopGhost
import Derived.Deep.QuietTactic
import Derived.BigQuiet
import Derived.WideLaws
import Derived.Deep.DeepCutAuto
import Derived.Deep.CutBlock
import Derived.Deep.RegionHeld3
import Derived.Laws.Rows
import Derived.Lib.AppendStr
import Derived.ArgAppend
import Derived.Laws.IdiomCopy
import Derived.OrdersHeld
import Derived.Laws.BitsLemmas
import Derived.RowKit
import Derived.Lib.Hide
import Derived.Laws.BitsAllLaws
import Derived.WalkLawsBesides
import Derived.WalkSpells
import Derived.LaidEql
namespace Go.Proofs.YtkcdnhennnjneaaGreatDoor
open Go.RowKit
set_option maxRecDepth 100000
set_option linter.unusedVariables false
set_option linter.unusedSimpArgs false

theorem num_nil (w : World) : Calls Tryz.prog 13 #[.nilIface] w fun e w' => e = .returned (.int .i64 0) ∧ Below w.heap.size w w' := by
  go_enter Tryz.func13, Tryz.ntmps13
  go_wp2
  go_ret
  exact ⟨rfl, (Below.refl _ _).alloc (Nat.le_refl _) _⟩
set_option maxHeartbeats 1000000 in
theorem num_err (n : Int) (w : World) (hg : w.cell? ⟨0, 0, none⟩ = some errTy) : Calls Tryz.prog 13 #[.iface 56 (.int .i64 n)] w fun e w' => e = .returned (.int .i64 n) ∧ Below w.heap.size w w' := by
  have hgA : (w.alloc (.cells #[.int .i64 0] 56)).cell? ⟨0, 0, none⟩ = some errTy := by
    rw [World.cell?_alloc_lt _ _ ⟨0, 0, none⟩ (block_lt_of_cell hg)]; exact hg
  have htA : (w.alloc (.cells #[.int .i64 0] 56)).cell? ⟨w.heap.size, 0, none⟩ = some (.int .i64 0) := by simp
  have hfA : (w.alloc (.cells #[.int .i64 0] 56)).frozen? ⟨w.heap.size, 0, none⟩ = false := by simp
  have A := Lib.hid (as_hit n ⟨w.heap.size, 0, none⟩ (.int .i64 0) _ hgA htA hfA)
  clear hgA htA hfA hg
  go_enter Tryz.func13, Tryz.ntmps13
  go_wp2_with (go_at_call 34; refine A.out.mono ?_; rintro e w' ⟨rfl, rfl⟩)
  go_ret
  refine ⟨rfl, ?_⟩
  repeat' (first | (with_reducible exact Below.refl _ _) | (with_reducible refine Below.setCell ?_ ?_ _) | (with_reducible refine Below.alloc ?_ ?_ _) | (simp; done) | (simp; omega))
/-- an error's number, whatever the error -/
theorem num_any (n : Int) (w : World) (hg : w.cell? ⟨0, 0, none⟩ = some errTy) : Calls Tryz.prog 13 #[errV n] w fun e w' => e = .returned (.int .i64 n) ∧ Below w.heap.size w w' := by
  by_cases h : n = 0
  · subst h; exact num_nil w
  · have hE : errV n = .iface 56 (.int .i64 n) := by unfold errV; rw [if_neg h]
    rw [hE]; exact num_err n w hg

set_option maxHeartbeats 2000000 in
theorem asmTexts_gen (op rd r1 r2 imm cs : Int) (T : ByteArray) (n : Int) (w : World) (E : Env w.heap.size w) (hg : w.cell? ⟨0, 0, none⟩ = some errTy)
    (hTA : ∀ w', Env w.heap.size w' → Calls Tryz.prog 14 #[.agg #[.int .i64 op, .int .i64 rd, .int .i64 r1, .int .i64 r2, .int .i64 imm, .int .i64 cs]] w' fun e w2 => e = .returned (.tuple #[.string T, errV n]) ∧ Below w'.heap.size w' w2)
    (hTR : ∀ w', Calls Tryz.prog 15 #[.agg #[.int .i64 op, .int .i64 rd, .int .i64 r1, .int .i64 r2, .int .i64 imm, .int .i64 cs]] w' fun e w2 => e = .returned (.tuple #[.string T, .int .i64 n]) ∧ Below w'.heap.size w' w2) :
    Calls Tryz.prog 4 #[.agg #[.int .i64 op, .int .i64 rd, .int .i64 r1, .int .i64 r2, .int .i64 imm, .int .i64 cs]] w fun e w' => e = .returned (.bool true) ∧ Below w.heap.size w w' := by
  have SU := Lib.hid (fun w' (E : Env w.heap.size w') => asure_any w' E)
  have NU := Lib.hid (fun w' hg => num_any n w' hg)
  have TA := Lib.hid hTA
  have TR := Lib.hid hTR
  have HE := Lib.hid E
  have hgl := block_lt_of_cell hg
  have HG := Lib.hid (fun w' (hb : Below w.heap.size w w') => (hb.cell (p := ⟨0, 0, none⟩) hgl).trans hg)
  have T0 := Lib.hid (TxC.new w op rd r1 r2 imm cs)
  generalize errV n = ev at *
  clear hg hgl E hTA hTR
  go_enter Tryz.func4, Tryz.ntmps4
  go_upto_region 1 with (fail)
  generalize hw0 : World.alloc w _ = w0 at *
  obtain ⟨X, hX⟩ : ∃ X, X = w.heap.size := ⟨_, rfl⟩
  have T0' := T0.out
  rw [← hX] at T0' ⊢
  have HXS := Lib.hid hX
  clear T0
  have T0 := Lib.hid T0'
  obtain ⟨c0, c1, c2, c3, c4, c5, _, b0⟩ := T0'
  have E0 := Lib.hid (HE.out.below b0)
  clear hw0 b0 hX
  go_upto_region 2 with (go_at_call 14; refine (TA.out _ E0.out).mono ?_; rintro e w1 ⟨rfl, hb⟩; have T1 := Lib.hid (T0.out.below hb); clear hb c0 c1 c2 c3 c4 c5)
  obtain ⟨c0, c1, c2, c3, c4, c5, _, _⟩ := T1.out
  go_wp2_with (first | (go_at_call 15; refine (TR.out _).mono ?_; rintro e w2 ⟨rfl, hb⟩; have T2 := Lib.hid (T1.out.below hb).2.2.2.2.2.2.2; have G2 := Lib.hid (HG.out _ T2.out); clear hb c0 c1 c2 c3 c4 c5) | (go_at_call 13; refine (NU.out _ G2.out).mono ?_; rintro e w3 ⟨rfl, hb⟩; have T3 := Lib.hid (T2.out.trans (hb.mono T2.out.size)); have E3 := Lib.hid (HE.out.below T3.out); clear hb) | (go_at_call 9; refine (SU.out _ E3.out).mono ?_; rintro e w4 ⟨rfl, hb⟩; have T4 := Lib.hid (T3.out.trans (hb.mono T3.out.size)); clear hb))
  go_ret
  exact ⟨rfl, T4.out⟩
theorem asmTexts_walk (x0 x1 x2 x3 x4 x5 : Int) (_ : -9223372036854775808 ≤ x0) (_ : x0 < 9223372036854775808) (_ : -9223372036854775808 ≤ x1) (_ : x1 < 9223372036854775808) (_ : -9223372036854775808 ≤ x2) (_ : x2 < 9223372036854775808) (_ : -9223372036854775808 ≤ x3) (_ : x3 < 9223372036854775808) (_ : -9223372036854775808 ≤ x4) (_ : x4 < 9223372036854775808) (_ : -9223372036854775808 ≤ x5) (_ : x5 < 9223372036854775808) (w : World) (E : Env w.heap.size w) (hg : w.cell? ⟨0, 0, none⟩ = some errTy) :
    Calls Tryz.prog 4 #[.agg #[.int .i64 x0, .int .i64 x1, .int .i64 x2, .int .i64 x3, .int .i64 x4, .int .i64 x5]] w fun e w' => e = .returned (.bool true) ∧ Below w.heap.size w w' := by
  by_cases hc : Can x0 x1 x2 x3 x4 x5
  · exact asmTexts_gen x0 x1 x2 x3 x4 x5 (bs (textT ⟨x0, x1, x2, x3, x4, x5⟩)) 0 w E hg (fun w' E' => atext_yes ⟨x0, x1, x2, x3, x4, x5⟩ hc w' E') (fun w' => rtext_yes ⟨x0, x1, x2, x3, x4, x5⟩ hc w')
  · exact asmTexts_gen x0 x1 x2 x3 x4 x5 ⟨#[]⟩ 1 w E hg (fun w' E' => atext_no x0 x1 x2 x3 x4 x5 hc w' E') (fun w' => rtext_no x0 x1 x2 x3 x4 x5 hc w')

end Go.Proofs.YtkcdnhennnjneaaGreatDoor
