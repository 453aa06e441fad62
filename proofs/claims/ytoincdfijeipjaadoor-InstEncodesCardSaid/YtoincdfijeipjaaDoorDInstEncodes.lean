/- Proved: InstEncodes, for every instruction: the program's check and its word are the reference's, or the error. No condition but the tie of errors.errorType, inst.names and inst.words. -/
import Derived.Test.YtoincdfijeipjaaDoorRows
import Derived.Test.YtoincdfijeipjaaDoorTie
import Derived.Test.YtoincdfijeipjaaDoorCards
import Derived.Test.YtoincdfijeipjaaDoorREncW
import Derived.Test.YtoincdfijeipjaaDoorRowK
import Derived.WalkKit
import Derived.ProofKit
import Derived.OpenShut
import Derived.ShutString
import Derived.ChangeOld
import Derived.Below
import Derived.SizedLaws
import Derived.ChangeSame
import Derived.ChangeVars
import Derived.JoinedOf
import Derived.RowKit
import Derived.RowKitTokens
import Derived.LaidLaws
import Derived.LaidHandle
import Derived.Stop.Joined
import Derived.SevenTiedAt
namespace Go.Proofs.YtoincdfijeipjaaDoor
open Go.RowKit
set_option maxRecDepth 100000
set_option linter.unusedVariables false
set_option linter.unusedSimpArgs false

namespace instEncodes
open Go.ChangeShapes Go.WideShapes Go.ChangeAt Go.RowKit
theorem laidOut : laidOutB Tryd.prog = true := by kernel_rfl
set_option maxRecDepth 100000 in
set_option maxHeartbeats 1000000 in
theorem lifted (os : Os) (started : os.Started) (H : Type) (enc : TypeId × Value → H) :
    ReturnsInHanded {} Tryd.checked os 4 .any (fun w args => (Rows.instEncodesSpec.pre enc Tryd.prog Tryd.f4 [] false w args ∧ laidMetH Tryd.prog [("errors.errorType", Rows.laid_errors_errorType), ("pinnace/inst.names", Rows.laid_pinnace_inst_names), ("pinnace/inst.words", Rows.laid_pinnace_inst_words)] w) ∧ sizedMet enc Tryd.prog Tryd.f4 (OpenSpec.ofChange Rows.instEncodesSpec) false w args) (Rows.instEncodesSpec.post enc Tryd.prog Tryd.f4 false true false false) := by
  refine returnsInHanded_of_change_and (C := Tryd.checked) (X := fun w _ => laidMetH Tryd.prog [("errors.errorType", Rows.laid_errors_errorType), ("pinnace/inst.names", Rows.laid_pinnace_inst_names), ("pinnace/inst.words", Rows.laid_pinnace_inst_words)] w) (fun _ _ _ hh h => h.of_heap hh) door_own started (by kernel_rfl) Tryd.func4
    (ChangeSpec.witness_at (enc := enc) (C := Tryd.checked) (os := os) (X := fun w _ => laidMetH Tryd.prog [("errors.errorType", Rows.laid_errors_errorType), ("pinnace/inst.names", Rows.laid_pinnace_inst_names), ("pinnace/inst.words", Rows.laid_pinnace_inst_words)] w) false (laidWorldI os) #[.agg #[.int .i64 0, .int .i64 0, .int .i64 0, .int .i64 0, .int .i64 0, .int .i64 0]] 8 rfl (by kernel_rfl) (by kernel_rfl) (by kernel_rfl) (by kernel_rfl) (by kernel_rfl) (laidWorldI_met3 os _)) ?_
  intro W base args ds gs before hval0 hW hcnd hsz0 hL _
  obtain ⟨hT, hN, hg⟩ := tabs_of_laid3 hL
  have hval : ∀ (j : Nat) t v, Tryd.f4.params[j]? = some t → args[j]? = some v → Value.okWide Tryd.prog W .any base t v := hval0
  have hW' := hW
  obtain ⟨p, q, hA0, hV, rfl, hfz, hnd⟩ := hW
  have hA : DataW.TrodAll enc Tryd.prog W 0 (fun _ => true) true Tryd.f4.params.toList args.toList ds p := hA0
  rw [Tryd.params4] at hA hval
  obtain ⟨v0, vs0, d0, ds0, p0, q0, hargs, rfl, rfl, h0, r0⟩ := trodAll_cons hA
  obtain ⟨rfl, rfl, rfl⟩ := trodAll_nil r0
  obtain rfl : args = #[v0] := by cases args; simp_all
  obtain ⟨rfl, rfl⟩ := trodVars_none hV
  have hlt : ∀ x ∈ p0 ++ [], x.block < W.heap.size := fun x hx => hW'.lt x (by simpa using hx)
  obtain ⟨c0, rfl, f0_0⟩ := open_leaves (ls := [.i .i64, .i .i64, .i .i64, .i .i64, .i .i64, .i .i64]) Tryd.underlying29 rfl (by kernel_rfl) (by kernel_rfl) (by simp) (hval 0 29 v0 rfl rfl)
  obtain ⟨_, _, rfl, g0_0, f0_1⟩ := f0_0.cons_inv
  obtain ⟨x0_0, rfl, wl0_0, wh0_0⟩ := g0_0
  replace wl0_0 : -9223372036854775808 ≤ x0_0 := by have := wl0_0; simp [IntKind.min, IntKind.signed, IntKind.bits] at this; omega
  replace wh0_0 : x0_0 < 9223372036854775808 := by have := wh0_0; simp [IntKind.max, IntKind.signed, IntKind.bits] at this; omega
  obtain ⟨_, _, rfl, g0_1, f0_2⟩ := f0_1.cons_inv
  obtain ⟨x0_1, rfl, wl0_1, wh0_1⟩ := g0_1
  replace wl0_1 : -9223372036854775808 ≤ x0_1 := by have := wl0_1; simp [IntKind.min, IntKind.signed, IntKind.bits] at this; omega
  replace wh0_1 : x0_1 < 9223372036854775808 := by have := wh0_1; simp [IntKind.max, IntKind.signed, IntKind.bits] at this; omega
  obtain ⟨_, _, rfl, g0_2, f0_3⟩ := f0_2.cons_inv
  obtain ⟨x0_2, rfl, wl0_2, wh0_2⟩ := g0_2
  replace wl0_2 : -9223372036854775808 ≤ x0_2 := by have := wl0_2; simp [IntKind.min, IntKind.signed, IntKind.bits] at this; omega
  replace wh0_2 : x0_2 < 9223372036854775808 := by have := wh0_2; simp [IntKind.max, IntKind.signed, IntKind.bits] at this; omega
  obtain ⟨_, _, rfl, g0_3, f0_4⟩ := f0_3.cons_inv
  obtain ⟨x0_3, rfl, wl0_3, wh0_3⟩ := g0_3
  replace wl0_3 : -9223372036854775808 ≤ x0_3 := by have := wl0_3; simp [IntKind.min, IntKind.signed, IntKind.bits] at this; omega
  replace wh0_3 : x0_3 < 9223372036854775808 := by have := wh0_3; simp [IntKind.max, IntKind.signed, IntKind.bits] at this; omega
  obtain ⟨_, _, rfl, g0_4, f0_5⟩ := f0_4.cons_inv
  obtain ⟨x0_4, rfl, wl0_4, wh0_4⟩ := g0_4
  replace wl0_4 : -9223372036854775808 ≤ x0_4 := by have := wl0_4; simp [IntKind.min, IntKind.signed, IntKind.bits] at this; omega
  replace wh0_4 : x0_4 < 9223372036854775808 := by have := wh0_4; simp [IntKind.max, IntKind.signed, IntKind.bits] at this; omega
  obtain ⟨_, _, rfl, g0_5, f0_6⟩ := f0_5.cons_inv
  obtain ⟨x0_5, rfl, wl0_5, wh0_5⟩ := g0_5
  replace wl0_5 : -9223372036854775808 ≤ x0_5 := by have := wl0_5; simp [IntKind.min, IntKind.signed, IntKind.bits] at this; omega
  replace wh0_5 : x0_5 < 9223372036854775808 := by have := wh0_5; simp [IntKind.max, IntKind.signed, IntKind.bits] at this; omega
  obtain rfl := f0_6.nil_inv
  clear hA0 hval0 hsz0 hL
  refine (instEncodes_walk x0_0 x0_1 x0_2 x0_3 x0_4 x0_5 wl0_0 wh0_0 wl0_1 wh0_1 wl0_2 wh0_2 wl0_3 wh0_3 wl0_4 wh0_4 wl0_5 wh0_5 W  hT hN hg).mono fun e W' ⟨he, bel⟩ => ?_
  subst he
  exact ⟨_, rfl, _, _, _, [], _, [], hW', trodAll_mk1 (shut_bool Tryd.underlying4 _), (trodAll_cons_mk (Below.trod laidOut (by kernel_rfl) (of_decide_eq_true (by kernel_rfl)) h0 bel (fun x hx => hlt x (by simp [hx]))) trodAll_mk0), rfl, bel.frame _, fun h => by cases h⟩
theorem over : Rows.instEncodesRow.holds Tryd.pinned (OpenSpec.ofChange Rows.instEncodesSpec) :=
  OpenClaim.holds_of_wide 4 Tryd.f4 rfl rfl rfl rfl rfl rfl rfl ⟨rfl, rfl, rfl, rfl, rfl⟩ rfl rfl rfl rfl rfl (by kernel_rfl) Tryd.func4 (by kernel_rfl)
    (of_decide_eq_true (by kernel_rfl)) (by unfold Func.isWrapper; first | (rw [if_pos (by decide +kernel)]; kernel_rfl) | (rw [if_neg (by decide +kernel)]; exact ⟨rfl, rfl⟩))
    (fun os started H enc _ => lifted os started H enc)
theorem card_holds : Rows.InstEncodesCardSaid :=
  Claim7.holds_tied_plain_at .later [] [.handle, .data, .data] true (true, "dd57940dd91b9d9f73e595a9ea1a2934b56c0259c63cea98096f2b4b103f8b8a") true
    over (fun _ h => by cases h) (by kernel_rfl) (fun _ h => by cases h) instEncodes_row_tie rfl ⟨rfl, rfl⟩ (by kernel_rfl) rfl
    (fun f fn hf hfn => by
      obtain rfl : f = 4 := Option.some.inj ((show Tryd.prog.funcNamed Rows.instEncodesRow.func = some 4 by kernel_rfl).symm.trans hf) |>.symm
      obtain rfl : fn = Tryd.f4 := (Option.some.inj (Tryd.func4.symm.trans hfn)).symm
      exact ⟨by kernel_rfl, fun j t ht => by
        rw [Tryd.params4] at ht
        rcases j with _ | j
        · obtain rfl : 29 = t := by simpa using ht
          kernel_rfl
        · simp at ht⟩)
    (by kernel_rfl)
end instEncodes
/-- The card. -/
theorem instEncodes_holds : Rows.InstEncodesCardSaid := instEncodes.card_holds
#print axioms instEncodes_holds

end Go.Proofs.YtoincdfijeipjaaDoor
