/- Proved: CsrReads, for every state, place and all lines: the program reads what the reference reads, or has its error, and tells alike whether the state may be. No condition but the tie of errors.errorType. -/
import Derived.Test.YtgbpalclapcfeaaDoorRows
import Derived.Test.YtgbpalclapcfeaaDoorTie
import Derived.Test.YtgbpalclapcfeaaDoorCards
import Derived.Test.YtgbpalclapcfeaaDoorLawDR
import Derived.Test.YtgbpalclapcfeaaDoorRowK
import Derived.WalkKit
import Derived.ProofKit
import Derived.OpenShut
import Derived.ShutString
import Derived.ChangeOld
import Derived.Below
import Derived.SizedLaws
import Derived.ChangeSame
import Derived.ChangeVars
import Derived.JoinedOf
import Derived.RowKit
import Derived.RowKitTokens
import Derived.LaidLaws
import Derived.LaidHandle
import Derived.Stop.Joined
import Derived.SevenTiedAt
namespace Go.Proofs.YtgbpalclapcfeaaDoor
open Go.RowKit
set_option maxRecDepth 100000
set_option linter.unusedVariables false
set_option linter.unusedSimpArgs false

namespace csrReads
open Go.ChangeShapes Go.WideShapes Go.ChangeAt Go.RowKit
theorem laidOut : laidOutB Tryd.prog = true := by kernel_rfl
set_option maxRecDepth 100000 in
set_option maxHeartbeats 1000000 in
theorem lifted (os : Os) (started : os.Started) (H : Type) (enc : TypeId × Value → H) :
    ReturnsInHanded {} Tryd.checked os 8 .any (fun w args => (Rows.csrReadsSpec.pre enc Tryd.prog Tryd.f8 [] false w args ∧ laidMetH Tryd.prog [("errors.errorType", Rows.laid_errors_errorType)] w) ∧ sizedMet enc Tryd.prog Tryd.f8 (OpenSpec.ofChange Rows.csrReadsSpec) false w args) (Rows.csrReadsSpec.post enc Tryd.prog Tryd.f8 false true false false) := by
  refine returnsInHanded_of_change_and (C := Tryd.checked) (X := fun w _ => laidMetH Tryd.prog [("errors.errorType", Rows.laid_errors_errorType)] w) (fun _ _ _ hh h => h.of_heap hh) door_own started (by kernel_rfl) Tryd.func8
    (ChangeSpec.witness_at (enc := enc) (C := Tryd.checked) (os := os) (X := fun w _ => laidMetH Tryd.prog [("errors.errorType", Rows.laid_errors_errorType)] w) false (laidWorld os) #[.agg #[.int .u32 0, .int .u32 0, .int .u32 0, .int .u32 0, .int .u32 0, .int .u32 0, .int .u32 0, .int .u64 0], .int .i64 0, .int .u32 0] 8 rfl (by kernel_rfl) (by kernel_rfl) (by kernel_rfl) (by kernel_rfl) (by kernel_rfl) (laidWorld_met os _)) ?_
  intro W base args ds gs before hval0 hW hcnd hsz0 hL _
  have hg := handle_of_laid hL
  have hval : ∀ (j : Nat) t v, Tryd.f8.params[j]? = some t → args[j]? = some v → Value.okWide Tryd.prog W .any base t v := hval0
  have hW' := hW
  obtain ⟨p, q, hA0, hV, rfl, hfz, hnd⟩ := hW
  have hA : DataW.TrodAll enc Tryd.prog W 0 (fun _ => true) true Tryd.f8.params.toList args.toList ds p := hA0
  rw [Tryd.params8] at hA hval
  obtain ⟨v0, vs0, d0, ds0, p0, q0, hargs, rfl, rfl, h0, r0⟩ := trodAll_cons hA
  obtain ⟨v1, vs1, d1, ds1, p1, q1, rfl, rfl, rfl, h1, r1⟩ := trodAll_cons r0
  obtain ⟨v2, vs2, d2, ds2, p2, q2, rfl, rfl, rfl, h2, r2⟩ := trodAll_cons r1
  obtain ⟨rfl, rfl, rfl⟩ := trodAll_nil r2
  obtain rfl : args = #[v0, v1, v2] := by cases args; simp_all
  obtain ⟨rfl, rfl⟩ := trodVars_none hV
  have hlt : ∀ x ∈ p0 ++ p1 ++ p2 ++ [], x.block < W.heap.size := fun x hx => hW'.lt x (by simpa using hx)
  obtain ⟨c0, rfl, f0_0⟩ := open_leaves (ls := [.i .u32, .i .u32, .i .u32, .i .u32, .i .u32, .i .u32, .i .u32, .i .u64]) Tryd.underlying52 rfl (by kernel_rfl) (by kernel_rfl) (by simp) (hval 0 52 v0 rfl rfl)
  obtain ⟨_, _, rfl, g0_0, f0_1⟩ := f0_0.cons_inv
  obtain ⟨x0_0, rfl, wl0_0, wh0_0⟩ := g0_0
  obtain ⟨x0_0, rfl⟩ := Int.eq_ofNat_of_zero_le (show 0 ≤ x0_0 from wl0_0)
  replace wh0_0 : x0_0 < 4294967296 := by have := wh0_0; simp [IntKind.max, IntKind.signed, IntKind.bits] at this; omega
  obtain ⟨_, _, rfl, g0_1, f0_2⟩ := f0_1.cons_inv
  obtain ⟨x0_1, rfl, wl0_1, wh0_1⟩ := g0_1
  obtain ⟨x0_1, rfl⟩ := Int.eq_ofNat_of_zero_le (show 0 ≤ x0_1 from wl0_1)
  replace wh0_1 : x0_1 < 4294967296 := by have := wh0_1; simp [IntKind.max, IntKind.signed, IntKind.bits] at this; omega
  obtain ⟨_, _, rfl, g0_2, f0_3⟩ := f0_2.cons_inv
  obtain ⟨x0_2, rfl, wl0_2, wh0_2⟩ := g0_2
  obtain ⟨x0_2, rfl⟩ := Int.eq_ofNat_of_zero_le (show 0 ≤ x0_2 from wl0_2)
  replace wh0_2 : x0_2 < 4294967296 := by have := wh0_2; simp [IntKind.max, IntKind.signed, IntKind.bits] at this; omega
  obtain ⟨_, _, rfl, g0_3, f0_4⟩ := f0_3.cons_inv
  obtain ⟨x0_3, rfl, wl0_3, wh0_3⟩ := g0_3
  obtain ⟨x0_3, rfl⟩ := Int.eq_ofNat_of_zero_le (show 0 ≤ x0_3 from wl0_3)
  replace wh0_3 : x0_3 < 4294967296 := by have := wh0_3; simp [IntKind.max, IntKind.signed, IntKind.bits] at this; omega
  obtain ⟨_, _, rfl, g0_4, f0_5⟩ := f0_4.cons_inv
  obtain ⟨x0_4, rfl, wl0_4, wh0_4⟩ := g0_4
  obtain ⟨x0_4, rfl⟩ := Int.eq_ofNat_of_zero_le (show 0 ≤ x0_4 from wl0_4)
  replace wh0_4 : x0_4 < 4294967296 := by have := wh0_4; simp [IntKind.max, IntKind.signed, IntKind.bits] at this; omega
  obtain ⟨_, _, rfl, g0_5, f0_6⟩ := f0_5.cons_inv
  obtain ⟨x0_5, rfl, wl0_5, wh0_5⟩ := g0_5
  obtain ⟨x0_5, rfl⟩ := Int.eq_ofNat_of_zero_le (show 0 ≤ x0_5 from wl0_5)
  replace wh0_5 : x0_5 < 4294967296 := by have := wh0_5; simp [IntKind.max, IntKind.signed, IntKind.bits] at this; omega
  obtain ⟨_, _, rfl, g0_6, f0_7⟩ := f0_6.cons_inv
  obtain ⟨x0_6, rfl, wl0_6, wh0_6⟩ := g0_6
  obtain ⟨x0_6, rfl⟩ := Int.eq_ofNat_of_zero_le (show 0 ≤ x0_6 from wl0_6)
  replace wh0_6 : x0_6 < 4294967296 := by have := wh0_6; simp [IntKind.max, IntKind.signed, IntKind.bits] at this; omega
  obtain ⟨_, _, rfl, g0_7, f0_8⟩ := f0_7.cons_inv
  obtain ⟨x0_7, rfl, wl0_7, wh0_7⟩ := g0_7
  obtain ⟨x0_7, rfl⟩ := Int.eq_ofNat_of_zero_le (show 0 ≤ x0_7 from wl0_7)
  replace wh0_7 : x0_7 < 18446744073709551616 := by have := wh0_7; simp [IntKind.max, IntKind.signed, IntKind.bits] at this; omega
  obtain rfl := f0_8.nil_inv
  obtain ⟨a1, rfl, wl1, wh1⟩ := openInt Tryd.underlying3 (hval 1 3 v1 rfl rfl)
  replace wl1 : -9223372036854775808 ≤ a1 := by have := wl1; simp [IntKind.min, IntKind.signed, IntKind.bits] at this; omega
  replace wh1 : a1 < 9223372036854775808 := by have := wh1; simp [IntKind.max, IntKind.signed, IntKind.bits] at this; omega
  obtain ⟨a2, rfl, wl2, wh2⟩ := openInt Tryd.underlying22 (hval 2 22 v2 rfl rfl)
  obtain ⟨a2, rfl⟩ := Int.eq_ofNat_of_zero_le (show 0 ≤ a2 from wl2)
  replace wh2 : a2 < 4294967296 := by have := wh2; simp [IntKind.max, IntKind.signed, IntKind.bits] at this; omega
  clear hA0 hval0 hsz0 hL
  refine (csrReads_walk x0_0 x0_1 x0_2 x0_3 x0_4 x0_5 x0_6 x0_7 wh0_0 wh0_1 wh0_2 wh0_3 wh0_4 wh0_5 wh0_6 wh0_7 a1 wl1 wh1 a2 wh2 W  hg).mono fun e W' ⟨he, bel⟩ => ?_
  subst he
  exact ⟨_, rfl, _, _, _, [], _, [], hW', trodAll_mk1 (shut_bool Tryd.underlying4 _), (trodAll_cons_mk (Below.trod laidOut (by kernel_rfl) (of_decide_eq_true (by kernel_rfl)) h0 bel (fun x hx => hlt x (by simp [hx]))) (trodAll_cons_mk (Below.trod laidOut (by kernel_rfl) (of_decide_eq_true (by kernel_rfl)) h1 bel (fun x hx => hlt x (by simp [hx]))) (trodAll_cons_mk (Below.trod laidOut (by kernel_rfl) (of_decide_eq_true (by kernel_rfl)) h2 bel (fun x hx => hlt x (by simp [hx]))) trodAll_mk0))), rfl, bel.frame _, fun h => by cases h⟩
theorem over : Rows.csrReadsRow.holds Tryd.pinned (OpenSpec.ofChange Rows.csrReadsSpec) :=
  OpenClaim.holds_of_wide 8 Tryd.f8 rfl rfl rfl rfl rfl rfl rfl ⟨rfl, rfl, rfl, rfl, rfl⟩ rfl rfl rfl rfl rfl (by kernel_rfl) Tryd.func8 (by kernel_rfl)
    (of_decide_eq_true (by kernel_rfl)) (by unfold Func.isWrapper; first | (rw [if_pos (by decide +kernel)]; kernel_rfl) | (rw [if_neg (by decide +kernel)]; exact ⟨rfl, rfl⟩))
    (fun os started H enc _ => lifted os started H enc)
theorem card_holds : Rows.CsrReadsCardSaid :=
  Claim7.holds_tied_plain_at .later [] [.handle] true (true, "b8a589338330da57770f7c8b1b1efa9d7ef117e9e0e8d2aaa8c898dde24850b7") true
    over (fun _ h => by cases h) (by kernel_rfl) (fun _ h => by cases h) csrReads_row_tie rfl ⟨rfl, rfl⟩ (by kernel_rfl) rfl
    (fun f fn hf hfn => by
      obtain rfl : f = 8 := Option.some.inj ((show Tryd.prog.funcNamed Rows.csrReadsRow.func = some 8 by kernel_rfl).symm.trans hf) |>.symm
      obtain rfl : fn = Tryd.f8 := (Option.some.inj (Tryd.func8.symm.trans hfn)).symm
      exact ⟨by kernel_rfl, fun j t ht => by
        rw [Tryd.params8] at ht
        rcases j with _ | _ | _ | j
        · obtain rfl : 52 = t := by simpa using ht
          kernel_rfl
        · obtain rfl : 3 = t := by simpa using ht
          kernel_rfl
        · obtain rfl : 22 = t := by simpa using ht
          kernel_rfl
        · simp at ht⟩)
    (by kernel_rfl)
end csrReads
/-- The card. -/
theorem csrReads_holds : Rows.CsrReadsCardSaid := csrReads.card_holds
#print axioms csrReads_holds

end Go.Proofs.YtgbpalclapcfeaaDoor
