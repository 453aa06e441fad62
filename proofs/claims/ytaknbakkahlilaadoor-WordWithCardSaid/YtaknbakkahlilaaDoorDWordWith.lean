/- Proved: WordWith, for all bytes, every place and number: the program's bytes are the reference's, or the error, and the bytes that are handed in stay. No condition but the tie of errors.errorType. -/
import Derived.Test.YtaknbakkahlilaaDoorRows
import Derived.Test.YtaknbakkahlilaaDoorTie
import Derived.Test.YtaknbakkahlilaaDoorCards
import Derived.Test.YtaknbakkahlilaaDoorLawWX
import Derived.Test.YtaknbakkahlilaaDoorRowK
import Derived.WalkKit
import Derived.ProofKit
import Derived.OpenShut
import Derived.ShutString
import Derived.ChangeOld
import Derived.Below
import Derived.SizedLaws
import Derived.ChangeSame
import Derived.ChangeVars
import Derived.JoinedOf
import Derived.RowKit
import Derived.RowKitTokens
import Derived.LaidLaws
import Derived.LaidHandle
import Derived.Stop.Joined
import Derived.SevenTiedAt
namespace Go.Proofs.YtaknbakkahlilaaDoor
open Go.RowKit
set_option maxRecDepth 100000
set_option linter.unusedVariables false
set_option linter.unusedSimpArgs false

namespace wordWith
open Go.ChangeShapes Go.WideShapes Go.ChangeAt Go.RowKit
theorem laidOut : laidOutB Tryd.prog = true := by kernel_rfl
set_option maxRecDepth 100000 in
set_option maxHeartbeats 1000000 in
theorem lifted (os : Os) (started : os.Started) (H : Type) (enc : TypeId × Value → H) :
    ReturnsInHanded {} Tryd.checked os 5 .any (fun w args => (Rows.wordWithSpec.pre enc Tryd.prog Tryd.f5 [] false w args ∧ laidMetH Tryd.prog [("errors.errorType", Rows.laid_errors_errorType)] w) ∧ sizedMet enc Tryd.prog Tryd.f5 (OpenSpec.ofChange Rows.wordWithSpec) false w args) (Rows.wordWithSpec.post enc Tryd.prog Tryd.f5 false true false false) := by
  refine returnsInHanded_of_change_and (C := Tryd.checked) (X := fun w _ => laidMetH Tryd.prog [("errors.errorType", Rows.laid_errors_errorType)] w) (fun _ _ _ hh h => h.of_heap hh) door_own started (by kernel_rfl) Tryd.func5
    (ChangeSpec.witness_at (enc := enc) (C := Tryd.checked) (os := os) (X := fun w _ => laidMetH Tryd.prog [("errors.errorType", Rows.laid_errors_errorType)] w) false (laidWorld os) #[.slice none 0 0, .agg #[.int .i64 0, .int .i64 0], .int .u32 0] 8 rfl (by kernel_rfl) (by kernel_rfl) (by kernel_rfl) (by kernel_rfl) (by kernel_rfl) (laidWorld_met os _)) ?_
  intro W base args ds gs before hval0 hW hcnd hsz0 hL _
  have hg := handle_of_laid hL
  have hval : ∀ (j : Nat) t v, Tryd.f5.params[j]? = some t → args[j]? = some v → Value.okWide Tryd.prog W .any base t v := hval0
  have hW' := hW
  obtain ⟨p, q, hA0, hV, rfl, hfz, hnd⟩ := hW
  have hA : DataW.TrodAll enc Tryd.prog W 0 (fun _ => true) true Tryd.f5.params.toList args.toList ds p := hA0
  rw [Tryd.params5] at hA hval
  obtain ⟨v0, vs0, d0, ds0, p0, q0, hargs, rfl, rfl, h0, r0⟩ := trodAll_cons hA
  obtain ⟨v1, vs1, d1, ds1, p1, q1, rfl, rfl, rfl, h1, r1⟩ := trodAll_cons r0
  obtain ⟨v2, vs2, d2, ds2, p2, q2, rfl, rfl, rfl, h2, r2⟩ := trodAll_cons r1
  obtain ⟨rfl, rfl, rfl⟩ := trodAll_nil r2
  obtain rfl : args = #[v0, v1, v2] := by cases args; simp_all
  obtain ⟨rfl, rfl⟩ := trodVars_none hV
  have hlt : ∀ x ∈ p0 ++ p1 ++ p2 ++ [], x.block < W.heap.size := fun x hx => hW'.lt x (by simpa using hx)
  obtain ⟨a0, n0, m0, z0, rfl, B0⟩ := open_bytes Tryd.underlying28 Tryd.underlying5 (by kernel_rfl) (hval 0 28 v0 rfl rfl) h0 (fun x y hd => by
    subst hd
    have := sized_slice hsz0 (j := 0) (t := 28) (e := 5) rfl rfl Tryd.underlying28
    rw [show Tryd.checked.prog.bytesOf 5 = 1 from by kernel_rfl] at this
    simp only [reachBytes] at this
    omega)
  obtain ⟨c1, rfl, f1_0⟩ := open_leaves (ls := [.i .i64, .i .i64]) Tryd.underlying37 rfl (by kernel_rfl) (by kernel_rfl) (by simp) (hval 1 37 v1 rfl rfl)
  obtain ⟨_, _, rfl, g1_0, f1_1⟩ := f1_0.cons_inv
  obtain ⟨x1_0, rfl, wl1_0, wh1_0⟩ := g1_0
  replace wl1_0 : -9223372036854775808 ≤ x1_0 := by have := wl1_0; simp [IntKind.min, IntKind.signed, IntKind.bits] at this; omega
  replace wh1_0 : x1_0 < 9223372036854775808 := by have := wh1_0; simp [IntKind.max, IntKind.signed, IntKind.bits] at this; omega
  obtain ⟨_, _, rfl, g1_1, f1_2⟩ := f1_1.cons_inv
  obtain ⟨x1_1, rfl, wl1_1, wh1_1⟩ := g1_1
  replace wl1_1 : -9223372036854775808 ≤ x1_1 := by have := wl1_1; simp [IntKind.min, IntKind.signed, IntKind.bits] at this; omega
  replace wh1_1 : x1_1 < 9223372036854775808 := by have := wh1_1; simp [IntKind.max, IntKind.signed, IntKind.bits] at this; omega
  obtain rfl := f1_2.nil_inv
  obtain ⟨a2, rfl, wl2, wh2⟩ := openInt Tryd.underlying22 (hval 2 22 v2 rfl rfl)
  obtain ⟨a2, rfl⟩ := Int.eq_ofNat_of_zero_le (show 0 ≤ a2 from wl2)
  replace wh2 : a2 < 4294967296 := by have := wh2; simp [IntKind.max, IntKind.signed, IntKind.bits] at this; omega
  clear hA0 hval0 hsz0 hL
  refine (wordWith_walk a0 n0 m0 z0 x1_0 x1_1 wl1_0 wh1_0 wl1_1 wh1_1 a2 wh2 W B0 hg).mono fun e W' ⟨he, bel⟩ => ?_
  subst he
  exact ⟨_, rfl, _, _, _, [], _, [], hW', trodAll_mk1 (shut_bool Tryd.underlying4 _), (trodAll_cons_mk (Below.trod laidOut (by kernel_rfl) (of_decide_eq_true (by kernel_rfl)) h0 bel (fun x hx => hlt x (by simp [hx]))) (trodAll_cons_mk (Below.trod laidOut (by kernel_rfl) (of_decide_eq_true (by kernel_rfl)) h1 bel (fun x hx => hlt x (by simp [hx]))) (trodAll_cons_mk (Below.trod laidOut (by kernel_rfl) (of_decide_eq_true (by kernel_rfl)) h2 bel (fun x hx => hlt x (by simp [hx]))) trodAll_mk0))), rfl, bel.frame _, fun h => by cases h⟩
theorem over : Rows.wordWithRow.holds Tryd.pinned (OpenSpec.ofChange Rows.wordWithSpec) :=
  OpenClaim.holds_of_wide 5 Tryd.f5 rfl rfl rfl rfl rfl rfl rfl ⟨rfl, rfl, rfl, rfl, rfl⟩ rfl rfl rfl rfl rfl (by kernel_rfl) Tryd.func5 (by kernel_rfl)
    (of_decide_eq_true (by kernel_rfl)) (by unfold Func.isWrapper; first | (rw [if_pos (by decide +kernel)]; kernel_rfl) | (rw [if_neg (by decide +kernel)]; exact ⟨rfl, rfl⟩))
    (fun os started H enc _ => lifted os started H enc)
theorem card_holds : Rows.WordWithCardSaid :=
  Claim7.holds_tied_plain_at .later [] [.handle] true (true, "1a0d665cb52c1eb20640a8b31d4ebd1d3567d24e8ba0852677b4c6eb61a6de52") true
    over (fun _ h => by cases h) (by kernel_rfl) (fun _ h => by cases h) wordWith_row_tie rfl ⟨rfl, rfl⟩ (by kernel_rfl) rfl
    (fun f fn hf hfn => by
      obtain rfl : f = 5 := Option.some.inj ((show Tryd.prog.funcNamed Rows.wordWithRow.func = some 5 by kernel_rfl).symm.trans hf) |>.symm
      obtain rfl : fn = Tryd.f5 := (Option.some.inj (Tryd.func5.symm.trans hfn)).symm
      exact ⟨by kernel_rfl, fun j t ht => by
        rw [Tryd.params5] at ht
        rcases j with _ | _ | _ | j
        · obtain rfl : 28 = t := by simpa using ht
          kernel_rfl
        · obtain rfl : 37 = t := by simpa using ht
          kernel_rfl
        · obtain rfl : 22 = t := by simpa using ht
          kernel_rfl
        · simp at ht⟩)
    (by kernel_rfl)
end wordWith
/-- The card. -/
theorem wordWith_holds : Rows.WordWithCardSaid := wordWith.card_holds
#print axioms wordWith_holds

end Go.Proofs.YtaknbakkahlilaaDoor
