/- Proved: CsrHolds, for every state, place and every four words: what is written, trapped and returned of a state that may be may be. No condition. -/
import Derived.Test.YtgbpalclapcfeaaRows
import Derived.Test.YtgbpalclapcfeaaLawH
import Derived.Test.YtgbpalclapcfeaaRowK
import Derived.WalkKit
import Derived.ProofKit
import Derived.OpenShut
import Derived.ShutString
import Derived.ChangeOld
import Derived.Below
import Derived.SizedLaws
namespace Go.Proofs.Ytgbpalclapcfeaa
open Go.RowKit
set_option maxRecDepth 100000
set_option linter.unusedVariables false
set_option linter.unusedSimpArgs false

namespace csrHolds
open Go.ChangeShapes Go.WideShapes Go.ChangeAt Go.RowKit
theorem own : ownKnob Try.prog.godebug = none := by kernel_rfl
theorem laidOut : laidOutB Try.prog = true := by kernel_rfl
set_option maxRecDepth 100000 in
set_option maxHeartbeats 1000000 in
theorem lifted (os : Os) (started : os.Started) (H : Type) (enc : TypeId × Value → H) :
    ReturnsInHanded {} Try.checked os 8 .any (Rows.csrHoldsSpec.pre6 enc Try.prog Try.f8 Rows.csrHoldsRow.domain false) (Rows.csrHoldsSpec.post enc Try.prog Try.f8 false true false false) := by
  refine returnsInHanded_of_change_sized (C := Try.checked) own started (by kernel_rfl) Try.func8
    (ChangeSpec.witness6 (enc := enc) (C := Try.checked) false ⟨#[], #[.agg #[.int .u32 0, .int .u32 0, .int .u32 0, .int .u32 0, .int .u32 0, .int .u32 0, .int .u32 0, .int .u64 0], .int .i64 0, .agg #[.int .u32 0, .int .u32 0, .int .u32 0, .int .u32 0]], []⟩ 8 (by kernel_rfl) (by kernel_rfl) (by kernel_rfl) (by kernel_rfl)) ?_
  intro W base args ds gs before hval0 hW hcnd hsz0 _
  have hval : ∀ (j : Nat) t v, Try.f8.params[j]? = some t → args[j]? = some v → Value.okWide Try.prog W .any base t v := hval0
  have hW' := hW
  obtain ⟨p, q, hA0, hV, rfl, hfz, hnd⟩ := hW
  have hA : DataW.TrodAll enc Try.prog W 0 (fun _ => true) true Try.f8.params.toList args.toList ds p := hA0
  rw [Try.params8] at hA hval
  obtain ⟨v0, vs0, d0, ds0, p0, q0, hargs, rfl, rfl, h0, r0⟩ := trodAll_cons hA
  obtain ⟨v1, vs1, d1, ds1, p1, q1, rfl, rfl, rfl, h1, r1⟩ := trodAll_cons r0
  obtain ⟨v2, vs2, d2, ds2, p2, q2, rfl, rfl, rfl, h2, r2⟩ := trodAll_cons r1
  obtain ⟨rfl, rfl, rfl⟩ := trodAll_nil r2
  obtain rfl : args = #[v0, v1, v2] := by cases args; simp_all
  obtain ⟨rfl, rfl⟩ := trodVars_none hV
  have hlt : ∀ x ∈ p0 ++ p1 ++ p2 ++ [], x.block < W.heap.size := fun x hx => hW'.lt x (by simpa using hx)
  obtain ⟨c0, rfl, f0_0⟩ := open_leaves (ls := [.i .u32, .i .u32, .i .u32, .i .u32, .i .u32, .i .u32, .i .u32, .i .u64]) Try.underlying25 rfl (by kernel_rfl) (by kernel_rfl) (by simp) (hval 0 25 v0 rfl rfl)
  obtain ⟨_, _, rfl, g0_0, f0_1⟩ := f0_0.cons_inv
  obtain ⟨x0_0, rfl, wl0_0, wh0_0⟩ := g0_0
  obtain ⟨x0_0, rfl⟩ := Int.eq_ofNat_of_zero_le (show 0 ≤ x0_0 from wl0_0)
  replace wh0_0 : x0_0 < 4294967296 := by have := wh0_0; simp [IntKind.max, IntKind.signed, IntKind.bits] at this; omega
  obtain ⟨_, _, rfl, g0_1, f0_2⟩ := f0_1.cons_inv
  obtain ⟨x0_1, rfl, wl0_1, wh0_1⟩ := g0_1
  obtain ⟨x0_1, rfl⟩ := Int.eq_ofNat_of_zero_le (show 0 ≤ x0_1 from wl0_1)
  replace wh0_1 : x0_1 < 4294967296 := by have := wh0_1; simp [IntKind.max, IntKind.signed, IntKind.bits] at this; omega
  obtain ⟨_, _, rfl, g0_2, f0_3⟩ := f0_2.cons_inv
  obtain ⟨x0_2, rfl, wl0_2, wh0_2⟩ := g0_2
  obtain ⟨x0_2, rfl⟩ := Int.eq_ofNat_of_zero_le (show 0 ≤ x0_2 from wl0_2)
  replace wh0_2 : x0_2 < 4294967296 := by have := wh0_2; simp [IntKind.max, IntKind.signed, IntKind.bits] at this; omega
  obtain ⟨_, _, rfl, g0_3, f0_4⟩ := f0_3.cons_inv
  obtain ⟨x0_3, rfl, wl0_3, wh0_3⟩ := g0_3
  obtain ⟨x0_3, rfl⟩ := Int.eq_ofNat_of_zero_le (show 0 ≤ x0_3 from wl0_3)
  replace wh0_3 : x0_3 < 4294967296 := by have := wh0_3; simp [IntKind.max, IntKind.signed, IntKind.bits] at this; omega
  obtain ⟨_, _, rfl, g0_4, f0_5⟩ := f0_4.cons_inv
  obtain ⟨x0_4, rfl, wl0_4, wh0_4⟩ := g0_4
  obtain ⟨x0_4, rfl⟩ := Int.eq_ofNat_of_zero_le (show 0 ≤ x0_4 from wl0_4)
  replace wh0_4 : x0_4 < 4294967296 := by have := wh0_4; simp [IntKind.max, IntKind.signed, IntKind.bits] at this; omega
  obtain ⟨_, _, rfl, g0_5, f0_6⟩ := f0_5.cons_inv
  obtain ⟨x0_5, rfl, wl0_5, wh0_5⟩ := g0_5
  obtain ⟨x0_5, rfl⟩ := Int.eq_ofNat_of_zero_le (show 0 ≤ x0_5 from wl0_5)
  replace wh0_5 : x0_5 < 4294967296 := by have := wh0_5; simp [IntKind.max, IntKind.signed, IntKind.bits] at this; omega
  obtain ⟨_, _, rfl, g0_6, f0_7⟩ := f0_6.cons_inv
  obtain ⟨x0_6, rfl, wl0_6, wh0_6⟩ := g0_6
  obtain ⟨x0_6, rfl⟩ := Int.eq_ofNat_of_zero_le (show 0 ≤ x0_6 from wl0_6)
  replace wh0_6 : x0_6 < 4294967296 := by have := wh0_6; simp [IntKind.max, IntKind.signed, IntKind.bits] at this; omega
  obtain ⟨_, _, rfl, g0_7, f0_8⟩ := f0_7.cons_inv
  obtain ⟨x0_7, rfl, wl0_7, wh0_7⟩ := g0_7
  obtain ⟨x0_7, rfl⟩ := Int.eq_ofNat_of_zero_le (show 0 ≤ x0_7 from wl0_7)
  replace wh0_7 : x0_7 < 18446744073709551616 := by have := wh0_7; simp [IntKind.max, IntKind.signed, IntKind.bits] at this; omega
  obtain rfl := f0_8.nil_inv
  obtain ⟨a1, rfl, wl1, wh1⟩ := openInt Try.underlying3 (hval 1 3 v1 rfl rfl)
  replace wl1 : -9223372036854775808 ≤ a1 := by have := wl1; simp [IntKind.min, IntKind.signed, IntKind.bits] at this; omega
  replace wh1 : a1 < 9223372036854775808 := by have := wh1; simp [IntKind.max, IntKind.signed, IntKind.bits] at this; omega
  obtain ⟨c2, rfl, f2_0⟩ := open_leaves (ls := [.i .u32, .i .u32, .i .u32, .i .u32]) Try.underlying51 rfl (by kernel_rfl) (by kernel_rfl) (by simp) (hval 2 51 v2 rfl rfl)
  obtain ⟨_, _, rfl, g2_0, f2_1⟩ := f2_0.cons_inv
  obtain ⟨x2_0, rfl, wl2_0, wh2_0⟩ := g2_0
  obtain ⟨x2_0, rfl⟩ := Int.eq_ofNat_of_zero_le (show 0 ≤ x2_0 from wl2_0)
  replace wh2_0 : x2_0 < 4294967296 := by have := wh2_0; simp [IntKind.max, IntKind.signed, IntKind.bits] at this; omega
  obtain ⟨_, _, rfl, g2_1, f2_2⟩ := f2_1.cons_inv
  obtain ⟨x2_1, rfl, wl2_1, wh2_1⟩ := g2_1
  obtain ⟨x2_1, rfl⟩ := Int.eq_ofNat_of_zero_le (show 0 ≤ x2_1 from wl2_1)
  replace wh2_1 : x2_1 < 4294967296 := by have := wh2_1; simp [IntKind.max, IntKind.signed, IntKind.bits] at this; omega
  obtain ⟨_, _, rfl, g2_2, f2_3⟩ := f2_2.cons_inv
  obtain ⟨x2_2, rfl, wl2_2, wh2_2⟩ := g2_2
  obtain ⟨x2_2, rfl⟩ := Int.eq_ofNat_of_zero_le (show 0 ≤ x2_2 from wl2_2)
  replace wh2_2 : x2_2 < 4294967296 := by have := wh2_2; simp [IntKind.max, IntKind.signed, IntKind.bits] at this; omega
  obtain ⟨_, _, rfl, g2_3, f2_4⟩ := f2_3.cons_inv
  obtain ⟨x2_3, rfl, wl2_3, wh2_3⟩ := g2_3
  obtain ⟨x2_3, rfl⟩ := Int.eq_ofNat_of_zero_le (show 0 ≤ x2_3 from wl2_3)
  replace wh2_3 : x2_3 < 4294967296 := by have := wh2_3; simp [IntKind.max, IntKind.signed, IntKind.bits] at this; omega
  obtain rfl := f2_4.nil_inv
  clear hA0 hval0 hsz0
  refine (csrHolds_walk x0_0 x0_1 x0_2 x0_3 x0_4 x0_5 x0_6 x0_7 wh0_0 wh0_1 wh0_2 wh0_3 wh0_4 wh0_5 wh0_6 wh0_7 a1 wl1 wh1 x2_0 x2_1 x2_2 x2_3 wh2_0 wh2_1 wh2_2 wh2_3 W).mono fun e W' ⟨he, bel⟩ => ?_
  subst he
  exact ⟨_, rfl, _, _, _, [], _, [], hW', trodAll_mk1 (shut_bool Try.underlying4 _), (trodAll_cons_mk (Below.trod laidOut (by kernel_rfl) (of_decide_eq_true (by kernel_rfl)) h0 bel (fun x hx => hlt x (by simp [hx]))) (trodAll_cons_mk (Below.trod laidOut (by kernel_rfl) (of_decide_eq_true (by kernel_rfl)) h1 bel (fun x hx => hlt x (by simp [hx]))) (trodAll_cons_mk (Below.trod laidOut (by kernel_rfl) (of_decide_eq_true (by kernel_rfl)) h2 bel (fun x hx => hlt x (by simp [hx]))) trodAll_mk0))), rfl, bel.frame _, fun h => by cases h⟩
theorem over : Rows.csrHoldsRow.holds Try.pinned (OpenSpec.ofChange Rows.csrHoldsSpec) :=
  OpenClaim.holds_of_wide 8 Try.f8 rfl rfl rfl rfl rfl rfl rfl ⟨rfl, rfl, rfl, rfl, rfl⟩ rfl rfl rfl rfl rfl (by kernel_rfl) Try.func8 (by kernel_rfl)
    (of_decide_eq_true (by kernel_rfl)) (by unfold Func.isWrapper; first | (rw [if_pos (by decide +kernel)]; kernel_rfl) | (rw [if_neg (by decide +kernel)]; exact ⟨rfl, rfl⟩))
    (fun os started H enc _ => lifted os started H enc)
end csrHolds
/-- The row. -/
theorem csrHolds_holds : Rows.CsrHoldsSaid := csrHolds.over
#print axioms csrHolds_holds

end Go.Proofs.Ytgbpalclapcfeaa
