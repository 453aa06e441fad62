/- Proved: CsrBack, for every state, every two numbers and every word: what is written is read again as far as the register holds it, and all others stay. No condition. -/
import Derived.Test.YtgbpalclapcfeaaRows
import Derived.Test.YtgbpalclapcfeaaLawJ
import Derived.Test.YtgbpalclapcfeaaRowK
import Derived.WalkKit
import Derived.ProofKit
import Derived.OpenShut
import Derived.ShutString
import Derived.ChangeOld
import Derived.Below
import Derived.SizedLaws
namespace Go.Proofs.Ytgbpalclapcfeaa
open Go.RowKit
set_option maxRecDepth 100000
set_option linter.unusedVariables false
set_option linter.unusedSimpArgs false

namespace csrBack
open Go.ChangeShapes Go.WideShapes Go.ChangeAt Go.RowKit
theorem own : ownKnob Try.prog.godebug = none := by kernel_rfl
theorem laidOut : laidOutB Try.prog = true := by kernel_rfl
set_option maxRecDepth 100000 in
set_option maxHeartbeats 1000000 in
theorem lifted (os : Os) (started : os.Started) (H : Type) (enc : TypeId × Value → H) :
    ReturnsInHanded {} Try.checked os 6 .any (Rows.csrBackSpec.pre6 enc Try.prog Try.f6 Rows.csrBackRow.domain false) (Rows.csrBackSpec.post enc Try.prog Try.f6 false true false false) := by
  refine returnsInHanded_of_change_sized (C := Try.checked) own started (by kernel_rfl) Try.func6
    (ChangeSpec.witness6 (enc := enc) (C := Try.checked) false ⟨#[], #[.agg #[.int .u32 0, .int .u32 0, .int .u32 0, .int .u32 0, .int .u32 0, .int .u32 0, .int .u32 0, .int .u64 0], .agg #[.int .i64 0, .int .i64 0], .int .u32 0], []⟩ 8 (by kernel_rfl) (by kernel_rfl) (by kernel_rfl) (by kernel_rfl)) ?_
  intro W base args ds gs before hval0 hW hcnd hsz0 _
  have hval : ∀ (j : Nat) t v, Try.f6.params[j]? = some t → args[j]? = some v → Value.okWide Try.prog W .any base t v := hval0
  have hW' := hW
  obtain ⟨p, q, hA0, hV, rfl, hfz, hnd⟩ := hW
  have hA : DataW.TrodAll enc Try.prog W 0 (fun _ => true) true Try.f6.params.toList args.toList ds p := hA0
  rw [Try.params6] at hA hval
  obtain ⟨v0, vs0, d0, ds0, p0, q0, hargs, rfl, rfl, h0, r0⟩ := trodAll_cons hA
  obtain ⟨v1, vs1, d1, ds1, p1, q1, rfl, rfl, rfl, h1, r1⟩ := trodAll_cons r0
  obtain ⟨v2, vs2, d2, ds2, p2, q2, rfl, rfl, rfl, h2, r2⟩ := trodAll_cons r1
  obtain ⟨rfl, rfl, rfl⟩ := trodAll_nil r2
  obtain rfl : args = #[v0, v1, v2] := by cases args; simp_all
  obtain ⟨rfl, rfl⟩ := trodVars_none hV
  have hlt : ∀ x ∈ p0 ++ p1 ++ p2 ++ [], x.block < W.heap.size := fun x hx => hW'.lt x (by simpa using hx)
  obtain ⟨c0, rfl, f0_0⟩ := open_leaves (ls := [.i .u32, .i .u32, .i .u32, .i .u32, .i .u32, .i .u32, .i .u32, .i .u64]) Try.underlying25 rfl (by kernel_rfl) (by kernel_rfl) (by simp) (hval 0 25 v0 rfl rfl)
  obtain ⟨_, _, rfl, g0_0, f0_1⟩ := f0_0.cons_inv
  obtain ⟨x0_0, rfl, wl0_0, wh0_0⟩ := g0_0
  obtain ⟨x0_0, rfl⟩ := Int.eq_ofNat_of_zero_le (show 0 ≤ x0_0 from wl0_0)
  replace wh0_0 : x0_0 < 4294967296 := by have := wh0_0; simp [IntKind.max, IntKind.signed, IntKind.bits] at this; omega
  obtain ⟨_, _, rfl, g0_1, f0_2⟩ := f0_1.cons_inv
  obtain ⟨x0_1, rfl, wl0_1, wh0_1⟩ := g0_1
  obtain ⟨x0_1, rfl⟩ := Int.eq_ofNat_of_zero_le (show 0 ≤ x0_1 from wl0_1)
  replace wh0_1 : x0_1 < 4294967296 := by have := wh0_1; simp [IntKind.max, IntKind.signed, IntKind.bits] at this; omega
  obtain ⟨_, _, rfl, g0_2, f0_3⟩ := f0_2.cons_inv
  obtain ⟨x0_2, rfl, wl0_2, wh0_2⟩ := g0_2
  obtain ⟨x0_2, rfl⟩ := Int.eq_ofNat_of_zero_le (show 0 ≤ x0_2 from wl0_2)
  replace wh0_2 : x0_2 < 4294967296 := by have := wh0_2; simp [IntKind.max, IntKind.signed, IntKind.bits] at this; omega
  obtain ⟨_, _, rfl, g0_3, f0_4⟩ := f0_3.cons_inv
  obtain ⟨x0_3, rfl, wl0_3, wh0_3⟩ := g0_3
  obtain ⟨x0_3, rfl⟩ := Int.eq_ofNat_of_zero_le (show 0 ≤ x0_3 from wl0_3)
  replace wh0_3 : x0_3 < 4294967296 := by have := wh0_3; simp [IntKind.max, IntKind.signed, IntKind.bits] at this; omega
  obtain ⟨_, _, rfl, g0_4, f0_5⟩ := f0_4.cons_inv
  obtain ⟨x0_4, rfl, wl0_4, wh0_4⟩ := g0_4
  obtain ⟨x0_4, rfl⟩ := Int.eq_ofNat_of_zero_le (show 0 ≤ x0_4 from wl0_4)
  replace wh0_4 : x0_4 < 4294967296 := by have := wh0_4; simp [IntKind.max, IntKind.signed, IntKind.bits] at this; omega
  obtain ⟨_, _, rfl, g0_5, f0_6⟩ := f0_5.cons_inv
  obtain ⟨x0_5, rfl, wl0_5, wh0_5⟩ := g0_5
  obtain ⟨x0_5, rfl⟩ := Int.eq_ofNat_of_zero_le (show 0 ≤ x0_5 from wl0_5)
  replace wh0_5 : x0_5 < 4294967296 := by have := wh0_5; simp [IntKind.max, IntKind.signed, IntKind.bits] at this; omega
  obtain ⟨_, _, rfl, g0_6, f0_7⟩ := f0_6.cons_inv
  obtain ⟨x0_6, rfl, wl0_6, wh0_6⟩ := g0_6
  obtain ⟨x0_6, rfl⟩ := Int.eq_ofNat_of_zero_le (show 0 ≤ x0_6 from wl0_6)
  replace wh0_6 : x0_6 < 4294967296 := by have := wh0_6; simp [IntKind.max, IntKind.signed, IntKind.bits] at this; omega
  obtain ⟨_, _, rfl, g0_7, f0_8⟩ := f0_7.cons_inv
  obtain ⟨x0_7, rfl, wl0_7, wh0_7⟩ := g0_7
  obtain ⟨x0_7, rfl⟩ := Int.eq_ofNat_of_zero_le (show 0 ≤ x0_7 from wl0_7)
  replace wh0_7 : x0_7 < 18446744073709551616 := by have := wh0_7; simp [IntKind.max, IntKind.signed, IntKind.bits] at this; omega
  obtain rfl := f0_8.nil_inv
  obtain ⟨c1, rfl, f1_0⟩ := open_leaves (ls := [.i .i64, .i .i64]) Try.underlying39 rfl (by kernel_rfl) (by kernel_rfl) (by simp) (hval 1 39 v1 rfl rfl)
  obtain ⟨_, _, rfl, g1_0, f1_1⟩ := f1_0.cons_inv
  obtain ⟨x1_0, rfl, wl1_0, wh1_0⟩ := g1_0
  replace wl1_0 : -9223372036854775808 ≤ x1_0 := by have := wl1_0; simp [IntKind.min, IntKind.signed, IntKind.bits] at this; omega
  replace wh1_0 : x1_0 < 9223372036854775808 := by have := wh1_0; simp [IntKind.max, IntKind.signed, IntKind.bits] at this; omega
  obtain ⟨_, _, rfl, g1_1, f1_2⟩ := f1_1.cons_inv
  obtain ⟨x1_1, rfl, wl1_1, wh1_1⟩ := g1_1
  replace wl1_1 : -9223372036854775808 ≤ x1_1 := by have := wl1_1; simp [IntKind.min, IntKind.signed, IntKind.bits] at this; omega
  replace wh1_1 : x1_1 < 9223372036854775808 := by have := wh1_1; simp [IntKind.max, IntKind.signed, IntKind.bits] at this; omega
  obtain rfl := f1_2.nil_inv
  obtain ⟨a2, rfl, wl2, wh2⟩ := openInt Try.underlying22 (hval 2 22 v2 rfl rfl)
  obtain ⟨a2, rfl⟩ := Int.eq_ofNat_of_zero_le (show 0 ≤ a2 from wl2)
  replace wh2 : a2 < 4294967296 := by have := wh2; simp [IntKind.max, IntKind.signed, IntKind.bits] at this; omega
  clear hA0 hval0 hsz0
  refine (csrBack_walk x0_0 x0_1 x0_2 x0_3 x0_4 x0_5 x0_6 x0_7 wh0_0 wh0_1 wh0_2 wh0_3 wh0_4 wh0_5 wh0_6 wh0_7 x1_0 x1_1 wl1_0 wh1_0 wl1_1 wh1_1 a2 wh2 W).mono fun e W' ⟨he, bel⟩ => ?_
  subst he
  exact ⟨_, rfl, _, _, _, [], _, [], hW', trodAll_mk1 (shut_bool Try.underlying4 _), (trodAll_cons_mk (Below.trod laidOut (by kernel_rfl) (of_decide_eq_true (by kernel_rfl)) h0 bel (fun x hx => hlt x (by simp [hx]))) (trodAll_cons_mk (Below.trod laidOut (by kernel_rfl) (of_decide_eq_true (by kernel_rfl)) h1 bel (fun x hx => hlt x (by simp [hx]))) (trodAll_cons_mk (Below.trod laidOut (by kernel_rfl) (of_decide_eq_true (by kernel_rfl)) h2 bel (fun x hx => hlt x (by simp [hx]))) trodAll_mk0))), rfl, bel.frame _, fun h => by cases h⟩
theorem over : Rows.csrBackRow.holds Try.pinned (OpenSpec.ofChange Rows.csrBackSpec) :=
  OpenClaim.holds_of_wide 6 Try.f6 rfl rfl rfl rfl rfl rfl rfl ⟨rfl, rfl, rfl, rfl, rfl⟩ rfl rfl rfl rfl rfl (by kernel_rfl) Try.func6 (by kernel_rfl)
    (of_decide_eq_true (by kernel_rfl)) (by unfold Func.isWrapper; first | (rw [if_pos (by decide +kernel)]; kernel_rfl) | (rw [if_neg (by decide +kernel)]; exact ⟨rfl, rfl⟩))
    (fun os started H enc _ => lifted os started H enc)
end csrBack
/-- The row. -/
theorem csrBack_holds : Rows.CsrBackSaid := csrBack.over
#print axioms csrBack_holds

end Go.Proofs.Ytgbpalclapcfeaa
