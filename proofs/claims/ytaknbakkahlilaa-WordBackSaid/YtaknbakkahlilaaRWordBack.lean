/- Proved: WordBack, for every two numbers and every place: bits that were set are got again and all others stay; bytes with a number give it again. No condition. -/
import Derived.Test.YtaknbakkahlilaaRows
import Derived.Test.YtaknbakkahlilaaLawWB
import Derived.Test.YtaknbakkahlilaaRowK
import Derived.WalkKit
import Derived.ProofKit
import Derived.OpenShut
import Derived.ShutString
import Derived.ChangeOld
import Derived.Below
import Derived.SizedLaws
namespace Go.Proofs.Ytaknbakkahlilaa
open Go.RowKit
set_option maxRecDepth 100000
set_option linter.unusedVariables false
set_option linter.unusedSimpArgs false

namespace wordBack
open Go.ChangeShapes Go.WideShapes Go.ChangeAt Go.RowKit
theorem own : ownKnob Try.prog.godebug = none := by kernel_rfl
theorem laidOut : laidOutB Try.prog = true := by kernel_rfl
set_option maxRecDepth 100000 in
set_option maxHeartbeats 1000000 in
theorem lifted (os : Os) (started : os.Started) (H : Type) (enc : TypeId × Value → H) :
    ReturnsInHanded {} Try.checked os 3 .any (Rows.wordBackSpec.pre6 enc Try.prog Try.f3 Rows.wordBackRow.domain false) (Rows.wordBackSpec.post enc Try.prog Try.f3 false true false false) := by
  refine returnsInHanded_of_change_sized (C := Try.checked) own started (by kernel_rfl) Try.func3
    (ChangeSpec.witness6 (enc := enc) (C := Try.checked) false ⟨#[], #[.int .u32 0, .int .u32 0, .agg #[.int .i64 0, .int .i64 0, .int .i64 0, .int .i64 0]], []⟩ 8 (by kernel_rfl) (by kernel_rfl) (by kernel_rfl) (by kernel_rfl)) ?_
  intro W base args ds gs before hval0 hW hcnd hsz0 _
  have hval : ∀ (j : Nat) t v, Try.f3.params[j]? = some t → args[j]? = some v → Value.okWide Try.prog W .any base t v := hval0
  have hW' := hW
  obtain ⟨p, q, hA0, hV, rfl, hfz, hnd⟩ := hW
  have hA : DataW.TrodAll enc Try.prog W 0 (fun _ => true) true Try.f3.params.toList args.toList ds p := hA0
  rw [Try.params3] at hA hval
  obtain ⟨v0, vs0, d0, ds0, p0, q0, hargs, rfl, rfl, h0, r0⟩ := trodAll_cons hA
  obtain ⟨v1, vs1, d1, ds1, p1, q1, rfl, rfl, rfl, h1, r1⟩ := trodAll_cons r0
  obtain ⟨v2, vs2, d2, ds2, p2, q2, rfl, rfl, rfl, h2, r2⟩ := trodAll_cons r1
  obtain ⟨rfl, rfl, rfl⟩ := trodAll_nil r2
  obtain rfl : args = #[v0, v1, v2] := by cases args; simp_all
  obtain ⟨rfl, rfl⟩ := trodVars_none hV
  have hlt : ∀ x ∈ p0 ++ p1 ++ p2 ++ [], x.block < W.heap.size := fun x hx => hW'.lt x (by simpa using hx)
  obtain ⟨a0, rfl, wl0, wh0⟩ := openInt Try.underlying22 (hval 0 22 v0 rfl rfl)
  obtain ⟨a0, rfl⟩ := Int.eq_ofNat_of_zero_le (show 0 ≤ a0 from wl0)
  replace wh0 : a0 < 4294967296 := by have := wh0; simp [IntKind.max, IntKind.signed, IntKind.bits] at this; omega
  obtain ⟨a1, rfl, wl1, wh1⟩ := openInt Try.underlying22 (hval 1 22 v1 rfl rfl)
  obtain ⟨a1, rfl⟩ := Int.eq_ofNat_of_zero_le (show 0 ≤ a1 from wl1)
  replace wh1 : a1 < 4294967296 := by have := wh1; simp [IntKind.max, IntKind.signed, IntKind.bits] at this; omega
  obtain ⟨c2, rfl, f2_0⟩ := open_leaves (ls := [.i .i64, .i .i64, .i .i64, .i .i64]) Try.underlying23 rfl (by kernel_rfl) (by kernel_rfl) (by simp) (hval 2 23 v2 rfl rfl)
  obtain ⟨_, _, rfl, g2_0, f2_1⟩ := f2_0.cons_inv
  obtain ⟨x2_0, rfl, wl2_0, wh2_0⟩ := g2_0
  replace wl2_0 : -9223372036854775808 ≤ x2_0 := by have := wl2_0; simp [IntKind.min, IntKind.signed, IntKind.bits] at this; omega
  replace wh2_0 : x2_0 < 9223372036854775808 := by have := wh2_0; simp [IntKind.max, IntKind.signed, IntKind.bits] at this; omega
  obtain ⟨_, _, rfl, g2_1, f2_2⟩ := f2_1.cons_inv
  obtain ⟨x2_1, rfl, wl2_1, wh2_1⟩ := g2_1
  replace wl2_1 : -9223372036854775808 ≤ x2_1 := by have := wl2_1; simp [IntKind.min, IntKind.signed, IntKind.bits] at this; omega
  replace wh2_1 : x2_1 < 9223372036854775808 := by have := wh2_1; simp [IntKind.max, IntKind.signed, IntKind.bits] at this; omega
  obtain ⟨_, _, rfl, g2_2, f2_3⟩ := f2_2.cons_inv
  obtain ⟨x2_2, rfl, wl2_2, wh2_2⟩ := g2_2
  replace wl2_2 : -9223372036854775808 ≤ x2_2 := by have := wl2_2; simp [IntKind.min, IntKind.signed, IntKind.bits] at this; omega
  replace wh2_2 : x2_2 < 9223372036854775808 := by have := wh2_2; simp [IntKind.max, IntKind.signed, IntKind.bits] at this; omega
  obtain ⟨_, _, rfl, g2_3, f2_4⟩ := f2_3.cons_inv
  obtain ⟨x2_3, rfl, wl2_3, wh2_3⟩ := g2_3
  replace wl2_3 : -9223372036854775808 ≤ x2_3 := by have := wl2_3; simp [IntKind.min, IntKind.signed, IntKind.bits] at this; omega
  replace wh2_3 : x2_3 < 9223372036854775808 := by have := wh2_3; simp [IntKind.max, IntKind.signed, IntKind.bits] at this; omega
  obtain rfl := f2_4.nil_inv
  clear hA0 hval0 hsz0
  refine (wordBack_walk a0 wh0 a1 wh1 x2_0 x2_1 x2_2 x2_3 wl2_0 wh2_0 wl2_1 wh2_1 wl2_2 wh2_2 wl2_3 wh2_3 W).mono fun e W' ⟨he, bel⟩ => ?_
  subst he
  exact ⟨_, rfl, _, _, _, [], _, [], hW', trodAll_mk1 (shut_bool Try.underlying4 _), (trodAll_cons_mk (Below.trod laidOut (by kernel_rfl) (of_decide_eq_true (by kernel_rfl)) h0 bel (fun x hx => hlt x (by simp [hx]))) (trodAll_cons_mk (Below.trod laidOut (by kernel_rfl) (of_decide_eq_true (by kernel_rfl)) h1 bel (fun x hx => hlt x (by simp [hx]))) (trodAll_cons_mk (Below.trod laidOut (by kernel_rfl) (of_decide_eq_true (by kernel_rfl)) h2 bel (fun x hx => hlt x (by simp [hx]))) trodAll_mk0))), rfl, bel.frame _, fun h => by cases h⟩
theorem over : Rows.wordBackRow.holds Try.pinned (OpenSpec.ofChange Rows.wordBackSpec) :=
  OpenClaim.holds_of_wide 3 Try.f3 rfl rfl rfl rfl rfl rfl rfl ⟨rfl, rfl, rfl, rfl, rfl⟩ rfl rfl rfl rfl rfl (by kernel_rfl) Try.func3 (by kernel_rfl)
    (of_decide_eq_true (by kernel_rfl)) (by unfold Func.isWrapper; first | (rw [if_pos (by decide +kernel)]; kernel_rfl) | (rw [if_neg (by decide +kernel)]; exact ⟨rfl, rfl⟩))
    (fun os started H enc _ => lifted os started H enc)
end wordBack
/-- The row. -/
theorem wordBack_holds : Rows.WordBackSaid := wordBack.over
#print axioms wordBack_holds

end Go.Proofs.Ytaknbakkahlilaa
