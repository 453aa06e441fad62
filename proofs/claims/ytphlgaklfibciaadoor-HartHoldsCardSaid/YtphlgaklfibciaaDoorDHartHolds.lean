/- Proved: HartHolds, for every hart, all words and all lines: a hart that may be stays one, whatever it does and whatever memory answers, and what it asks for lies where it may. No condition but the tie of inst.words. -/
import Derived.Test.YtphlgaklfibciaaDoorRows
import Derived.Test.YtphlgaklfibciaaDoorTie
import Derived.Test.YtphlgaklfibciaaDoorCards
import Derived.Test.YtphlgaklfibciaaDoorHwH
import Derived.Test.YtphlgaklfibciaaDoorRowWH
import Derived.Test.YtphlgaklfibciaaDoorRowK
import Derived.WalkKit
import Derived.ProofKit
import Derived.OpenShut
import Derived.ShutString
import Derived.ChangeOld
import Derived.Below
import Derived.SizedLaws
import Derived.ChangeSame
import Derived.ChangeVars
import Derived.JoinedOf
import Derived.RowKit
import Derived.RowKitTokens
import Derived.LaidLaws
import Derived.LaidHandle
import Derived.Stop.Joined
import Derived.SevenTiedAt
namespace Go.Proofs.YtphlgaklfibciaaDoor
open Go.RowKit
set_option maxRecDepth 100000
set_option linter.unusedVariables false
set_option linter.unusedSimpArgs false

namespace hartHolds
open Go.ChangeShapes Go.WideShapes Go.ChangeAt Go.RowKit
theorem laidOut : laidOutB Tryd.prog = true := by kernel_rfl
set_option maxRecDepth 100000 in
set_option maxHeartbeats 1000000 in
theorem lifted (os : Os) (started : os.Started) (H : Type) (enc : TypeId × Value → H) :
    ReturnsInHanded {} Tryd.checked os 4 .any (fun w args => (Rows.hartHoldsSpec.pre enc Tryd.prog Tryd.f4 [] false w args ∧ laidMetH Tryd.prog [("pinnace/inst.words", Rows.laid_pinnace_inst_words)] w) ∧ sizedMet enc Tryd.prog Tryd.f4 (OpenSpec.ofChange Rows.hartHoldsSpec) false w args) (Rows.hartHoldsSpec.post enc Tryd.prog Tryd.f4 false true false false) := by
  refine returnsInHanded_of_change_and (C := Tryd.checked) (X := fun w _ => laidMetH Tryd.prog [("pinnace/inst.words", Rows.laid_pinnace_inst_words)] w) (fun _ _ _ hh h => h.of_heap hh) door_own started (by kernel_rfl) Tryd.func4
    (ChangeSpec.witness_at (enc := enc) (C := Tryd.checked) (os := os) (X := fun w _ => laidMetH Tryd.prog [("pinnace/inst.words", Rows.laid_pinnace_inst_words)] w) false (laidWorldI os) #[.agg #[.int .u32 0, .int .u32 0, .int .u32 0, .int .u32 0, .int .u32 0, .int .u32 0, .int .u32 0, .int .u32 0, .int .u32 0, .int .u32 0, .int .u32 0, .int .u32 0, .int .u32 0, .int .u32 0, .int .u32 0, .int .u32 0, .int .u32 0, .int .u32 0, .int .u32 0, .int .u32 0, .int .u32 0, .int .u32 0, .int .u32 0, .int .u32 0, .int .u32 0, .int .u32 0, .int .u32 0, .int .u32 0, .int .u32 0, .int .u32 0, .int .u32 0, .int .u32 0, .int .u32 0, .bool false, .int .u32 0, .int .u32 0, .int .u32 0, .int .u32 0, .int .u32 0, .int .u32 0, .int .u32 0, .int .u64 0], .slice none 0 0, .slice none 0 0] 8 rfl (by kernel_rfl) (by kernel_rfl) (by kernel_rfl) (by kernel_rfl) (by kernel_rfl) (laidWorldI_metW os _)) ?_
  intro W base args ds gs before hval0 hW hcnd hsz0 hL _
  have hT := tabW_of_laid hL
  have hval : ∀ (j : Nat) t v, Tryd.f4.params[j]? = some t → args[j]? = some v → Value.okWide Tryd.prog W .any base t v := hval0
  have hW' := hW
  obtain ⟨p, q, hA0, hV, rfl, hfz, hnd⟩ := hW
  have hA : DataW.TrodAll enc Tryd.prog W 0 (fun _ => true) true Tryd.f4.params.toList args.toList ds p := hA0
  rw [Tryd.params4] at hA hval
  obtain ⟨v0, vs0, d0, ds0, p0, q0, hargs, rfl, rfl, h0, r0⟩ := trodAll_cons hA
  obtain ⟨v1, vs1, d1, ds1, p1, q1, rfl, rfl, rfl, h1, r1⟩ := trodAll_cons r0
  obtain ⟨v2, vs2, d2, ds2, p2, q2, rfl, rfl, rfl, h2, r2⟩ := trodAll_cons r1
  obtain ⟨rfl, rfl, rfl⟩ := trodAll_nil r2
  obtain rfl : args = #[v0, v1, v2] := by cases args; simp_all
  obtain ⟨rfl, rfl⟩ := trodVars_none hV
  have hlt : ∀ x ∈ p0 ++ p1 ++ p2 ++ [], x.block < W.heap.size := fun x hx => hW'.lt x (by simpa using hx)
  obtain ⟨c0, rfl, f0_0⟩ := open_leaves (ls := [.i .u32, .i .u32, .i .u32, .i .u32, .i .u32, .i .u32, .i .u32, .i .u32, .i .u32, .i .u32, .i .u32, .i .u32, .i .u32, .i .u32, .i .u32, .i .u32, .i .u32, .i .u32, .i .u32, .i .u32, .i .u32, .i .u32, .i .u32, .i .u32, .i .u32, .i .u32, .i .u32, .i .u32, .i .u32, .i .u32, .i .u32, .i .u32, .i .u32, .b, .i .u32, .i .u32, .i .u32, .i .u32, .i .u32, .i .u32, .i .u32, .i .u64]) Tryd.underlying40 rfl (by kernel_rfl) (by kernel_rfl) (by simp) (hval 0 40 v0 rfl rfl)
  obtain ⟨_, _, rfl, g0_0, f0_1⟩ := f0_0.cons_inv
  obtain ⟨x0_0, rfl, wl0_0, wh0_0⟩ := g0_0
  obtain ⟨x0_0, rfl⟩ := Int.eq_ofNat_of_zero_le (show 0 ≤ x0_0 from wl0_0)
  replace wh0_0 : x0_0 < 4294967296 := by have := wh0_0; simp [IntKind.max, IntKind.signed, IntKind.bits] at this; omega
  obtain ⟨_, _, rfl, g0_1, f0_2⟩ := f0_1.cons_inv
  obtain ⟨x0_1, rfl, wl0_1, wh0_1⟩ := g0_1
  obtain ⟨x0_1, rfl⟩ := Int.eq_ofNat_of_zero_le (show 0 ≤ x0_1 from wl0_1)
  replace wh0_1 : x0_1 < 4294967296 := by have := wh0_1; simp [IntKind.max, IntKind.signed, IntKind.bits] at this; omega
  obtain ⟨_, _, rfl, g0_2, f0_3⟩ := f0_2.cons_inv
  obtain ⟨x0_2, rfl, wl0_2, wh0_2⟩ := g0_2
  obtain ⟨x0_2, rfl⟩ := Int.eq_ofNat_of_zero_le (show 0 ≤ x0_2 from wl0_2)
  replace wh0_2 : x0_2 < 4294967296 := by have := wh0_2; simp [IntKind.max, IntKind.signed, IntKind.bits] at this; omega
  obtain ⟨_, _, rfl, g0_3, f0_4⟩ := f0_3.cons_inv
  obtain ⟨x0_3, rfl, wl0_3, wh0_3⟩ := g0_3
  obtain ⟨x0_3, rfl⟩ := Int.eq_ofNat_of_zero_le (show 0 ≤ x0_3 from wl0_3)
  replace wh0_3 : x0_3 < 4294967296 := by have := wh0_3; simp [IntKind.max, IntKind.signed, IntKind.bits] at this; omega
  obtain ⟨_, _, rfl, g0_4, f0_5⟩ := f0_4.cons_inv
  obtain ⟨x0_4, rfl, wl0_4, wh0_4⟩ := g0_4
  obtain ⟨x0_4, rfl⟩ := Int.eq_ofNat_of_zero_le (show 0 ≤ x0_4 from wl0_4)
  replace wh0_4 : x0_4 < 4294967296 := by have := wh0_4; simp [IntKind.max, IntKind.signed, IntKind.bits] at this; omega
  obtain ⟨_, _, rfl, g0_5, f0_6⟩ := f0_5.cons_inv
  obtain ⟨x0_5, rfl, wl0_5, wh0_5⟩ := g0_5
  obtain ⟨x0_5, rfl⟩ := Int.eq_ofNat_of_zero_le (show 0 ≤ x0_5 from wl0_5)
  replace wh0_5 : x0_5 < 4294967296 := by have := wh0_5; simp [IntKind.max, IntKind.signed, IntKind.bits] at this; omega
  obtain ⟨_, _, rfl, g0_6, f0_7⟩ := f0_6.cons_inv
  obtain ⟨x0_6, rfl, wl0_6, wh0_6⟩ := g0_6
  obtain ⟨x0_6, rfl⟩ := Int.eq_ofNat_of_zero_le (show 0 ≤ x0_6 from wl0_6)
  replace wh0_6 : x0_6 < 4294967296 := by have := wh0_6; simp [IntKind.max, IntKind.signed, IntKind.bits] at this; omega
  obtain ⟨_, _, rfl, g0_7, f0_8⟩ := f0_7.cons_inv
  obtain ⟨x0_7, rfl, wl0_7, wh0_7⟩ := g0_7
  obtain ⟨x0_7, rfl⟩ := Int.eq_ofNat_of_zero_le (show 0 ≤ x0_7 from wl0_7)
  replace wh0_7 : x0_7 < 4294967296 := by have := wh0_7; simp [IntKind.max, IntKind.signed, IntKind.bits] at this; omega
  obtain ⟨_, _, rfl, g0_8, f0_9⟩ := f0_8.cons_inv
  obtain ⟨x0_8, rfl, wl0_8, wh0_8⟩ := g0_8
  obtain ⟨x0_8, rfl⟩ := Int.eq_ofNat_of_zero_le (show 0 ≤ x0_8 from wl0_8)
  replace wh0_8 : x0_8 < 4294967296 := by have := wh0_8; simp [IntKind.max, IntKind.signed, IntKind.bits] at this; omega
  obtain ⟨_, _, rfl, g0_9, f0_10⟩ := f0_9.cons_inv
  obtain ⟨x0_9, rfl, wl0_9, wh0_9⟩ := g0_9
  obtain ⟨x0_9, rfl⟩ := Int.eq_ofNat_of_zero_le (show 0 ≤ x0_9 from wl0_9)
  replace wh0_9 : x0_9 < 4294967296 := by have := wh0_9; simp [IntKind.max, IntKind.signed, IntKind.bits] at this; omega
  obtain ⟨_, _, rfl, g0_10, f0_11⟩ := f0_10.cons_inv
  obtain ⟨x0_10, rfl, wl0_10, wh0_10⟩ := g0_10
  obtain ⟨x0_10, rfl⟩ := Int.eq_ofNat_of_zero_le (show 0 ≤ x0_10 from wl0_10)
  replace wh0_10 : x0_10 < 4294967296 := by have := wh0_10; simp [IntKind.max, IntKind.signed, IntKind.bits] at this; omega
  obtain ⟨_, _, rfl, g0_11, f0_12⟩ := f0_11.cons_inv
  obtain ⟨x0_11, rfl, wl0_11, wh0_11⟩ := g0_11
  obtain ⟨x0_11, rfl⟩ := Int.eq_ofNat_of_zero_le (show 0 ≤ x0_11 from wl0_11)
  replace wh0_11 : x0_11 < 4294967296 := by have := wh0_11; simp [IntKind.max, IntKind.signed, IntKind.bits] at this; omega
  obtain ⟨_, _, rfl, g0_12, f0_13⟩ := f0_12.cons_inv
  obtain ⟨x0_12, rfl, wl0_12, wh0_12⟩ := g0_12
  obtain ⟨x0_12, rfl⟩ := Int.eq_ofNat_of_zero_le (show 0 ≤ x0_12 from wl0_12)
  replace wh0_12 : x0_12 < 4294967296 := by have := wh0_12; simp [IntKind.max, IntKind.signed, IntKind.bits] at this; omega
  obtain ⟨_, _, rfl, g0_13, f0_14⟩ := f0_13.cons_inv
  obtain ⟨x0_13, rfl, wl0_13, wh0_13⟩ := g0_13
  obtain ⟨x0_13, rfl⟩ := Int.eq_ofNat_of_zero_le (show 0 ≤ x0_13 from wl0_13)
  replace wh0_13 : x0_13 < 4294967296 := by have := wh0_13; simp [IntKind.max, IntKind.signed, IntKind.bits] at this; omega
  obtain ⟨_, _, rfl, g0_14, f0_15⟩ := f0_14.cons_inv
  obtain ⟨x0_14, rfl, wl0_14, wh0_14⟩ := g0_14
  obtain ⟨x0_14, rfl⟩ := Int.eq_ofNat_of_zero_le (show 0 ≤ x0_14 from wl0_14)
  replace wh0_14 : x0_14 < 4294967296 := by have := wh0_14; simp [IntKind.max, IntKind.signed, IntKind.bits] at this; omega
  obtain ⟨_, _, rfl, g0_15, f0_16⟩ := f0_15.cons_inv
  obtain ⟨x0_15, rfl, wl0_15, wh0_15⟩ := g0_15
  obtain ⟨x0_15, rfl⟩ := Int.eq_ofNat_of_zero_le (show 0 ≤ x0_15 from wl0_15)
  replace wh0_15 : x0_15 < 4294967296 := by have := wh0_15; simp [IntKind.max, IntKind.signed, IntKind.bits] at this; omega
  obtain ⟨_, _, rfl, g0_16, f0_17⟩ := f0_16.cons_inv
  obtain ⟨x0_16, rfl, wl0_16, wh0_16⟩ := g0_16
  obtain ⟨x0_16, rfl⟩ := Int.eq_ofNat_of_zero_le (show 0 ≤ x0_16 from wl0_16)
  replace wh0_16 : x0_16 < 4294967296 := by have := wh0_16; simp [IntKind.max, IntKind.signed, IntKind.bits] at this; omega
  obtain ⟨_, _, rfl, g0_17, f0_18⟩ := f0_17.cons_inv
  obtain ⟨x0_17, rfl, wl0_17, wh0_17⟩ := g0_17
  obtain ⟨x0_17, rfl⟩ := Int.eq_ofNat_of_zero_le (show 0 ≤ x0_17 from wl0_17)
  replace wh0_17 : x0_17 < 4294967296 := by have := wh0_17; simp [IntKind.max, IntKind.signed, IntKind.bits] at this; omega
  obtain ⟨_, _, rfl, g0_18, f0_19⟩ := f0_18.cons_inv
  obtain ⟨x0_18, rfl, wl0_18, wh0_18⟩ := g0_18
  obtain ⟨x0_18, rfl⟩ := Int.eq_ofNat_of_zero_le (show 0 ≤ x0_18 from wl0_18)
  replace wh0_18 : x0_18 < 4294967296 := by have := wh0_18; simp [IntKind.max, IntKind.signed, IntKind.bits] at this; omega
  obtain ⟨_, _, rfl, g0_19, f0_20⟩ := f0_19.cons_inv
  obtain ⟨x0_19, rfl, wl0_19, wh0_19⟩ := g0_19
  obtain ⟨x0_19, rfl⟩ := Int.eq_ofNat_of_zero_le (show 0 ≤ x0_19 from wl0_19)
  replace wh0_19 : x0_19 < 4294967296 := by have := wh0_19; simp [IntKind.max, IntKind.signed, IntKind.bits] at this; omega
  obtain ⟨_, _, rfl, g0_20, f0_21⟩ := f0_20.cons_inv
  obtain ⟨x0_20, rfl, wl0_20, wh0_20⟩ := g0_20
  obtain ⟨x0_20, rfl⟩ := Int.eq_ofNat_of_zero_le (show 0 ≤ x0_20 from wl0_20)
  replace wh0_20 : x0_20 < 4294967296 := by have := wh0_20; simp [IntKind.max, IntKind.signed, IntKind.bits] at this; omega
  obtain ⟨_, _, rfl, g0_21, f0_22⟩ := f0_21.cons_inv
  obtain ⟨x0_21, rfl, wl0_21, wh0_21⟩ := g0_21
  obtain ⟨x0_21, rfl⟩ := Int.eq_ofNat_of_zero_le (show 0 ≤ x0_21 from wl0_21)
  replace wh0_21 : x0_21 < 4294967296 := by have := wh0_21; simp [IntKind.max, IntKind.signed, IntKind.bits] at this; omega
  obtain ⟨_, _, rfl, g0_22, f0_23⟩ := f0_22.cons_inv
  obtain ⟨x0_22, rfl, wl0_22, wh0_22⟩ := g0_22
  obtain ⟨x0_22, rfl⟩ := Int.eq_ofNat_of_zero_le (show 0 ≤ x0_22 from wl0_22)
  replace wh0_22 : x0_22 < 4294967296 := by have := wh0_22; simp [IntKind.max, IntKind.signed, IntKind.bits] at this; omega
  obtain ⟨_, _, rfl, g0_23, f0_24⟩ := f0_23.cons_inv
  obtain ⟨x0_23, rfl, wl0_23, wh0_23⟩ := g0_23
  obtain ⟨x0_23, rfl⟩ := Int.eq_ofNat_of_zero_le (show 0 ≤ x0_23 from wl0_23)
  replace wh0_23 : x0_23 < 4294967296 := by have := wh0_23; simp [IntKind.max, IntKind.signed, IntKind.bits] at this; omega
  obtain ⟨_, _, rfl, g0_24, f0_25⟩ := f0_24.cons_inv
  obtain ⟨x0_24, rfl, wl0_24, wh0_24⟩ := g0_24
  obtain ⟨x0_24, rfl⟩ := Int.eq_ofNat_of_zero_le (show 0 ≤ x0_24 from wl0_24)
  replace wh0_24 : x0_24 < 4294967296 := by have := wh0_24; simp [IntKind.max, IntKind.signed, IntKind.bits] at this; omega
  obtain ⟨_, _, rfl, g0_25, f0_26⟩ := f0_25.cons_inv
  obtain ⟨x0_25, rfl, wl0_25, wh0_25⟩ := g0_25
  obtain ⟨x0_25, rfl⟩ := Int.eq_ofNat_of_zero_le (show 0 ≤ x0_25 from wl0_25)
  replace wh0_25 : x0_25 < 4294967296 := by have := wh0_25; simp [IntKind.max, IntKind.signed, IntKind.bits] at this; omega
  obtain ⟨_, _, rfl, g0_26, f0_27⟩ := f0_26.cons_inv
  obtain ⟨x0_26, rfl, wl0_26, wh0_26⟩ := g0_26
  obtain ⟨x0_26, rfl⟩ := Int.eq_ofNat_of_zero_le (show 0 ≤ x0_26 from wl0_26)
  replace wh0_26 : x0_26 < 4294967296 := by have := wh0_26; simp [IntKind.max, IntKind.signed, IntKind.bits] at this; omega
  obtain ⟨_, _, rfl, g0_27, f0_28⟩ := f0_27.cons_inv
  obtain ⟨x0_27, rfl, wl0_27, wh0_27⟩ := g0_27
  obtain ⟨x0_27, rfl⟩ := Int.eq_ofNat_of_zero_le (show 0 ≤ x0_27 from wl0_27)
  replace wh0_27 : x0_27 < 4294967296 := by have := wh0_27; simp [IntKind.max, IntKind.signed, IntKind.bits] at this; omega
  obtain ⟨_, _, rfl, g0_28, f0_29⟩ := f0_28.cons_inv
  obtain ⟨x0_28, rfl, wl0_28, wh0_28⟩ := g0_28
  obtain ⟨x0_28, rfl⟩ := Int.eq_ofNat_of_zero_le (show 0 ≤ x0_28 from wl0_28)
  replace wh0_28 : x0_28 < 4294967296 := by have := wh0_28; simp [IntKind.max, IntKind.signed, IntKind.bits] at this; omega
  obtain ⟨_, _, rfl, g0_29, f0_30⟩ := f0_29.cons_inv
  obtain ⟨x0_29, rfl, wl0_29, wh0_29⟩ := g0_29
  obtain ⟨x0_29, rfl⟩ := Int.eq_ofNat_of_zero_le (show 0 ≤ x0_29 from wl0_29)
  replace wh0_29 : x0_29 < 4294967296 := by have := wh0_29; simp [IntKind.max, IntKind.signed, IntKind.bits] at this; omega
  obtain ⟨_, _, rfl, g0_30, f0_31⟩ := f0_30.cons_inv
  obtain ⟨x0_30, rfl, wl0_30, wh0_30⟩ := g0_30
  obtain ⟨x0_30, rfl⟩ := Int.eq_ofNat_of_zero_le (show 0 ≤ x0_30 from wl0_30)
  replace wh0_30 : x0_30 < 4294967296 := by have := wh0_30; simp [IntKind.max, IntKind.signed, IntKind.bits] at this; omega
  obtain ⟨_, _, rfl, g0_31, f0_32⟩ := f0_31.cons_inv
  obtain ⟨x0_31, rfl, wl0_31, wh0_31⟩ := g0_31
  obtain ⟨x0_31, rfl⟩ := Int.eq_ofNat_of_zero_le (show 0 ≤ x0_31 from wl0_31)
  replace wh0_31 : x0_31 < 4294967296 := by have := wh0_31; simp [IntKind.max, IntKind.signed, IntKind.bits] at this; omega
  obtain ⟨_, _, rfl, g0_32, f0_33⟩ := f0_32.cons_inv
  obtain ⟨x0_32, rfl, wl0_32, wh0_32⟩ := g0_32
  obtain ⟨x0_32, rfl⟩ := Int.eq_ofNat_of_zero_le (show 0 ≤ x0_32 from wl0_32)
  replace wh0_32 : x0_32 < 4294967296 := by have := wh0_32; simp [IntKind.max, IntKind.signed, IntKind.bits] at this; omega
  obtain ⟨_, _, rfl, g0_33, f0_34⟩ := f0_33.cons_inv
  obtain ⟨x0_33, rfl⟩ := g0_33
  obtain ⟨_, _, rfl, g0_34, f0_35⟩ := f0_34.cons_inv
  obtain ⟨x0_34, rfl, wl0_34, wh0_34⟩ := g0_34
  obtain ⟨x0_34, rfl⟩ := Int.eq_ofNat_of_zero_le (show 0 ≤ x0_34 from wl0_34)
  replace wh0_34 : x0_34 < 4294967296 := by have := wh0_34; simp [IntKind.max, IntKind.signed, IntKind.bits] at this; omega
  obtain ⟨_, _, rfl, g0_35, f0_36⟩ := f0_35.cons_inv
  obtain ⟨x0_35, rfl, wl0_35, wh0_35⟩ := g0_35
  obtain ⟨x0_35, rfl⟩ := Int.eq_ofNat_of_zero_le (show 0 ≤ x0_35 from wl0_35)
  replace wh0_35 : x0_35 < 4294967296 := by have := wh0_35; simp [IntKind.max, IntKind.signed, IntKind.bits] at this; omega
  obtain ⟨_, _, rfl, g0_36, f0_37⟩ := f0_36.cons_inv
  obtain ⟨x0_36, rfl, wl0_36, wh0_36⟩ := g0_36
  obtain ⟨x0_36, rfl⟩ := Int.eq_ofNat_of_zero_le (show 0 ≤ x0_36 from wl0_36)
  replace wh0_36 : x0_36 < 4294967296 := by have := wh0_36; simp [IntKind.max, IntKind.signed, IntKind.bits] at this; omega
  obtain ⟨_, _, rfl, g0_37, f0_38⟩ := f0_37.cons_inv
  obtain ⟨x0_37, rfl, wl0_37, wh0_37⟩ := g0_37
  obtain ⟨x0_37, rfl⟩ := Int.eq_ofNat_of_zero_le (show 0 ≤ x0_37 from wl0_37)
  replace wh0_37 : x0_37 < 4294967296 := by have := wh0_37; simp [IntKind.max, IntKind.signed, IntKind.bits] at this; omega
  obtain ⟨_, _, rfl, g0_38, f0_39⟩ := f0_38.cons_inv
  obtain ⟨x0_38, rfl, wl0_38, wh0_38⟩ := g0_38
  obtain ⟨x0_38, rfl⟩ := Int.eq_ofNat_of_zero_le (show 0 ≤ x0_38 from wl0_38)
  replace wh0_38 : x0_38 < 4294967296 := by have := wh0_38; simp [IntKind.max, IntKind.signed, IntKind.bits] at this; omega
  obtain ⟨_, _, rfl, g0_39, f0_40⟩ := f0_39.cons_inv
  obtain ⟨x0_39, rfl, wl0_39, wh0_39⟩ := g0_39
  obtain ⟨x0_39, rfl⟩ := Int.eq_ofNat_of_zero_le (show 0 ≤ x0_39 from wl0_39)
  replace wh0_39 : x0_39 < 4294967296 := by have := wh0_39; simp [IntKind.max, IntKind.signed, IntKind.bits] at this; omega
  obtain ⟨_, _, rfl, g0_40, f0_41⟩ := f0_40.cons_inv
  obtain ⟨x0_40, rfl, wl0_40, wh0_40⟩ := g0_40
  obtain ⟨x0_40, rfl⟩ := Int.eq_ofNat_of_zero_le (show 0 ≤ x0_40 from wl0_40)
  replace wh0_40 : x0_40 < 4294967296 := by have := wh0_40; simp [IntKind.max, IntKind.signed, IntKind.bits] at this; omega
  obtain ⟨_, _, rfl, g0_41, f0_42⟩ := f0_41.cons_inv
  obtain ⟨x0_41, rfl, wl0_41, wh0_41⟩ := g0_41
  obtain ⟨x0_41, rfl⟩ := Int.eq_ofNat_of_zero_le (show 0 ≤ x0_41 from wl0_41)
  replace wh0_41 : x0_41 < 18446744073709551616 := by have := wh0_41; simp [IntKind.max, IntKind.signed, IntKind.bits] at this; omega
  obtain rfl := f0_42.nil_inv
  obtain ⟨a1, n1, m1, z1, rfl, B1⟩ := open_words Tryd.underlying41 Tryd.underlying22 (by kernel_rfl) (hval 1 41 v1 rfl rfl) h1 (fun x y hd => by
    subst hd
    have := sized_slice hsz0 (j := 1) (t := 41) (e := 22) rfl rfl Tryd.underlying41
    rw [show Tryd.checked.prog.bytesOf 22 = 4 from by kernel_rfl] at this
    simp only [reachBytes] at this
    omega)
  obtain ⟨a2, n2, m2, z2, rfl, B2⟩ := open_words Tryd.underlying41 Tryd.underlying22 (by kernel_rfl) (hval 2 41 v2 rfl rfl) h2 (fun x y hd => by
    subst hd
    have := sized_slice hsz0 (j := 2) (t := 41) (e := 22) rfl rfl Tryd.underlying41
    rw [show Tryd.checked.prog.bytesOf 22 = 4 from by kernel_rfl] at this
    simp only [reachBytes] at this
    omega)
  clear hA0 hval0 hsz0 hL
  refine (hartHolds_walk x0_0 x0_1 x0_2 x0_3 x0_4 x0_5 x0_6 x0_7 x0_8 x0_9 x0_10 x0_11 x0_12 x0_13 x0_14 x0_15 x0_16 x0_17 x0_18 x0_19 x0_20 x0_21 x0_22 x0_23 x0_24 x0_25 x0_26 x0_27 x0_28 x0_29 x0_30 x0_31 x0_32 x0_33 x0_34 x0_35 x0_36 x0_37 x0_38 x0_39 x0_40 x0_41 wh0_0 wh0_1 wh0_2 wh0_3 wh0_4 wh0_5 wh0_6 wh0_7 wh0_8 wh0_9 wh0_10 wh0_11 wh0_12 wh0_13 wh0_14 wh0_15 wh0_16 wh0_17 wh0_18 wh0_19 wh0_20 wh0_21 wh0_22 wh0_23 wh0_24 wh0_25 wh0_26 wh0_27 wh0_28 wh0_29 wh0_30 wh0_31 wh0_32 wh0_34 wh0_35 wh0_36 wh0_37 wh0_38 wh0_39 wh0_40 wh0_41 a1 n1 m1 z1 a2 n2 m2 z2 W B1 B2 hT).mono fun e W' ⟨he, bel⟩ => ?_
  subst he
  exact ⟨_, rfl, _, _, _, [], _, [], hW', trodAll_mk1 (shut_bool Tryd.underlying4 _), (trodAll_cons_mk (Below.trod laidOut (by kernel_rfl) (of_decide_eq_true (by kernel_rfl)) h0 bel (fun x hx => hlt x (by simp [hx]))) (trodAll_cons_mk (Below.trod laidOut (by kernel_rfl) (of_decide_eq_true (by kernel_rfl)) h1 bel (fun x hx => hlt x (by simp [hx]))) (trodAll_cons_mk (Below.trod laidOut (by kernel_rfl) (of_decide_eq_true (by kernel_rfl)) h2 bel (fun x hx => hlt x (by simp [hx]))) trodAll_mk0))), rfl, bel.frame _, fun h => by cases h⟩
theorem over : Rows.hartHoldsRow.holds Tryd.pinned (OpenSpec.ofChange Rows.hartHoldsSpec) :=
  OpenClaim.holds_of_wide 4 Tryd.f4 rfl rfl rfl rfl rfl rfl rfl ⟨rfl, rfl, rfl, rfl, rfl⟩ rfl rfl rfl rfl rfl (by kernel_rfl) Tryd.func4 (by kernel_rfl)
    (of_decide_eq_true (by kernel_rfl)) (by unfold Func.isWrapper; first | (rw [if_pos (by decide +kernel)]; kernel_rfl) | (rw [if_neg (by decide +kernel)]; exact ⟨rfl, rfl⟩))
    (fun os started H enc _ => lifted os started H enc)
theorem card_holds : Rows.HartHoldsCardSaid :=
  Claim7.holds_tied_plain_at .later [] [.data] true (true, "2ecabce7cdaebec631fe66c61e76df40cd62d9581b79a04b45f8679107ab2f81") true
    over (fun _ h => by cases h) (by kernel_rfl) (fun _ h => by cases h) hartHolds_row_tie rfl ⟨rfl, rfl⟩ (by kernel_rfl) rfl
    (fun f fn hf hfn => by
      obtain rfl : f = 4 := Option.some.inj ((show Tryd.prog.funcNamed Rows.hartHoldsRow.func = some 4 by kernel_rfl).symm.trans hf) |>.symm
      obtain rfl : fn = Tryd.f4 := (Option.some.inj (Tryd.func4.symm.trans hfn)).symm
      exact ⟨by kernel_rfl, fun j t ht => by
        rw [Tryd.params4] at ht
        rcases j with _ | _ | _ | j
        · obtain rfl : 40 = t := by simpa using ht
          kernel_rfl
        · obtain rfl : 41 = t := by simpa using ht
          kernel_rfl
        · obtain rfl : 41 = t := by simpa using ht
          kernel_rfl
        · simp at ht⟩)
    (by kernel_rfl)
end hartHolds
/-- The card. -/
theorem hartHolds_holds : Rows.HartHoldsCardSaid := hartHolds.card_holds
#print axioms hartHolds_holds

end Go.Proofs.YtphlgaklfibciaaDoor
