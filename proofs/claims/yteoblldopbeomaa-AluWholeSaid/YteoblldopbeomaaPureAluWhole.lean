/- Proved: AluWhole, for every input: quotient times divisor and rest are the dividend, the rest is nearer to 0 than the divisor, the product is the same both ways round. No condition. -/
import Derived.Test.YteoblldopbeomaaPAluWholex2
import Derived.Laws.BitsAllLaws
import Derived.OpenShut
namespace Go.Proofs.Yteoblldopbeomaa.Pure
open Go.RowKit Go.Proofs.Yteoblldopbeomaa.PAluWhole Go.Proofs.YteoblldopbeomaaW.PrintWords Go.Proofs.YteoblldopbeomaaW.PrintLast Go.Proofs.YteoblldopbeomaaW.PrintMore
set_option linter.unusedVariables false

theorem wh_w64 {a : Int} (h0 : -9223372036854775808 ≤ a) (h1 : a < 9223372036854775808) : wrap64 a = a := by unfold wrap64; omega
theorem wh_u64 {a : Int} (h0 : 0 ≤ a) (h1 : a < 18446744073709551616) : IntKind.u64.wrap a = a := by rw [Go.IntKind.wrap_u64]; omega
theorem wh_tdiv_bound (x y : Int) (hx : -4294967296 < x) (hx' : x < 4294967296) : -4294967296 < Int.tdiv x y ∧ Int.tdiv x y < 4294967296 := by
  have h1 := Int.natAbs_tdiv_le_natAbs x y
  omega
theorem wh_sure : pinnacelaw02_sure.f 39 = some true := by decide +kernel
theorem wh_sure' : pinnacelaw02_sure.f 38 = some true := by decide +kernel

/-- the product is the same both ways round, where the signs are -/
theorem wide_comm (a b : Int) (s : Bool) : alu_Wide.f a b s s = alu_Wide.f b a s s := by
  unfold alu_Wide.f bits_Mul32.f
  rw [Int.mul_comm (IntKind.u64.wrap b) (IntKind.u64.wrap a)]
  simp only [Option.bind_some]
  cases s with
  | false => simp
  | true =>
    simp only [if_true]
    congr 2
    generalize (IntKind.u64.wrap (IntKind.u64.wrap a * IntKind.u64.wrap b)) / 4294967296 % 4294967296 = h
    generalize Go.bits BinOp.and .u32 (wrap32 a / 2147483648 % 4294967296) b = p
    generalize Go.bits BinOp.and .u32 (wrap32 b / 2147483648 % 4294967296) a = q
    omega
theorem wide_some (a b : Int) (s t : Bool) : ∃ h l, alu_Wide.f a b s t = some (h, l) := by
  unfold alu_Wide.f bits_Mul32.f
  simp only [Option.bind_some]
  cases s <;> cases t <;> exact ⟨_, _, rfl⟩

/-- the end of the law: the rest is nearer to nought -/
theorem whole_tail (a b : Int) (s : Bool) (x y : Int) (hx : -4294967296 < x) (hx' : x < 4294967296) (hy : -4294967296 < y) (hy' : y < 4294967296)
    (h : (if x < 0 then -x else x) < (if y < 0 then -y else y)) : pinnacelaw02_AluWhole.j0 40 a b s x y = some true := by
  obtain ⟨p, q, e⟩ := wide_some a b s s
  have e' : alu_Wide.f b a s s = some (p, q) := by rw [← wide_comm]; exact e
  simp only [pinnacelaw02_AluWhole.j0, pinnacelaw02_AluWhole.j1]
  rw [e, e']
  simp only [Option.bind_some, if_true]
  rw [wh_sure']
  simp only [Option.bind_some]
  by_cases h1 : x < 0
  · rw [if_pos h1] at h
    rw [if_pos h1, wh_w64 (a := -x) (by omega) (by omega)]
    by_cases h2 : y < 0
    · rw [if_pos h2] at h
      rw [if_pos h2, wh_w64 (a := -y) (by omega) (by omega), if_pos h]
    · rw [if_neg h2] at h
      rw [if_neg h2, if_pos h]
  · rw [if_neg h1] at h
    rw [if_neg h1]
    by_cases h2 : y < 0
    · rw [if_pos h2] at h
      rw [if_pos h2, wh_w64 (a := -y) (by omega) (by omega), if_pos h]
    · rw [if_neg h2] at h
      rw [if_neg h2, if_pos h]

theorem signed_val (a : Int) (h0 : 0 ≤ a) (h1 : a ≤ 4294967295) : pinnaceref02_Signed.f a = some (wrap32 a) := by
  unfold pinnaceref02_Signed.f
  split
  · congr 1; unfold wrap64 wrap32; omega
  · congr 1; unfold wrap64 wrap32; omega

/-- quotient times divisor and rest are the dividend, as words -/
theorem back_word (x y a b : Int) (ha : a % 4294967296 = x % 4294967296) (hb : b % 4294967296 = y % 4294967296) :
    ((Int.tdiv x y % 4294967296 * b % 4294967296 + Int.tmod x y % 4294967296) % 4294967296) = a % 4294967296 := by
  have h := Int.tmod_add_mul_tdiv x y
  rw [Int.emod_add_emod, Int.add_emod_emod, ha]
  have h2 : (Int.tdiv x y % 4294967296 * b + Int.tmod x y) % 4294967296 = (Int.tdiv x y * y + Int.tmod x y) % 4294967296 := by
    rw [Int.add_emod, Int.mul_emod, Int.emod_emod_of_dvd _ (Int.dvd_refl _), hb, ← Int.mul_emod, ← Int.add_emod]
  rw [h2]
  congr 1
  rw [Int.mul_comm]; omega

theorem abs_lt (x y : Int) (hy : y ≠ 0) : (if Int.tmod x y < 0 then -Int.tmod x y else Int.tmod x y) < (if y < 0 then -y else y) := by
  have h : (Int.tmod x y).natAbs < y.natAbs := by
    rw [Int.natAbs_tmod]; exact Nat.mod_lt _ (by omega)
  split <;> split <;> omega

theorem AluWhole : pinnacelaw02_AluWhole.Pure := by
  intro a b s wa wb
  obtain ⟨ha0, ha⟩ := bounds_u32 wa
  obtain ⟨hb0, hb⟩ := bounds_u32 wb
  have w32 : ∀ z : Int, 0 ≤ z → z ≤ 4294967295 → wrap64 (wrap32 z) = wrap32 z ∧ -2147483648 ≤ wrap32 z ∧ wrap32 z < 2147483648 ∧ (wrap32 z = 0 ↔ z = 0) ∧ wrap32 z % 4294967296 = z % 4294967296 := by
    intro z h0 h1; unfold wrap64 wrap32; omega
  have w64 : ∀ z : Int, 0 ≤ z → z ≤ 4294967295 → wrap64 z = z := fun z h0 h1 => wh_w64 (by omega) (by omega)
  refine ⟨40, ?_⟩
  unfold pinnacelaw02_AluWhole.f alu_Parts.f
  have hs : pinnacelaw02_sure.f 40 = some true := by decide +kernel
  cases s with
  | true =>
    simp only [if_true]
    obtain ⟨e1, b1, b2, z1, m1⟩ := w32 a ha0 ha
    obtain ⟨e2, c1, c2, z2, m2⟩ := w32 b hb0 hb
    rw [e1, e2]
    by_cases h : b = 0
    · rw [if_pos (z2.2 h)]; simp only [Option.bind_some]; rw [if_pos h, hs]; rfl
    · have h' : wrap32 b ≠ 0 := fun e => h (z2.1 e)
      rw [if_neg h']
      simp only [Option.bind_some]
      have tb := wh_tdiv_bound (wrap32 a) (wrap32 b) (by omega) (by omega)
      rw [if_neg h, wh_w64 (a := Int.tdiv _ _) (by omega) (by omega)]
      have al := abs_lt (wrap32 a) (wrap32 b) h'
      have hm1 := Int.tmod_lt_of_pos
      generalize hr : Int.tmod (wrap32 a) (wrap32 b) = r at al ⊢
      have rb : -2147483648 ≤ r ∧ r < 2147483648 := by
        by_cases hb1 : wrap32 b < 0 <;> by_cases hr1 : r < 0 <;> simp only [hb1, hr1, if_true, if_false] at al <;> omega
      rw [if_pos (by rw [← hr, back_word (wrap32 a) (wrap32 b) a b m1.symm m2.symm]; omega)]
      rw [signed_val _ (Int.emod_nonneg _ (by decide)) (by omega), signed_val b hb0 hb]
      simp only [Option.bind_some]
      have er : wrap32 (r % 4294967296) = r := by unfold wrap32; omega
      rw [er]
      exact whole_tail a b true r (wrap32 b) (by omega) (by omega) (by omega) (by omega) al
  | false =>
    simp only [Bool.false_eq_true, if_false]
    rw [w64 a ha0 ha, w64 b hb0 hb]
    by_cases h : b = 0
    · rw [if_pos h]; simp only [Option.bind_some]; rw [if_pos h, hs]; rfl
    · rw [if_neg h]
      simp only [Option.bind_some]
      have tb := wh_tdiv_bound a b (by omega) (by omega)
      rw [if_neg h, wh_w64 (a := Int.tdiv _ _) (by omega) (by omega)]
      have al := abs_lt a b h
      have r0 : 0 ≤ Int.tmod a b := Int.tmod_nonneg _ ha0
      have bw := back_word a b a b rfl rfl
      generalize hr : Int.tmod a b = r at al r0 bw ⊢
      have rb : r < 4294967296 := by
        rw [if_neg (by omega), if_neg (by omega)] at al; omega
      rw [if_pos (by rw [bw]; omega)]
      have er : r % 4294967296 = r := by omega
      rw [er, signed_val r r0 (by omega), signed_val b hb0 hb]
      simp only [Option.bind_some]
      rw [w64 r r0 (by omega)]
      exact whole_tail a b false r b (by omega) (by omega) (by omega) (by omega) al

end Go.Proofs.Yteoblldopbeomaa.Pure
