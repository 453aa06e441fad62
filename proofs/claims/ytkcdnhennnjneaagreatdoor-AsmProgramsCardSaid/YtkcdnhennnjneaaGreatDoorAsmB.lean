import Derived.Test.YtkcdnhennnjneaaGreatDoorAsmG
namespace Go.Proofs.YtkcdnhennnjneaaGreatDoor
open Go.RowKit Go.Shelf Go.RowKit
set_option maxRecDepth 100000
set_option linter.unusedVariables false
set_option linter.unusedSimpArgs false

def sureT : List UInt8 := [108, 111, 111, 112, 58, 10, 97, 100, 100, 105, 32, 120, 49, 44, 32, 120, 49, 44, 32, 45, 49, 10, 98, 110, 101, 32, 120, 49, 44, 32, 120, 48, 44, 32, 108, 111, 111, 112, 10]
theorem sure_prog : progT sureT = ([4293951635, 4261453539], 0, 0) := by decide +kernel
theorem rowU_two {w : World} {base : Nat} {v : Value} {x y : Nat} (h : RowU w base v [x, y]) : ∃ g cap, v = .slice (some ⟨g, 0, none⟩) 2 cap ∧ w.cell? ⟨g, 1, none⟩ = some (.int .u32 (y : Nat)) := by
  obtain ⟨_, h2⟩ := h
  rcases h2 with ⟨_, h3⟩ | ⟨g, cap, cur, rfl, _, h4, _, _, _, h8⟩
  · simp at h3
  · refine ⟨g, cap, rfl, ?_⟩
    rw [cell_of_row _ _ _ _ _ _ h4]
    have q := congrArg (fun l => l[1]?) h8
    simpa using q
set_option maxHeartbeats 1000000 in
theorem asure_any {B : Nat} (w : World) (E : Env B w) : Calls Tryz.prog 9 #[] w fun e w' => e = .returned (.bool true) ∧ Below w.heap.size w w' := by
  have AP : Hid (Calls Tryz.prog 10 #[.string ⟨#[108, 111, 111, 112, 58, 10, 97, 100, 100, 105, 32, 120, 49, 44, 32, 120, 49, 44, 32, 45, 49, 10, 98, 110, 101, 32, 120, 49, 44, 32, 120, 48, 44, 32, 108, 111, 111, 112, 10]⟩] w fun e w' => ∃ r, e = .returned (.tuple #[r, .int .i64 0, .nilIface]) ∧ RowU w' w.heap.size r [4293951635, 4261453539] ∧ Below w.heap.size w w') := Lib.hid (by
    have h := aprog_any sureT (by decide) w E
    rw [sure_prog] at h
    exact h)
  clear E
  go_enter Tryz.func9, Tryz.ntmps9
  go_wp2_with (go_at_call 10; refine AP.out.mono ?_; rintro e w1 ⟨r, rfl, hru, hb⟩; (obtain ⟨g, cap, rfl, hc⟩ := rowU_two hru); have B1 := Lib.hid hb; clear hru hb)
  go_ret
  exact ⟨rfl, B1.out⟩

theorem text_len {i : Ins} (h : i.can) : (textT i).length ≤ 70000 := by
  have h1 := join_small (operT i) 60 (oper_small h)
  have h2 := oper_len i
  have h3 := nm_small i.op.toNat (by have := h.1; omega)
  have h4 : (operT i).length * 62 ≤ 3 * 62 := Nat.mul_le_mul_right _ h2
  unfold textT nmOf
  split
  · omega
  · simp only [List.length_append, List.length_cons]; omega
set_option maxHeartbeats 4000000 in
theorem asmBack_h (i : Ins) (s : List UInt8) (hs : s.length ≤ maxLen) (w : World) (E : Env w.heap.size w) : Calls Tryz.prog 6 #[i.v, .string (bs s)] w fun e w' => e = .returned (.bool true) ∧ Below w.heap.size w w' := by
  have HE := Lib.hid E
  have SU := Lib.hid (fun w' (E : Env w.heap.size w') => asure_any w' E)
  have TX : Hid (∀ k : Ins, k.can → ∀ w', Env w.heap.size w' → Calls Tryz.prog 14 #[k.v] w' fun e w2 => e = .returned (.tuple #[.string (bs (textT k)), .nilIface]) ∧ Below w'.heap.size w' w2) := Lib.hid (fun k hk w' E => atext_yes k hk w' E)
  have hz := bs_size s
  obtain ⟨y, hy⟩ : ∃ y, y = bs s := ⟨_, rfl⟩
  rw [← hy] at hz ⊢
  have HYY := Lib.hid hy
  have HZZ := Lib.hid hz
  have hysz : y.size ≤ 9223372036854775807 := by unfold maxLen at hs; omega
  have hiv : i.v = .agg #[.int .i64 i.op, .int .i64 i.rd, .int .i64 i.r1, .int .i64 i.r2, .int .i64 i.imm, .int .i64 i.cs] := rfl
  have PY : Hid (i.can → ∀ w', Env w.heap.size w' → Calls Tryz.prog 17 #[.string (bs (textT i))] w' fun e w2 => e = .returned (.tuple #[i.v, .nilIface]) ∧ Below w'.heap.size w' w2) := Lib.hid (fun hc w' E => aparse_yes (textT i) (text_len hc) i (text_parse hc) w' E)
  have TN : Hid (¬ i.can → ∀ w', Env w.heap.size w' → Calls Tryz.prog 14 #[i.v] w' fun e w2 => e = .returned (.tuple #[.string ⟨#[]⟩, .iface 56 (.int .i64 1)]) ∧ Below w'.heap.size w' w2) := Lib.hid (fun hc w' E => atext_no _ _ _ _ _ _ hc w' E)
  have TY := Lib.hid (fun hc w' E => TX.out i hc w' E)
  rw [hiv] at PY TN TY ⊢
  have PN : Hid (parseT s = none → s.length ≤ 70000 → ∀ w', Env w.heap.size w' → Calls Tryz.prog 17 #[.string y] w' fun e w2 => e = .returned (.tuple #[.agg #[.int .i64 0, .int .i64 0, .int .i64 0, .int .i64 0, .int .i64 0, .int .i64 0], .iface 56 (.int .i64 3)]) ∧ Below w'.heap.size w' w2) := Lib.hid (fun h h2 w' E => by rw [HYY.out]; exact aparse_no s h2 h w' E)
  have PK : Hid (∀ k, parseT s = some k → s.length ≤ 70000 → ∀ w', Env w.heap.size w' → Calls Tryz.prog 17 #[.string y] w' fun e w2 => e = .returned (.tuple #[k.v, .nilIface]) ∧ Below w'.heap.size w' w2) := Lib.hid (fun k h h2 w' E => by rw [HYY.out]; exact aparse_yes s h2 k h w' E)
  clear hiv hy hz E hs
  have b0 : Below w.heap.size w (w.alloc (.cells #[.int .i64 i.op, .int .i64 i.rd, .int .i64 i.r1, .int .i64 i.r2, .int .i64 i.imm, .int .i64 i.cs] 34)) := (Below.refl _ _).alloc (Nat.le_refl _) _
  have B0 := Lib.hid b0
  have E0 := Lib.hid (HE.out.below b0)
  have r0 := heap_alloc_new w (.cells #[.int .i64 i.op, .int .i64 i.rd, .int .i64 i.r1, .int .i64 i.r2, .int .i64 i.imm, .int .i64 i.cs] 34)
  have R0 := Lib.hid r0
  clear b0 r0
  generalize hcan : i.can = CAN at *
  have hem : CAN ∨ ¬ CAN := Classical.em _
  have HEM := Lib.hid hem
  clear hem hcan
  generalize bs (textT i) = tx at *
  generalize i.op = i1 at *
  generalize i.rd = i2 at *
  generalize i.r1 = i3 at *
  generalize i.r2 = i4 at *
  generalize i.imm = i5 at *
  generalize i.cs = i6 at *
  go_enter Tryz.func6, Tryz.ntmps6
  go_upto_region 1 with (fail)
  go_cut [5, 6] (fun x e w' => ((CAN ∧ x = .string tx ∧ e = .nilIface) ∨ e = .iface 56 (.int .i64 1)) ∧ Below w.heap.size w w' ∧ w'.heap[w.heap.size]? = some (.cells #[.int .i64 i1, .int .i64 i2, .int .i64 i3, .int .i64 i4, .int .i64 i5, .int .i64 i6] 34 (0, 0)))
  case first =>
    rcases HEM.out with hc | hc
    · have T := Lib.hid (TY.out hc)
      have HCN := Lib.hid hc
      clear hc
      go_wp2_with (go_at_call 14; refine (T.out _ E0.out).mono ?_; rintro e w1 ⟨rfl, hb⟩; have B1 := Lib.hid hb; clear hb)
      go_meet
      case rel => exact ⟨Or.inl ⟨HCN.out, rfl, rfl⟩, B0.out.trans (B1.out.mono (by simp)), (B1.out.block _ (by simp)).trans R0.out⟩
    · have T := Lib.hid (TN.out hc)
      clear hc
      go_wp2_with (go_at_call 14; refine (T.out _ E0.out).mono ?_; rintro e w1 ⟨rfl, hb⟩; have B1 := Lib.hid hb; clear hb)
      go_meet
      case rel => exact ⟨Or.inr rfl, B0.out.trans (B1.out.mono (by simp)), (B1.out.block _ (by simp)).trans R0.out⟩
  case rest =>
    obtain ⟨hor, hb1, hr1⟩ := hcut
    have OR := Lib.hid hor
    have B1 := Lib.hid hb1
    have R1 := Lib.hid hr1
    have E1 := Lib.hid (HE.out.below hb1)
    clear hor hb1 hr1
    obtain ⟨w1, hw1⟩ : ∃ w1, w1 = wc := ⟨_, rfl⟩
    have W1 := Lib.hid hw1
    rw [← hw1] at B1 R1 E1
    clear hw1
    go_upto_region 2 with (fail)
    go_cut [5, 19] (fun x b w' => ((CAN ∧ x = .string tx ∧ b = .bool true) ∨ b = .bool false) ∧ w' = w1)
    case first =>
      rcases OR.out with ⟨hc, rfl, rfl⟩ | rfl
      · have HC := Lib.hid hc
        clear hc
        go_wp2
        go_meet
        case rel => exact ⟨Or.inl ⟨HC.out, rfl, rfl⟩, W1.out.symm⟩
      · go_wp2
        go_meet
        case rel => exact ⟨Or.inr rfl, W1.out.symm⟩
    case rest =>
      obtain ⟨hor, hwc⟩ := hcut
      subst hwc
      have OR2 := Lib.hid hor
      clear hor W1 OR
      go_upto_if 19 with (fail)
      go_cut [] (fun w' => Below w.heap.size w w')
      case first =>
        rcases OR2.out with ⟨hc, rfl, rfl⟩ | rfl
        · have P := Lib.hid (PY.out hc)
          clear hc
          have HSZ := Lib.hid B1.out.size
          go_wp2_with (go_at_call 17; refine (P.out _ E1.out).mono ?_; rintro e w2 ⟨rfl, hb⟩; have B2 := Lib.hid hb; have hrr := (hb.block w.heap.size (heap_lt R1.out)).trans R1.out; (have k0 : (w2.alloc (.cells #[.int .i64 i1, .int .i64 i2, .int .i64 i3, .int .i64 i4, .int .i64 i5, .int .i64 i6] 37)).cell? ⟨w.heap.size, 0, none⟩ = some (.int .i64 i1) := Lib.cell?_alloc_some _ (by rw [cell_of_row _ _ _ _ _ _ hrr]; rfl)); (have k1 : (w2.alloc (.cells #[.int .i64 i1, .int .i64 i2, .int .i64 i3, .int .i64 i4, .int .i64 i5, .int .i64 i6] 37)).cell? ⟨w.heap.size, 1, none⟩ = some (.int .i64 i2) := Lib.cell?_alloc_some _ (by rw [cell_of_row _ _ _ _ _ _ hrr]; rfl)); (have k2 : (w2.alloc (.cells #[.int .i64 i1, .int .i64 i2, .int .i64 i3, .int .i64 i4, .int .i64 i5, .int .i64 i6] 37)).cell? ⟨w.heap.size, 2, none⟩ = some (.int .i64 i3) := Lib.cell?_alloc_some _ (by rw [cell_of_row _ _ _ _ _ _ hrr]; rfl)); (have k3 : (w2.alloc (.cells #[.int .i64 i1, .int .i64 i2, .int .i64 i3, .int .i64 i4, .int .i64 i5, .int .i64 i6] 37)).cell? ⟨w.heap.size, 3, none⟩ = some (.int .i64 i4) := Lib.cell?_alloc_some _ (by rw [cell_of_row _ _ _ _ _ _ hrr]; rfl)); (have k4 : (w2.alloc (.cells #[.int .i64 i1, .int .i64 i2, .int .i64 i3, .int .i64 i4, .int .i64 i5, .int .i64 i6] 37)).cell? ⟨w.heap.size, 4, none⟩ = some (.int .i64 i5) := Lib.cell?_alloc_some _ (by rw [cell_of_row _ _ _ _ _ _ hrr]; rfl)); (have k5 : (w2.alloc (.cells #[.int .i64 i1, .int .i64 i2, .int .i64 i3, .int .i64 i4, .int .i64 i5, .int .i64 i6] 37)).cell? ⟨w.heap.size, 5, none⟩ = some (.int .i64 i6) := Lib.cell?_alloc_some _ (by rw [cell_of_row _ _ _ _ _ _ hrr]; rfl)); clear hrr hb)
          go_meet
          case rel => exact (B1.out.trans (B2.out.mono HSZ.out)).alloc (Nat.le_trans HSZ.out B2.out.size) _
        · go_wp2
          go_meet
          case rel => exact B1.out
      case rest =>
        have B3 := Lib.hid hcut
        have E3 := Lib.hid (HE.out.below hcut)
        clear hcut
        by_cases hlong : 1000 < y.size
        · have hlI : (1000 : Int) < (y.size : Int) := by omega
          go_wp2_with (go_at_call 9; refine (SU.out _ E3.out).mono ?_; rintro e w4 ⟨rfl, hb⟩; have B4 := Lib.hid hb; clear hb)
          go_ret
          exact ⟨rfl, B3.out.trans (B4.out.mono B3.out.size)⟩
        · have hlI : ¬ (1000 : Int) < (y.size : Int) := by omega
          have hsl : s.length ≤ 70000 := by have := HZZ.out; omega
          have HSZ3 := Lib.hid B3.out.size
          cases hps : parseT s with
          | none =>
            have P := Lib.hid (PN.out hps hsl)
            clear hps
            go_wp2_with (first | (go_at_call 17; refine (P.out _ E3.out).mono ?_; rintro e w4 ⟨rfl, hb⟩; (have b4 := (B3.out.trans (hb.mono HSZ3.out)).alloc (Nat.le_trans HSZ3.out hb.size) (.cells #[.int .i64 0, .int .i64 0, .int .i64 0, .int .i64 0, .int .i64 0, .int .i64 0] 37)); have B4 := Lib.hid b4; have E4 := Lib.hid (HE.out.below b4); clear hb b4) | (go_at_call 9; refine (SU.out _ E4.out).mono ?_; rintro e w5 ⟨rfl, hb⟩; have B5 := Lib.hid hb; clear hb))
            go_ret
            exact ⟨rfl, B4.out.trans (B5.out.mono B4.out.size)⟩
          | some k =>
            have P := Lib.hid (PK.out k hps hsl)
            obtain ⟨hkc, hks⟩ := parse_text hps
            have T := Lib.hid (TX.out k hkc)
            rw [hks, ← HYY.out] at T
            have hkv : k.v = .agg #[.int .i64 k.op, .int .i64 k.rd, .int .i64 k.r1, .int .i64 k.r2, .int .i64 k.imm, .int .i64 k.cs] := rfl
            rw [hkv] at P T
            clear hps hkc hks hkv
            generalize k.op = l1 at *
            generalize k.rd = l2 at *
            generalize k.r1 = l3 at *
            generalize k.r2 = l4 at *
            generalize k.imm = l5 at *
            generalize k.cs = l6 at *
            go_wp2_with (first | (go_at_call 17; refine (P.out _ E3.out).mono ?_; rintro e w4 ⟨rfl, hb⟩; (have b4 := (B3.out.trans (hb.mono HSZ3.out)).alloc (Nat.le_trans HSZ3.out hb.size) (.cells #[.int .i64 l1, .int .i64 l2, .int .i64 l3, .int .i64 l4, .int .i64 l5, .int .i64 l6] 37)); have B4 := Lib.hid b4; have E4 := Lib.hid (HE.out.below b4); clear hb b4) | (go_at_call 14; refine (T.out _ E4.out).mono ?_; rintro e w5 ⟨rfl, hb⟩; (have b5 := B4.out.trans (hb.mono B4.out.size)); have B5 := Lib.hid b5; have E5 := Lib.hid (HE.out.below b5); clear hb b5) | (go_at_call 9; refine (SU.out _ E5.out).mono ?_; rintro e w6 ⟨rfl, hb⟩; have B6 := Lib.hid hb; clear hb))
            go_ret
            exact ⟨rfl, B5.out.trans (B6.out.mono B5.out.size)⟩

theorem asmBack_walk (x0 x1 x2 x3 x4 x5 : Int) (_ : -9223372036854775808 ≤ x0) (_ : x0 < 9223372036854775808) (_ : -9223372036854775808 ≤ x1) (_ : x1 < 9223372036854775808) (_ : -9223372036854775808 ≤ x2) (_ : x2 < 9223372036854775808) (_ : -9223372036854775808 ≤ x3) (_ : x3 < 9223372036854775808) (_ : -9223372036854775808 ≤ x4) (_ : x4 < 9223372036854775808) (_ : -9223372036854775808 ≤ x5) (_ : x5 < 9223372036854775808) (s : ByteArray) (hs : s.size ≤ maxLen) (w : World) (E : Env w.heap.size w) :
    Calls Tryz.prog 6 #[.agg #[.int .i64 x0, .int .i64 x1, .int .i64 x2, .int .i64 x3, .int .i64 x4, .int .i64 x5], .string s] w fun e w' => e = .returned (.bool true) ∧ Below w.heap.size w w' := by
  have h := asmBack_h ⟨x0, x1, x2, x3, x4, x5⟩ s.data.toList (by have := bs_size s.data.toList; rw [bs_data] at this; rw [← this]; exact hs) w E
  rw [bs_data] at h
  exact h

end Go.Proofs.YtkcdnhennnjneaaGreatDoor
