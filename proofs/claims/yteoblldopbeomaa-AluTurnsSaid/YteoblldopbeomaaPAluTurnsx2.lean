-- PRINTED BY print.sh 35421559b90ae4d0a3588c463048766b98c2df88dd9212a6774a882060cdf62d: not written by this session
import Derived.Test.YteoblldopbeomaaPAluTurnsx0
import Derived.Test.YteoblldopbeomaaPAluTurnsx1
namespace Go.Proofs.Yteoblldopbeomaa.PAluTurns
open Go.RowKit Go.Proofs.YteoblldopbeomaaW.PrintWords Go.Proofs.YteoblldopbeomaaW.PrintLast Go.Proofs.YteoblldopbeomaaW.PrintMore
attribute [local go_sem] max2_int min2_int max_two min_two max_three min_three max_four min_four   -- for this text's walks alone
set_option linter.unusedVariables false
set_option linter.unusedSimpArgs false

/-! ### alu_Holds: function 38 -/
mutual
def alu_Holds.j0 : Nat → Int → Int → Int → Bool → Option (Bool × Option Int)
  | 0, _, _, _, _ => none
  | k + 1, x0, x1, x2, x14 => if x14 = true then (some (false, some 1)) else (if x0 = 2 then (alu_Holds.j1 k x0 x1 x2 (x1 == x2) x0 (x0 == 2)) else (alu_Holds.j1 k x0 x1 x2 (x1 == x2) x0 (x0 == 3)))
def alu_Holds.j1 : Nat → Int → Int → Int → Bool → Int → Bool → Option (Bool × Option Int)
  | 0, _, _, _, _, _, _ => none
  | k + 1, x0, x1, x2, x8, x19, x20 => if x20 = true then (some (((decide ((wrap32 (x1)) < (wrap32 (x2)))) != ((Int.tmod x0 2) == 1)), none)) else (if x19 = 4 then (some (((decide (x1 < x2)) != ((Int.tmod x0 2) == 1)), none)) else (if x19 = 5 then (some (((decide (x1 < x2)) != ((Int.tmod x0 2) == 1)), none)) else (some ((x8 != ((Int.tmod x0 2) == 1)), none))))
end
def alu_Holds.f (k : Nat) (a0 : Int) (a1 : Int) (a2 : Int) : Option (Bool × Option Int) := if a0 < 0 then (alu_Holds.j0 k a0 a1 a2 true) else (alu_Holds.j0 k a0 a1 a2 (decide (a0 ≥ 6)))
theorem alu_Holds.mono_l : ∀ k, (∀ y0 y1 y2 y3, LeO (alu_Holds.j0 k y0 y1 y2 y3) (alu_Holds.j0 (k + 1) y0 y1 y2 y3)) ∧ (∀ y0 y1 y2 y3 y4 y5, LeO (alu_Holds.j1 k y0 y1 y2 y3 y4 y5) (alu_Holds.j1 (k + 1) y0 y1 y2 y3 y4 y5))
  | 0 => ⟨fun _ _ _ _ r h => by simp [alu_Holds.j0] at h, fun _ _ _ _ _ _ r h => by simp [alu_Holds.j1] at h⟩
  | k + 1 => by
    obtain ⟨ih0, ih1⟩ := alu_Holds.mono_l k
    refine ⟨?_, ?_⟩
    · intro y0 y1 y2 y3
      unfold alu_Holds.j0
      repeat' first
      | (with_reducible exact ih0 _ _ _ _)
      | (with_reducible exact ih1 _ _ _ _ _ _)
      | (with_reducible exact LeO.refl _)
      | (with_reducible exact LeO.none _)
      | (with_reducible refine LeO.ite ?_ ?_)
      | (with_reducible refine LeO.bind ?_ (fun _ => ?_))
      | exact ih0 _ _ _ _
      | exact ih1 _ _ _ _ _ _
      | exact LeO.none _
      | refine LeO.ite ?_ ?_
      | refine LeO.bind ?_ (fun _ => ?_)
    · intro y0 y1 y2 y3 y4 y5
      unfold alu_Holds.j1
      repeat' first
      | (with_reducible exact ih0 _ _ _ _)
      | (with_reducible exact ih1 _ _ _ _ _ _)
      | (with_reducible exact LeO.refl _)
      | (with_reducible exact LeO.none _)
      | (with_reducible refine LeO.ite ?_ ?_)
      | (with_reducible refine LeO.bind ?_ (fun _ => ?_))
      | exact ih0 _ _ _ _
      | exact ih1 _ _ _ _ _ _
      | exact LeO.none _
      | refine LeO.ite ?_ ?_
      | refine LeO.bind ?_ (fun _ => ?_)
theorem alu_Holds.mono : ∀ a0 a1 a2 k, LeO (alu_Holds.f k a0 a1 a2) (alu_Holds.f (k + 1) a0 a1 a2) := by
  intro a0 a1 a2 k
  obtain ⟨ih0, ih1⟩ := alu_Holds.mono_l k
  unfold alu_Holds.f
  repeat' first
      | (with_reducible exact ih0 _ _ _ _)
      | (with_reducible exact ih1 _ _ _ _ _ _)
      | (with_reducible exact LeO.refl _)
      | (with_reducible exact LeO.none _)
      | (with_reducible refine LeO.ite ?_ ?_)
      | (with_reducible refine LeO.bind ?_ (fun _ => ?_))
      | exact ih0 _ _ _ _
      | exact ih1 _ _ _ _ _ _
      | exact LeO.none _
      | refine LeO.ite ?_ ?_
      | refine LeO.bind ?_ (fun _ => ?_)
set_option maxHeartbeats 8000000 in
set_option maxRecDepth 100000 in
theorem alu_Holds.calls (k : Nat) (a0 : Int) (a1 : Int) (a2 : Int) (r1 : Bool) (r2 : Option Int) (w : World) (h : alu_Holds.f k a0 a1 a2 = some (r1, r2)) :
    Calls Try.prog 38 #[.int .i64 a0, .int .u32 a1, .int .u32 a2] w fun e w' => e = .returned (.tuple #[.bool r1, errW r2]) ∧ Drawn0 w w' := by
  have hu54 := Try.underlying54
  have hu84 := Try.underlying84
  have H : (if a0 < 0 then (alu_Holds.j0 k a0 a1 a2 true) else (alu_Holds.j0 k a0 a1 a2 (decide (a0 ≥ 6)))) = some (r1, r2) := h
  clear h
  have HC4 := Aside0.mk H
  clear H
  go_enter Try.func38, Try.ntmps38
  go_upto_region 1 with (fail)
  go_cut [14] (fun v14 wc => ∃ (kq : Nat) (x14_3 : Bool), v14 = .bool x14_3 ∧ Aside0 (alu_Holds.j0 kq a0 a1 a2 x14_3 = some (r1, r2)) ∧ Aside0 (kq ≤ k) ∧ Drawn0 w wc)
  case first =>
    have H := HC4.out
    clear HC4
    by_cases c5 : a0 < 0
    · rw [if_pos c5] at H
      have c5b0 : decide (a0 < 0) = true := decide_eq_true c5
      clear c5
      (first | rw [c5b0] | (simp only [i64_w, i32_w]; rw [c5b0]) | skip)
      have H' := Aside0.mk H
      clear H
      go_wp2
      go_meet
      case rel => exact ⟨_, (true), (by first | rfl | (simp; done) | (simp [*]; done)), H', ⟨by first | omega | exact Nat.le_refl _⟩, by repeat (first | exact Drawn0.refl _ | apply Drawn0.step)⟩
    · rw [if_neg c5] at H
      have c5b0 : decide (a0 < 0) = false := decide_eq_false c5
      clear c5
      (first | rw [c5b0] | (simp only [i64_w, i32_w]; rw [c5b0]) | skip)
      have H' := Aside0.mk H
      clear H
      go_wp2
      go_meet
      case rel => exact ⟨_, (decide (a0 ≥ 6)), (by first | rfl | (simp; done) | (simp [*]; done)), H', ⟨by first | omega | exact Nat.le_refl _⟩, by repeat (first | exact Drawn0.refl _ | apply Drawn0.step)⟩
  case rest =>
    clear HC4
    try clear p2
    try clear c3
    try clear c5
    try clear c5b0
    obtain ⟨kq, x14_3, rfl, HA, HJ3, ⟨mc3, rfl⟩⟩ := hcut
    cases kq with
    | zero => exact absurd HA.out (by simp [alu_Holds.j0])
    | succ kj3 =>
      have H := HA.out
      clear HA
      simp only [alu_Holds.j0] at H
      by_cases c6 : x14_3 = true
      · subst c6
        have H1 : (some (false, some 1)) = some (r1, r2) := by rw [if_pos rfl] at H; exact H
        clear H
        have H := H1
        clear H1
        simp only [Option.some.injEq, Prod.mk.injEq] at H
        obtain ⟨rfl, rfl⟩ := H
        go_wp2
        go_ret2
        exact ⟨by first | rfl | (simp; done) | (simp [*]; done), by repeat (first | exact Drawn0.refl _ | apply Drawn0.step)⟩
      · replace c6 := Bool.eq_false_iff.mpr c6
        subst c6
        have H1 : (if a0 = 2 then (alu_Holds.j1 kj3 a0 a1 a2 (a1 == a2) a0 (a0 == 2)) else (alu_Holds.j1 kj3 a0 a1 a2 (a1 == a2) a0 (a0 == 3))) = some (r1, r2) := by rw [if_neg (show ¬ (false = true) by decide)] at H; exact H
        clear H
        have H := H1
        clear H1
        have HC7 := Aside0.mk H
        clear H
        go_upto_if 20 with (fail)
        go_cut [20] (fun v20 wc => ∃ (kq : Nat) (x20_6 : Bool), v20 = .bool x20_6 ∧ Aside0 (alu_Holds.j1 kq a0 a1 a2 (a1 == a2) a0 x20_6 = some (r1, r2)) ∧ Aside0 (kq ≤ kj3) ∧ Drawn0 w wc)
        case first =>
          have H := HC7.out
          clear HC7
          by_cases c8 : a0 = 2
          · rw [if_pos c8] at H
            have c8b0 : (a0 == 2) = true := beq_iff_eq.mpr c8
            have c8b1 : (a0 != 2) = false := bne_eq_false_iff_eq.mpr c8
            clear c8
            (first | rw [c8b0] | (simp only [i64_w, i32_w]; rw [c8b0]) | skip)
            have H' := Aside0.mk H
            clear H
            go_wp2
            go_meet
            case rel => exact ⟨_, ((a0 == 2)), (by first | rfl | (simp; done) | (simp [*]; done)), H', ⟨by have := HJ3.out; first | omega | exact Nat.le_refl _⟩, by repeat (first | exact Drawn0.refl _ | apply Drawn0.step)⟩
          · rw [if_neg c8] at H
            have c8b0 : (a0 == 2) = false := beq_eq_false_iff_ne.mpr c8
            have c8b1 : (a0 != 2) = true := bne_iff_ne.mpr c8
            (first | rw [c8b0] | (simp only [i64_w, i32_w]; rw [c8b0]) | skip)
            have H' := Aside0.mk H
            clear H
            go_wp2
            go_meet
            case rel => exact ⟨_, ((a0 == 3)), (by first | rfl | (simp; done) | (simp [*]; done)), H', ⟨by have := HJ3.out; first | omega | exact Nat.le_refl _⟩, by repeat (first | exact Drawn0.refl _ | apply Drawn0.step)⟩
        case rest =>
          clear HC7
          try clear p2
          try clear c3
          try clear c5
          try clear c5b0
          try clear c6
          try clear c8
          try clear c8b0
          try clear c8b1
          try clear p2
          obtain ⟨kq, x20_6, rfl, HA, HJ6, ⟨mc6, rfl⟩⟩ := hcut
          cases kq with
          | zero => exact absurd HA.out (by simp [alu_Holds.j1])
          | succ kj6 =>
            have H := HA.out
            clear HA
            simp only [alu_Holds.j1] at H
            by_cases c9 : x20_6 = true
            · subst c9
              have H1 : (some (((decide ((wrap32 (a1)) < (wrap32 (a2)))) != ((Int.tmod a0 2) == 1)), none)) = some (r1, r2) := by rw [if_pos rfl] at H; exact H
              clear H
              have H := H1
              clear H1
              simp only [Option.some.injEq, Prod.mk.injEq] at H
              obtain ⟨rfl, rfl⟩ := H
              go_wp2
              go_ret2
              exact ⟨by first | rfl | (simp; done) | (simp [*]; done), by repeat (first | exact Drawn0.refl _ | apply Drawn0.step)⟩
            · replace c9 := Bool.eq_false_iff.mpr c9
              subst c9
              have H1 : (if a0 = 4 then (some (((decide (a1 < a2)) != ((Int.tmod a0 2) == 1)), none)) else (if a0 = 5 then (some (((decide (a1 < a2)) != ((Int.tmod a0 2) == 1)), none)) else (some (((a1 == a2) != ((Int.tmod a0 2) == 1)), none)))) = some (r1, r2) := by rw [if_neg (show ¬ (false = true) by decide)] at H; exact H
              clear H
              have H := H1
              clear H1
              by_cases c10 : a0 = 4
              · rw [if_pos c10] at H
                have c10b0 : (a0 == 4) = true := beq_iff_eq.mpr c10
                have c10b1 : (a0 != 4) = false := bne_eq_false_iff_eq.mpr c10
                clear c10
                simp only [Option.some.injEq, Prod.mk.injEq] at H
                obtain ⟨rfl, rfl⟩ := H
                go_wp2
                go_ret2
                exact ⟨by first | rfl | (simp; done) | (simp [*]; done), by repeat (first | exact Drawn0.refl _ | apply Drawn0.step)⟩
              · rw [if_neg c10] at H
                have c10b0 : (a0 == 4) = false := beq_eq_false_iff_ne.mpr c10
                have c10b1 : (a0 != 4) = true := bne_iff_ne.mpr c10
                by_cases c11 : a0 = 5
                · rw [if_pos c11] at H
                  have c11b0 : (a0 == 5) = true := beq_iff_eq.mpr c11
                  have c11b1 : (a0 != 5) = false := bne_eq_false_iff_eq.mpr c11
                  clear c11
                  simp only [Option.some.injEq, Prod.mk.injEq] at H
                  obtain ⟨rfl, rfl⟩ := H
                  go_wp2
                  go_ret2
                  exact ⟨by first | rfl | (simp; done) | (simp [*]; done), by repeat (first | exact Drawn0.refl _ | apply Drawn0.step)⟩
                · rw [if_neg c11] at H
                  have c11b0 : (a0 == 5) = false := beq_eq_false_iff_ne.mpr c11
                  have c11b1 : (a0 != 5) = true := bne_iff_ne.mpr c11
                  simp only [Option.some.injEq, Prod.mk.injEq] at H
                  obtain ⟨rfl, rfl⟩ := H
                  go_wp2
                  go_ret2
                  exact ⟨by first | rfl | (simp; done) | (simp [*]; done), by repeat (first | exact Drawn0.refl _ | apply Drawn0.step)⟩

/-! ### pinnacelaw02_AluTurns: function 12 -/
mutual
def pinnacelaw02_AluTurns.j0 : Nat → Int → Int → Bool → Option (Bool)
  | 0, _, _, _ => none
  | k + 1, x0, x1, x72 => if x72 = true then (some false) else (pinnacelaw02_AluTurns.l0 k x0 x1 0)
def pinnacelaw02_AluTurns.l0 : Nat → Int → Int → Int → Option (Bool)
  | 0, _, _, _ => none
  | k + 1, x0, x1, x14 => if x14 < 6 then ((alu_Holds.f k x14 x0 x1).bind fun bt131 => ((alu_Holds.f k (wrap64 (x14 + 1)) x0 x1).bind fun bt133 => (if bt131.2.isNone = true then (if bt133.2.isNone = true then (if (bt131.1 == bt133.1) = true then (some false) else (pinnacelaw02_AluTurns.l0 k x0 x1 (wrap64 (x14 + 2)))) else (some false)) else (some false)))) else ((pinnacelaw02_sure.f k).bind fun t130 => (some t130))
end
def pinnacelaw02_AluTurns.f (k : Nat) (a0 : Int) (a1 : Int) : Option (Bool) := (alu_Do.f k 0 a0 a1).bind fun bt118 => ((alu_Do.f k 1 bt118.1 a1).bind fun bt120 => ((alu_Do.f k 2 a0 a1).bind fun bt122 => ((alu_Do.f k 6 bt122.1 a1).bind fun bt124 => (if bt118.2.isNone = true then (if bt120.2.isNone = true then (if bt122.2.isNone = true then (if bt124.2.isNone = true then (if bt120.1 = a0 then (if 0 ≤ (Go.bits .and .u32 a1 31) then (pinnacelaw02_AluTurns.j0 k a0 a1 (bt124.1 != (shr .u32 (shl .u32 a0 (Go.bits .and .u32 a1 31)) (Go.bits .and .u32 a1 31)))) else (none)) else (pinnacelaw02_AluTurns.j0 k a0 a1 true)) else (pinnacelaw02_AluTurns.j0 k a0 a1 true)) else (pinnacelaw02_AluTurns.j0 k a0 a1 true)) else (pinnacelaw02_AluTurns.j0 k a0 a1 true)) else (pinnacelaw02_AluTurns.j0 k a0 a1 true)))))
theorem pinnacelaw02_AluTurns.mono_l : ∀ k, (∀ y0 y1 y2, LeO (pinnacelaw02_AluTurns.j0 k y0 y1 y2) (pinnacelaw02_AluTurns.j0 (k + 1) y0 y1 y2)) ∧ (∀ y0 y1 y2, LeO (pinnacelaw02_AluTurns.l0 k y0 y1 y2) (pinnacelaw02_AluTurns.l0 (k + 1) y0 y1 y2))
  | 0 => ⟨fun _ _ _ r h => by simp [pinnacelaw02_AluTurns.j0] at h, fun _ _ _ r h => by simp [pinnacelaw02_AluTurns.l0] at h⟩
  | k + 1 => by
    obtain ⟨ih0, ih1⟩ := pinnacelaw02_AluTurns.mono_l k
    refine ⟨?_, ?_⟩
    · intro y0 y1 y2
      unfold pinnacelaw02_AluTurns.j0
      repeat' first
      | (with_reducible exact ih0 _ _ _)
      | (with_reducible exact ih1 _ _ _)
      | (with_reducible exact alu_Do.mono _ _ _ _)
      | (with_reducible exact alu_Holds.mono _ _ _ _)
      | (with_reducible exact pinnacelaw02_sure.mono _)
      | (with_reducible exact LeO.refl _)
      | (with_reducible exact LeO.none _)
      | (with_reducible refine LeO.ite ?_ ?_)
      | (with_reducible refine LeO.bind ?_ (fun _ => ?_))
      | exact ih0 _ _ _
      | exact ih1 _ _ _
      | exact alu_Do.mono _ _ _ _
      | exact alu_Holds.mono _ _ _ _
      | exact pinnacelaw02_sure.mono _
      | exact LeO.none _
      | refine LeO.ite ?_ ?_
      | refine LeO.bind ?_ (fun _ => ?_)
    · intro y0 y1 y2
      unfold pinnacelaw02_AluTurns.l0
      repeat' first
      | (with_reducible exact ih0 _ _ _)
      | (with_reducible exact ih1 _ _ _)
      | (with_reducible exact alu_Do.mono _ _ _ _)
      | (with_reducible exact alu_Holds.mono _ _ _ _)
      | (with_reducible exact pinnacelaw02_sure.mono _)
      | (with_reducible exact LeO.refl _)
      | (with_reducible exact LeO.none _)
      | (with_reducible refine LeO.ite ?_ ?_)
      | (with_reducible refine LeO.bind ?_ (fun _ => ?_))
      | exact ih0 _ _ _
      | exact ih1 _ _ _
      | exact alu_Do.mono _ _ _ _
      | exact alu_Holds.mono _ _ _ _
      | exact pinnacelaw02_sure.mono _
      | exact LeO.none _
      | refine LeO.ite ?_ ?_
      | refine LeO.bind ?_ (fun _ => ?_)
theorem pinnacelaw02_AluTurns.mono : ∀ a0 a1 k, LeO (pinnacelaw02_AluTurns.f k a0 a1) (pinnacelaw02_AluTurns.f (k + 1) a0 a1) := by
  intro a0 a1 k
  obtain ⟨ih0, ih1⟩ := pinnacelaw02_AluTurns.mono_l k
  unfold pinnacelaw02_AluTurns.f
  repeat' first
      | (with_reducible exact ih0 _ _ _)
      | (with_reducible exact ih1 _ _ _)
      | (with_reducible exact alu_Do.mono _ _ _ _)
      | (with_reducible exact alu_Holds.mono _ _ _ _)
      | (with_reducible exact pinnacelaw02_sure.mono _)
      | (with_reducible exact LeO.refl _)
      | (with_reducible exact LeO.none _)
      | (with_reducible refine LeO.ite ?_ ?_)
      | (with_reducible refine LeO.bind ?_ (fun _ => ?_))
      | exact ih0 _ _ _
      | exact ih1 _ _ _
      | exact alu_Do.mono _ _ _ _
      | exact alu_Holds.mono _ _ _ _
      | exact pinnacelaw02_sure.mono _
      | exact LeO.none _
      | refine LeO.ite ?_ ?_
      | refine LeO.bind ?_ (fun _ => ?_)
set_option maxHeartbeats 8000000 in
set_option maxRecDepth 100000 in
theorem pinnacelaw02_AluTurns.calls (k : Nat) (a0 : Int) (a1 : Int) (r : Bool) (w : World) (h : pinnacelaw02_AluTurns.f k a0 a1 = some r) :
    Calls Try.prog 12 #[.int .u32 a0, .int .u32 a1] w fun e w' => e = .returned (.bool r) ∧ Drawn0 w w' := by
  have hu54 := Try.underlying54
  have hu84 := Try.underlying84
  have H : ((alu_Do.f k 0 a0 a1).bind fun bt118 => ((alu_Do.f k 1 bt118.1 a1).bind fun bt120 => ((alu_Do.f k 2 a0 a1).bind fun bt122 => ((alu_Do.f k 6 bt122.1 a1).bind fun bt124 => (if bt118.2.isNone = true then (if bt120.2.isNone = true then (if bt122.2.isNone = true then (if bt124.2.isNone = true then (if bt120.1 = a0 then (if 0 ≤ (Go.bits .and .u32 a1 31) then (pinnacelaw02_AluTurns.j0 k a0 a1 (bt124.1 != (shr .u32 (shl .u32 a0 (Go.bits .and .u32 a1 31)) (Go.bits .and .u32 a1 31)))) else (none)) else (pinnacelaw02_AluTurns.j0 k a0 a1 true)) else (pinnacelaw02_AluTurns.j0 k a0 a1 true)) else (pinnacelaw02_AluTurns.j0 k a0 a1 true)) else (pinnacelaw02_AluTurns.j0 k a0 a1 true)) else (pinnacelaw02_AluTurns.j0 k a0 a1 true)))))) = some r := h
  clear h
  replace H := Option.bind_eq_some_iff.mp H
  obtain ⟨⟨t118, t119⟩, A30, H⟩ := H
  replace H : ((alu_Do.f k 1 t118 a1).bind fun bt120 => ((alu_Do.f k 2 a0 a1).bind fun bt122 => ((alu_Do.f k 6 bt122.1 a1).bind fun bt124 => (if t119.isNone = true then (if bt120.2.isNone = true then (if bt122.2.isNone = true then (if bt124.2.isNone = true then (if bt120.1 = a0 then (if 0 ≤ (Go.bits .and .u32 a1 31) then (pinnacelaw02_AluTurns.j0 k a0 a1 (bt124.1 != (shr .u32 (shl .u32 a0 (Go.bits .and .u32 a1 31)) (Go.bits .and .u32 a1 31)))) else (none)) else (pinnacelaw02_AluTurns.j0 k a0 a1 true)) else (pinnacelaw02_AluTurns.j0 k a0 a1 true)) else (pinnacelaw02_AluTurns.j0 k a0 a1 true)) else (pinnacelaw02_AluTurns.j0 k a0 a1 true)) else (pinnacelaw02_AluTurns.j0 k a0 a1 true))))) = some r := H
  have A3 := Aside0.mk A30
  clear A30
  replace H := Option.bind_eq_some_iff.mp H
  obtain ⟨⟨t120, t121⟩, A40, H⟩ := H
  replace H : ((alu_Do.f k 2 a0 a1).bind fun bt122 => ((alu_Do.f k 6 bt122.1 a1).bind fun bt124 => (if t119.isNone = true then (if t121.isNone = true then (if bt122.2.isNone = true then (if bt124.2.isNone = true then (if t120 = a0 then (if 0 ≤ (Go.bits .and .u32 a1 31) then (pinnacelaw02_AluTurns.j0 k a0 a1 (bt124.1 != (shr .u32 (shl .u32 a0 (Go.bits .and .u32 a1 31)) (Go.bits .and .u32 a1 31)))) else (none)) else (pinnacelaw02_AluTurns.j0 k a0 a1 true)) else (pinnacelaw02_AluTurns.j0 k a0 a1 true)) else (pinnacelaw02_AluTurns.j0 k a0 a1 true)) else (pinnacelaw02_AluTurns.j0 k a0 a1 true)) else (pinnacelaw02_AluTurns.j0 k a0 a1 true)))) = some r := H
  have A4 := Aside0.mk A40
  clear A40
  replace H := Option.bind_eq_some_iff.mp H
  obtain ⟨⟨t122, t123⟩, A50, H⟩ := H
  replace H : ((alu_Do.f k 6 t122 a1).bind fun bt124 => (if t119.isNone = true then (if t121.isNone = true then (if t123.isNone = true then (if bt124.2.isNone = true then (if t120 = a0 then (if 0 ≤ (Go.bits .and .u32 a1 31) then (pinnacelaw02_AluTurns.j0 k a0 a1 (bt124.1 != (shr .u32 (shl .u32 a0 (Go.bits .and .u32 a1 31)) (Go.bits .and .u32 a1 31)))) else (none)) else (pinnacelaw02_AluTurns.j0 k a0 a1 true)) else (pinnacelaw02_AluTurns.j0 k a0 a1 true)) else (pinnacelaw02_AluTurns.j0 k a0 a1 true)) else (pinnacelaw02_AluTurns.j0 k a0 a1 true)) else (pinnacelaw02_AluTurns.j0 k a0 a1 true))) = some r := H
  have A5 := Aside0.mk A50
  clear A50
  replace H := Option.bind_eq_some_iff.mp H
  obtain ⟨⟨t124, t125⟩, A60, H⟩ := H
  replace H : (if t119.isNone = true then (if t121.isNone = true then (if t123.isNone = true then (if t125.isNone = true then (if t120 = a0 then (if 0 ≤ (Go.bits .and .u32 a1 31) then (pinnacelaw02_AluTurns.j0 k a0 a1 (t124 != (shr .u32 (shl .u32 a0 (Go.bits .and .u32 a1 31)) (Go.bits .and .u32 a1 31)))) else (none)) else (pinnacelaw02_AluTurns.j0 k a0 a1 true)) else (pinnacelaw02_AluTurns.j0 k a0 a1 true)) else (pinnacelaw02_AluTurns.j0 k a0 a1 true)) else (pinnacelaw02_AluTurns.j0 k a0 a1 true)) else (pinnacelaw02_AluTurns.j0 k a0 a1 true)) = some r := H
  have A6 := Aside0.mk A60
  clear A60
  have HC7 := Aside0.mk H
  clear H
  go_enter Try.func12, Try.ntmps12
  go_upto_region 6 with (first | ((with_reducible refine gate_callee (f := 37) rfl ?_); refine goesL_ (some 22) rfl rfl Try.func37 (by kernel_rfl) rfl #[.int .i64 0, .int .u32 a0, .int .u32 a1] rfl (by (try simp only [List.map_toArray, List.map_cons, List.map_nil]); first | done | rfl | (simp only [List.length_drop, List.length_take]; rfl)) ?_; (with_reducible refine (alu_Do.calls k 0 a0 a1 t118 t119 _ A3.out).mono ?_); rintro e w' ⟨rfl, ⟨nd, rfl⟩⟩; refine ⟨_, rfl, ?_⟩; (try simp only [errW_none, errW_some])) | ((with_reducible refine gate_callee (f := 37) rfl ?_); refine goesL_ (some 28) rfl rfl Try.func37 (by kernel_rfl) rfl #[.int .i64 1, .int .u32 t118, .int .u32 a1] rfl (by (try simp only [List.map_toArray, List.map_cons, List.map_nil]); first | done | rfl | (simp only [List.length_drop, List.length_take]; rfl)) ?_; (with_reducible refine (alu_Do.calls k 1 t118 a1 t120 t121 _ A4.out).mono ?_); rintro e w' ⟨rfl, ⟨nd, rfl⟩⟩; refine ⟨_, rfl, ?_⟩; (try simp only [errW_none, errW_some])) | ((with_reducible refine gate_callee (f := 37) rfl ?_); refine goesL_ (some 34) rfl rfl Try.func37 (by kernel_rfl) rfl #[.int .i64 2, .int .u32 a0, .int .u32 a1] rfl (by (try simp only [List.map_toArray, List.map_cons, List.map_nil]); first | done | rfl | (simp only [List.length_drop, List.length_take]; rfl)) ?_; (with_reducible refine (alu_Do.calls k 2 a0 a1 t122 t123 _ A5.out).mono ?_); rintro e w' ⟨rfl, ⟨nd, rfl⟩⟩; refine ⟨_, rfl, ?_⟩; (try simp only [errW_none, errW_some])) | ((with_reducible refine gate_callee (f := 37) rfl ?_); refine goesL_ (some 40) rfl rfl Try.func37 (by kernel_rfl) rfl #[.int .i64 6, .int .u32 t122, .int .u32 a1] rfl (by (try simp only [List.map_toArray, List.map_cons, List.map_nil]); first | done | rfl | (simp only [List.length_drop, List.length_take]; rfl)) ?_; (with_reducible refine (alu_Do.calls k 6 t122 a1 t124 t125 _ A6.out).mono ?_); rintro e w' ⟨rfl, ⟨nd, rfl⟩⟩; refine ⟨_, rfl, ?_⟩; (try simp only [errW_none, errW_some])))
  (try simp only [Act.put, List.setIfInBounds_toArray, List.set_cons_zero, List.set_cons_succ])
  go_cut [72] (fun v72 wc => ∃ (kq : Nat) (x72_6 : Bool), v72 = .bool x72_6 ∧ Aside0 (pinnacelaw02_AluTurns.j0 kq a0 a1 x72_6 = some r) ∧ Aside0 (kq ≤ k) ∧ Drawn0 w wc)
  case first =>
    have H := HC7.out
    clear HC7
    rcases t119 with _ | q126
    · have H1 : (if t121.isNone = true then (if t123.isNone = true then (if t125.isNone = true then (if t120 = a0 then (if 0 ≤ (Go.bits .and .u32 a1 31) then (pinnacelaw02_AluTurns.j0 k a0 a1 (t124 != (shr .u32 (shl .u32 a0 (Go.bits .and .u32 a1 31)) (Go.bits .and .u32 a1 31)))) else (none)) else (pinnacelaw02_AluTurns.j0 k a0 a1 true)) else (pinnacelaw02_AluTurns.j0 k a0 a1 true)) else (pinnacelaw02_AluTurns.j0 k a0 a1 true)) else (pinnacelaw02_AluTurns.j0 k a0 a1 true)) = some r := by rw [if_pos (show (none : Option Int).isNone = true by rfl)] at H; exact H
      clear H
      have H := H1
      clear H1
      try simp only [errW_none, errW_some]
      rcases t121 with _ | q127
      · have H1 : (if t123.isNone = true then (if t125.isNone = true then (if t120 = a0 then (if 0 ≤ (Go.bits .and .u32 a1 31) then (pinnacelaw02_AluTurns.j0 k a0 a1 (t124 != (shr .u32 (shl .u32 a0 (Go.bits .and .u32 a1 31)) (Go.bits .and .u32 a1 31)))) else (none)) else (pinnacelaw02_AluTurns.j0 k a0 a1 true)) else (pinnacelaw02_AluTurns.j0 k a0 a1 true)) else (pinnacelaw02_AluTurns.j0 k a0 a1 true)) = some r := by rw [if_pos (show (none : Option Int).isNone = true by rfl)] at H; exact H
        clear H
        have H := H1
        clear H1
        try simp only [errW_none, errW_some]
        rcases t123 with _ | q128
        · have H1 : (if t125.isNone = true then (if t120 = a0 then (if 0 ≤ (Go.bits .and .u32 a1 31) then (pinnacelaw02_AluTurns.j0 k a0 a1 (t124 != (shr .u32 (shl .u32 a0 (Go.bits .and .u32 a1 31)) (Go.bits .and .u32 a1 31)))) else (none)) else (pinnacelaw02_AluTurns.j0 k a0 a1 true)) else (pinnacelaw02_AluTurns.j0 k a0 a1 true)) = some r := by rw [if_pos (show (none : Option Int).isNone = true by rfl)] at H; exact H
          clear H
          have H := H1
          clear H1
          try simp only [errW_none, errW_some]
          rcases t125 with _ | q129
          · have H1 : (if t120 = a0 then (if 0 ≤ (Go.bits .and .u32 a1 31) then (pinnacelaw02_AluTurns.j0 k a0 a1 (t124 != (shr .u32 (shl .u32 a0 (Go.bits .and .u32 a1 31)) (Go.bits .and .u32 a1 31)))) else (none)) else (pinnacelaw02_AluTurns.j0 k a0 a1 true)) = some r := by rw [if_pos (show (none : Option Int).isNone = true by rfl)] at H; exact H
            clear H
            have H := H1
            clear H1
            try simp only [errW_none, errW_some]
            by_cases c8 : t120 = a0
            · rw [if_pos c8] at H
              have c8b0 : (t120 == a0) = true := beq_iff_eq.mpr c8
              have c8b1 : (t120 != a0) = false := bne_eq_false_iff_eq.mpr c8
              clear c8
              (first | rw [c8b0] | (simp only [i64_w, i32_w]; rw [c8b0]) | skip)
              by_cases c9 : 0 ≤ (Go.bits .and .u32 a1 31)
              · rw [if_pos c9] at H
                have c9b0 := eq_true c9
                have c9b1 : decide (0 ≤ (Go.bits .and .u32 a1 31)) = true := decide_eq_true c9
                clear c9
                obtain ⟨ji10, hji10⟩ : ∃ j_ : Int, (shl .u32 a0 (Go.bits .and .u32 a1 31)) = j_ := ⟨_, rfl⟩
                replace H : (pinnacelaw02_AluTurns.j0 k a0 a1 (t124 != (shr .u32 (ji10) (Go.bits .and .u32 a1 31)))) = some r := by first | (rw [hji10] at H; exact H) | (simp only [hji10] at H ⊢; exact H)
                have hji10_ : (IntKind.u32.wrap (a0 * 2 ^ min (Go.bits .and .u32 a1 31).toNat 32)) = ji10 := hji10
                have hji10z : (Go.bits .and .u32 a1 31) ≤ 32 → (IntKind.u32.wrap (a0 * 2 ^ (Go.bits .and .u32 a1 31).toNat)) = ji10 := shl_small hji10
                have c11b0 := eq_true (of_decide_eq_true (by first | (with_reducible assumption) | assumption) : 0 ≤ (Go.bits .and .u32 a1 31))
                obtain ⟨ji12, hji12⟩ : ∃ j_ : Int, (shr .u32 (ji10) (Go.bits .and .u32 a1 31)) = j_ := ⟨_, rfl⟩
                replace H : (pinnacelaw02_AluTurns.j0 k a0 a1 (t124 != (ji12))) = some r := by first | (rw [hji12] at H; exact H) | (simp only [hji12] at H ⊢; exact H)
                have hji12_ : ((ji10) / 2 ^ min (Go.bits .and .u32 a1 31).toNat 32) = ji12 := hji12
                have hji12z : (Go.bits .and .u32 a1 31) ≤ 32 → ((ji10) / 2 ^ (Go.bits .and .u32 a1 31).toNat) = ji12 := shr_small hji12
                have H' := Aside0.mk H
                clear H
                go_wp2
                go_meet
                case rel => exact ⟨_, ((t124 != (ji12))), (by first | rfl | (simp; done) | (simp only [← hji12] <;> (first | rfl | simp)) | (simp [*]; done)), H', ⟨by first | omega | exact Nat.le_refl _⟩, by repeat (first | exact Drawn0.refl _ | apply Drawn0.step)⟩
              · rw [if_neg c9] at H
                exact absurd H (by simp)
            · rw [if_neg c8] at H
              have c8b0 : (t120 == a0) = false := beq_eq_false_iff_ne.mpr c8
              have c8b1 : (t120 != a0) = true := bne_iff_ne.mpr c8
              (first | rw [c8b0] | (simp only [i64_w, i32_w]; rw [c8b0]) | skip)
              have H' := Aside0.mk H
              clear H
              go_wp2
              go_meet
              case rel => exact ⟨_, (true), (by first | rfl | (simp; done) | (simp [*]; done)), H', ⟨by first | omega | exact Nat.le_refl _⟩, by repeat (first | exact Drawn0.refl _ | apply Drawn0.step)⟩
          · have H1 : (pinnacelaw02_AluTurns.j0 k a0 a1 true) = some r := by rw [if_neg (show ¬ (some q129).isNone = true by simp)] at H; exact H
            clear H
            have H := H1
            clear H1
            try simp only [errW_none, errW_some]
            have H' := Aside0.mk H
            clear H
            go_wp2
            go_meet
            case rel => exact ⟨_, (true), (by first | rfl | (simp; done) | (simp [*]; done)), H', ⟨by first | omega | exact Nat.le_refl _⟩, by repeat (first | exact Drawn0.refl _ | apply Drawn0.step)⟩
        · have H1 : (pinnacelaw02_AluTurns.j0 k a0 a1 true) = some r := by rw [if_neg (show ¬ (some q128).isNone = true by simp)] at H; exact H
          clear H
          have H := H1
          clear H1
          try simp only [errW_none, errW_some]
          have H' := Aside0.mk H
          clear H
          go_wp2
          go_meet
          case rel => exact ⟨_, (true), (by first | rfl | (simp; done) | (simp [*]; done)), H', ⟨by first | omega | exact Nat.le_refl _⟩, by repeat (first | exact Drawn0.refl _ | apply Drawn0.step)⟩
      · have H1 : (pinnacelaw02_AluTurns.j0 k a0 a1 true) = some r := by rw [if_neg (show ¬ (some q127).isNone = true by simp)] at H; exact H
        clear H
        have H := H1
        clear H1
        try simp only [errW_none, errW_some]
        have H' := Aside0.mk H
        clear H
        go_wp2
        go_meet
        case rel => exact ⟨_, (true), (by first | rfl | (simp; done) | (simp [*]; done)), H', ⟨by first | omega | exact Nat.le_refl _⟩, by repeat (first | exact Drawn0.refl _ | apply Drawn0.step)⟩
    · have H1 : (pinnacelaw02_AluTurns.j0 k a0 a1 true) = some r := by rw [if_neg (show ¬ (some q126).isNone = true by simp)] at H; exact H
      clear H
      have H := H1
      clear H1
      try simp only [errW_none, errW_some]
      have H' := Aside0.mk H
      clear H
      go_wp2
      go_meet
      case rel => exact ⟨_, (true), (by first | rfl | (simp; done) | (simp [*]; done)), H', ⟨by first | omega | exact Nat.le_refl _⟩, by repeat (first | exact Drawn0.refl _ | apply Drawn0.step)⟩
  case rest =>
    clear HC7
    try clear c1
    try clear q1
    try clear p2
    try clear c3
    try clear c8
    try clear c8b0
    try clear c8b1
    try clear c9
    try clear c9b0
    try clear c9b1
    try clear c11
    try clear c11b0
    try clear c12
    try clear q12
    try clear q126
    try clear q127
    try clear q128
    try clear q129
    obtain ⟨kq, x72_6, rfl, HA, HJ6, ⟨mc6, rfl⟩⟩ := hcut
    cases kq with
    | zero => exact absurd HA.out (by simp [pinnacelaw02_AluTurns.j0])
    | succ kj6 =>
      have H := HA.out
      clear HA
      simp only [pinnacelaw02_AluTurns.j0] at H
      by_cases c13 : x72_6 = true
      · subst c13
        have H1 : (some false) = some r := by rw [if_pos rfl] at H; exact H
        clear H
        have H := H1
        clear H1
        obtain rfl := Option.some.inj H
        go_wp2
        go_ret
        exact ⟨by first | rfl | (simp; done) | (simp [*]; done), by repeat (first | exact Drawn0.refl _ | apply Drawn0.step)⟩
      · replace c13 := Bool.eq_false_iff.mpr c13
        subst c13
        have H1 : (pinnacelaw02_AluTurns.l0 kj6 a0 a1 0) = some r := by rw [if_neg (show ¬ (false = true) by decide)] at H; exact H
        clear H
        have H := H1
        clear H1
        have H' := Aside0.mk H
        clear H
        go_wp2
        go_loopg [14] kj6 (fun kq v14 w' => ∃ (x14_2 : Int), v14 = .int .i64 x14_2 ∧ Aside0 (pinnacelaw02_AluTurns.l0 kq a0 a1 x14_2 = some r) ∧ Aside0 (kq ≤ kj6) ∧ Drawn0 w w')
        case atStart => exact ⟨(0), (by first | rfl | (simp; done) | (simp [*]; done)), H', ⟨Nat.le_refl _⟩, by repeat (first | exact Drawn0.refl _ | apply Drawn0.step)⟩
        case round =>
          clear H'
          try clear c1
          try clear q1
          try clear p2
          try clear c3
          try clear c6
          try clear c8
          try clear c8b0
          try clear c8b1
          try clear c9
          try clear c9b0
          try clear c9b1
          try clear c11
          try clear c11b0
          try clear c12
          try clear q12
          try clear c13
          try clear p2
          try clear q1
          try clear q12
          try clear q126
          try clear q127
          try clear q128
          try clear q129
          obtain ⟨x14_2, rfl, HA, HK2, ⟨m2, rfl⟩⟩ := hrel
          cases gk with
          | zero => exact absurd HA.out (by simp [pinnacelaw02_AluTurns.l0])
          | succ k2 =>
            have H := HA.out
            clear HA
            simp only [pinnacelaw02_AluTurns.l0] at H
            by_cases c14 : x14_2 < 6
            · rw [if_pos c14] at H
              have c14b0 : decide (x14_2 < 6) = true := decide_eq_true c14
              clear c14
              replace H := Option.bind_eq_some_iff.mp H
              obtain ⟨⟨t131, t132⟩, A150, H⟩ := H
              replace H : ((alu_Holds.f k2 (wrap64 (x14_2 + 1)) a0 a1).bind fun bt133 => (if t132.isNone = true then (if bt133.2.isNone = true then (if (t131 == bt133.1) = true then (some false) else (pinnacelaw02_AluTurns.l0 k2 a0 a1 (wrap64 (x14_2 + 2)))) else (some false)) else (some false))) = some r := H
              have A15 := Aside0.mk A150
              clear A150
              replace H := Option.bind_eq_some_iff.mp H
              obtain ⟨⟨t133, t134⟩, A160, H⟩ := H
              replace H : (if t132.isNone = true then (if t134.isNone = true then (if (t131 == t133) = true then (some false) else (pinnacelaw02_AluTurns.l0 k2 a0 a1 (wrap64 (x14_2 + 2)))) else (some false)) else (some false)) = some r := H
              have A16 := Aside0.mk A160
              clear A160
              rcases t132 with _ | q135
              · have H1 : (if t134.isNone = true then (if (t131 == t133) = true then (some false) else (pinnacelaw02_AluTurns.l0 k2 a0 a1 (wrap64 (x14_2 + 2)))) else (some false)) = some r := by rw [if_pos (show (none : Option Int).isNone = true by rfl)] at H; exact H
                clear H
                have H := H1
                clear H1
                try simp only [errW_none, errW_some]
                rcases t134 with _ | q136
                · have H1 : (if (t131 == t133) = true then (some false) else (pinnacelaw02_AluTurns.l0 k2 a0 a1 (wrap64 (x14_2 + 2)))) = some r := by rw [if_pos (show (none : Option Int).isNone = true by rfl)] at H; exact H
                  clear H
                  have H := H1
                  clear H1
                  try simp only [errW_none, errW_some]
                  by_cases c17 : (t131 == t133) = true
                  · rw [if_pos c17] at H
                    have c17b0 : (t131 == t133) = true := c17
                    (try (have c17b1 : decide (t131 = t133) = true := by simpa using c17))
                    (try (have c17b2 : (t131 == t133) = true := by simpa using c17))
                    clear c17
                    obtain rfl := Option.some.inj H
                    go_wp2_with (first | ((with_reducible refine gate_callee (f := 38) rfl ?_); refine goesL_ (some 81) rfl rfl Try.func38 (by kernel_rfl) rfl #[.int .i64 x14_2, .int .u32 a0, .int .u32 a1] rfl (by (try simp only [List.map_toArray, List.map_cons, List.map_nil]); first | done | rfl | (simp only [List.length_drop, List.length_take]; rfl)) ?_; (with_reducible refine (alu_Holds.calls k2 x14_2 a0 a1 t131 none _ A15.out).mono ?_); rintro e w' ⟨rfl, ⟨nd, rfl⟩⟩; refine ⟨_, rfl, ?_⟩; (try simp only [errW_none, errW_some])) | ((with_reducible refine gate_callee (f := 38) rfl ?_); refine goesL_ (some 89) rfl rfl Try.func38 (by kernel_rfl) rfl #[.int .i64 (wrap64 (x14_2 + 1)), .int .u32 a0, .int .u32 a1] rfl (by (try simp only [List.map_toArray, List.map_cons, List.map_nil]); first | done | rfl | (simp only [List.length_drop, List.length_take]; rfl)) ?_; (with_reducible refine (alu_Holds.calls k2 (wrap64 (x14_2 + 1)) a0 a1 t133 none _ A16.out).mono ?_); rintro e w' ⟨rfl, ⟨nd, rfl⟩⟩; refine ⟨_, rfl, ?_⟩; (try simp only [errW_none, errW_some])))
                    go_ret
                    exact ⟨by first | rfl | (simp; done) | (simp [*]; done), by repeat (first | exact Drawn0.refl _ | apply Drawn0.step)⟩
                  · rw [if_neg c17] at H
                    have c17b0 : (t131 == t133) = false := by simpa using c17
                    (try (have c17b1 : decide (t131 = t133) = false := by simpa using c17))
                    (try (have c17b2 : (t131 == t133) = false := by simpa using c17))
                    (try (have c17b3 : ¬ (t131 = t133) := by simpa using c17))
                    clear c17
                    have H' := Aside0.mk H
                    clear H
                    go_wp2_with (first | ((with_reducible refine gate_callee (f := 38) rfl ?_); refine goesL_ (some 81) rfl rfl Try.func38 (by kernel_rfl) rfl #[.int .i64 x14_2, .int .u32 a0, .int .u32 a1] rfl (by (try simp only [List.map_toArray, List.map_cons, List.map_nil]); first | done | rfl | (simp only [List.length_drop, List.length_take]; rfl)) ?_; (with_reducible refine (alu_Holds.calls k2 x14_2 a0 a1 t131 none _ A15.out).mono ?_); rintro e w' ⟨rfl, ⟨nd, rfl⟩⟩; refine ⟨_, rfl, ?_⟩; (try simp only [errW_none, errW_some])) | ((with_reducible refine gate_callee (f := 38) rfl ?_); refine goesL_ (some 89) rfl rfl Try.func38 (by kernel_rfl) rfl #[.int .i64 (wrap64 (x14_2 + 1)), .int .u32 a0, .int .u32 a1] rfl (by (try simp only [List.map_toArray, List.map_cons, List.map_nil]); first | done | rfl | (simp only [List.length_drop, List.length_take]; rfl)) ?_; (with_reducible refine (alu_Holds.calls k2 (wrap64 (x14_2 + 1)) a0 a1 t133 none _ A16.out).mono ?_); rintro e w' ⟨rfl, ⟨nd, rfl⟩⟩; refine ⟨_, rfl, ?_⟩; (try simp only [errW_none, errW_some])))
                    go_roundg k2
                    case measure => have := HJ6.out; have := HK2.out; omega
                    case rel => exact ⟨(wrap64 (x14_2 + 2)), (by first | rfl | (simp; done) | (simp [*]; done)), H', ⟨by have := HJ6.out; have := HK2.out; omega⟩, by repeat (first | exact Drawn0.refl _ | apply Drawn0.step)⟩
                · have H1 : (some false) = some r := by rw [if_neg (show ¬ (some q136).isNone = true by simp)] at H; exact H
                  clear H
                  have H := H1
                  clear H1
                  try simp only [errW_none, errW_some]
                  obtain rfl := Option.some.inj H
                  go_wp2_with (first | ((with_reducible refine gate_callee (f := 38) rfl ?_); refine goesL_ (some 81) rfl rfl Try.func38 (by kernel_rfl) rfl #[.int .i64 x14_2, .int .u32 a0, .int .u32 a1] rfl (by (try simp only [List.map_toArray, List.map_cons, List.map_nil]); first | done | rfl | (simp only [List.length_drop, List.length_take]; rfl)) ?_; (with_reducible refine (alu_Holds.calls k2 x14_2 a0 a1 t131 none _ A15.out).mono ?_); rintro e w' ⟨rfl, ⟨nd, rfl⟩⟩; refine ⟨_, rfl, ?_⟩; (try simp only [errW_none, errW_some])) | ((with_reducible refine gate_callee (f := 38) rfl ?_); refine goesL_ (some 89) rfl rfl Try.func38 (by kernel_rfl) rfl #[.int .i64 (wrap64 (x14_2 + 1)), .int .u32 a0, .int .u32 a1] rfl (by (try simp only [List.map_toArray, List.map_cons, List.map_nil]); first | done | rfl | (simp only [List.length_drop, List.length_take]; rfl)) ?_; (with_reducible refine (alu_Holds.calls k2 (wrap64 (x14_2 + 1)) a0 a1 t133 (some q136) _ A16.out).mono ?_); rintro e w' ⟨rfl, ⟨nd, rfl⟩⟩; refine ⟨_, rfl, ?_⟩; (try simp only [errW_none, errW_some])))
                  go_ret
                  exact ⟨by first | rfl | (simp; done) | (simp [*]; done), by repeat (first | exact Drawn0.refl _ | apply Drawn0.step)⟩
              · have H1 : (some false) = some r := by rw [if_neg (show ¬ (some q135).isNone = true by simp)] at H; exact H
                clear H
                have H := H1
                clear H1
                try simp only [errW_none, errW_some]
                obtain rfl := Option.some.inj H
                go_wp2_with (first | ((with_reducible refine gate_callee (f := 38) rfl ?_); refine goesL_ (some 81) rfl rfl Try.func38 (by kernel_rfl) rfl #[.int .i64 x14_2, .int .u32 a0, .int .u32 a1] rfl (by (try simp only [List.map_toArray, List.map_cons, List.map_nil]); first | done | rfl | (simp only [List.length_drop, List.length_take]; rfl)) ?_; (with_reducible refine (alu_Holds.calls k2 x14_2 a0 a1 t131 (some q135) _ A15.out).mono ?_); rintro e w' ⟨rfl, ⟨nd, rfl⟩⟩; refine ⟨_, rfl, ?_⟩; (try simp only [errW_none, errW_some])) | ((with_reducible refine gate_callee (f := 38) rfl ?_); refine goesL_ (some 89) rfl rfl Try.func38 (by kernel_rfl) rfl #[.int .i64 (wrap64 (x14_2 + 1)), .int .u32 a0, .int .u32 a1] rfl (by (try simp only [List.map_toArray, List.map_cons, List.map_nil]); first | done | rfl | (simp only [List.length_drop, List.length_take]; rfl)) ?_; (with_reducible refine (alu_Holds.calls k2 (wrap64 (x14_2 + 1)) a0 a1 t133 t134 _ A16.out).mono ?_); rintro e w' ⟨rfl, ⟨nd, rfl⟩⟩; refine ⟨_, rfl, ?_⟩; (try simp only [errW_none, errW_some])))
                go_ret
                exact ⟨by first | rfl | (simp; done) | (simp [*]; done), by repeat (first | exact Drawn0.refl _ | apply Drawn0.step)⟩
            · rw [if_neg c14] at H
              have c14b0 : decide (x14_2 < 6) = false := decide_eq_false c14
              clear c14
              replace H := Option.bind_eq_some_iff.mp H
              obtain ⟨t130, A180, H⟩ := H
              replace H : (some t130) = some r := H
              have A18 := Aside0.mk A180
              clear A180
              obtain rfl := Option.some.inj H
              go_wp2_with (first | ((with_reducible refine gate_callee (f := 33) rfl ?_); refine goesL_ (some 103) rfl rfl Try.func33 (by kernel_rfl) rfl #[] rfl (by (try simp only [List.map_toArray, List.map_cons, List.map_nil]); first | done | rfl | (simp only [List.length_drop, List.length_take]; rfl)) ?_; (with_reducible refine (pinnacelaw02_sure.calls k2  t130 _ A18.out).mono ?_); rintro e w' ⟨rfl, ⟨nd, rfl⟩⟩; refine ⟨_, rfl, ?_⟩))
              go_ret
              exact ⟨by first | rfl | (simp; done) | (simp [*]; done), by repeat (first | exact Drawn0.refl _ | apply Drawn0.step)⟩

/-- THE ONE PURE STATEMENT of pinnacelaw02_AluTurns: yours. -/
def pinnacelaw02_AluTurns.Pure : Prop := ∀ (a0 : Int) (a1 : Int), (Lit.int .u32 a0).wf = true → (Lit.int .u32 a1).wf = true → ∃ k, pinnacelaw02_AluTurns.f k a0 a1 = some true
theorem pinnacelaw02_AluTurns.walk (P : pinnacelaw02_AluTurns.Pure) (a0 : Int) (a1 : Int) (w : World) (w0 : (Lit.int .u32 a0).wf = true) (w1 : (Lit.int .u32 a1).wf = true) :
    Calls Try.prog 12 #[.int .u32 a0, .int .u32 a1] w fun e w' => e = .returned (.bool true) ∧ Below w.heap.size w w' := by
  obtain ⟨k, h⟩ := P a0 a1 w0 w1
  refine (pinnacelaw02_AluTurns.calls k a0 a1 true w h).mono ?_
  rintro e w' ⟨rfl, hd⟩
  exact ⟨rfl, hd.below⟩

end Go.Proofs.Yteoblldopbeomaa.PAluTurns
