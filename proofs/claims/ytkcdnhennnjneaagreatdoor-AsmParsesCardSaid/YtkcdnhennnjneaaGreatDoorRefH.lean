import Derived.Test.YtkcdnhennnjneaaGreatDoorRefGa
import Derived.Test.YtkcdnhennnjneaaGreatDoorRefGb
import Derived.Test.YtkcdnhennnjneaaGreatDoorRefGc
import Derived.Test.YtkcdnhennnjneaaGreatDoorRefGd
import Derived.Test.YtkcdnhennnjneaaGreatDoorRefGe
import Derived.Below
import Derived.Deep.Draws
import Derived.Deep.AppendLies
import Derived.Maps.AppendAt
import Derived.OwnWalk
import Derived.Laws.BytesArg
import Derived.Laws.MakeOwn
import Derived.Laws.OwnMore
import Derived.Deep.OwnRows
import Derived.Tactics
import Derived.Lib.ConvBytes
import Derived.Laws.Slices
import Derived.WalkKit
import Derived.KernelRfl
import Derived.RowKit3
import Derived.Deep.LoopGhost
import Derived.Deep.QuietTactic
import Derived.BigQuiet
import Derived.WideLaws
import Derived.Deep.DeepCutAuto
import Derived.Deep.CutBlock
import Derived.Deep.RegionHeld3
import Derived.Laws.Rows
import Derived.Lib.AppendStr
import Derived.ArgAppend
import Derived.Laws.IdiomCopy
import Derived.OrdersHeld
import Derived.Laws.BitsLemmas
import Derived.RowKit
import Derived.Lib.Hide
import Derived.Laws.BitsAllLaws
import Derived.WalkLawsBesides
import Derived.WalkSpells
import Derived.LaidEql
namespace Go.Proofs.YtkcdnhennnjneaaGreatDoor
open Go.RowKit Go.Shelf Go.RowKit
set_option maxRecDepth 100000
set_option linter.unusedVariables false
set_option linter.unusedSimpArgs false

set_option maxHeartbeats 4000000 in
theorem rparse_miss (s : List UInt8) (hs : s.length ≤ 70000) (hf : findT (partsT s).1 = none) (w : World) : Calls Tryz.prog 19 #[.string (bs s)] w fun e w' => e = .returned (.tuple #[zIns, .int .i64 3]) ∧ Below w.heap.size w w' := by
  have PA := Lib.hid (fun w => rparts_any s hs w)
  have FH := Lib.hid (fun w => rfind_miss (bs (partsT s).1) (fun j hj e => by
    have h1 := List.find?_eq_none.1 hf j (List.mem_range.2 hj)
    rw [e, bs_list] at h1
    simp at h1) w)
  have SH := Lib.hid (fun w => rshape_any 0 (by decide) w)
  rw [show bs (shapeK (kN 0)) = (⟨#[100, 110]⟩ : ByteArray) from by decide] at SH
  generalize bs (partsT s).1 = NMB at PA FH
  generalize (partsT s).2 = L at PA
  have r0 := heap_alloc_new w (.cells #[.int .i64 0, .int .i64 0, .int .i64 0, .int .i64 0, .int .i64 0, .int .i64 0] 34)
  have b0 : Below w.heap.size w (w.alloc (.cells #[.int .i64 0, .int .i64 0, .int .i64 0, .int .i64 0, .int .i64 0, .int .i64 0] 34)) := (Below.refl _ _).alloc (Nat.le_refl _) _
  have B0 := Lib.hid b0
  obtain ⟨R, hR⟩ : ∃ R, R = w.heap.size := ⟨_, rfl⟩
  rw [← hR] at r0
  have R0 := Lib.hid r0
  have hwR : w.heap.size ≤ R := by omega
  have HWR2 := Lib.hid hwR
  obtain ⟨S, hS⟩ : ∃ S, S = bs s := ⟨_, rfl⟩
  rw [← hS] at PA ⊢
  clear r0 b0 hf hs hwR hS
  go_enter Tryz.func19, Tryz.ntmps19
  go_upto_region 1 with (fail)
  rw [← hR]
  clear hR
  generalize World.alloc w _ = w0 at *
  go_upto_region 4 with (first | (go_at_call 28; refine (PA.out _).mono ?_; rintro e w1 ⟨⟨v, rfl, hrow⟩, hb⟩; (obtain ⟨A, cap, rfl, hg⟩ := rowS_all hrow); clear hrow hg; have B1 := Lib.hid (B0.out.trans (hb.mono B0.out.size)); have R1 := Lib.hid ((hb.block _ (heap_lt R0.out)).trans R0.out); clear hb) | (go_at_call 29; refine (FH.out _).mono ?_; rintro e w2 ⟨rfl, hb⟩; have B2 := Lib.hid (B1.out.trans (hb.mono B1.out.size)); have R2 := Lib.hid ((hb.block _ (heap_lt R1.out)).trans R1.out); clear hb) | (go_at_call 41; refine (SH.out _).mono ?_; rintro e w' ⟨rfl, rfl⟩))
  have q0 : w2.cell? ⟨R, 0, none⟩ = some (.int .i64 0) := cell_of_row _ _ _ _ _ _ R2.out
  have q1 : w2.cell? ⟨R, 1, none⟩ = some (.int .i64 0) := cell_of_row _ _ _ _ _ _ R2.out
  have q2 : w2.cell? ⟨R, 2, none⟩ = some (.int .i64 0) := cell_of_row _ _ _ _ _ _ R2.out
  have q3 : w2.cell? ⟨R, 3, none⟩ = some (.int .i64 0) := cell_of_row _ _ _ _ _ _ R2.out
  have q4 : w2.cell? ⟨R, 4, none⟩ = some (.int .i64 0) := cell_of_row _ _ _ _ _ _ R2.out
  have q5 : w2.cell? ⟨R, 5, none⟩ = some (.int .i64 0) := cell_of_row _ _ _ _ _ _ R2.out
  have qf : ∀ j, w2.frozen? ⟨R, j, none⟩ = false := (fun j => frozen_of_row _ _ _ _ _ R2.out)
  go_wp2
  refine bodyPost_ret (v := .tuple #[zIns, .int .i64 3]) ?_ rfl ⟨rfl, ?_⟩
  · simp [results, Tryz.results19, go_sem, zIns, *]; try exact rfl
  · repeat' (first | (with_reducible exact B2.out) | (with_reducible refine Below.setCell (p := ⟨R, _, none⟩) ?_ HWR2.out _))
set_option maxHeartbeats 4000000 in
theorem rparse_len (s : List UInt8) (hs : s.length ≤ 70000) (op : Nat) (hop : op < 57) (hf : findT (partsT s).1 = some op) (hl : (partsT s).2.length ≠ (shapeK (kN op)).length) (w : World) : Calls Tryz.prog 19 #[.string (bs s)] w fun e w' => e = .returned (.tuple #[zIns, .int .i64 3]) ∧ Below w.heap.size w w' := by
  have PA := Lib.hid (fun w => rparts_any s hs w)
  have FH := Lib.hid (fun w => rfind_hit (bs (partsT s).1) op hop (by rw [bs_list, (find_some hf).2]) w)
  have SH := Lib.hid (fun w => rshape_any op hop w)
  have hfz : (bs (shapeK (kN op))).size = (shapeK (kN op)).length := bs_size _
  generalize bs (partsT s).1 = NMB at PA FH
  generalize (partsT s).2 = L at PA hl
  rw [← hfz] at hl
  generalize bs (shapeK (kN op)) = F at *
  have hlI : ((L.length : Int) != (F.size : Int)) = true := by simp; omega
  have hlJ : ((L.length : Int) == (F.size : Int)) = false := by rw [beq_eq_false_iff_ne]; omega
  have r0 := heap_alloc_new w (.cells #[.int .i64 0, .int .i64 0, .int .i64 0, .int .i64 0, .int .i64 0, .int .i64 0] 34)
  have b0 : Below w.heap.size w (w.alloc (.cells #[.int .i64 0, .int .i64 0, .int .i64 0, .int .i64 0, .int .i64 0, .int .i64 0] 34)) := (Below.refl _ _).alloc (Nat.le_refl _) _
  have B0 := Lib.hid b0
  obtain ⟨R, hR⟩ : ∃ R, R = w.heap.size := ⟨_, rfl⟩
  rw [← hR] at r0
  have R0 := Lib.hid r0
  have hwR : w.heap.size ≤ R := by omega
  have HWR2 := Lib.hid hwR
  obtain ⟨S, hS⟩ : ∃ S, S = bs s := ⟨_, rfl⟩
  rw [← hS] at PA ⊢
  clear r0 b0 hf hs hop hwR hS hfz
  go_enter Tryz.func19, Tryz.ntmps19
  go_upto_region 1 with (fail)
  rw [← hR]
  clear hR
  generalize World.alloc w _ = w0 at *
  go_upto_region 4 with (first | (go_at_call 28; refine (PA.out _).mono ?_; rintro e w1 ⟨⟨v, rfl, hrow⟩, hb⟩; (obtain ⟨A, cap, rfl, hg⟩ := rowS_all hrow); clear hrow hg; have B1 := Lib.hid (B0.out.trans (hb.mono B0.out.size)); have R1 := Lib.hid ((hb.block _ (heap_lt R0.out)).trans R0.out); clear hb) | (go_at_call 29; refine (FH.out _).mono ?_; rintro e w2 ⟨rfl, hb⟩; have B2 := Lib.hid (B1.out.trans (hb.mono B1.out.size)); have R2 := Lib.hid ((hb.block _ (heap_lt R1.out)).trans R1.out); clear hb) | (go_at_call 41; refine (SH.out _).mono ?_; rintro e w' ⟨rfl, rfl⟩))
  have q0 : w2.cell? ⟨R, 0, none⟩ = some (.int .i64 0) := cell_of_row _ _ _ _ _ _ R2.out
  have q1 : w2.cell? ⟨R, 1, none⟩ = some (.int .i64 0) := cell_of_row _ _ _ _ _ _ R2.out
  have q2 : w2.cell? ⟨R, 2, none⟩ = some (.int .i64 0) := cell_of_row _ _ _ _ _ _ R2.out
  have q3 : w2.cell? ⟨R, 3, none⟩ = some (.int .i64 0) := cell_of_row _ _ _ _ _ _ R2.out
  have q4 : w2.cell? ⟨R, 4, none⟩ = some (.int .i64 0) := cell_of_row _ _ _ _ _ _ R2.out
  have q5 : w2.cell? ⟨R, 5, none⟩ = some (.int .i64 0) := cell_of_row _ _ _ _ _ _ R2.out
  have qf : ∀ j, w2.frozen? ⟨R, j, none⟩ = false := (fun j => frozen_of_row _ _ _ _ _ R2.out)
  go_wp2
  refine bodyPost_ret (v := .tuple #[zIns, .int .i64 3]) ?_ rfl ⟨rfl, ?_⟩
  · simp [results, Tryz.results19, go_sem, zIns, *]; try exact rfl
  · repeat' (first | (with_reducible exact B2.out) | (with_reducible refine Below.setCell (p := ⟨R, _, none⟩) ?_ HWR2.out _))

theorem shape_k : shapeK 85 = [100, 110] ∧ shapeK 74 = [100, 110] ∧ shapeK 73 = [100, 115, 110] ∧ shapeK 70 = [100, 115, 110] ∧ shapeK 72 = [100, 115, 110] ∧ shapeK 76 = [100, 109] ∧ shapeK 66 = [115, 116, 110] ∧ shapeK 83 = [116, 109] ∧ shapeK 82 = [100, 115, 116] ∧ shapeK 67 = [100, 99, 122] ∧ shapeK 78 = [] := by decide
theorem len_two {l : List (List UInt8)} (h : l.length = 2) : ∃ x y, l = [x, y] := by
  match l, h with
  | [x, y], _ => exact ⟨x, y, rfl⟩
theorem len_three {l : List (List UInt8)} (h : l.length = 3) : ∃ x y z, l = [x, y, z] := by
  match l, h with
  | [x, y, z], _ => exact ⟨x, y, z, rfl⟩
/-- ref04.Parse -/
theorem rparse4_any (s : List UInt8) (hs : s.length ≤ 70000) (w : World) : Calls Tryz.prog 19 #[.string (bs s)] w fun e w' => e = .returned (.tuple #[insV (parseT s), .int .i64 (insN (parseT s))]) ∧ Below w.heap.size w w' := by
  cases hf : findT (partsT s).1 with
  | none =>
    have hp : parseT s = none := by unfold parseT; rw [hf]
    rw [hp]
    exact rparse_miss s hs hf w
  | some op =>
    have hop := (find_some hf).1
    by_cases hl : (partsT s).2.length = (shapeK (kN op)).length
    · obtain ⟨s1, s2, s3, s4, s5, s6, s7, s8, s9, s10, s11⟩ := shape_k
      rcases k_cases op hop with k | k | k | k | k | k | k | k | k
      · rw [k, s1] at hl
        obtain ⟨x, y, h⟩ := len_two hl
        exact rparse_U s hs op hop k hf x y h w
      · rw [k, s2] at hl
        obtain ⟨x, y, h⟩ := len_two hl
        exact rparse_J s hs op hop k hf x y h w
      · have hl3 : (partsT s).2.length = 3 := by
          rcases k with k | k | k
          · rw [k, s3] at hl; exact hl
          · rw [k, s4] at hl; exact hl
          · rw [k, s5] at hl; exact hl
        obtain ⟨x, y, z, h⟩ := len_three hl3
        exact rparse_I s hs op hop k hf x y z h w
      · rw [k, s6] at hl
        obtain ⟨x, y, h⟩ := len_two hl
        exact rparse_L s hs op hop k hf x y h w
      · rw [k, s7] at hl
        obtain ⟨x, y, z, h⟩ := len_three hl
        exact rparse_B s hs op hop k hf x y z h w
      · rw [k, s8] at hl
        obtain ⟨x, y, h⟩ := len_two hl
        exact rparse_S s hs op hop k hf x y h w
      · rw [k, s9] at hl
        obtain ⟨x, y, z, h⟩ := len_three hl
        exact rparse_R s hs op hop k hf x y z h w
      · rw [k, s10] at hl
        obtain ⟨x, y, z, h⟩ := len_three hl
        by_cases h9 : op < 54
        · exact rparse_C s hs op hop ⟨k, h9⟩ hf x y z h w
        · exact rparse_Z s hs op hop ⟨k, h9⟩ hf x y z h w
      · rw [k, s11] at hl
        exact rparse_N s hs op hop k hf (List.length_eq_zero_iff.1 hl) w
    · have hp : parseT s = none := by
        cases h : parseT s with
        | none => rfl
        | some i =>
          obtain ⟨hc, _, hpp⟩ := parse_some h
          have e1 : (partsT s).1 = nmTab.getD i.op.toNat [] := by rw [hpp]; rfl
          rw [e1, find_at (by have := hc.1; omega)] at hf
          obtain rfl := Option.some.inj hf
          exact absurd (by rw [hpp, shape_len]) hl
      rw [hp]
      exact rparse_len s hs op hop hf hl w

end Go.Proofs.YtkcdnhennnjneaaGreatDoor
