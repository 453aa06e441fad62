import Derived.Test.YtkcdnhennnjneaaGreatDoorRChkJZ
import Derived.Test.YtkcdnhennnjneaaGreatDoorRChkKZ
import Derived.Below
import Derived.Deep.Draws
import Derived.Deep.AppendLies
import Derived.Maps.AppendAt
import Derived.OwnWalk
import Derived.Laws.BytesArg
import Derived.Laws.MakeOwn
import Derived.Laws.OwnMore
import Derived.Deep.OwnRows
import Derived.Tactics
import Derived.Lib.ConvBytes
import Derived.Laws.Slices
import Derived.WalkKit
import Derived.KernelRfl
import Derived.RowKit3
import Derived.Deep.LoopGhost
import Derived.Deep.QuietTactic
import Derived.BigQuiet
import Derived.WideLaws
import Derived.Deep.DeepCutAuto
import Derived.Deep.CutBlock
import Derived.Deep.RegionHeld3
import Derived.Laws.Rows
import Derived.Lib.AppendStr
import Derived.ArgAppend
import Derived.Laws.IdiomCopy
import Derived.OrdersHeld
import Derived.Laws.BitsLemmas
import Derived.RowKit
import Derived.Lib.Hide
import Derived.Laws.BitsAllLaws
import Derived.WalkLawsBesides
import Derived.WalkSpells
import Derived.LaidEql
namespace Go.Proofs.YtkcdnhennnjneaaGreatDoor
open Go.RowKit
set_option maxRecDepth 100000
set_option linter.unusedVariables false
set_option linter.unusedSimpArgs false

set_option maxHeartbeats 8000000 in
theorem rchk_k67 (op : Nat) (hop : op < 57) (hk : kN op = 67) (rd r1 r2 imm csr : Int) (r : Int) (hr : r = if 0 ≤ imm ∧ imm ≤ 0 ∧ imm % 1 = 0 ∧ 0 ≤ rd ∧ rd ≤ 31 ∧ 0 ≤ r1 ∧ r1 ≤ 31 ∧ 0 ≤ r2 ∧ r2 ≤ 0 ∧ 0 ≤ csr ∧ csr ≤ 4095 then 0 else 1) (w : World) : Calls Tryz.prog 39 #[.agg #[.int .i64 op, .int .i64 rd, .int .i64 r1, .int .i64 r2, .int .i64 imm, .int .i64 csr]] w fun e w' => e = .returned (.int .i64 r) ∧ Below w.heap.size w w' := by
  have K := Lib.hid (fun w => by have h := rkind_in op hop w; rw [hk] at h; exact h)
  have HR := Lib.hid hr
  clear hr hk
  go_enter Tryz.func39, Tryz.ntmps39
  go_upto_region 24 with (go_at_call 30; refine (K.out _).mono ?_; rintro e w' ⟨rfl, rfl⟩)
  all_goals first | (go_ret; first | exact ⟨ret_int (by rw [HR.out, if_neg (by omega)]), (Below.refl _ w).alloc (Nat.le_refl _) _⟩ | exact ⟨ret_int (by rw [HR.out, if_neg (by omega)]), (((Below.refl _ w).alloc (Nat.le_refl _) _).alloc (by simp) _).alloc (by simp; omega) _⟩ | exact ⟨ret_int (by rw [HR.out, if_pos (by omega)]), (((Below.refl _ w).alloc (Nat.le_refl _) _).alloc (by simp) _).alloc (by simp; omega) _⟩) | (refine wp_loop_rounds 5 ?_; rw [rounds_succ]; go_wp2)
  all_goals first | (go_ret; first | exact ⟨ret_int (by rw [HR.out, if_neg (by omega)]), (Below.refl _ w).alloc (Nat.le_refl _) _⟩ | exact ⟨ret_int (by rw [HR.out, if_neg (by omega)]), (((Below.refl _ w).alloc (Nat.le_refl _) _).alloc (by simp) _).alloc (by simp; omega) _⟩ | exact ⟨ret_int (by rw [HR.out, if_pos (by omega)]), (((Below.refl _ w).alloc (Nat.le_refl _) _).alloc (by simp) _).alloc (by simp; omega) _⟩) | (rw [rounds_succ]; go_wp2)
  all_goals first | (go_ret; first | exact ⟨ret_int (by rw [HR.out, if_neg (by omega)]), (Below.refl _ w).alloc (Nat.le_refl _) _⟩ | exact ⟨ret_int (by rw [HR.out, if_neg (by omega)]), (((Below.refl _ w).alloc (Nat.le_refl _) _).alloc (by simp) _).alloc (by simp; omega) _⟩ | exact ⟨ret_int (by rw [HR.out, if_pos (by omega)]), (((Below.refl _ w).alloc (Nat.le_refl _) _).alloc (by simp) _).alloc (by simp; omega) _⟩) | (rw [rounds_succ]; go_wp2)
  all_goals first | (go_ret; first | exact ⟨ret_int (by rw [HR.out, if_neg (by omega)]), (Below.refl _ w).alloc (Nat.le_refl _) _⟩ | exact ⟨ret_int (by rw [HR.out, if_neg (by omega)]), (((Below.refl _ w).alloc (Nat.le_refl _) _).alloc (by simp) _).alloc (by simp; omega) _⟩ | exact ⟨ret_int (by rw [HR.out, if_pos (by omega)]), (((Below.refl _ w).alloc (Nat.le_refl _) _).alloc (by simp) _).alloc (by simp; omega) _⟩) | (rw [rounds_succ]; go_wp2)
  all_goals first | (go_ret; first | exact ⟨ret_int (by rw [HR.out, if_neg (by omega)]), (Below.refl _ w).alloc (Nat.le_refl _) _⟩ | exact ⟨ret_int (by rw [HR.out, if_neg (by omega)]), (((Below.refl _ w).alloc (Nat.le_refl _) _).alloc (by simp) _).alloc (by simp; omega) _⟩ | exact ⟨ret_int (by rw [HR.out, if_pos (by omega)]), (((Below.refl _ w).alloc (Nat.le_refl _) _).alloc (by simp) _).alloc (by simp; omega) _⟩) | (rw [rounds_succ]; go_wp2)
  all_goals (go_ret; first | exact ⟨ret_int (by rw [HR.out, if_neg (by omega)]), (Below.refl _ w).alloc (Nat.le_refl _) _⟩ | exact ⟨ret_int (by rw [HR.out, if_neg (by omega)]), (((Below.refl _ w).alloc (Nat.le_refl _) _).alloc (by simp) _).alloc (by simp; omega) _⟩ | exact ⟨ret_int (by rw [HR.out, if_pos (by omega)]), (((Below.refl _ w).alloc (Nat.le_refl _) _).alloc (by simp) _).alloc (by simp; omega) _⟩)
set_option maxHeartbeats 8000000 in
theorem rchk_k82 (op : Nat) (hop : op < 57) (hk : kN op = 82) (rd r1 r2 imm csr : Int) (r : Int) (hr : r = if 0 ≤ imm ∧ imm ≤ 0 ∧ imm % 1 = 0 ∧ 0 ≤ rd ∧ rd ≤ 31 ∧ 0 ≤ r1 ∧ r1 ≤ 31 ∧ 0 ≤ r2 ∧ r2 ≤ 31 ∧ 0 ≤ csr ∧ csr ≤ 0 then 0 else 1) (w : World) : Calls Tryz.prog 39 #[.agg #[.int .i64 op, .int .i64 rd, .int .i64 r1, .int .i64 r2, .int .i64 imm, .int .i64 csr]] w fun e w' => e = .returned (.int .i64 r) ∧ Below w.heap.size w w' := by
  have K := Lib.hid (fun w => by have h := rkind_in op hop w; rw [hk] at h; exact h)
  have HR := Lib.hid hr
  clear hr hk
  go_enter Tryz.func39, Tryz.ntmps39
  go_upto_region 24 with (go_at_call 30; refine (K.out _).mono ?_; rintro e w' ⟨rfl, rfl⟩)
  all_goals first | (go_ret; first | exact ⟨ret_int (by rw [HR.out, if_neg (by omega)]), (Below.refl _ w).alloc (Nat.le_refl _) _⟩ | exact ⟨ret_int (by rw [HR.out, if_neg (by omega)]), (((Below.refl _ w).alloc (Nat.le_refl _) _).alloc (by simp) _).alloc (by simp; omega) _⟩ | exact ⟨ret_int (by rw [HR.out, if_pos (by omega)]), (((Below.refl _ w).alloc (Nat.le_refl _) _).alloc (by simp) _).alloc (by simp; omega) _⟩) | (refine wp_loop_rounds 5 ?_; rw [rounds_succ]; go_wp2)
  all_goals first | (go_ret; first | exact ⟨ret_int (by rw [HR.out, if_neg (by omega)]), (Below.refl _ w).alloc (Nat.le_refl _) _⟩ | exact ⟨ret_int (by rw [HR.out, if_neg (by omega)]), (((Below.refl _ w).alloc (Nat.le_refl _) _).alloc (by simp) _).alloc (by simp; omega) _⟩ | exact ⟨ret_int (by rw [HR.out, if_pos (by omega)]), (((Below.refl _ w).alloc (Nat.le_refl _) _).alloc (by simp) _).alloc (by simp; omega) _⟩) | (rw [rounds_succ]; go_wp2)
  all_goals first | (go_ret; first | exact ⟨ret_int (by rw [HR.out, if_neg (by omega)]), (Below.refl _ w).alloc (Nat.le_refl _) _⟩ | exact ⟨ret_int (by rw [HR.out, if_neg (by omega)]), (((Below.refl _ w).alloc (Nat.le_refl _) _).alloc (by simp) _).alloc (by simp; omega) _⟩ | exact ⟨ret_int (by rw [HR.out, if_pos (by omega)]), (((Below.refl _ w).alloc (Nat.le_refl _) _).alloc (by simp) _).alloc (by simp; omega) _⟩) | (rw [rounds_succ]; go_wp2)
  all_goals first | (go_ret; first | exact ⟨ret_int (by rw [HR.out, if_neg (by omega)]), (Below.refl _ w).alloc (Nat.le_refl _) _⟩ | exact ⟨ret_int (by rw [HR.out, if_neg (by omega)]), (((Below.refl _ w).alloc (Nat.le_refl _) _).alloc (by simp) _).alloc (by simp; omega) _⟩ | exact ⟨ret_int (by rw [HR.out, if_pos (by omega)]), (((Below.refl _ w).alloc (Nat.le_refl _) _).alloc (by simp) _).alloc (by simp; omega) _⟩) | (rw [rounds_succ]; go_wp2)
  all_goals first | (go_ret; first | exact ⟨ret_int (by rw [HR.out, if_neg (by omega)]), (Below.refl _ w).alloc (Nat.le_refl _) _⟩ | exact ⟨ret_int (by rw [HR.out, if_neg (by omega)]), (((Below.refl _ w).alloc (Nat.le_refl _) _).alloc (by simp) _).alloc (by simp; omega) _⟩ | exact ⟨ret_int (by rw [HR.out, if_pos (by omega)]), (((Below.refl _ w).alloc (Nat.le_refl _) _).alloc (by simp) _).alloc (by simp; omega) _⟩) | (rw [rounds_succ]; go_wp2)
  all_goals (go_ret; first | exact ⟨ret_int (by rw [HR.out, if_neg (by omega)]), (Below.refl _ w).alloc (Nat.le_refl _) _⟩ | exact ⟨ret_int (by rw [HR.out, if_neg (by omega)]), (((Below.refl _ w).alloc (Nat.le_refl _) _).alloc (by simp) _).alloc (by simp; omega) _⟩ | exact ⟨ret_int (by rw [HR.out, if_pos (by omega)]), (((Below.refl _ w).alloc (Nat.le_refl _) _).alloc (by simp) _).alloc (by simp; omega) _⟩)
set_option maxHeartbeats 8000000 in
theorem rchk_k78 (op : Nat) (hop : op < 57) (hk : kN op = 78) (rd r1 r2 imm csr : Int) (r : Int) (hr : r = if 0 ≤ imm ∧ imm ≤ 0 ∧ imm % 1 = 0 ∧ 0 ≤ rd ∧ rd ≤ 0 ∧ 0 ≤ r1 ∧ r1 ≤ 0 ∧ 0 ≤ r2 ∧ r2 ≤ 0 ∧ 0 ≤ csr ∧ csr ≤ 0 then 0 else 1) (w : World) : Calls Tryz.prog 39 #[.agg #[.int .i64 op, .int .i64 rd, .int .i64 r1, .int .i64 r2, .int .i64 imm, .int .i64 csr]] w fun e w' => e = .returned (.int .i64 r) ∧ Below w.heap.size w w' := by
  have K := Lib.hid (fun w => by have h := rkind_in op hop w; rw [hk] at h; exact h)
  have HR := Lib.hid hr
  clear hr hk
  go_enter Tryz.func39, Tryz.ntmps39
  go_upto_region 24 with (go_at_call 30; refine (K.out _).mono ?_; rintro e w' ⟨rfl, rfl⟩)
  all_goals first | (go_ret; first | exact ⟨ret_int (by rw [HR.out, if_neg (by omega)]), (Below.refl _ w).alloc (Nat.le_refl _) _⟩ | exact ⟨ret_int (by rw [HR.out, if_neg (by omega)]), (((Below.refl _ w).alloc (Nat.le_refl _) _).alloc (by simp) _).alloc (by simp; omega) _⟩ | exact ⟨ret_int (by rw [HR.out, if_pos (by omega)]), (((Below.refl _ w).alloc (Nat.le_refl _) _).alloc (by simp) _).alloc (by simp; omega) _⟩) | (refine wp_loop_rounds 5 ?_; rw [rounds_succ]; go_wp2)
  all_goals first | (go_ret; first | exact ⟨ret_int (by rw [HR.out, if_neg (by omega)]), (Below.refl _ w).alloc (Nat.le_refl _) _⟩ | exact ⟨ret_int (by rw [HR.out, if_neg (by omega)]), (((Below.refl _ w).alloc (Nat.le_refl _) _).alloc (by simp) _).alloc (by simp; omega) _⟩ | exact ⟨ret_int (by rw [HR.out, if_pos (by omega)]), (((Below.refl _ w).alloc (Nat.le_refl _) _).alloc (by simp) _).alloc (by simp; omega) _⟩) | (rw [rounds_succ]; go_wp2)
  all_goals first | (go_ret; first | exact ⟨ret_int (by rw [HR.out, if_neg (by omega)]), (Below.refl _ w).alloc (Nat.le_refl _) _⟩ | exact ⟨ret_int (by rw [HR.out, if_neg (by omega)]), (((Below.refl _ w).alloc (Nat.le_refl _) _).alloc (by simp) _).alloc (by simp; omega) _⟩ | exact ⟨ret_int (by rw [HR.out, if_pos (by omega)]), (((Below.refl _ w).alloc (Nat.le_refl _) _).alloc (by simp) _).alloc (by simp; omega) _⟩) | (rw [rounds_succ]; go_wp2)
  all_goals first | (go_ret; first | exact ⟨ret_int (by rw [HR.out, if_neg (by omega)]), (Below.refl _ w).alloc (Nat.le_refl _) _⟩ | exact ⟨ret_int (by rw [HR.out, if_neg (by omega)]), (((Below.refl _ w).alloc (Nat.le_refl _) _).alloc (by simp) _).alloc (by simp; omega) _⟩ | exact ⟨ret_int (by rw [HR.out, if_pos (by omega)]), (((Below.refl _ w).alloc (Nat.le_refl _) _).alloc (by simp) _).alloc (by simp; omega) _⟩) | (rw [rounds_succ]; go_wp2)
  all_goals first | (go_ret; first | exact ⟨ret_int (by rw [HR.out, if_neg (by omega)]), (Below.refl _ w).alloc (Nat.le_refl _) _⟩ | exact ⟨ret_int (by rw [HR.out, if_neg (by omega)]), (((Below.refl _ w).alloc (Nat.le_refl _) _).alloc (by simp) _).alloc (by simp; omega) _⟩ | exact ⟨ret_int (by rw [HR.out, if_pos (by omega)]), (((Below.refl _ w).alloc (Nat.le_refl _) _).alloc (by simp) _).alloc (by simp; omega) _⟩) | (rw [rounds_succ]; go_wp2)
  all_goals (go_ret; first | exact ⟨ret_int (by rw [HR.out, if_neg (by omega)]), (Below.refl _ w).alloc (Nat.le_refl _) _⟩ | exact ⟨ret_int (by rw [HR.out, if_neg (by omega)]), (((Below.refl _ w).alloc (Nat.le_refl _) _).alloc (by simp) _).alloc (by simp; omega) _⟩ | exact ⟨ret_int (by rw [HR.out, if_pos (by omega)]), (((Below.refl _ w).alloc (Nat.le_refl _) _).alloc (by simp) _).alloc (by simp; omega) _⟩)
/-- whether the reference lets an instruction be -/
theorem rcheck3_any (op rd r1 r2 imm csr : Int) (r : Int) (hr : r = if Can op rd r1 r2 imm csr then 0 else 1) (w : World) : Calls Tryz.prog 39 #[.agg #[.int .i64 op, .int .i64 rd, .int .i64 r1, .int .i64 r2, .int .i64 imm, .int .i64 csr]] w fun e w' => e = .returned (.int .i64 r) ∧ Below w.heap.size w w' := by
  by_cases h0 : 0 ≤ op ∧ op < 57
  · obtain ⟨o, rfl⟩ := Int.eq_ofNat_of_zero_le h0.1
    have ho : o < 57 := by omega
    have hc := can_iff (o : Int) rd r1 r2 imm csr
    rw [Int.toNat_natCast] at hc
    rcases kinds11 o ho with h | h | h | h | h | h | h | h | h | h | h
    · rw [h] at hc
      refine rchk_k85 o ho h rd r1 r2 imm csr r (hr.trans (ite_congr (propext (hc.trans ⟨fun g => ⟨g.2.1.1, g.2.1.2.1, g.2.1.2.2, g.2.2.1.1, g.2.2.1.2, g.2.2.2.1.1, g.2.2.2.1.2, g.2.2.2.2.1.1, g.2.2.2.2.1.2, g.2.2.2.2.2.1, g.2.2.2.2.2.2⟩, fun ⟨a, b, c, d, e, f, g, i, j, k, l⟩ => ⟨h0, ⟨a, b, c⟩, ⟨d, e⟩, ⟨f, g⟩, ⟨i, j⟩, ⟨k, l⟩⟩⟩)) (fun _ => rfl) (fun _ => rfl))) w
    · rw [h] at hc
      refine rchk_k74 o ho h rd r1 r2 imm csr r (hr.trans (ite_congr (propext (hc.trans ⟨fun g => ⟨g.2.1.1, g.2.1.2.1, g.2.1.2.2, g.2.2.1.1, g.2.2.1.2, g.2.2.2.1.1, g.2.2.2.1.2, g.2.2.2.2.1.1, g.2.2.2.2.1.2, g.2.2.2.2.2.1, g.2.2.2.2.2.2⟩, fun ⟨a, b, c, d, e, f, g, i, j, k, l⟩ => ⟨h0, ⟨a, b, c⟩, ⟨d, e⟩, ⟨f, g⟩, ⟨i, j⟩, ⟨k, l⟩⟩⟩)) (fun _ => rfl) (fun _ => rfl))) w
    · rw [h] at hc
      refine rchk_k73 o ho h rd r1 r2 imm csr r (hr.trans (ite_congr (propext (hc.trans ⟨fun g => ⟨g.2.1.1, g.2.1.2.1, g.2.1.2.2, g.2.2.1.1, g.2.2.1.2, g.2.2.2.1.1, g.2.2.2.1.2, g.2.2.2.2.1.1, g.2.2.2.2.1.2, g.2.2.2.2.2.1, g.2.2.2.2.2.2⟩, fun ⟨a, b, c, d, e, f, g, i, j, k, l⟩ => ⟨h0, ⟨a, b, c⟩, ⟨d, e⟩, ⟨f, g⟩, ⟨i, j⟩, ⟨k, l⟩⟩⟩)) (fun _ => rfl) (fun _ => rfl))) w
    · rw [h] at hc
      refine rchk_k76 o ho h rd r1 r2 imm csr r (hr.trans (ite_congr (propext (hc.trans ⟨fun g => ⟨g.2.1.1, g.2.1.2.1, g.2.1.2.2, g.2.2.1.1, g.2.2.1.2, g.2.2.2.1.1, g.2.2.2.1.2, g.2.2.2.2.1.1, g.2.2.2.2.1.2, g.2.2.2.2.2.1, g.2.2.2.2.2.2⟩, fun ⟨a, b, c, d, e, f, g, i, j, k, l⟩ => ⟨h0, ⟨a, b, c⟩, ⟨d, e⟩, ⟨f, g⟩, ⟨i, j⟩, ⟨k, l⟩⟩⟩)) (fun _ => rfl) (fun _ => rfl))) w
    · rw [h] at hc
      refine rchk_k70 o ho h rd r1 r2 imm csr r (hr.trans (ite_congr (propext (hc.trans ⟨fun g => ⟨g.2.1.1, g.2.1.2.1, g.2.1.2.2, g.2.2.1.1, g.2.2.1.2, g.2.2.2.1.1, g.2.2.2.1.2, g.2.2.2.2.1.1, g.2.2.2.2.1.2, g.2.2.2.2.2.1, g.2.2.2.2.2.2⟩, fun ⟨a, b, c, d, e, f, g, i, j, k, l⟩ => ⟨h0, ⟨a, b, c⟩, ⟨d, e⟩, ⟨f, g⟩, ⟨i, j⟩, ⟨k, l⟩⟩⟩)) (fun _ => rfl) (fun _ => rfl))) w
    · rw [h] at hc
      refine rchk_k66 o ho h rd r1 r2 imm csr r (hr.trans (ite_congr (propext (hc.trans ⟨fun g => ⟨g.2.1.1, g.2.1.2.1, g.2.1.2.2, g.2.2.1.1, g.2.2.1.2, g.2.2.2.1.1, g.2.2.2.1.2, g.2.2.2.2.1.1, g.2.2.2.2.1.2, g.2.2.2.2.2.1, g.2.2.2.2.2.2⟩, fun ⟨a, b, c, d, e, f, g, i, j, k, l⟩ => ⟨h0, ⟨a, b, c⟩, ⟨d, e⟩, ⟨f, g⟩, ⟨i, j⟩, ⟨k, l⟩⟩⟩)) (fun _ => rfl) (fun _ => rfl))) w
    · rw [h] at hc
      refine rchk_k83 o ho h rd r1 r2 imm csr r (hr.trans (ite_congr (propext (hc.trans ⟨fun g => ⟨g.2.1.1, g.2.1.2.1, g.2.1.2.2, g.2.2.1.1, g.2.2.1.2, g.2.2.2.1.1, g.2.2.2.1.2, g.2.2.2.2.1.1, g.2.2.2.2.1.2, g.2.2.2.2.2.1, g.2.2.2.2.2.2⟩, fun ⟨a, b, c, d, e, f, g, i, j, k, l⟩ => ⟨h0, ⟨a, b, c⟩, ⟨d, e⟩, ⟨f, g⟩, ⟨i, j⟩, ⟨k, l⟩⟩⟩)) (fun _ => rfl) (fun _ => rfl))) w
    · rw [h] at hc
      refine rchk_k72 o ho h rd r1 r2 imm csr r (hr.trans (ite_congr (propext (hc.trans ⟨fun g => ⟨g.2.1.1, g.2.1.2.1, g.2.1.2.2, g.2.2.1.1, g.2.2.1.2, g.2.2.2.1.1, g.2.2.2.1.2, g.2.2.2.2.1.1, g.2.2.2.2.1.2, g.2.2.2.2.2.1, g.2.2.2.2.2.2⟩, fun ⟨a, b, c, d, e, f, g, i, j, k, l⟩ => ⟨h0, ⟨a, b, c⟩, ⟨d, e⟩, ⟨f, g⟩, ⟨i, j⟩, ⟨k, l⟩⟩⟩)) (fun _ => rfl) (fun _ => rfl))) w
    · rw [h] at hc
      refine rchk_k67 o ho h rd r1 r2 imm csr r (hr.trans (ite_congr (propext (hc.trans ⟨fun g => ⟨g.2.1.1, g.2.1.2.1, g.2.1.2.2, g.2.2.1.1, g.2.2.1.2, g.2.2.2.1.1, g.2.2.2.1.2, g.2.2.2.2.1.1, g.2.2.2.2.1.2, g.2.2.2.2.2.1, g.2.2.2.2.2.2⟩, fun ⟨a, b, c, d, e, f, g, i, j, k, l⟩ => ⟨h0, ⟨a, b, c⟩, ⟨d, e⟩, ⟨f, g⟩, ⟨i, j⟩, ⟨k, l⟩⟩⟩)) (fun _ => rfl) (fun _ => rfl))) w
    · rw [h] at hc
      refine rchk_k82 o ho h rd r1 r2 imm csr r (hr.trans (ite_congr (propext (hc.trans ⟨fun g => ⟨g.2.1.1, g.2.1.2.1, g.2.1.2.2, g.2.2.1.1, g.2.2.1.2, g.2.2.2.1.1, g.2.2.2.1.2, g.2.2.2.2.1.1, g.2.2.2.2.1.2, g.2.2.2.2.2.1, g.2.2.2.2.2.2⟩, fun ⟨a, b, c, d, e, f, g, i, j, k, l⟩ => ⟨h0, ⟨a, b, c⟩, ⟨d, e⟩, ⟨f, g⟩, ⟨i, j⟩, ⟨k, l⟩⟩⟩)) (fun _ => rfl) (fun _ => rfl))) w
    · rw [h] at hc
      refine rchk_k78 o ho h rd r1 r2 imm csr r (hr.trans (ite_congr (propext (hc.trans ⟨fun g => ⟨g.2.1.1, g.2.1.2.1, g.2.1.2.2, g.2.2.1.1, g.2.2.1.2, g.2.2.2.1.1, g.2.2.2.1.2, g.2.2.2.2.1.1, g.2.2.2.2.1.2, g.2.2.2.2.2.1, g.2.2.2.2.2.2⟩, fun ⟨a, b, c, d, e, f, g, i, j, k, l⟩ => ⟨h0, ⟨a, b, c⟩, ⟨d, e⟩, ⟨f, g⟩, ⟨i, j⟩, ⟨k, l⟩⟩⟩)) (fun _ => rfl) (fun _ => rfl))) w
  · rw [if_neg (fun h => h0 h.1)] at hr
    subst hr
    exact rchk_out op rd r1 r2 imm csr h0 w

end Go.Proofs.YtkcdnhennnjneaaGreatDoor
