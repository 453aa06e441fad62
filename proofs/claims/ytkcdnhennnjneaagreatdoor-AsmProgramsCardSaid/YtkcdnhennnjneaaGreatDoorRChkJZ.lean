import Derived.Test.YtkcdnhennnjneaaGreatDoorGoodZ
import Derived.Below
import Derived.Deep.Draws
import Derived.Deep.AppendLies
import Derived.Maps.AppendAt
import Derived.OwnWalk
import Derived.Laws.BytesArg
import Derived.Laws.MakeOwn
import Derived.Laws.OwnMore
import Derived.Deep.OwnRows
import Derived.Tactics
import Derived.Lib.ConvBytes
import Derived.Laws.Slices
import Derived.WalkKit
import Derived.KernelRfl
import Derived.RowKit3
import Derived.Deep.LoopGhost
import Derived.Deep.QuietTactic
import Derived.BigQuiet
import Derived.WideLaws
import Derived.Deep.DeepCutAuto
import Derived.Deep.CutBlock
import Derived.Deep.RegionHeld3
import Derived.Laws.Rows
import Derived.Lib.AppendStr
import Derived.ArgAppend
import Derived.Laws.IdiomCopy
import Derived.OrdersHeld
import Derived.Laws.BitsLemmas
import Derived.RowKit
import Derived.Lib.Hide
import Derived.Laws.BitsAllLaws
import Derived.WalkLawsBesides
import Derived.WalkSpells
import Derived.LaidEql
namespace Go.Proofs.YtkcdnhennnjneaaGreatDoor
open Go.RowKit
set_option maxRecDepth 100000
set_option linter.unusedVariables false
set_option linter.unusedSimpArgs false

theorem can_iff (op rd r1 r2 imm csr : Int) : Can op rd r1 r2 imm csr ↔ (0 ≤ op ∧ op < 57) ∧ Good (kN op.toNat) rd r1 r2 imm csr := by
  constructor
  · rintro ⟨h0, e1, e2, e3, e4, e5⟩
    refine ⟨h0, ?_⟩
    have g := good_read (kinds11 op.toNat (by omega)) (lw op rd r1 r2 imm csr) (lw_lt op rd r1 r2 imm csr (by omega))
    rwa [e1, e2, e3, e4, e5] at g
  · rintro ⟨h0, g⟩
    exact ⟨h0, read_good (st_all op.toNat (by omega)) (kinds11 op.toNat (by omega)) g⟩
set_option maxHeartbeats 4000000 in
theorem rchk_out (op rd r1 r2 imm csr : Int) (h : ¬ (0 ≤ op ∧ op < 57)) (w : World) : Calls Tryz.prog 39 #[.agg #[.int .i64 op, .int .i64 rd, .int .i64 r1, .int .i64 r2, .int .i64 imm, .int .i64 csr]] w fun e w' => e = .returned (.int .i64 1) ∧ Below w.heap.size w w' := by
  have K := Lib.hid (fun w => rkind_out op h w)
  clear h
  go_enter Tryz.func39, Tryz.ntmps39
  go_wp2_with (go_at_call 30; refine (K.out _).mono ?_; rintro e w' ⟨rfl, rfl⟩)
  go_ret
  exact ⟨rfl, (Below.refl _ w).alloc (Nat.le_refl _) _⟩

set_option maxHeartbeats 8000000 in
theorem rchk_k85 (op : Nat) (hop : op < 57) (hk : kN op = 85) (rd r1 r2 imm csr : Int) (r : Int) (hr : r = if -2147483648 ≤ imm ∧ imm ≤ 2147483647 ∧ imm % 4096 = 0 ∧ 0 ≤ rd ∧ rd ≤ 31 ∧ 0 ≤ r1 ∧ r1 ≤ 0 ∧ 0 ≤ r2 ∧ r2 ≤ 0 ∧ 0 ≤ csr ∧ csr ≤ 0 then 0 else 1) (w : World) : Calls Tryz.prog 39 #[.agg #[.int .i64 op, .int .i64 rd, .int .i64 r1, .int .i64 r2, .int .i64 imm, .int .i64 csr]] w fun e w' => e = .returned (.int .i64 r) ∧ Below w.heap.size w w' := by
  have K := Lib.hid (fun w => by have h := rkind_in op hop w; rw [hk] at h; exact h)
  have HR := Lib.hid hr
  have ht0 : imm.tmod 4096 = 0 ↔ imm % 4096 = 0 := by rw [Int.tmod_eq_emod]; split <;> simp <;> omega
  obtain ⟨t, ht⟩ : ∃ t, imm.tmod 4096 = t := ⟨_, rfl⟩
  rw [ht] at ht0
  have HT := Lib.hid ht0
  clear ht0
  clear hr hk
  by_cases h1 : imm < -2147483648 <;> by_cases h2 : 2147483647 < imm <;> by_cases h3 : t = 0
  all_goals try (exfalso; omega)
  all_goals try have h3b : (t != 0) = true := bne_iff_ne.2 h3
  all_goals
    go_enter Tryz.func39, Tryz.ntmps39
    go_upto_region 24 with (go_at_call 30; refine (K.out _).mono ?_; rintro e w' ⟨rfl, rfl⟩)
    all_goals first | (go_ret; have hh := HT.out; first | exact ⟨ret_int (by rw [HR.out, if_neg (by omega)]), (Below.refl _ w).alloc (Nat.le_refl _) _⟩ | exact ⟨ret_int (by rw [HR.out, if_neg (by omega)]), (((Below.refl _ w).alloc (Nat.le_refl _) _).alloc (by simp) _).alloc (by simp; omega) _⟩ | exact ⟨ret_int (by rw [HR.out, if_pos (by omega)]), (((Below.refl _ w).alloc (Nat.le_refl _) _).alloc (by simp) _).alloc (by simp; omega) _⟩) | (refine wp_loop_rounds 5 ?_; rw [rounds_succ]; go_wp2)
    all_goals first | (go_ret; have hh := HT.out; first | exact ⟨ret_int (by rw [HR.out, if_neg (by omega)]), (Below.refl _ w).alloc (Nat.le_refl _) _⟩ | exact ⟨ret_int (by rw [HR.out, if_neg (by omega)]), (((Below.refl _ w).alloc (Nat.le_refl _) _).alloc (by simp) _).alloc (by simp; omega) _⟩ | exact ⟨ret_int (by rw [HR.out, if_pos (by omega)]), (((Below.refl _ w).alloc (Nat.le_refl _) _).alloc (by simp) _).alloc (by simp; omega) _⟩) | (rw [rounds_succ]; go_wp2)
    all_goals first | (go_ret; have hh := HT.out; first | exact ⟨ret_int (by rw [HR.out, if_neg (by omega)]), (Below.refl _ w).alloc (Nat.le_refl _) _⟩ | exact ⟨ret_int (by rw [HR.out, if_neg (by omega)]), (((Below.refl _ w).alloc (Nat.le_refl _) _).alloc (by simp) _).alloc (by simp; omega) _⟩ | exact ⟨ret_int (by rw [HR.out, if_pos (by omega)]), (((Below.refl _ w).alloc (Nat.le_refl _) _).alloc (by simp) _).alloc (by simp; omega) _⟩) | (rw [rounds_succ]; go_wp2)
    all_goals first | (go_ret; have hh := HT.out; first | exact ⟨ret_int (by rw [HR.out, if_neg (by omega)]), (Below.refl _ w).alloc (Nat.le_refl _) _⟩ | exact ⟨ret_int (by rw [HR.out, if_neg (by omega)]), (((Below.refl _ w).alloc (Nat.le_refl _) _).alloc (by simp) _).alloc (by simp; omega) _⟩ | exact ⟨ret_int (by rw [HR.out, if_pos (by omega)]), (((Below.refl _ w).alloc (Nat.le_refl _) _).alloc (by simp) _).alloc (by simp; omega) _⟩) | (rw [rounds_succ]; go_wp2)
    all_goals first | (go_ret; have hh := HT.out; first | exact ⟨ret_int (by rw [HR.out, if_neg (by omega)]), (Below.refl _ w).alloc (Nat.le_refl _) _⟩ | exact ⟨ret_int (by rw [HR.out, if_neg (by omega)]), (((Below.refl _ w).alloc (Nat.le_refl _) _).alloc (by simp) _).alloc (by simp; omega) _⟩ | exact ⟨ret_int (by rw [HR.out, if_pos (by omega)]), (((Below.refl _ w).alloc (Nat.le_refl _) _).alloc (by simp) _).alloc (by simp; omega) _⟩) | (rw [rounds_succ]; go_wp2)
    all_goals (go_ret; have hh := HT.out; first | exact ⟨ret_int (by rw [HR.out, if_neg (by omega)]), (Below.refl _ w).alloc (Nat.le_refl _) _⟩ | exact ⟨ret_int (by rw [HR.out, if_neg (by omega)]), (((Below.refl _ w).alloc (Nat.le_refl _) _).alloc (by simp) _).alloc (by simp; omega) _⟩ | exact ⟨ret_int (by rw [HR.out, if_pos (by omega)]), (((Below.refl _ w).alloc (Nat.le_refl _) _).alloc (by simp) _).alloc (by simp; omega) _⟩)
set_option maxHeartbeats 8000000 in
theorem rchk_k74 (op : Nat) (hop : op < 57) (hk : kN op = 74) (rd r1 r2 imm csr : Int) (r : Int) (hr : r = if -1048576 ≤ imm ∧ imm ≤ 1048575 ∧ imm % 2 = 0 ∧ 0 ≤ rd ∧ rd ≤ 31 ∧ 0 ≤ r1 ∧ r1 ≤ 0 ∧ 0 ≤ r2 ∧ r2 ≤ 0 ∧ 0 ≤ csr ∧ csr ≤ 0 then 0 else 1) (w : World) : Calls Tryz.prog 39 #[.agg #[.int .i64 op, .int .i64 rd, .int .i64 r1, .int .i64 r2, .int .i64 imm, .int .i64 csr]] w fun e w' => e = .returned (.int .i64 r) ∧ Below w.heap.size w w' := by
  have K := Lib.hid (fun w => by have h := rkind_in op hop w; rw [hk] at h; exact h)
  have HR := Lib.hid hr
  have ht0 : imm.tmod 2 = 0 ↔ imm % 2 = 0 := by rw [Int.tmod_eq_emod]; split <;> simp <;> omega
  obtain ⟨t, ht⟩ : ∃ t, imm.tmod 2 = t := ⟨_, rfl⟩
  rw [ht] at ht0
  have HT := Lib.hid ht0
  clear ht0
  clear hr hk
  by_cases h1 : imm < -1048576 <;> by_cases h2 : 1048575 < imm <;> by_cases h3 : t = 0
  all_goals try (exfalso; omega)
  all_goals try have h3b : (t != 0) = true := bne_iff_ne.2 h3
  all_goals
    go_enter Tryz.func39, Tryz.ntmps39
    go_upto_region 24 with (go_at_call 30; refine (K.out _).mono ?_; rintro e w' ⟨rfl, rfl⟩)
    all_goals first | (go_ret; have hh := HT.out; first | exact ⟨ret_int (by rw [HR.out, if_neg (by omega)]), (Below.refl _ w).alloc (Nat.le_refl _) _⟩ | exact ⟨ret_int (by rw [HR.out, if_neg (by omega)]), (((Below.refl _ w).alloc (Nat.le_refl _) _).alloc (by simp) _).alloc (by simp; omega) _⟩ | exact ⟨ret_int (by rw [HR.out, if_pos (by omega)]), (((Below.refl _ w).alloc (Nat.le_refl _) _).alloc (by simp) _).alloc (by simp; omega) _⟩) | (refine wp_loop_rounds 5 ?_; rw [rounds_succ]; go_wp2)
    all_goals first | (go_ret; have hh := HT.out; first | exact ⟨ret_int (by rw [HR.out, if_neg (by omega)]), (Below.refl _ w).alloc (Nat.le_refl _) _⟩ | exact ⟨ret_int (by rw [HR.out, if_neg (by omega)]), (((Below.refl _ w).alloc (Nat.le_refl _) _).alloc (by simp) _).alloc (by simp; omega) _⟩ | exact ⟨ret_int (by rw [HR.out, if_pos (by omega)]), (((Below.refl _ w).alloc (Nat.le_refl _) _).alloc (by simp) _).alloc (by simp; omega) _⟩) | (rw [rounds_succ]; go_wp2)
    all_goals first | (go_ret; have hh := HT.out; first | exact ⟨ret_int (by rw [HR.out, if_neg (by omega)]), (Below.refl _ w).alloc (Nat.le_refl _) _⟩ | exact ⟨ret_int (by rw [HR.out, if_neg (by omega)]), (((Below.refl _ w).alloc (Nat.le_refl _) _).alloc (by simp) _).alloc (by simp; omega) _⟩ | exact ⟨ret_int (by rw [HR.out, if_pos (by omega)]), (((Below.refl _ w).alloc (Nat.le_refl _) _).alloc (by simp) _).alloc (by simp; omega) _⟩) | (rw [rounds_succ]; go_wp2)
    all_goals first | (go_ret; have hh := HT.out; first | exact ⟨ret_int (by rw [HR.out, if_neg (by omega)]), (Below.refl _ w).alloc (Nat.le_refl _) _⟩ | exact ⟨ret_int (by rw [HR.out, if_neg (by omega)]), (((Below.refl _ w).alloc (Nat.le_refl _) _).alloc (by simp) _).alloc (by simp; omega) _⟩ | exact ⟨ret_int (by rw [HR.out, if_pos (by omega)]), (((Below.refl _ w).alloc (Nat.le_refl _) _).alloc (by simp) _).alloc (by simp; omega) _⟩) | (rw [rounds_succ]; go_wp2)
    all_goals first | (go_ret; have hh := HT.out; first | exact ⟨ret_int (by rw [HR.out, if_neg (by omega)]), (Below.refl _ w).alloc (Nat.le_refl _) _⟩ | exact ⟨ret_int (by rw [HR.out, if_neg (by omega)]), (((Below.refl _ w).alloc (Nat.le_refl _) _).alloc (by simp) _).alloc (by simp; omega) _⟩ | exact ⟨ret_int (by rw [HR.out, if_pos (by omega)]), (((Below.refl _ w).alloc (Nat.le_refl _) _).alloc (by simp) _).alloc (by simp; omega) _⟩) | (rw [rounds_succ]; go_wp2)
    all_goals (go_ret; have hh := HT.out; first | exact ⟨ret_int (by rw [HR.out, if_neg (by omega)]), (Below.refl _ w).alloc (Nat.le_refl _) _⟩ | exact ⟨ret_int (by rw [HR.out, if_neg (by omega)]), (((Below.refl _ w).alloc (Nat.le_refl _) _).alloc (by simp) _).alloc (by simp; omega) _⟩ | exact ⟨ret_int (by rw [HR.out, if_pos (by omega)]), (((Below.refl _ w).alloc (Nat.le_refl _) _).alloc (by simp) _).alloc (by simp; omega) _⟩)
set_option maxHeartbeats 8000000 in
theorem rchk_k73 (op : Nat) (hop : op < 57) (hk : kN op = 73) (rd r1 r2 imm csr : Int) (r : Int) (hr : r = if -2048 ≤ imm ∧ imm ≤ 2047 ∧ imm % 1 = 0 ∧ 0 ≤ rd ∧ rd ≤ 31 ∧ 0 ≤ r1 ∧ r1 ≤ 31 ∧ 0 ≤ r2 ∧ r2 ≤ 0 ∧ 0 ≤ csr ∧ csr ≤ 0 then 0 else 1) (w : World) : Calls Tryz.prog 39 #[.agg #[.int .i64 op, .int .i64 rd, .int .i64 r1, .int .i64 r2, .int .i64 imm, .int .i64 csr]] w fun e w' => e = .returned (.int .i64 r) ∧ Below w.heap.size w w' := by
  have K := Lib.hid (fun w => by have h := rkind_in op hop w; rw [hk] at h; exact h)
  have HR := Lib.hid hr
  clear hr hk
  go_enter Tryz.func39, Tryz.ntmps39
  go_upto_region 24 with (go_at_call 30; refine (K.out _).mono ?_; rintro e w' ⟨rfl, rfl⟩)
  all_goals first | (go_ret; first | exact ⟨ret_int (by rw [HR.out, if_neg (by omega)]), (Below.refl _ w).alloc (Nat.le_refl _) _⟩ | exact ⟨ret_int (by rw [HR.out, if_neg (by omega)]), (((Below.refl _ w).alloc (Nat.le_refl _) _).alloc (by simp) _).alloc (by simp; omega) _⟩ | exact ⟨ret_int (by rw [HR.out, if_pos (by omega)]), (((Below.refl _ w).alloc (Nat.le_refl _) _).alloc (by simp) _).alloc (by simp; omega) _⟩) | (refine wp_loop_rounds 5 ?_; rw [rounds_succ]; go_wp2)
  all_goals first | (go_ret; first | exact ⟨ret_int (by rw [HR.out, if_neg (by omega)]), (Below.refl _ w).alloc (Nat.le_refl _) _⟩ | exact ⟨ret_int (by rw [HR.out, if_neg (by omega)]), (((Below.refl _ w).alloc (Nat.le_refl _) _).alloc (by simp) _).alloc (by simp; omega) _⟩ | exact ⟨ret_int (by rw [HR.out, if_pos (by omega)]), (((Below.refl _ w).alloc (Nat.le_refl _) _).alloc (by simp) _).alloc (by simp; omega) _⟩) | (rw [rounds_succ]; go_wp2)
  all_goals first | (go_ret; first | exact ⟨ret_int (by rw [HR.out, if_neg (by omega)]), (Below.refl _ w).alloc (Nat.le_refl _) _⟩ | exact ⟨ret_int (by rw [HR.out, if_neg (by omega)]), (((Below.refl _ w).alloc (Nat.le_refl _) _).alloc (by simp) _).alloc (by simp; omega) _⟩ | exact ⟨ret_int (by rw [HR.out, if_pos (by omega)]), (((Below.refl _ w).alloc (Nat.le_refl _) _).alloc (by simp) _).alloc (by simp; omega) _⟩) | (rw [rounds_succ]; go_wp2)
  all_goals first | (go_ret; first | exact ⟨ret_int (by rw [HR.out, if_neg (by omega)]), (Below.refl _ w).alloc (Nat.le_refl _) _⟩ | exact ⟨ret_int (by rw [HR.out, if_neg (by omega)]), (((Below.refl _ w).alloc (Nat.le_refl _) _).alloc (by simp) _).alloc (by simp; omega) _⟩ | exact ⟨ret_int (by rw [HR.out, if_pos (by omega)]), (((Below.refl _ w).alloc (Nat.le_refl _) _).alloc (by simp) _).alloc (by simp; omega) _⟩) | (rw [rounds_succ]; go_wp2)
  all_goals first | (go_ret; first | exact ⟨ret_int (by rw [HR.out, if_neg (by omega)]), (Below.refl _ w).alloc (Nat.le_refl _) _⟩ | exact ⟨ret_int (by rw [HR.out, if_neg (by omega)]), (((Below.refl _ w).alloc (Nat.le_refl _) _).alloc (by simp) _).alloc (by simp; omega) _⟩ | exact ⟨ret_int (by rw [HR.out, if_pos (by omega)]), (((Below.refl _ w).alloc (Nat.le_refl _) _).alloc (by simp) _).alloc (by simp; omega) _⟩) | (rw [rounds_succ]; go_wp2)
  all_goals (go_ret; first | exact ⟨ret_int (by rw [HR.out, if_neg (by omega)]), (Below.refl _ w).alloc (Nat.le_refl _) _⟩ | exact ⟨ret_int (by rw [HR.out, if_neg (by omega)]), (((Below.refl _ w).alloc (Nat.le_refl _) _).alloc (by simp) _).alloc (by simp; omega) _⟩ | exact ⟨ret_int (by rw [HR.out, if_pos (by omega)]), (((Below.refl _ w).alloc (Nat.le_refl _) _).alloc (by simp) _).alloc (by simp; omega) _⟩)
set_option maxHeartbeats 8000000 in
theorem rchk_k76 (op : Nat) (hop : op < 57) (hk : kN op = 76) (rd r1 r2 imm csr : Int) (r : Int) (hr : r = if -2048 ≤ imm ∧ imm ≤ 2047 ∧ imm % 1 = 0 ∧ 0 ≤ rd ∧ rd ≤ 31 ∧ 0 ≤ r1 ∧ r1 ≤ 31 ∧ 0 ≤ r2 ∧ r2 ≤ 0 ∧ 0 ≤ csr ∧ csr ≤ 0 then 0 else 1) (w : World) : Calls Tryz.prog 39 #[.agg #[.int .i64 op, .int .i64 rd, .int .i64 r1, .int .i64 r2, .int .i64 imm, .int .i64 csr]] w fun e w' => e = .returned (.int .i64 r) ∧ Below w.heap.size w w' := by
  have K := Lib.hid (fun w => by have h := rkind_in op hop w; rw [hk] at h; exact h)
  have HR := Lib.hid hr
  clear hr hk
  go_enter Tryz.func39, Tryz.ntmps39
  go_upto_region 24 with (go_at_call 30; refine (K.out _).mono ?_; rintro e w' ⟨rfl, rfl⟩)
  all_goals first | (go_ret; first | exact ⟨ret_int (by rw [HR.out, if_neg (by omega)]), (Below.refl _ w).alloc (Nat.le_refl _) _⟩ | exact ⟨ret_int (by rw [HR.out, if_neg (by omega)]), (((Below.refl _ w).alloc (Nat.le_refl _) _).alloc (by simp) _).alloc (by simp; omega) _⟩ | exact ⟨ret_int (by rw [HR.out, if_pos (by omega)]), (((Below.refl _ w).alloc (Nat.le_refl _) _).alloc (by simp) _).alloc (by simp; omega) _⟩) | (refine wp_loop_rounds 5 ?_; rw [rounds_succ]; go_wp2)
  all_goals first | (go_ret; first | exact ⟨ret_int (by rw [HR.out, if_neg (by omega)]), (Below.refl _ w).alloc (Nat.le_refl _) _⟩ | exact ⟨ret_int (by rw [HR.out, if_neg (by omega)]), (((Below.refl _ w).alloc (Nat.le_refl _) _).alloc (by simp) _).alloc (by simp; omega) _⟩ | exact ⟨ret_int (by rw [HR.out, if_pos (by omega)]), (((Below.refl _ w).alloc (Nat.le_refl _) _).alloc (by simp) _).alloc (by simp; omega) _⟩) | (rw [rounds_succ]; go_wp2)
  all_goals first | (go_ret; first | exact ⟨ret_int (by rw [HR.out, if_neg (by omega)]), (Below.refl _ w).alloc (Nat.le_refl _) _⟩ | exact ⟨ret_int (by rw [HR.out, if_neg (by omega)]), (((Below.refl _ w).alloc (Nat.le_refl _) _).alloc (by simp) _).alloc (by simp; omega) _⟩ | exact ⟨ret_int (by rw [HR.out, if_pos (by omega)]), (((Below.refl _ w).alloc (Nat.le_refl _) _).alloc (by simp) _).alloc (by simp; omega) _⟩) | (rw [rounds_succ]; go_wp2)
  all_goals first | (go_ret; first | exact ⟨ret_int (by rw [HR.out, if_neg (by omega)]), (Below.refl _ w).alloc (Nat.le_refl _) _⟩ | exact ⟨ret_int (by rw [HR.out, if_neg (by omega)]), (((Below.refl _ w).alloc (Nat.le_refl _) _).alloc (by simp) _).alloc (by simp; omega) _⟩ | exact ⟨ret_int (by rw [HR.out, if_pos (by omega)]), (((Below.refl _ w).alloc (Nat.le_refl _) _).alloc (by simp) _).alloc (by simp; omega) _⟩) | (rw [rounds_succ]; go_wp2)
  all_goals first | (go_ret; first | exact ⟨ret_int (by rw [HR.out, if_neg (by omega)]), (Below.refl _ w).alloc (Nat.le_refl _) _⟩ | exact ⟨ret_int (by rw [HR.out, if_neg (by omega)]), (((Below.refl _ w).alloc (Nat.le_refl _) _).alloc (by simp) _).alloc (by simp; omega) _⟩ | exact ⟨ret_int (by rw [HR.out, if_pos (by omega)]), (((Below.refl _ w).alloc (Nat.le_refl _) _).alloc (by simp) _).alloc (by simp; omega) _⟩) | (rw [rounds_succ]; go_wp2)
  all_goals (go_ret; first | exact ⟨ret_int (by rw [HR.out, if_neg (by omega)]), (Below.refl _ w).alloc (Nat.le_refl _) _⟩ | exact ⟨ret_int (by rw [HR.out, if_neg (by omega)]), (((Below.refl _ w).alloc (Nat.le_refl _) _).alloc (by simp) _).alloc (by simp; omega) _⟩ | exact ⟨ret_int (by rw [HR.out, if_pos (by omega)]), (((Below.refl _ w).alloc (Nat.le_refl _) _).alloc (by simp) _).alloc (by simp; omega) _⟩)

end Go.Proofs.YtkcdnhennnjneaaGreatDoor
