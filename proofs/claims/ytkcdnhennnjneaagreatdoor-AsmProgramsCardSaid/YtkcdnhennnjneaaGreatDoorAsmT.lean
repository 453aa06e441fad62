import Derived.Test.YtkcdnhennnjneaaGreatDoorAsmE
import Derived.Below
import Derived.Deep.Draws
import Derived.Deep.AppendLies
import Derived.Maps.AppendAt
import Derived.OwnWalk
import Derived.Laws.BytesArg
import Derived.Laws.MakeOwn
import Derived.Laws.OwnMore
import Derived.Deep.OwnRows
import Derived.Tactics
import Derived.Lib.ConvBytes
import Derived.Laws.Slices
import Derived.WalkKit
import Derived.KernelRfl
import Derived.RowKit3
import Derived.Deep.LoopGhost
import Derived.Deep.QuietTactic
import Derived.BigQuiet
import Derived.WideLaws
import Derived.Deep.DeepCutAuto
import Derived.Deep.CutBlock
import Derived.Deep.RegionHeld3
import Derived.Laws.Rows
import Derived.Lib.AppendStr
import Derived.ArgAppend
import Derived.Laws.IdiomCopy
import Derived.OrdersHeld
import Derived.Laws.BitsLemmas
import Derived.RowKit
import Derived.Lib.Hide
import Derived.Laws.BitsAllLaws
import Derived.WalkLawsBesides
import Derived.WalkSpells
import Derived.LaidEql
import Derived.Lib.ItoaLen
namespace Go.Proofs.YtkcdnhennnjneaaGreatDoor
open Go.RowKit
set_option maxRecDepth 100000
set_option linter.unusedVariables false
set_option linter.unusedSimpArgs false

theorem bs_app (x y : List UInt8) : bs x ++ bs y = bs (x ++ y) := ByteArray.mk_append_mk x y
theorem itoa_sz (n : Int) (h0 : -9223372036854775808 ≤ n) (h1 : n ≤ 9223372036854775807) : (bs (Lib.itoa n)).size ≤ 21 := by
  rw [bs_size]; exact Lib.itoa_length_le n h0 h1
theorem reg_sz (n : Int) (h0 : -9223372036854775808 ≤ n) (h1 : n ≤ 9223372036854775807) : (bs (regT n)).size ≤ 22 := by
  have h := Lib.itoa_length_le n h0 h1
  rw [bs_size]; show (Lib.itoa n).length + 1 ≤ 22; omega
set_option maxHeartbeats 1000000 in
theorem areg_any {B : Nat} (n : Int) (h0 : -9223372036854775808 ≤ n) (h1 : n ≤ 9223372036854775807) (w : World) (E : Env B w) : Calls Tryz.prog 69 #[.int .i64 n] w fun e w' => e = .returned (.string (bs (regT n))) ∧ Below w.heap.size w w' := by
  have IT := Lib.hid (fun w E => itoa_any (B := B) n h0 h1 w E)
  have hz := itoa_sz n h0 h1
  have e : bs [120] ++ bs (Lib.itoa n) = bs (regT n) := bs_app _ _
  have HE := Lib.hid E
  obtain ⟨S, hS⟩ : ∃ S, S = bs (Lib.itoa n) := ⟨_, rfl⟩
  rw [← hS] at IT hz e
  rw [← e]
  clear e hS h0 h1 E
  go_enter Tryz.func69, Tryz.ntmps69
  have hz2 : ¬ 9223372036854775807 < 1 + S.size := by omega
  have hz3 : ¬ 9223372036854775807 < S.size + 1 := by omega
  go_wp2_with (go_at_call 59; refine (IT.out _ HE.out).mono ?_; rintro e w1 ⟨rfl, hb⟩; have G1 := Lib.hid hb; clear hb)
  go_ret
  exact ⟨rfl, G1.out⟩
theorem small_any (op : Int) (w : World) : Calls Tryz.prog 70 #[.int .i64 op] w fun e w' => e = .returned (.bool (decide (54 ≤ op))) ∧ w = w' := by
  go_enter Tryz.func70, Tryz.ntmps70
  go_wp2
  go_ret
  exact ⟨rfl, rfl⟩

theorem strs_row {w : World} {N : Nat} {c : Array Value} {T : TypeId} (h : w.heap[N]? = some (.cells c T (0, 0))) (l : List (List UInt8)) (e : c = (l.map fun x => Value.string (bs x)).toArray) : ∀ (j : Nat) x, l[j]? = some x → w.cell? ⟨N, 0 + j, none⟩ = some (.string (bs x)) := fun j x hx => by
  rw [Nat.zero_add, cell_of_row _ _ _ _ _ _ h, e, List.getElem?_toArray, List.getElem?_map, hx]; rfl
theorem bs_app3 (x y : List UInt8) : ((bs x ++ bs [40]) ++ bs y) ++ bs [41] = bs (x ++ 40 :: (y ++ [41])) := by
  rw [bs_app, bs_app, bs_app]; congr 1; simp [List.append_assoc]
set_option maxHeartbeats 4000000 in
theorem aoper_any {B : Nat} (op : Nat) (hop : op < 57) (rd r1 r2 imm cs : Int) (d0 : -9223372036854775808 ≤ rd) (d1 : rd ≤ 9223372036854775807) (a0 : -9223372036854775808 ≤ r1) (a1 : r1 ≤ 9223372036854775807) (b0 : -9223372036854775808 ≤ r2) (b1 : r2 ≤ 9223372036854775807) (n0 : -9223372036854775808 ≤ imm) (n1 : imm ≤ 9223372036854775807) (c0 : -9223372036854775808 ≤ cs) (c1 : cs ≤ 9223372036854775807) (w : World) (E : Env B w) : Calls Tryz.prog 36 #[.agg #[.int .i64 (op : Nat), .int .i64 rd, .int .i64 r1, .int .i64 r2, .int .i64 imm, .int .i64 cs]] w fun e w' => ((operT ⟨op, rd, r1, r2, imm, cs⟩ = [] ∧ e = .returned (.slice none 0 0)) ∨ (¬ operT ⟨op, rd, r1, r2, imm, cs⟩ = [] ∧ ∃ N, e = .returned (.slice (some ⟨N, 0, none⟩) (operT ⟨op, rd, r1, r2, imm, cs⟩).length (operT ⟨op, rd, r1, r2, imm, cs⟩).length) ∧ w.heap.size ≤ N ∧ w'.heap[N]? = some (.cells ((operT ⟨op, rd, r1, r2, imm, cs⟩).map fun x => Value.string (bs x)).toArray 9 (0, 0)))) ∧ Below w.heap.size w w' := by
  have KI := Lib.hid (fun w => kind_at op hop w)
  have qa : (imm.tdiv 4096).natAbs = imm.natAbs / 4096 := Int.natAbs_tdiv imm 4096
  have q0 : -9223372036854775808 ≤ imm.tdiv 4096 := by omega
  have q1 : imm.tdiv 4096 ≤ 9223372036854775807 := by omega
  have eq : IntKind.i64.wrap (imm.tdiv 4096) = imm.tdiv 4096 := by rw [Go.IntKind.wrap_i64]; omega
  have IN := Lib.hid (fun w E => itoa_any (B := B) imm n0 n1 w E)
  have IQ := Lib.hid (fun w E => itoa_any (B := B) (imm.tdiv 4096) q0 q1 w E)
  have I1 := Lib.hid (fun w E => itoa_any (B := B) r1 a0 a1 w E)
  have IC := Lib.hid (fun w E => itoa_any (B := B) cs c0 c1 w E)
  have RD := Lib.hid (fun w E => areg_any (B := B) rd d0 d1 w E)
  have R1 := Lib.hid (fun w E => areg_any (B := B) r1 a0 a1 w E)
  have R2 := Lib.hid (fun w E => areg_any (B := B) r2 b0 b1 w E)
  have zn := itoa_sz imm n0 n1
  have z1 := reg_sz r1 a0 a1
  have SM := Lib.hid (fun w => small_any op w)
  have HE := Lib.hid E
  obtain ⟨tn, htn⟩ : ∃ tn, tn = Lib.itoa imm := ⟨_, rfl⟩
  obtain ⟨td, htd⟩ : ∃ td, td = regT rd := ⟨_, rfl⟩
  obtain ⟨ta, hta⟩ : ∃ ta, ta = regT r1 := ⟨_, rfl⟩
  obtain ⟨tb, htb⟩ : ∃ tb, tb = regT r2 := ⟨_, rfl⟩
  rw [← htn] at IN zn
  rw [← htd] at RD
  rw [← hta] at R1 z1
  rw [← htb] at R2
  have T := Lib.hid (And.intro htn (And.intro htd (And.intro hta htb)))
  have F3 := Lib.hid (bs_app3 tn ta)
  have HOP := Lib.hid hop
  clear htn htd hta htb d0 d1 a0 a1 b0 b1 n0 n1 c0 c1 qa q0 q1 E hop
  go_enter Tryz.func36, Tryz.ntmps36
  go_upto_region 1 with (fail)
  have r0 := heap_alloc_new w (.cells #[.int .i64 (op : Nat), .int .i64 rd, .int .i64 r1, .int .i64 r2, .int .i64 imm, .int .i64 cs] 37)
  have e0 := HE.out.below ((Below.refl w.heap.size w).alloc (Nat.le_refl _) (.cells #[.int .i64 (op : Nat), .int .i64 rd, .int .i64 r1, .int .i64 r2, .int .i64 imm, .int .i64 cs] 37))
  have bb0 : Below w.heap.size w (w.alloc (.cells #[.int .i64 (op : Nat), .int .i64 rd, .int .i64 r1, .int .i64 r2, .int .i64 imm, .int .i64 cs] 37)) := (Below.refl _ _).alloc (Nat.le_refl _) _
  generalize hw0 : World.alloc w _ = w0 at r0 e0 bb0 ⊢
  obtain ⟨X, hX⟩ : ∃ X, X = w.heap.size := ⟨_, rfl⟩
  rw [← hX] at r0 ⊢
  have HX := Lib.hid hX
  clear hw0 hX
  have k4 : w0.cell? ⟨X, 4, none⟩ = some (.int .i64 imm) := cell_of_row _ _ _ _ _ _ r0
  have kf : ∀ j, w0.frozen? ⟨X, j, none⟩ = false := fun j => frozen_of_row _ _ _ _ _ r0
  have E0 := Lib.hid e0
  have B0 := Lib.hid bb0
  have R0 := Lib.hid r0
  clear e0 bb0 r0
  go_upto_region 2 with (go_at_call 59; refine (IN.out _ E0.out).mono ?_; rintro e w1 ⟨rfl, hb⟩; have E1 := Lib.hid (E0.out.below hb); have B1 := Lib.hid (B0.out.trans (hb.mono B0.out.size)); have Q1 := Lib.hid ((hb.block _ (heap_lt R0.out)).trans R0.out); clear hb k4 kf)
  refine wp_region_held_drew (S := fun w' => Env B w' ∧ Below w.heap.size w w' ∧ w'.heap[X]? = some (.cells #[.int .i64 (op : Nat), .int .i64 rd, .int .i64 r1, .int .i64 r2, .int .i64 imm, .int .i64 cs] 37 (0, 0))) (by kernel_rfl) ⟨E1.out.below (Below.drew (Below.refl _ _)), Below.drew B1.out, Q1.out⟩ (fun hHeld => ?_)
  refine wpAnyH_take (i := 0) (v := .pointer (some ⟨X, 1, none⟩)) rfl (by kernel_rfl) (by kernel_rfl) (by kernel_rfl) (fun _ _ _ h => h) (Or.inl ⟨by rfl, ?_⟩) (by assumption) ?_
  · (intro w hSw; clear hSw; go_simp; try first | with_reducible rfl | rfl)
  try simp only [Act.put, List.getElem_toArray, List.getElem_cons_zero, List.getElem_cons_succ, List.setIfInBounds_toArray, List.set_cons_zero, List.set_cons_succ]
  refine wpAnyH_take (i := 1) (v := .int .i64 rd) rfl (by kernel_rfl) (by kernel_rfl) (by kernel_rfl) (fun _ _ _ h => h) (Or.inl ⟨by rfl, ?_⟩) (by assumption) ?_
  · (intro w hSw; have q := cell_of_row _ _ 1 _ _ _ hSw.2.2; have qf := frozen_of_row _ _ 1 _ _ hSw.2.2; clear hSw; go_simp; try first | with_reducible rfl | rfl)
  try simp only [Act.put, List.getElem_toArray, List.getElem_cons_zero, List.getElem_cons_succ, List.setIfInBounds_toArray, List.set_cons_zero, List.set_cons_succ]
  refine wpAnyH_take (i := 3) (v := .pointer (some ⟨X, 2, none⟩)) rfl (by kernel_rfl) (by kernel_rfl) (by kernel_rfl) (fun _ _ _ h => h) (Or.inl ⟨by rfl, ?_⟩) (by assumption) ?_
  · (intro w hSw; clear hSw; go_simp; try first | with_reducible rfl | rfl)
  try simp only [Act.put, List.getElem_toArray, List.getElem_cons_zero, List.getElem_cons_succ, List.setIfInBounds_toArray, List.set_cons_zero, List.set_cons_succ]
  refine wpAnyH_take (i := 4) (v := .int .i64 r1) rfl (by kernel_rfl) (by kernel_rfl) (by kernel_rfl) (fun _ _ _ h => h) (Or.inl ⟨by rfl, ?_⟩) (by assumption) ?_
  · (intro w hSw; have q := cell_of_row _ _ 2 _ _ _ hSw.2.2; have qf := frozen_of_row _ _ 2 _ _ hSw.2.2; clear hSw; go_simp; try first | with_reducible rfl | rfl)
  try simp only [Act.put, List.getElem_toArray, List.getElem_cons_zero, List.getElem_cons_succ, List.setIfInBounds_toArray, List.set_cons_zero, List.set_cons_succ]
  refine wpAnyH_take (i := 6) (v := .pointer (some ⟨X, 3, none⟩)) rfl (by kernel_rfl) (by kernel_rfl) (by kernel_rfl) (fun _ _ _ h => h) (Or.inl ⟨by rfl, ?_⟩) (by assumption) ?_
  · (intro w hSw; clear hSw; go_simp; try first | with_reducible rfl | rfl)
  try simp only [Act.put, List.getElem_toArray, List.getElem_cons_zero, List.getElem_cons_succ, List.setIfInBounds_toArray, List.set_cons_zero, List.set_cons_succ]
  refine wpAnyH_take (i := 7) (v := .int .i64 r2) rfl (by kernel_rfl) (by kernel_rfl) (by kernel_rfl) (fun _ _ _ h => h) (Or.inl ⟨by rfl, ?_⟩) (by assumption) ?_
  · (intro w hSw; have q := cell_of_row _ _ 3 _ _ _ hSw.2.2; have qf := frozen_of_row _ _ 3 _ _ hSw.2.2; clear hSw; go_simp; try first | with_reducible rfl | rfl)
  try simp only [Act.put, List.getElem_toArray, List.getElem_cons_zero, List.getElem_cons_succ, List.setIfInBounds_toArray, List.set_cons_zero, List.set_cons_succ]
  have hS0 := hHeld
  clear hHeld
  generalize World.drew _ = v0 at *
  refine wpAnyH_ready (rs := [2]) (by kernel_rfl) (by simp) ?_
  refine AllReadyH.cons rfl (fun K2 hK2 => ?_) AllReadyH.nil
  go_simp
  go_at_call 69
  refine (RD.out _ hS0.1).mono ?_
  rintro e v1 ⟨rfl, hb1⟩
  refine hK2.out _ _ ⟨hS0.1.below hb1, hS0.2.1.trans (hb1.mono hS0.2.1.size), (hb1.block _ (heap_lt hS0.2.2)).trans hS0.2.2⟩ (fun hS1 => ?_)
  try simp only [Act.put, List.getElem_toArray, List.getElem_cons_zero, List.getElem_cons_succ, List.setIfInBounds_toArray, List.set_cons_zero, List.set_cons_succ]
  clear hb1 hS0
  refine wpAnyH_ready (rs := [5]) (by kernel_rfl) (by simp) ?_
  refine AllReadyH.cons rfl (fun K5 hK5 => ?_) AllReadyH.nil
  go_simp
  go_at_call 69
  refine (R1.out _ hS1.1).mono ?_
  rintro e v2 ⟨rfl, hb2⟩
  refine hK5.out _ _ ⟨hS1.1.below hb2, hS1.2.1.trans (hb2.mono hS1.2.1.size), (hb2.block _ (heap_lt hS1.2.2)).trans hS1.2.2⟩ (fun hS2 => ?_)
  try simp only [Act.put, List.getElem_toArray, List.getElem_cons_zero, List.getElem_cons_succ, List.setIfInBounds_toArray, List.set_cons_zero, List.set_cons_succ]
  clear hb2 hS1
  refine wpAnyH_ready (rs := [8]) (by kernel_rfl) (by simp) ?_
  refine AllReadyH.cons rfl (fun K8 hK8 => ?_) AllReadyH.nil
  go_simp
  go_at_call 69
  refine (R2.out _ hS2.1).mono ?_
  rintro e v3 ⟨rfl, hb3⟩
  refine hK8.out _ _ ⟨hS2.1.below hb3, hS2.2.1.trans (hb3.mono hS2.2.1.size), (hb3.block _ (heap_lt hS2.2.2)).trans hS2.2.2⟩ (fun hS3 => ?_)
  try simp only [Act.put, List.getElem_toArray, List.getElem_cons_zero, List.getElem_cons_succ, List.setIfInBounds_toArray, List.set_cons_zero, List.set_cons_succ]
  clear hb3 hS2
  refine wpAnyH_take (i := 9) (v := .string (bs td)) rfl (by kernel_rfl) (by kernel_rfl) (by kernel_rfl) (fun _ _ _ h => h) (Or.inl ⟨by rfl, ?_⟩) (by assumption) ?_
  · (intro w hSw; clear hSw; go_simp; try first | with_reducible rfl | rfl)
  try simp only [Act.put, List.getElem_toArray, List.getElem_cons_zero, List.getElem_cons_succ, List.setIfInBounds_toArray, List.set_cons_zero, List.set_cons_succ]
  refine wpAnyH_take (i := 10) (v := .string (bs ta)) rfl (by kernel_rfl) (by kernel_rfl) (by kernel_rfl) (fun _ _ _ h => h) (Or.inl ⟨by rfl, ?_⟩) (by assumption) ?_
  · (intro w hSw; clear hSw; go_simp; try first | with_reducible rfl | rfl)
  try simp only [Act.put, List.getElem_toArray, List.getElem_cons_zero, List.getElem_cons_succ, List.setIfInBounds_toArray, List.set_cons_zero, List.set_cons_succ]
  refine wpAnyH_take (i := 11) (v := .string (bs tb)) rfl (by kernel_rfl) (by kernel_rfl) (by kernel_rfl) (fun _ _ _ h => h) (Or.inl ⟨by rfl, ?_⟩) (by assumption) ?_
  · (intro w hSw; clear hSw; go_simp; try first | with_reducible rfl | rfl)
  try simp only [Act.put, List.getElem_toArray, List.getElem_cons_zero, List.getElem_cons_succ, List.setIfInBounds_toArray, List.set_cons_zero, List.set_cons_succ]
  refine wpAnyH_done (by kernel_rfl) ?_ _
  obtain ⟨e3, bb3, r3⟩ := hS3
  have k0 : v3.cell? ⟨X, 0, none⟩ = some (.int .i64 (op : Nat)) := cell_of_row _ _ _ _ _ _ r3
  have k2 : v3.cell? ⟨X, 2, none⟩ = some (.int .i64 r1) := cell_of_row _ _ _ _ _ _ r3
  have k4 : v3.cell? ⟨X, 4, none⟩ = some (.int .i64 imm) := cell_of_row _ _ _ _ _ _ r3
  have k5 : v3.cell? ⟨X, 5, none⟩ = some (.int .i64 cs) := cell_of_row _ _ _ _ _ _ r3
  have kf : ∀ j, v3.frozen? ⟨X, j, none⟩ = false := fun j => frozen_of_row _ _ _ _ _ r3
  have E3 := Lib.hid e3
  have B3 := Lib.hid bb3
  have R3 := Lib.hid r3
  clear e3 bb3 r3 R0 Q1 E0 B0
  obtain ⟨k, hk⟩ : ∃ k, k = kN op := ⟨_, rfl⟩
  rw [← hk] at KI
  have HK := Lib.hid hk
  have kc := k_cases op HOP.out
  rw [← hk] at kc
  clear hk
  go_upto_region 4 with (go_at_call 58; refine (KI.out _).mono ?_; rintro e w' ⟨rfl, rfl⟩)
  have zz1 : ¬ 9223372036854775807 < (bs tn).size + 1 := by omega
  have zz2 : ¬ 9223372036854775807 < (bs tn).size + 1 + (bs ta).size := by omega
  have zz3 : ¬ 9223372036854775807 < (bs tn).size + 1 + (bs ta).size + 1 := by omega
  clear zn z1
  rcases kc with rfl | rfl | (rfl | rfl | rfl) | rfl | rfl | rfl | rfl | rfl | rfl
  · go_wp2_with (go_at_call 59; (with_reducible refine (IQ.out _ E3.out).mono ?_); rintro e w4 ⟨rfl, hb⟩; have B4 := Lib.hid (B3.out.trans (hb.mono B3.out.size)); clear hb)
    go_ret
    have hl : operT ⟨op, rd, r1, r2, imm, cs⟩ = [td, Lib.itoa (imm.tdiv 4096)] := by
      obtain ⟨t1, t2, t3, t4⟩ := T.out
      unfold operT; simp only [Int.toNat_natCast]; rw [← HK.out]; (try rw [t1]); (try rw [t2]); (try rw [t3]); (try rw [t4]); (try rfl)
    rw [hl]
    refine ⟨Or.inr ⟨by simp, w4.heap.size, rfl, B4.out.size, ?_⟩, B4.out.alloc B4.out.size _⟩
    rw [heap_alloc_new]; rfl
  ·
    go_wp2
    go_ret
    have hl : operT ⟨op, rd, r1, r2, imm, cs⟩ = [td, tn] := by
      obtain ⟨t1, t2, t3, t4⟩ := T.out
      unfold operT; simp only [Int.toNat_natCast]; rw [← HK.out]; (try rw [t1]); (try rw [t2]); (try rw [t3]); (try rw [t4]); (try rfl)
    rw [hl]
    refine ⟨Or.inr ⟨by simp, v3.heap.size, rfl, B3.out.size, ?_⟩, B3.out.alloc B3.out.size _⟩
    rw [heap_alloc_new]; rfl
  ·
    go_wp2
    go_ret
    have hl : operT ⟨op, rd, r1, r2, imm, cs⟩ = [td, ta, tn] := by
      obtain ⟨t1, t2, t3, t4⟩ := T.out
      unfold operT; simp only [Int.toNat_natCast]; rw [← HK.out]; (try rw [t1]); (try rw [t2]); (try rw [t3]); (try rw [t4]); (try rfl)
    rw [hl]
    refine ⟨Or.inr ⟨by simp, v3.heap.size, rfl, B3.out.size, ?_⟩, B3.out.alloc B3.out.size _⟩
    rw [heap_alloc_new]; rfl
  ·
    go_wp2
    go_ret
    have hl : operT ⟨op, rd, r1, r2, imm, cs⟩ = [td, ta, tn] := by
      obtain ⟨t1, t2, t3, t4⟩ := T.out
      unfold operT; simp only [Int.toNat_natCast]; rw [← HK.out]; (try rw [t1]); (try rw [t2]); (try rw [t3]); (try rw [t4]); (try rfl)
    rw [hl]
    refine ⟨Or.inr ⟨by simp, v3.heap.size, rfl, B3.out.size, ?_⟩, B3.out.alloc B3.out.size _⟩
    rw [heap_alloc_new]; rfl
  ·
    go_wp2
    go_ret
    have hl : operT ⟨op, rd, r1, r2, imm, cs⟩ = [td, ta, tn] := by
      obtain ⟨t1, t2, t3, t4⟩ := T.out
      unfold operT; simp only [Int.toNat_natCast]; rw [← HK.out]; (try rw [t1]); (try rw [t2]); (try rw [t3]); (try rw [t4]); (try rfl)
    rw [hl]
    refine ⟨Or.inr ⟨by simp, v3.heap.size, rfl, B3.out.size, ?_⟩, B3.out.alloc B3.out.size _⟩
    rw [heap_alloc_new]; rfl
  ·
    go_wp2
    have f3 : Value.string (bs tn ++ ⟨#[40]⟩ ++ bs ta ++ ⟨#[41]⟩) = Value.string (bs (tn ++ 40 :: (ta ++ [41]))) := congrArg Value.string F3.out
    go_ret
    have hl : operT ⟨op, rd, r1, r2, imm, cs⟩ = [td, tn ++ 40 :: (ta ++ [41])] := by
      obtain ⟨t1, t2, t3, t4⟩ := T.out
      unfold operT; simp only [Int.toNat_natCast]; rw [← HK.out]; (try rw [t1]); (try rw [t2]); (try rw [t3]); (try rw [t4]); (try rfl)
    rw [hl]
    refine ⟨Or.inr ⟨by simp, v3.heap.size, rfl, B3.out.size, ?_⟩, B3.out.alloc B3.out.size _⟩
    rw [heap_alloc_new]
    rw [f3]; rfl
  ·
    go_wp2
    go_ret
    have hl : operT ⟨op, rd, r1, r2, imm, cs⟩ = [ta, tb, tn] := by
      obtain ⟨t1, t2, t3, t4⟩ := T.out
      unfold operT; simp only [Int.toNat_natCast]; rw [← HK.out]; (try rw [t1]); (try rw [t2]); (try rw [t3]); (try rw [t4]); (try rfl)
    rw [hl]
    refine ⟨Or.inr ⟨by simp, v3.heap.size, rfl, B3.out.size, ?_⟩, B3.out.alloc B3.out.size _⟩
    rw [heap_alloc_new]; rfl
  ·
    go_wp2
    have f3 : Value.string (bs tn ++ ⟨#[40]⟩ ++ bs ta ++ ⟨#[41]⟩) = Value.string (bs (tn ++ 40 :: (ta ++ [41]))) := congrArg Value.string F3.out
    go_ret
    have hl : operT ⟨op, rd, r1, r2, imm, cs⟩ = [tb, tn ++ 40 :: (ta ++ [41])] := by
      obtain ⟨t1, t2, t3, t4⟩ := T.out
      unfold operT; simp only [Int.toNat_natCast]; rw [← HK.out]; (try rw [t1]); (try rw [t2]); (try rw [t3]); (try rw [t4]); (try rfl)
    rw [hl]
    refine ⟨Or.inr ⟨by simp, v3.heap.size, rfl, B3.out.size, ?_⟩, B3.out.alloc B3.out.size _⟩
    rw [heap_alloc_new]
    rw [f3]; rfl
  ·
    go_wp2
    go_ret
    have hl : operT ⟨op, rd, r1, r2, imm, cs⟩ = [td, ta, tb] := by
      obtain ⟨t1, t2, t3, t4⟩ := T.out
      unfold operT; simp only [Int.toNat_natCast]; rw [← HK.out]; (try rw [t1]); (try rw [t2]); (try rw [t3]); (try rw [t4]); (try rfl)
    rw [hl]
    refine ⟨Or.inr ⟨by simp, v3.heap.size, rfl, B3.out.size, ?_⟩, B3.out.alloc B3.out.size _⟩
    rw [heap_alloc_new]; rfl
  · by_cases h9 : 54 ≤ op
    · have hd : decide ((54 : Int) ≤ (op : Int)) = true := decide_eq_true (by omega)
      rw [hd] at SM
      clear hd
      go_wp2_with (first | (go_at_call 70; refine (SM.out _).mono ?_; rintro e w' ⟨rfl, rfl⟩) | (go_at_call 59; (with_reducible refine (I1.out _ E3.out).mono ?_); rintro e w4 ⟨rfl, hb⟩; have E4 := Lib.hid (E3.out.below hb); have B4 := Lib.hid (B3.out.trans (hb.mono B3.out.size)); have r4 := (hb.block _ (heap_lt R3.out)).trans R3.out; clear hb k0 k2 k4 k5 kf; have k5 : w4.cell? ⟨X, 5, none⟩ = some (.int .i64 cs) := cell_of_row _ _ _ _ _ _ r4; have kf : ∀ j, w4.frozen? ⟨X, j, none⟩ = false := (fun j => frozen_of_row _ _ _ _ _ r4); clear r4) | (go_at_call 59; (with_reducible refine (IC.out _ E4.out).mono ?_); rintro e w5 ⟨rfl, hb⟩; have B5 := Lib.hid (B4.out.trans (hb.mono B4.out.size)); clear hb))
      go_ret
      have hl : operT ⟨op, rd, r1, r2, imm, cs⟩ = [td, Lib.itoa cs, Lib.itoa r1] := by
        obtain ⟨t1, t2, t3, t4⟩ := T.out
        unfold operT; simp only [Int.toNat_natCast]; rw [← HK.out, if_neg (by decide), if_neg (by decide), if_neg (by decide), if_neg (by decide), if_neg (by decide), if_neg (by decide), if_neg (by decide), if_pos rfl, if_pos (by omega)]; (try rw [t1]); (try rw [t2]); (try rw [t3]); (try rw [t4]); (try rfl)
      rw [hl]
      refine ⟨Or.inr ⟨by simp, w5.heap.size, rfl, B5.out.size, ?_⟩, B5.out.alloc B5.out.size _⟩
      rw [heap_alloc_new]; rfl
    · have hd : decide ((54 : Int) ≤ (op : Int)) = false := decide_eq_false (by omega)
      rw [hd] at SM
      clear hd
      go_wp2_with (first | (go_at_call 70; refine (SM.out _).mono ?_; rintro e w' ⟨rfl, rfl⟩) | (go_at_call 59; (with_reducible refine (IC.out _ E3.out).mono ?_); rintro e w5 ⟨rfl, hb⟩; have B5 := Lib.hid (B3.out.trans (hb.mono B3.out.size)); clear hb))
      go_ret
      have hl : operT ⟨op, rd, r1, r2, imm, cs⟩ = [td, Lib.itoa cs, ta] := by
        obtain ⟨t1, t2, t3, t4⟩ := T.out
        unfold operT; simp only [Int.toNat_natCast]; rw [← HK.out, if_neg (by decide), if_neg (by decide), if_neg (by decide), if_neg (by decide), if_neg (by decide), if_neg (by decide), if_neg (by decide), if_pos rfl, if_neg (by omega)]; (try rw [t1]); (try rw [t2]); (try rw [t3]); (try rw [t4]); (try rfl)
      rw [hl]
      refine ⟨Or.inr ⟨by simp, w5.heap.size, rfl, B5.out.size, ?_⟩, B5.out.alloc B5.out.size _⟩
      rw [heap_alloc_new]; rfl
  · go_wp2
    go_ret
    have hl : operT ⟨op, rd, r1, r2, imm, cs⟩ = [] := by unfold operT; simp only [Int.toNat_natCast]; rw [← HK.out]; rfl
    exact ⟨Or.inl ⟨hl, rfl⟩, B3.out⟩

theorem text_nil {i : Ins} (h : operT i = []) : textT i = nmOf i.op := by unfold textT; rw [if_pos h]
theorem text_cons {i : Ins} (h : ¬ operT i = []) : textT i = nmOf i.op ++ 32 :: Lib.join (operT i) [44, 32] := by unfold textT; rw [if_neg h]
theorem oper_len (i : Ins) : (operT i).length ≤ 3 := by
  unfold operT
  repeat' split
  all_goals simp
theorem itoa_l {n : Int} (h0 : -4294967296 ≤ n) (h1 : n ≤ 4294967296) : (Lib.itoa n).length ≤ 21 := Lib.itoa_length_le n (by omega) (by omega)
theorem oper_small {i : Ins} (h : i.can) : ∀ y ∈ operT i, y.length ≤ 60 := by
  obtain ⟨op, x, hop, hx, rfl⟩ := can_ex h
  obtain ⟨d0, d1⟩ := rd_b (kN op) x
  obtain ⟨a0, a1⟩ := r1_b (kN op) x
  obtain ⟨b0, b1⟩ := r2_b (kN op) x
  obtain ⟨c0, c1⟩ := cs_b (kN op) hx
  obtain ⟨n0, n1⟩ := imm_b (kN op) hx
  have l1 := itoa_l (n := rdOf (kN op) x) (by omega) (by omega)
  have l2 := itoa_l (n := r1Of (kN op) x) (by omega) (by omega)
  have l3 := itoa_l (n := r2Of (kN op) x) (by omega) (by omega)
  have l4 := itoa_l c0 c1
  have l5 := itoa_l n0 n1
  have q : (Int.tdiv (immOf (kN op) x) 4096).natAbs = (immOf (kN op) x).natAbs / 4096 := Int.natAbs_tdiv _ 4096
  have l6 := itoa_l (n := Int.tdiv (immOf (kN op) x) 4096) (by omega) (by omega)
  unfold operT
  simp only [Int.toNat_natCast]
  repeat' split
  all_goals (intro y hy; simp only [List.mem_cons, List.not_mem_nil, or_false] at hy)
  all_goals first
    | exact hy.elim
    | (rcases hy with rfl | rfl | rfl <;> first | omega | (simp only [regT, farT, List.length_cons, List.length_append, List.length_nil]; omega))
    | (rcases hy with rfl | rfl <;> first | omega | (simp only [regT, farT, List.length_cons, List.length_append, List.length_nil]; omega))
theorem join_small : ∀ (l : List (List UInt8)) (m : Nat), (∀ y ∈ l, y.length ≤ m) → (Lib.join l [44, 32]).length ≤ l.length * (m + 2)
  | [], m, _ => by simp [Lib.join, List.intercalate]
  | [x], m, h => by
    have := h x (by simp)
    simp [Lib.join, List.intercalate]; omega
  | x :: y :: r, m, h => by
    have h1 := h x (by simp)
    have h2 := join_small (y :: r) m (fun z hz => h z (List.mem_cons_of_mem _ hz))
    rw [join_two x (by simp)]
    simp only [List.length_append, List.length_cons, List.length_nil] at h2 ⊢
    rw [Nat.add_mul, Nat.one_mul]
    omega
theorem nm_small : ∀ op, op < 57 → (nmTab.getD op []).length ≤ 8 := by decide +kernel
set_option maxHeartbeats 2000000 in
theorem atext_no {B : Nat} (op rd r1 r2 imm cs : Int) (hc : ¬ Can op rd r1 r2 imm cs) (w : World) (E : Env B w) : Calls Tryz.prog 14 #[.agg #[.int .i64 op, .int .i64 rd, .int .i64 r1, .int .i64 r2, .int .i64 imm, .int .i64 cs]] w fun e w' => e = .returned (.tuple #[.string ⟨#[]⟩, errV 1]) ∧ Below w.heap.size w w' := by
  have CK := Lib.hid (fun w hT => check_no op rd r1 r2 imm cs hc w hT)
  have hE1 : errV 1 = .iface 56 (.int .i64 1) := rfl
  rw [hE1] at CK ⊢
  have b0 : Below w.heap.size w (w.alloc (.cells #[.int .i64 op, .int .i64 rd, .int .i64 r1, .int .i64 r2, .int .i64 imm, .int .i64 cs] 37)) := (Below.refl _ _).alloc (Nat.le_refl _) _
  have T0 := Lib.hid (E.below b0).tw
  have B0 := Lib.hid b0
  clear E hc hE1 b0
  go_enter Tryz.func14, Tryz.ntmps14
  go_wp2_with (go_at_call 35; refine (CK.out _ T0.out).mono ?_; rintro e w1 ⟨rfl, hb⟩; have B1 := Lib.hid (B0.out.trans (hb.mono B0.out.size)); clear hb)
  go_ret2
  exact ⟨rfl, B1.out⟩
set_option maxHeartbeats 4000000 in
theorem atext_yes {B : Nat} (i : Ins) (hc : i.can) (w : World) (E : Env B w) : Calls Tryz.prog 14 #[i.v] w fun e w' => e = .returned (.tuple #[.string (bs (textT i)), .nilIface]) ∧ Below w.heap.size w w' := by
  have hno := oper_small hc
  have hln := oper_len i
  have hjl := join_small (operT i) 60 hno
  obtain ⟨op, x, hop, hx, rfl⟩ := can_ex hc
  obtain ⟨d0, d1⟩ := rd_b (kN op) x
  obtain ⟨a0, a1⟩ := r1_b (kN op) x
  obtain ⟨b0, b1⟩ := r2_b (kN op) x
  obtain ⟨c0, c1⟩ := cs_b (kN op) hx
  obtain ⟨n0, n1⟩ := imm_b (kN op) hx
  generalize rdOf (kN op) x = rd at *
  generalize r1Of (kN op) x = r1 at *
  generalize r2Of (kN op) x = r2 at *
  generalize csrOf (kN op) x = cs at *
  generalize immOf (kN op) x = imm at *
  have CK := Lib.hid (fun w hT => check_yes op rd r1 r2 imm cs hc w hT)
  have OP := Lib.hid (fun w E => aoper_any (B := B) op hop rd r1 r2 imm cs (by omega) (by omega) (by omega) (by omega) (by omega) (by omega) (by omega) (by omega) (by omega) (by omega) w E)
  have hnl := nm_small op hop
  have HOP := Lib.hid hop
  have e0 := text_nil (i := ⟨op, rd, r1, r2, imm, cs⟩)
  have e1 := text_cons (i := ⟨op, rd, r1, r2, imm, cs⟩)
  have hnm : nmOf (op : Int) = nmTab.getD op [] := by unfold nmOf; rw [Int.toNat_natCast]
  simp only [hnm] at e0 e1
  obtain ⟨nm, hnm2⟩ : ∃ nm, nm = nmTab.getD op [] := ⟨_, rfl⟩
  obtain ⟨l, hl⟩ : ∃ l, l = operT ⟨op, rd, r1, r2, imm, cs⟩ := ⟨_, rfl⟩
  obtain ⟨tx, htx⟩ : ∃ tx, tx = textT ⟨op, rd, r1, r2, imm, cs⟩ := ⟨_, rfl⟩
  rw [← hnm2] at e0 e1 hnl
  rw [← hl] at OP e0 e1 hln hjl
  rw [← htx] at e0 e1 ⊢
  have NA := Lib.hid (fun w (hN : TabS w) => by
    obtain ⟨s, hs, hd⟩ := hN op HOP.out
    have q := name_at op HOP.out s w hs
    rw [show s = bs nm from by rw [hnm2, ← hd]; exact (bs_data s).symm] at q
    exact q)
  have b0 : Below w.heap.size w (w.alloc (.cells #[.int .i64 (op : Nat), .int .i64 rd, .int .i64 r1, .int .i64 r2, .int .i64 imm, .int .i64 cs] 37)) := (Below.refl _ _).alloc (Nat.le_refl _) _
  have r0 := heap_alloc_new w (.cells #[.int .i64 (op : Nat), .int .i64 rd, .int .i64 r1, .int .i64 r2, .int .i64 imm, .int .i64 cs] 37)
  have E0 := Lib.hid (E.below b0)
  have B0 := Lib.hid b0
  have R0 := Lib.hid r0
  have E1 := Lib.hid e1
  have E00 := Lib.hid e0
  have HJ := Lib.hid hjl
  have HL := Lib.hid hln
  have HN := Lib.hid (show (bs nm).size ≤ 8 by rw [bs_size]; exact hnl)
  clear E hc hno b0 hop hx d0 d1 a1 b1 c0 c1 n0 n1 a0 hnm hnm2 hl htx e0 e1 hjl hln hnl r0
  show Calls Tryz.prog 14 #[.agg #[.int .i64 (op : Nat), .int .i64 rd, .int .i64 r1, .int .i64 r2, .int .i64 imm, .int .i64 cs]] w _
  go_enter Tryz.func14, Tryz.ntmps14
  go_upto_region 1 with (fail)
  generalize hw0 : World.alloc w _ = w0 at *
  obtain ⟨X, hX⟩ : ∃ X, X = w.heap.size := ⟨_, rfl⟩
  have r0 := R0.out
  rw [← hX] at r0 ⊢
  have HX := Lib.hid hX
  clear hw0 hX R0
  have R0 := Lib.hid r0
  have k0 : w0.cell? ⟨X, 0, none⟩ = some (.int .i64 (op : Nat)) := cell_of_row _ _ _ _ _ _ r0
  have k1 : w0.cell? ⟨X, 1, none⟩ = some (.int .i64 rd) := cell_of_row _ _ _ _ _ _ r0
  have k2 : w0.cell? ⟨X, 2, none⟩ = some (.int .i64 r1) := cell_of_row _ _ _ _ _ _ r0
  have k3 : w0.cell? ⟨X, 3, none⟩ = some (.int .i64 r2) := cell_of_row _ _ _ _ _ _ r0
  have k4 : w0.cell? ⟨X, 4, none⟩ = some (.int .i64 imm) := cell_of_row _ _ _ _ _ _ r0
  have k5 : w0.cell? ⟨X, 5, none⟩ = some (.int .i64 cs) := cell_of_row _ _ _ _ _ _ r0
  have kf : ∀ j, w0.frozen? ⟨X, j, none⟩ = false := fun j => frozen_of_row _ _ _ _ _ r0
  clear r0
  go_upto_region 3 with (go_at_call 35; refine (CK.out _ E0.out.tw).mono ?_; rintro e w1 ⟨rfl, hb⟩; have E2 := Lib.hid (E0.out.below hb); have B1 := Lib.hid (B0.out.trans (hb.mono B0.out.size)); have r1q := (hb.block _ (heap_lt R0.out)).trans R0.out; clear hb k0 k1 k2 k3 k4 k5 kf; have k0 : w1.cell? ⟨X, 0, none⟩ = some (.int .i64 (op : Nat)) := cell_of_row _ _ _ _ _ _ r1q; have k1 : w1.cell? ⟨X, 1, none⟩ = some (.int .i64 rd) := cell_of_row _ _ _ _ _ _ r1q; have k2 : w1.cell? ⟨X, 2, none⟩ = some (.int .i64 r1) := cell_of_row _ _ _ _ _ _ r1q; have k3 : w1.cell? ⟨X, 3, none⟩ = some (.int .i64 r2) := cell_of_row _ _ _ _ _ _ r1q; have k4 : w1.cell? ⟨X, 4, none⟩ = some (.int .i64 imm) := cell_of_row _ _ _ _ _ _ r1q; have k5 : w1.cell? ⟨X, 5, none⟩ = some (.int .i64 cs) := cell_of_row _ _ _ _ _ _ r1q; have kf : ∀ j, w1.frozen? ⟨X, j, none⟩ = false := (fun j => frozen_of_row _ _ _ _ _ r1q); have R1 := Lib.hid r1q; clear r1q)
  by_cases h0 : l = []
  · have hx := E00.out h0
    have OP0 := Lib.hid (fun w (E : Env B w) => (OP.out w E).mono fun e w' hh => show e = .returned (.slice none 0 0) ∧ Below w.heap.size w w' from ⟨by
      rcases hh.1 with h1 | h1
      · exact h1.2
      · exact absurd h0 h1.1, hh.2⟩)
    clear OP h0
    go_wp2_with (first | (go_at_call 36; refine (OP0.out _ E2.out).mono ?_; rintro e w2 ⟨rfl, hb⟩; have E3 := Lib.hid (E2.out.below hb); have B2 := Lib.hid (B1.out.trans (hb.mono B1.out.size)); have r2q := (hb.block _ (heap_lt R1.out)).trans R1.out; clear hb k0 k1 k2 k3 k4 k5 kf; have k0 : w2.cell? ⟨X, 0, none⟩ = some (.int .i64 (op : Nat)) := cell_of_row _ _ _ _ _ _ r2q; have kf : ∀ j, w2.frozen? ⟨X, j, none⟩ = false := (fun j => frozen_of_row _ _ _ _ _ r2q); clear r2q) | (go_at_call 37; refine (NA.out _ E3.out.ts).mono ?_; rintro e w' ⟨rfl, rfl⟩))
    go_ret2
    rw [hx]
    exact ⟨rfl, B2.out⟩
  · have hx := E1.out h0
    have OP1 := Lib.hid (fun w (E : Env B w) => (OP.out w E).mono fun e w' hh => show (∃ N, e = .returned (.slice (some ⟨N, 0, none⟩) l.length l.length) ∧ w.heap.size ≤ N ∧ w'.heap[N]? = some (.cells (l.map fun x => Value.string (bs x)).toArray 9 (0, 0))) ∧ Below w.heap.size w w' from ⟨by
      rcases hh.1 with h1 | h1
      · exact absurd h1.1 h0
      · exact h1.2, hh.2⟩)
    have hlz : ((l.length : Nat) : Int) ≠ 0 := by
      cases l with
      | nil => exact absurd rfl h0
      | cons a r => simp; omega
    have hlz2 : ((l.length : Int) == 0) = false := by simpa using hlz
    have hlz3 : ¬ l.length = 0 := by omega
    have JN := Lib.hid (fun (bk : Nat) w hc hbk => join_any l [44, 32] bk 0 l.length w hc hbk (by have := HL.out; omega) (Nat.le_refl _) (by have := HJ.out; have := HL.out; omega))
    obtain ⟨J, hJ⟩ : ∃ J, J = Lib.join l [44, 32] := ⟨_, rfl⟩
    rw [← hJ] at JN hx
    have hjz : (bs J).size ≤ 200 := by rw [bs_size, hJ]; have := HJ.out; have := HL.out; omega
    have hnz := HN.out
    have z1 : ¬ 9223372036854775807 < (bs nm).size + 1 := by omega
    have z2 : ¬ 9223372036854775807 < (bs nm).size + 1 + (bs J).size := by omega
    have hxx : Value.string (bs nm ++ ⟨#[32]⟩ ++ bs J) = Value.string (bs tx) := by
      rw [hx]; exact congrArg Value.string (show (bs nm ++ bs [32]) ++ bs J = _ from by rw [bs_app, bs_app]; simp)
    have HXX := Lib.hid hxx
    clear OP hJ hjz hnz h0 hx hlz hxx
    go_wp2_with (first | (go_at_call 36; refine (OP1.out _ E2.out).mono ?_; rintro e w2 ⟨⟨N, rfl, hN, hrow⟩, hb⟩; have E3 := Lib.hid (E2.out.below hb); have B2 := Lib.hid (B1.out.trans (hb.mono B1.out.size)); have r2q := (hb.block _ (heap_lt R1.out)).trans R1.out; have NR := Lib.hid hrow; clear hb hN hrow k0 k1 k2 k3 k4 k5 kf; have k0 : w2.cell? ⟨X, 0, none⟩ = some (.int .i64 (op : Nat)) := cell_of_row _ _ _ _ _ _ r2q; have kf : ∀ j, w2.frozen? ⟨X, j, none⟩ = false := (fun j => frozen_of_row _ _ _ _ _ r2q); clear r2q) | (go_at_call 37; refine (NA.out _ E3.out.ts).mono ?_; rintro e w' ⟨rfl, rfl⟩) | (go_at_call 38; refine (JN.out N _ (strs_row NR.out l rfl) (heap_lt NR.out)).mono ?_; rintro e w4 ⟨rfl, hb⟩; have B4 := Lib.hid (B2.out.trans (hb.mono B2.out.size)); clear hb))
    go_ret2
    refine ⟨?_, B4.out⟩
    rw [← HXX.out]
    rfl

end Go.Proofs.YtkcdnhennnjneaaGreatDoor
