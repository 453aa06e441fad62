import Derived.Test.YtoincdfijeipjaaDoorHartBa
import Derived.Below
import Derived.Deep.Draws
import Derived.Deep.AppendLies
import Derived.Maps.AppendAt
import Derived.OwnWalk
import Derived.Laws.BytesArg
import Derived.Laws.MakeOwn
import Derived.Laws.OwnMore
import Derived.Deep.OwnRows
import Derived.Tactics
import Derived.Lib.ConvBytes
import Derived.Laws.Slices
import Derived.WalkKit
import Derived.KernelRfl
import Derived.RowKit3
import Derived.Deep.LoopGhost
import Derived.Deep.QuietTactic
import Derived.BigQuiet
import Derived.WideLaws
import Derived.Deep.DeepCutAuto
import Derived.Deep.CutBlock
import Derived.Deep.RegionHeld3
import Derived.Laws.Rows
import Derived.Lib.AppendStr
import Derived.ArgAppend
import Derived.Laws.IdiomCopy
import Derived.OrdersHeld
import Derived.Laws.BitsLemmas
import Derived.RowKit
import Derived.Lib.Hide
import Derived.Laws.BitsAllLaws
import Derived.WalkLawsBesides
import Derived.WalkSpells
import Derived.LaidEql
namespace Go.Proofs.YtoincdfijeipjaaDoor
open Go.RowKit
set_option maxRecDepth 100000
set_option linter.unusedVariables false
set_option linter.unusedSimpArgs false

set_option maxHeartbeats 8000000 in
theorem rbegin_rn (h : HS) (hk : h.ok) (ln : Nat) (hl : ln < 4294967296) (hw : h.wait = false) (ha : asksS h.c ln = 0) (w : World) : Calls Tryd.prog 34 #[.agg h.cells.toArray, .int .u32 ln] w fun e w' => e = .returned (.tuple #[.agg (({ h with wait := false } : HS)).cells.toArray, .bool true]) ∧ Below w.heap.size w w' := by
  have key : ∀ (v : Nat) (_ : v < 4294967296) (i : Nat) (_ : i < 32) (w : World), Calls Tryd.prog 46 #[.int .u32 v, .int .i64 i] w fun e w' => e = .returned (.int .i64 ((v.testBit i).toNat : Nat)) ∧ w' = w :=
    fun v hv i hi w => (bit_any v hv i w).mono fun e w' h => ⟨by rw [h.1, bit_val v hv i hi], h.2.symm⟩
  have L3 : ∀ w : World, Calls Tryd.prog 46 #[.int .u32 ln, .int .i64 3] w fun e w' => e = .returned (.int .i64 ((ln.testBit 3).toNat : Nat)) ∧ w' = w := fun w => key ln hl 3 (by omega) w
  have L7 : ∀ w : World, Calls Tryd.prog 46 #[.int .u32 ln, .int .i64 7] w fun e w' => e = .returned (.int .i64 ((ln.testBit 7).toNat : Nat)) ∧ w' = w := fun w => key ln hl 7 (by omega) w
  have L11 : ∀ w : World, Calls Tryd.prog 46 #[.int .u32 ln, .int .i64 11] w fun e w' => e = .returned (.int .i64 ((ln.testBit 11).toNat : Nat)) ∧ w' = w := fun w => key ln hl 11 (by omega) w
  have E3 : ∀ w : World, Calls Tryd.prog 46 #[.int .u32 h.c.enable, .int .i64 3] w fun e w' => e = .returned (.int .i64 ((h.c.enable.testBit 3).toNat : Nat)) ∧ w' = w := fun w => key h.c.enable hk.c.enable 3 (by omega) w
  have E7 : ∀ w : World, Calls Tryd.prog 46 #[.int .u32 h.c.enable, .int .i64 7] w fun e w' => e = .returned (.int .i64 ((h.c.enable.testBit 7).toNat : Nat)) ∧ w' = w := fun w => key h.c.enable hk.c.enable 7 (by omega) w
  have E11 : ∀ w : World, Calls Tryd.prog 46 #[.int .u32 h.c.enable, .int .i64 11] w fun e w' => e = .returned (.int .i64 ((h.c.enable.testBit 11).toNat : Nat)) ∧ w' = w := fun w => key h.c.enable hk.c.enable 11 (by omega) w
  clear key
  obtain ⟨y3, hy3⟩ : ∃ y, (ln.testBit 3 && h.c.enable.testBit 3) = y := ⟨_, rfl⟩
  obtain ⟨y7, hy7⟩ : ∃ y, (ln.testBit 7 && h.c.enable.testBit 7) = y := ⟨_, rfl⟩
  obtain ⟨y11, hy11⟩ : ∃ y, (ln.testBit 11 && h.c.enable.testBit 11) = y := ⟨_, rfl⟩
  generalize ln.testBit 3 = l3 at *
  generalize h.c.enable.testBit 3 = e3 at *
  generalize ln.testBit 7 = l7 at *
  generalize h.c.enable.testBit 7 = e7 at *
  generalize ln.testBit 11 = l11 at *
  generalize h.c.enable.testBit 11 = e11 at *
  have HL3 := Lib.hid L3
  have HE3 := Lib.hid E3
  have B3 := Lib.hid hy3
  have HL7 := Lib.hid L7
  have HE7 := Lib.hid E7
  have B7 := Lib.hid hy7
  have HL11 := Lib.hid L11
  have HE11 := Lib.hid E11
  have B11 := Lib.hid hy11
  clear L3 L7 L11 E3 E7 E11 hy3 hy7 hy11
  have AK := Lib.hid (fun w => rasks_any h.c hk.c ln hl w)
  have hal := asksS_lt h.c ln
  obtain ⟨g, hg⟩ : ∃ g, g = ({ h with wait := false } : HS) := ⟨_, rfl⟩
  have hgk : g.ok := by rw [hg]; exact ⟨hk.pc, hk.x, hk.c⟩
  rw [← hg]
  rw [ha] at AK
  have HG := Lib.hid hg
  clear hgk ha hg
  have hlen := HS.len g
  have hsz := hs_size g
  have hone := hs_one g
  obtain ⟨zs, hzs⟩ : ∃ zs, zs = (g).cells := ⟨_, rfl⟩
  have HZS := Lib.hid hzs
  rw [← hzs] at hlen hsz hone ⊢
  have HL := Lib.hid hlen
  have HZ := Lib.hid hsz
  have HO := Lib.hid hone
  clear hlen hsz hone hzs
  obtain ⟨cs, hcs⟩ : ∃ cs, cs = h.cells.toArray := ⟨_, rfl⟩
  have HC := Lib.hid hcs
  rw [← hcs]
  clear hcs
  have hcz : cs.size = 42 := by rw [HC.out]; exact hs_size h
  have HCS := Lib.hid hcz
  clear hcz hk
  go_enter Tryd.func34, Tryd.ntmps34
  go_upto_region 1 with (fail)
  generalize hW : World.alloc (World.alloc w _) _ = W
  have r0 : W.heap[w.heap.size]? = some (.cells cs 65 (0, 0)) := by rw [← hW]; exact heap_alloc2_old w _ _
  have r1 : W.heap[w.heap.size + 1]? = some (.cells Z42 65 (0, 0)) := by rw [← hW]; exact heap_alloc2_new w _ _
  have bw : Below w.heap.size w W := by rw [← hW]; exact ((Below.refl _ w).alloc (Nat.le_refl _) _).alloc (by simp) _
  clear hW
  have QR0 := Lib.hid r0
  have QR1 := Lib.hid r1
  have QBW := Lib.hid bw
  clear r0 r1 bw
  go_upto_region 3 with (fail)
  have R0 := Lib.hid (row_alloc QR0.out (.cells #[.int .i64 3, .int .i64 7, .int .i64 11] 3))
  have R1 := Lib.hid (row_alloc QR1.out (.cells #[.int .i64 3, .int .i64 7, .int .i64 11] 3))
  have BW := Lib.hid (QBW.out.alloc QBW.out.size (.cells #[.int .i64 3, .int .i64 7, .int .i64 11] 3))
  have nb := heap_alloc_new W (.cells #[.int .i64 3, .int .i64 7, .int .i64 11] 3)
  generalize W.alloc (.cells #[.int .i64 3, .int .i64 7, .int .i64 11] 3) = W3 at *
  have s0 : W3.cell? ⟨W.heap.size, 0, none⟩ = some (.int .i64 3) := cell_of_row _ _ _ _ _ _ nb
  have s1 : W3.cell? ⟨W.heap.size, 1, none⟩ = some (.int .i64 7) := cell_of_row _ _ _ _ _ _ nb
  have s2 : W3.cell? ⟨W.heap.size, 2, none⟩ = some (.int .i64 11) := cell_of_row _ _ _ _ _ _ nb
  have H0 := HAt.of_row (h := h) (r := []) (by rw [List.append_nil, ← HC.out]; exact R0.out)
  have c35 : W3.cell? ⟨w.heap.size, 35, none⟩ = some (.int .u32 h.c.enable) := H0.1 35 (by decide)
  have HH := Lib.hid H0
  clear H0 nb QR0 QR1 QBW
  go_upto_region 4 with (fail)
  go_loopw [6, 8] (fun a i wr => ∃ k m : Nat, k ≤ 3 ∧ i = .int .i64 k ∧ a = .bool (orA y3 y7 y11 k) ∧ wr = W3.drewN m) (fun _ i _ => 3 - (intOf i).toNat)
  case atStart => exact ⟨0, 0, by omega, rfl, rfl, rfl⟩
  case round =>
    obtain ⟨k, m, hk, rfl, rfl, rfl⟩ := hrel
    have hk4 : k = 0 ∨ k = 1 ∨ k = 2 ∨ k = 3 := by omega
    rcases hk4 with rfl | rfl | rfl | rfl
    · cases l3 <;> cases e3
      all_goals
        simp only [orA, Bool.or_true, Bool.true_or, Bool.or_false, Bool.false_or]
        go_wp2
        go_quiet ((first | (go_at_call 46; with_reducible exact quiet_add_same (HL3.out _)) | (go_at_call 46; with_reducible exact quiet_add_same (HE3.out _)) | (go_at_call 46; with_reducible exact quiet_add_same (HL7.out _)) | (go_at_call 46; with_reducible exact quiet_add_same (HE7.out _)) | (go_at_call 46; with_reducible exact quiet_add_same (HL11.out _)) | (go_at_call 46; with_reducible exact quiet_add_same (HE11.out _))))
        go_wp2
        go_roundw
        case rel => exact ⟨1, _, by omega, rfl, by (try rw [← B3.out]); rfl, rfl⟩
        case measure => simp [intOf]
    · cases y3 <;> cases l7 <;> cases e7
      all_goals
        simp only [orA, Bool.or_true, Bool.true_or, Bool.or_false, Bool.false_or]
        go_wp2
        go_quiet ((first | (go_at_call 46; with_reducible exact quiet_add_same (HL3.out _)) | (go_at_call 46; with_reducible exact quiet_add_same (HE3.out _)) | (go_at_call 46; with_reducible exact quiet_add_same (HL7.out _)) | (go_at_call 46; with_reducible exact quiet_add_same (HE7.out _)) | (go_at_call 46; with_reducible exact quiet_add_same (HL11.out _)) | (go_at_call 46; with_reducible exact quiet_add_same (HE11.out _))))
        go_wp2
        go_roundw
        case rel => exact ⟨2, _, by omega, rfl, by (try rw [← B7.out]); rfl, rfl⟩
        case measure => simp [intOf]
    · cases y3 <;> cases y7 <;> cases l11 <;> cases e11
      all_goals
        simp only [orA, Bool.or_true, Bool.true_or, Bool.or_false, Bool.false_or]
        go_wp2
        go_quiet ((first | (go_at_call 46; with_reducible exact quiet_add_same (HL3.out _)) | (go_at_call 46; with_reducible exact quiet_add_same (HE3.out _)) | (go_at_call 46; with_reducible exact quiet_add_same (HL7.out _)) | (go_at_call 46; with_reducible exact quiet_add_same (HE7.out _)) | (go_at_call 46; with_reducible exact quiet_add_same (HL11.out _)) | (go_at_call 46; with_reducible exact quiet_add_same (HE11.out _))))
        go_wp2
        go_roundw
        case rel => exact ⟨3, _, by omega, rfl, by (try rw [← B11.out]); rfl, rfl⟩
        case measure => simp [intOf]
    · obtain ⟨x, hxx⟩ : ∃ x, x = orA y3 y7 y11 3 := ⟨_, rfl⟩
      rw [← hxx]
      clear hxx s0 s1 s2 c35
      have HH4 := Lib.hid (HH.out.drew m)
      have R04 : Hid ((W3.drewN m).heap[w.heap.size]? = some (.cells cs 65 (0, 0))) := Lib.hid R0.out
      have R14 : Hid ((W3.drewN m).heap[w.heap.size + 1]? = some (.cells Z42 65 (0, 0))) := Lib.hid R1.out
      have B4 := Lib.hid (belowDK BW.out m)
      generalize W3.drewN m = W4 at *
      have c33 : W4.cell? ⟨w.heap.size, 33, none⟩ = some (.bool false) := by rw [← hw]; exact HH4.out.1 33 (by decide)
      have cf := HH4.out.fz
      have c34 : W4.cell? ⟨w.heap.size, 34, none⟩ = some (.int .u32 h.c.status) := HH4.out.1 34 (by decide)
      have c35 : W4.cell? ⟨w.heap.size, 35, none⟩ = some (.int .u32 h.c.enable) := HH4.out.1 35 (by decide)
      have c36 : W4.cell? ⟨w.heap.size, 36, none⟩ = some (.int .u32 h.c.vector) := HH4.out.1 36 (by decide)
      have c37 : W4.cell? ⟨w.heap.size, 37, none⟩ = some (.int .u32 h.c.scratch) := HH4.out.1 37 (by decide)
      have c38 : W4.cell? ⟨w.heap.size, 38, none⟩ = some (.int .u32 h.c.epc) := HH4.out.1 38 (by decide)
      have c39 : W4.cell? ⟨w.heap.size, 39, none⟩ = some (.int .u32 h.c.cause) := HH4.out.1 39 (by decide)
      have c40 : W4.cell? ⟨w.heap.size, 40, none⟩ = some (.int .u32 h.c.value) := HH4.out.1 40 (by decide)
      have c41 : W4.cell? ⟨w.heap.size, 41, none⟩ = some (.int .u64 h.c.count) := HH4.out.1 41 (by decide)
      have H1 := Lib.hid (HH4.out.wait0)
      rw [← HG.out] at H1
      have RX : Hid ((W4.setCell ⟨w.heap.size, 33, none⟩ (.bool false)).heap[w.heap.size]? = some (.cells (cs.setIfInBounds 33 (.bool false)) 65 (0, 0))) := Lib.hid (row_setOwnK R04.out _)
      have RY : Hid ((W4.setCell ⟨w.heap.size, 33, none⟩ (.bool false)).heap[w.heap.size + 1]? = some (.cells Z42 65 (0, 0))) := Lib.hid (row_setK R14.out (by omega))
      have BZ := Lib.hid (B4.out.setCell (p := ⟨w.heap.size, 33, none⟩) (Nat.le_refl _) (.bool false))
      unfold St.v St.cells at AK
      generalize h.c.status = u0 at *
      generalize h.c.enable = u1 at *
      generalize h.c.vector = u2 at *
      generalize h.c.scratch = u3 at *
      generalize h.c.epc = u4 at *
      generalize h.c.cause = u5 at *
      generalize h.c.value = u6 at *
      generalize h.c.count = u7 at *
      go_upto_region 13 with (go_at_call 61; refine (AK.out _).mono ?_; rintro e w1 ⟨rfl, hb1⟩; have HH1 := Lib.hid (H1.out.below hb1); have RX1 := Lib.hid ((hb1.block _ (heap_lt RX.out)).trans RX.out); have RR1 := Lib.hid ((hb1.block _ (heap_lt RY.out)).trans RY.out); have BB1 := Lib.hid (BZ.out.trans (hb1.mono BZ.out.size)); clear hb1 c33 c34 c35 c36 c37 c38 c39 c40 c41 cf)
      have hrg := HH1.out.range
      rw [← HZS.out] at hrg
      refine wp_region_lit ?_
      refine wpList_load_mid rfl 65 _ rfl w.heap.size 0 rfl zs _ hrg Tryd.underlying65 rfl (by rw [HL.out]; kernel_rfl) ?_
      try simp only [Act.put, List.setIfInBounds_toArray, List.set_cons_zero, List.set_cons_succ]
      refine Go.wpList_store_rowTo rfl 65 _ _ rfl rfl (w.heap.size + 1) zs.toArray rfl rfl _ _ RR1.out (by rw [HZ.out]; kernel_rfl) (by rw [HZ.out]; rfl) HO.out ?_
      try simp only [Act.put, List.setIfInBounds_toArray, List.set_cons_zero, List.set_cons_succ]
      have F1 := Lib.hid (setRow_heap _ _ _ (zs.toArray) _ _ RR1.out)
      have FB := Lib.hid (below_setRow BB1.out (by omega : w.heap.size ≤ w.heap.size + 1) (zs.toArray))
      clear hrg
      go_wp2
      refine bodyPost_ret (results_cell_tmp (p := 4) (q := 5) (t := 65) (by kernel_rfl) _ _ ⟨w.heap.size + 1, 0, none⟩ _ (.bool true) rfl rfl (run_loadVar_row _ _ _ _ _ _ _ F1.out Tryd.underlying65 rfl (by rw [HZ.out]; kernel_rfl))) rfl ⟨rfl, FB.out⟩

set_option maxHeartbeats 8000000 in
theorem rbegin_rt (h : HS) (hk : h.ok) (ln : Nat) (hl : ln < 4294967296) (hw : h.wait = false) (ha : ¬ asksS h.c ln = 0) (w : World) : Calls Tryd.prog 34 #[.agg h.cells.toArray, .int .u32 ln] w fun e w' => e = .returned (.tuple #[.agg (trapH { h with wait := false } (asksS h.c ln) 0).cells.toArray, .bool true]) ∧ Below w.heap.size w w' := by
  have key : ∀ (v : Nat) (_ : v < 4294967296) (i : Nat) (_ : i < 32) (w : World), Calls Tryd.prog 46 #[.int .u32 v, .int .i64 i] w fun e w' => e = .returned (.int .i64 ((v.testBit i).toNat : Nat)) ∧ w' = w :=
    fun v hv i hi w => (bit_any v hv i w).mono fun e w' h => ⟨by rw [h.1, bit_val v hv i hi], h.2.symm⟩
  have L3 : ∀ w : World, Calls Tryd.prog 46 #[.int .u32 ln, .int .i64 3] w fun e w' => e = .returned (.int .i64 ((ln.testBit 3).toNat : Nat)) ∧ w' = w := fun w => key ln hl 3 (by omega) w
  have L7 : ∀ w : World, Calls Tryd.prog 46 #[.int .u32 ln, .int .i64 7] w fun e w' => e = .returned (.int .i64 ((ln.testBit 7).toNat : Nat)) ∧ w' = w := fun w => key ln hl 7 (by omega) w
  have L11 : ∀ w : World, Calls Tryd.prog 46 #[.int .u32 ln, .int .i64 11] w fun e w' => e = .returned (.int .i64 ((ln.testBit 11).toNat : Nat)) ∧ w' = w := fun w => key ln hl 11 (by omega) w
  have E3 : ∀ w : World, Calls Tryd.prog 46 #[.int .u32 h.c.enable, .int .i64 3] w fun e w' => e = .returned (.int .i64 ((h.c.enable.testBit 3).toNat : Nat)) ∧ w' = w := fun w => key h.c.enable hk.c.enable 3 (by omega) w
  have E7 : ∀ w : World, Calls Tryd.prog 46 #[.int .u32 h.c.enable, .int .i64 7] w fun e w' => e = .returned (.int .i64 ((h.c.enable.testBit 7).toNat : Nat)) ∧ w' = w := fun w => key h.c.enable hk.c.enable 7 (by omega) w
  have E11 : ∀ w : World, Calls Tryd.prog 46 #[.int .u32 h.c.enable, .int .i64 11] w fun e w' => e = .returned (.int .i64 ((h.c.enable.testBit 11).toNat : Nat)) ∧ w' = w := fun w => key h.c.enable hk.c.enable 11 (by omega) w
  clear key
  obtain ⟨y3, hy3⟩ : ∃ y, (ln.testBit 3 && h.c.enable.testBit 3) = y := ⟨_, rfl⟩
  obtain ⟨y7, hy7⟩ : ∃ y, (ln.testBit 7 && h.c.enable.testBit 7) = y := ⟨_, rfl⟩
  obtain ⟨y11, hy11⟩ : ∃ y, (ln.testBit 11 && h.c.enable.testBit 11) = y := ⟨_, rfl⟩
  generalize ln.testBit 3 = l3 at *
  generalize h.c.enable.testBit 3 = e3 at *
  generalize ln.testBit 7 = l7 at *
  generalize h.c.enable.testBit 7 = e7 at *
  generalize ln.testBit 11 = l11 at *
  generalize h.c.enable.testBit 11 = e11 at *
  have HL3 := Lib.hid L3
  have HE3 := Lib.hid E3
  have B3 := Lib.hid hy3
  have HL7 := Lib.hid L7
  have HE7 := Lib.hid E7
  have B7 := Lib.hid hy7
  have HL11 := Lib.hid L11
  have HE11 := Lib.hid E11
  have B11 := Lib.hid hy11
  clear L3 L7 L11 E3 E7 E11 hy3 hy7 hy11
  have AK := Lib.hid (fun w => rasks_any h.c hk.c ln hl w)
  have hal := asksS_lt h.c ln
  obtain ⟨g, hg⟩ : ∃ g, g = ({ h with wait := false } : HS) := ⟨_, rfl⟩
  have hgk : g.ok := by rw [hg]; exact ⟨hk.pc, hk.x, hk.c⟩
  have TR := Lib.hid (fun w => rtrap8_any g hgk (asksS h.c ln) 0 hal (by decide) w)
  rw [← hg]
  generalize asksS h.c ln = ca at *
  have ha1 : ((ca : Int) != 0) = true := by simpa using ha
  generalize trapH g ca 0 = z at TR ⊢
  have HG := Lib.hid hg
  clear hgk ha hg
  have hlen := HS.len z
  have hsz := hs_size z
  have hone := hs_one z
  obtain ⟨zs, hzs⟩ : ∃ zs, zs = (z).cells := ⟨_, rfl⟩
  have HZS := Lib.hid hzs
  rw [← hzs] at hlen hsz hone ⊢
  rw [← hzs] at TR
  have HL := Lib.hid hlen
  have HZ := Lib.hid hsz
  have HO := Lib.hid hone
  clear hlen hsz hone hzs
  have hlg := HS.len g
  obtain ⟨gs, hgs⟩ : ∃ gs, gs = g.cells := ⟨_, rfl⟩
  have HGS := Lib.hid hgs
  rw [← hgs] at TR hlg
  have HLG := Lib.hid hlg
  clear hgs hlg
  obtain ⟨cs, hcs⟩ : ∃ cs, cs = h.cells.toArray := ⟨_, rfl⟩
  have HC := Lib.hid hcs
  rw [← hcs]
  clear hcs
  have hcz : cs.size = 42 := by rw [HC.out]; exact hs_size h
  have HCS := Lib.hid hcz
  clear hcz hk
  go_enter Tryd.func34, Tryd.ntmps34
  go_upto_region 1 with (fail)
  generalize hW : World.alloc (World.alloc w _) _ = W
  have r0 : W.heap[w.heap.size]? = some (.cells cs 65 (0, 0)) := by rw [← hW]; exact heap_alloc2_old w _ _
  have r1 : W.heap[w.heap.size + 1]? = some (.cells Z42 65 (0, 0)) := by rw [← hW]; exact heap_alloc2_new w _ _
  have bw : Below w.heap.size w W := by rw [← hW]; exact ((Below.refl _ w).alloc (Nat.le_refl _) _).alloc (by simp) _
  clear hW
  have QR0 := Lib.hid r0
  have QR1 := Lib.hid r1
  have QBW := Lib.hid bw
  clear r0 r1 bw
  go_upto_region 3 with (fail)
  have R0 := Lib.hid (row_alloc QR0.out (.cells #[.int .i64 3, .int .i64 7, .int .i64 11] 3))
  have R1 := Lib.hid (row_alloc QR1.out (.cells #[.int .i64 3, .int .i64 7, .int .i64 11] 3))
  have BW := Lib.hid (QBW.out.alloc QBW.out.size (.cells #[.int .i64 3, .int .i64 7, .int .i64 11] 3))
  have nb := heap_alloc_new W (.cells #[.int .i64 3, .int .i64 7, .int .i64 11] 3)
  generalize W.alloc (.cells #[.int .i64 3, .int .i64 7, .int .i64 11] 3) = W3 at *
  have s0 : W3.cell? ⟨W.heap.size, 0, none⟩ = some (.int .i64 3) := cell_of_row _ _ _ _ _ _ nb
  have s1 : W3.cell? ⟨W.heap.size, 1, none⟩ = some (.int .i64 7) := cell_of_row _ _ _ _ _ _ nb
  have s2 : W3.cell? ⟨W.heap.size, 2, none⟩ = some (.int .i64 11) := cell_of_row _ _ _ _ _ _ nb
  have H0 := HAt.of_row (h := h) (r := []) (by rw [List.append_nil, ← HC.out]; exact R0.out)
  have c35 : W3.cell? ⟨w.heap.size, 35, none⟩ = some (.int .u32 h.c.enable) := H0.1 35 (by decide)
  have HH := Lib.hid H0
  clear H0 nb QR0 QR1 QBW
  go_upto_region 4 with (fail)
  go_loopw [6, 8] (fun a i wr => ∃ k m : Nat, k ≤ 3 ∧ i = .int .i64 k ∧ a = .bool (orA y3 y7 y11 k) ∧ wr = W3.drewN m) (fun _ i _ => 3 - (intOf i).toNat)
  case atStart => exact ⟨0, 0, by omega, rfl, rfl, rfl⟩
  case round =>
    obtain ⟨k, m, hk, rfl, rfl, rfl⟩ := hrel
    have hk4 : k = 0 ∨ k = 1 ∨ k = 2 ∨ k = 3 := by omega
    rcases hk4 with rfl | rfl | rfl | rfl
    · cases l3 <;> cases e3
      all_goals
        simp only [orA, Bool.or_true, Bool.true_or, Bool.or_false, Bool.false_or]
        go_wp2
        go_quiet ((first | (go_at_call 46; with_reducible exact quiet_add_same (HL3.out _)) | (go_at_call 46; with_reducible exact quiet_add_same (HE3.out _)) | (go_at_call 46; with_reducible exact quiet_add_same (HL7.out _)) | (go_at_call 46; with_reducible exact quiet_add_same (HE7.out _)) | (go_at_call 46; with_reducible exact quiet_add_same (HL11.out _)) | (go_at_call 46; with_reducible exact quiet_add_same (HE11.out _))))
        go_wp2
        go_roundw
        case rel => exact ⟨1, _, by omega, rfl, by (try rw [← B3.out]); rfl, rfl⟩
        case measure => simp [intOf]
    · cases y3 <;> cases l7 <;> cases e7
      all_goals
        simp only [orA, Bool.or_true, Bool.true_or, Bool.or_false, Bool.false_or]
        go_wp2
        go_quiet ((first | (go_at_call 46; with_reducible exact quiet_add_same (HL3.out _)) | (go_at_call 46; with_reducible exact quiet_add_same (HE3.out _)) | (go_at_call 46; with_reducible exact quiet_add_same (HL7.out _)) | (go_at_call 46; with_reducible exact quiet_add_same (HE7.out _)) | (go_at_call 46; with_reducible exact quiet_add_same (HL11.out _)) | (go_at_call 46; with_reducible exact quiet_add_same (HE11.out _))))
        go_wp2
        go_roundw
        case rel => exact ⟨2, _, by omega, rfl, by (try rw [← B7.out]); rfl, rfl⟩
        case measure => simp [intOf]
    · cases y3 <;> cases y7 <;> cases l11 <;> cases e11
      all_goals
        simp only [orA, Bool.or_true, Bool.true_or, Bool.or_false, Bool.false_or]
        go_wp2
        go_quiet ((first | (go_at_call 46; with_reducible exact quiet_add_same (HL3.out _)) | (go_at_call 46; with_reducible exact quiet_add_same (HE3.out _)) | (go_at_call 46; with_reducible exact quiet_add_same (HL7.out _)) | (go_at_call 46; with_reducible exact quiet_add_same (HE7.out _)) | (go_at_call 46; with_reducible exact quiet_add_same (HL11.out _)) | (go_at_call 46; with_reducible exact quiet_add_same (HE11.out _))))
        go_wp2
        go_roundw
        case rel => exact ⟨3, _, by omega, rfl, by (try rw [← B11.out]); rfl, rfl⟩
        case measure => simp [intOf]
    · obtain ⟨x, hxx⟩ : ∃ x, x = orA y3 y7 y11 3 := ⟨_, rfl⟩
      rw [← hxx]
      clear hxx s0 s1 s2 c35
      have HH4 := Lib.hid (HH.out.drew m)
      have R04 : Hid ((W3.drewN m).heap[w.heap.size]? = some (.cells cs 65 (0, 0))) := Lib.hid R0.out
      have R14 : Hid ((W3.drewN m).heap[w.heap.size + 1]? = some (.cells Z42 65 (0, 0))) := Lib.hid R1.out
      have B4 := Lib.hid (belowDK BW.out m)
      generalize W3.drewN m = W4 at *
      have c33 : W4.cell? ⟨w.heap.size, 33, none⟩ = some (.bool false) := by rw [← hw]; exact HH4.out.1 33 (by decide)
      have cf := HH4.out.fz
      have c34 : W4.cell? ⟨w.heap.size, 34, none⟩ = some (.int .u32 h.c.status) := HH4.out.1 34 (by decide)
      have c35 : W4.cell? ⟨w.heap.size, 35, none⟩ = some (.int .u32 h.c.enable) := HH4.out.1 35 (by decide)
      have c36 : W4.cell? ⟨w.heap.size, 36, none⟩ = some (.int .u32 h.c.vector) := HH4.out.1 36 (by decide)
      have c37 : W4.cell? ⟨w.heap.size, 37, none⟩ = some (.int .u32 h.c.scratch) := HH4.out.1 37 (by decide)
      have c38 : W4.cell? ⟨w.heap.size, 38, none⟩ = some (.int .u32 h.c.epc) := HH4.out.1 38 (by decide)
      have c39 : W4.cell? ⟨w.heap.size, 39, none⟩ = some (.int .u32 h.c.cause) := HH4.out.1 39 (by decide)
      have c40 : W4.cell? ⟨w.heap.size, 40, none⟩ = some (.int .u32 h.c.value) := HH4.out.1 40 (by decide)
      have c41 : W4.cell? ⟨w.heap.size, 41, none⟩ = some (.int .u64 h.c.count) := HH4.out.1 41 (by decide)
      have H1 := Lib.hid (HH4.out.wait0)
      rw [← HG.out] at H1
      have RX : Hid ((W4.setCell ⟨w.heap.size, 33, none⟩ (.bool false)).heap[w.heap.size]? = some (.cells (cs.setIfInBounds 33 (.bool false)) 65 (0, 0))) := Lib.hid (row_setOwnK R04.out _)
      have RY : Hid ((W4.setCell ⟨w.heap.size, 33, none⟩ (.bool false)).heap[w.heap.size + 1]? = some (.cells Z42 65 (0, 0))) := Lib.hid (row_setK R14.out (by omega))
      have BZ := Lib.hid (B4.out.setCell (p := ⟨w.heap.size, 33, none⟩) (Nat.le_refl _) (.bool false))
      unfold St.v St.cells at AK
      generalize h.c.status = u0 at *
      generalize h.c.enable = u1 at *
      generalize h.c.vector = u2 at *
      generalize h.c.scratch = u3 at *
      generalize h.c.epc = u4 at *
      generalize h.c.cause = u5 at *
      generalize h.c.value = u6 at *
      generalize h.c.count = u7 at *
      go_upto_region 12 with (go_at_call 61; refine (AK.out _).mono ?_; rintro e w1 ⟨rfl, hb1⟩; have HH1 := Lib.hid (H1.out.below hb1); have RX1 := Lib.hid ((hb1.block _ (heap_lt RX.out)).trans RX.out); have RR1 := Lib.hid ((hb1.block _ (heap_lt RY.out)).trans RY.out); have BB1 := Lib.hid (BZ.out.trans (hb1.mono BZ.out.size)); clear hb1 c33 c34 c35 c36 c37 c38 c39 c40 c41 cf)
      have hrg := HH1.out.range
      rw [← HGS.out] at hrg
      refine wp_region_lit ?_
      refine wpList_load_mid rfl 65 _ rfl w.heap.size 0 rfl gs _ hrg Tryd.underlying65 rfl (by rw [HLG.out]; kernel_rfl) ?_
      try simp only [Act.put, List.setIfInBounds_toArray, List.set_cons_zero, List.set_cons_succ]
      refine Go.Great.wpList_runTo rfl (some 51) rfl (.int .u32 (ca : Nat)) w1 (by kernel_rfl) ?_
      try simp only [Act.put, List.setIfInBounds_toArray, List.set_cons_zero, List.set_cons_succ]
      refine wpList_callR rfl (some 52) rfl 62 #[.agg gs.toArray, .int .u32 (ca : Nat), .int .u32 0] (by kernel_rfl) (.agg zs.toArray) (Below w1.heap.size w1) (TR.out _) ?_
      intro w2 hb2
      try simp only [Act.put, List.setIfInBounds_toArray, List.set_cons_zero, List.set_cons_succ]
      have rx2 := (hb2.block _ (heap_lt RX1.out)).trans RX1.out
      have ry2 := (hb2.block _ (heap_lt RR1.out)).trans RR1.out
      have bz2 := BB1.out.trans (hb2.mono BB1.out.size)
      refine Go.wpList_store_rowTo rfl 65 _ _ rfl rfl w.heap.size zs.toArray rfl rfl _ _ rx2 (by rw [HZ.out]; kernel_rfl) (by rw [Array.size_setIfInBounds, HCS.out, HZ.out]) HO.out ?_
      try simp only [Act.put, List.setIfInBounds_toArray, List.set_cons_zero, List.set_cons_succ]
      have rx3 := setRow_heap _ _ _ zs.toArray _ _ rx2
      have ry3 := setRow_row (g := w.heap.size) (cs := zs.toArray) ry2 (by omega)
      have bz3 := below_setRow bz2 (Nat.le_refl w.heap.size) zs.toArray
      generalize w2.setRow w.heap.size zs.toArray = w3 at rx3 ry3 bz3 ⊢
      have RXF := Lib.hid rx3
      have RYF := Lib.hid ry3
      have BF := Lib.hid bz3
      clear rx2 ry2 bz2 rx3 ry3 bz3 hrg hb2
      go_upto_region 13 with (fail)
      refine wp_region_lit ?_
      refine wpList_load_row rfl 65 _ rfl w.heap.size rfl _ zs.toArray (0, 0) _ RXF.out Tryd.underlying65 rfl (by rw [HZ.out]; kernel_rfl) ?_
      try simp only [Act.put, List.setIfInBounds_toArray, List.set_cons_zero, List.set_cons_succ]
      refine Go.wpList_store_rowTo rfl 65 _ _ rfl rfl (w.heap.size + 1) zs.toArray rfl rfl _ _ RYF.out (by rw [HZ.out]; kernel_rfl) (by rw [HZ.out]; rfl) HO.out ?_
      try simp only [Act.put, List.setIfInBounds_toArray, List.set_cons_zero, List.set_cons_succ]
      have F1 := Lib.hid (setRow_heap _ _ _ (zs.toArray) _ _ RYF.out)
      have FB := Lib.hid (below_setRow BF.out (by omega : w.heap.size ≤ w.heap.size + 1) (zs.toArray))
      go_wp2
      refine bodyPost_ret (results_cell_tmp (p := 4) (q := 5) (t := 65) (by kernel_rfl) _ _ ⟨w.heap.size + 1, 0, none⟩ _ (.bool true) rfl rfl (run_loadVar_row _ _ _ _ _ _ _ F1.out Tryd.underlying65 rfl (by rw [HZ.out]; kernel_rfl))) rfl ⟨rfl, FB.out⟩

end Go.Proofs.YtoincdfijeipjaaDoor
