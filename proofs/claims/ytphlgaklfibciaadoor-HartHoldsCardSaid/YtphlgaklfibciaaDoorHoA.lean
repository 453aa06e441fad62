import Derived.Test.YtphlgaklfibciaaDoorHoZ
import Derived.Below
import Derived.Deep.Draws
import Derived.Deep.AppendLies
import Derived.Maps.AppendAt
import Derived.OwnWalk
import Derived.Laws.BytesArg
import Derived.Laws.MakeOwn
import Derived.Laws.OwnMore
import Derived.Deep.OwnRows
import Derived.Tactics
import Derived.Lib.ConvBytes
import Derived.Laws.Slices
import Derived.WalkKit
import Derived.KernelRfl
import Derived.RowKit3
import Derived.Deep.LoopGhost
import Derived.Deep.QuietTactic
import Derived.BigQuiet
import Derived.WideLaws
import Derived.Deep.DeepCutAuto
import Derived.Deep.CutBlock
import Derived.Deep.RegionHeld3
import Derived.Laws.Rows
import Derived.Lib.AppendStr
import Derived.ArgAppend
import Derived.Laws.IdiomCopy
import Derived.OrdersHeld
import Derived.Laws.BitsLemmas
import Derived.RowKit
import Derived.Lib.Hide
import Derived.Laws.BitsAllLaws
import Derived.WalkLawsBesides
import Derived.WalkSpells
import Derived.LaidEql
namespace Go.Proofs.YtphlgaklfibciaaDoor
open Go.RowKit
set_option maxRecDepth 100000
set_option linter.unusedVariables false
set_option linter.unusedSimpArgs false

set_option maxHeartbeats 8000000 in
theorem dacc_load_even_10 (h : HS) (hk : h.ok) (b n at_ : Nat) {op rd r1 r2 : Nat} {imm cs : Int} {ww ln : Nat} (hop : op = 10 ∨ op = 11 ∨ op = 12 ∨ op = 13 ∨ op = 14) (hn : IntKind.u32.wrap imm = (n : Int)) (hr1 : r1 < 32) (hr2 : r2 < 32) (hat : at_ = (h.x r1 + n) % 4294967296) (ho : (at_ : Int) % accN op = 0) (w : World) (H : HAt w b h) (D : DI w b op rd r1 r2 imm cs ww ln false) : Calls Tryd.prog 57 #[.pointer (some ⟨b, 0, none⟩)] w fun e w' => e = .returned (.agg #[.int .i64 (accK op), .int .u32 at_, .int .i64 (accN op), .bool (accG op), .int .i64 (accR op rd), .int .u32 (accB op (h.x r2) : Nat)]) ∧ HAt w' b h ∧ DI w' b op rd r1 r2 imm cs ww ln true ∧ OnlyD b w w' := by
  have hal : at_ < 4294967296 := by rw [hat]; exact Nat.mod_lt _ (by decide)
  obtain ⟨g0, g1, g3⟩ := acc_and at_ hal
  have A := Lib.hid (fun w H D => (da_any h b (op := op) (rd := rd) (r1 := r1) (r2 := r2) (imm := imm) (cs := cs) (ww := ww) (ln := ln) (gone := false) hr1 w H D).below)
  have N0 := Lib.hid (fun w D => dn_any b n (op := op) (rd := rd) (r1 := r1) (r2 := r2) (imm := imm) (cs := cs) (ww := ww) (ln := ln) (gone := false) hn w D)
  have hx := hk.x r1 hr1
  have e1 : IntKind.u32.wrap ((h.x r1 : Int) + (n : Int)) = (at_ : Int) := by rw [Go.IntKind.wrap_u32, hat]; omega
  have hbl := H.2.2
  have S0 := Lib.hid (AccS.first H D).2
  have HH := Lib.hid H
  clear H D hk hn hat hx
  generalize h.x r1 = x at A e1
  have HG := Lib.hid (And.intro hal (And.intro g0 (And.intro g1 g3)))
  have HO := Lib.hid ho
  have HP := Lib.hid hop
  clear hal g0 g1 g3 ho hop
  go_enter Tryd.func57, Tryd.ntmps57
  go_upto_region 1 with (fail)
  go_cut [3] (fun x w' => ∃ N, x = .pointer (some ⟨N, 0, none⟩) ∧ w.heap.size < N ∧ AccS w b h op rd r1 r2 imm cs ww ln false w' ∧ w'.heap[N]? = some (.cells #[.int .i64 1, .int .u32 (at_ : Nat), .int .i64 0, .bool false, .int .i64 rd, .int .u32 0] 50 (0, 0)))
  case first =>
    refine wp_region_held_drew (S := AccS w b h op rd r1 r2 imm cs ww ln false) (by kernel_rfl) S0.out (fun hHeld => ?_)
    refine wpAnyH_take (i := 0) (v := .pointer (some ⟨b, 0, none⟩)) rfl (by kernel_rfl) (by kernel_rfl) (by kernel_rfl) (fun _ _ _ h => h) (Or.inl ⟨by rfl, ?_⟩) (by assumption) ?_
    · (intro w hSw; clear hSw; go_simp; try with_reducible rfl)
    try simp only [Act.put, List.getElem_toArray, List.getElem_cons_zero, List.getElem_cons_succ, List.setIfInBounds_toArray, List.set_cons_zero, List.set_cons_succ]
    refine wpAnyH_take (i := 2) (v := .pointer (some ⟨b, 0, none⟩)) rfl (by kernel_rfl) (by kernel_rfl) (by kernel_rfl) (fun _ _ _ h => h) (Or.inl ⟨by rfl, ?_⟩) (by assumption) ?_
    · (intro w hSw; clear hSw; go_simp; try with_reducible rfl)
    try simp only [Act.put, List.getElem_toArray, List.getElem_cons_zero, List.getElem_cons_succ, List.setIfInBounds_toArray, List.set_cons_zero, List.set_cons_succ]
    refine wpAnyH_take (i := 5) (v := .pointer (some ⟨b, 0, none⟩)) rfl (by kernel_rfl) (by kernel_rfl) (by kernel_rfl) (fun _ _ _ h => h) (Or.inl ⟨by rfl, ?_⟩) (by assumption) ?_
    · (intro w hSw; clear hSw; go_simp; try with_reducible rfl)
    try simp only [Act.put, List.getElem_toArray, List.getElem_cons_zero, List.getElem_cons_succ, List.setIfInBounds_toArray, List.set_cons_zero, List.set_cons_succ]
    refine wpAnyH_take (i := 6) (v := .pointer (some ⟨b, 0, none⟩)) rfl (by kernel_rfl) (by kernel_rfl) (by kernel_rfl) (fun _ _ _ h => h) (Or.inl ⟨by rfl, ?_⟩) (by assumption) ?_
    · (intro w hSw; clear hSw; go_simp; try with_reducible rfl)
    try simp only [Act.put, List.getElem_toArray, List.getElem_cons_zero, List.getElem_cons_succ, List.setIfInBounds_toArray, List.set_cons_zero, List.set_cons_succ]
    refine wpAnyH_take (i := 7) (v := .pointer (some ⟨b, 42, none⟩)) rfl (by kernel_rfl) (by kernel_rfl) (by kernel_rfl) (fun _ _ _ h => h) (Or.inl ⟨by rfl, ?_⟩) (by assumption) ?_
    · (intro w hSw; clear hSw; go_simp; try with_reducible rfl)
    try simp only [Act.put, List.getElem_toArray, List.getElem_cons_zero, List.getElem_cons_succ, List.setIfInBounds_toArray, List.set_cons_zero, List.set_cons_succ]
    refine wpAnyH_take (i := 8) (v := .pointer (some ⟨b, 43, none⟩)) rfl (by kernel_rfl) (by kernel_rfl) (by kernel_rfl) (fun _ _ _ h => h) (Or.inl ⟨by rfl, ?_⟩) (by assumption) ?_
    · (intro w hSw; clear hSw; go_simp; try with_reducible rfl)
    try simp only [Act.put, List.getElem_toArray, List.getElem_cons_zero, List.getElem_cons_succ, List.setIfInBounds_toArray, List.set_cons_zero, List.set_cons_succ]
    refine wpAnyH_take (i := 9) (v := .int .i64 rd) rfl (by kernel_rfl) (by kernel_rfl) (by kernel_rfl) (fun _ _ _ h => h) (Or.inl ⟨by rfl, ?_⟩) (by assumption) ?_
    · (intro w hSw; have q := hSw.d.rd; have qf := hSw.h.fz; clear hSw; go_simp; try with_reducible rfl)
    try simp only [Act.put, List.getElem_toArray, List.getElem_cons_zero, List.getElem_cons_succ, List.setIfInBounds_toArray, List.set_cons_zero, List.set_cons_succ]
    have hS0 := hHeld
    clear hHeld
    generalize World.drew _ = w0 at *
    refine wpAnyH_ready (rs := [1, 11]) (by kernel_rfl) (by simp) ?_
    refine AllReadyH.cons rfl (fun K0_1 hK0_1 => ?_) (AllReadyH.cons rfl (fun K0_11 hK0_11 => ?_) AllReadyH.nil)
    · go_simp
      go_at_call 58
      refine (A.out _ hS0.h hS0.d).mono ?_
      rintro e w1 ⟨rfl, hb1⟩
      refine hK0_1.out _ _ (hS0.keep1 hb1) (fun hS1 => ?_)
      try simp only [Act.put, List.getElem_toArray, List.getElem_cons_zero, List.getElem_cons_succ, List.setIfInBounds_toArray, List.set_cons_zero, List.set_cons_succ]
      clear hb1
      refine wpAnyH_ready (rs := [3, 11]) (by kernel_rfl) (by simp) ?_
      refine AllReadyH.cons rfl (fun K1_3 hK1_3 => ?_) (AllReadyH.cons rfl (fun K1_11 hK1_11 => ?_) AllReadyH.nil)
      · go_simp
        go_at_call 54
        refine (N0.out _ hS1.d).mono ?_
        rintro e w2 ⟨rfl, hw2⟩
        have hb2 : Below w1.heap.size w1 w2 := by rw [← hw2]; exact Below.refl _ _
        refine hK1_3.out _ _ (hS1.keep1 hb2) (fun hS2 => ?_)
        try simp only [Act.put, List.getElem_toArray, List.getElem_cons_zero, List.getElem_cons_succ, List.setIfInBounds_toArray, List.set_cons_zero, List.set_cons_succ]
        clear hb2 hw2
        refine wpAnyH_take (i := 4) (v := .int .u32 (at_ : Nat)) rfl (by kernel_rfl) (by kernel_rfl) (by kernel_rfl) (fun _ _ _ h => h) (Or.inl ⟨by rfl, ?_⟩) (by assumption) ?_
        · (intro w hSw; clear hSw; go_simp; try with_reducible rfl)
        try simp only [Act.put, List.getElem_toArray, List.getElem_cons_zero, List.getElem_cons_succ, List.setIfInBounds_toArray, List.set_cons_zero, List.set_cons_succ]
        refine wpAnyH_take (i := 10) (v := .agg #[.int .i64 1, .int .u32 (at_ : Nat), .int .i64 0, .bool false, .int .i64 rd, .int .u32 0]) rfl (by kernel_rfl) (by kernel_rfl) (by kernel_rfl) (fun _ _ _ h => h) (Or.inl ⟨by rfl, ?_⟩) (by assumption) ?_
        · (intro w hSw; clear hSw; go_simp; try with_reducible rfl)
        try simp only [Act.put, List.getElem_toArray, List.getElem_cons_zero, List.getElem_cons_succ, List.setIfInBounds_toArray, List.set_cons_zero, List.set_cons_succ]
        refine wpAnyH_ready (rs := [11]) (by kernel_rfl) (by simp) ?_
        refine AllReadyH.cons rfl (fun K2_11 hK2_11 => ?_) AllReadyH.nil
        · refine wp_runK2 (.pointer (some ⟨w2.heap.size, 0, none⟩)) (w2.alloc (.cells acc0 50)) (by kernel_rfl) ?_
          have y3 := heap_alloc_new w2 (.cells acc0 50)
          have bb3 : Below w2.heap.size w2 (w2.alloc (.cells acc0 50)) := (Below.refl _ _).alloc (Nat.le_refl _) _
          have nT : w.heap.size < w2.heap.size := heap_lt hS2.box
          refine hK2_11.out _ _ (hS2.keep1 bb3) (fun hS3 => ?_)
          try simp only [Act.put, List.getElem_toArray, List.getElem_cons_zero, List.getElem_cons_succ, List.setIfInBounds_toArray, List.set_cons_zero, List.set_cons_succ]
          generalize w2.alloc (.cells acc0 50) = w3 at *
          clear bb3
          obtain ⟨N, hN⟩ : ∃ N, N = w2.heap.size := ⟨_, rfl⟩
          have HN := Lib.hid hN
          rw [← hN] at y3 nT ⊢
          clear hN
          refine wpAnyH_ready (rs := [12]) (by kernel_rfl) (by simp) ?_
          refine AllReadyH.cons rfl (fun K12 hK12 => ?_) AllReadyH.nil
          refine wp_store_row 50 _ _ rfl N _ rfl rfl _ _ y3 (by kernel_rfl) rfl (by kernel_rfl) ?_
          refine hK12.out _ _ (hS3.setRow1 nT hbl _) (fun hSf => ?_)
          try simp only [Act.put, List.getElem_toArray, List.getElem_cons_zero, List.getElem_cons_succ, List.setIfInBounds_toArray, List.set_cons_zero, List.set_cons_succ]
          refine wpAnyH_done (by kernel_rfl) ?_ _
          go_wp2_with fail
          (try go_wp2_with fail)
          go_meet
          exact ⟨N, rfl, nT, hSf, setRow_heap _ _ _ _ _ _ y3⟩
      · refine wp_runK2 (.pointer (some ⟨w1.heap.size, 0, none⟩)) (w1.alloc (.cells acc0 50)) (by kernel_rfl) ?_
        have y2 := heap_alloc_new w1 (.cells acc0 50)
        have bb2 : Below w1.heap.size w1 (w1.alloc (.cells acc0 50)) := (Below.refl _ _).alloc (Nat.le_refl _) _
        have nT : w.heap.size < w1.heap.size := heap_lt hS1.box
        refine hK1_11.out _ _ (hS1.keep1 bb2) (fun hS2 => ?_)
        try simp only [Act.put, List.getElem_toArray, List.getElem_cons_zero, List.getElem_cons_succ, List.setIfInBounds_toArray, List.set_cons_zero, List.set_cons_succ]
        generalize w1.alloc (.cells acc0 50) = w2 at *
        clear bb2
        obtain ⟨N, hN⟩ : ∃ N, N = w1.heap.size := ⟨_, rfl⟩
        have HN := Lib.hid hN
        rw [← hN] at y2 nT ⊢
        clear hN
        refine wpAnyH_ready (rs := [3]) (by kernel_rfl) (by simp) ?_
        refine AllReadyH.cons rfl (fun K2_3 hK2_3 => ?_) AllReadyH.nil
        · go_simp
          go_at_call 54
          refine (N0.out _ hS2.d).mono ?_
          rintro e w3 ⟨rfl, hw3⟩
          have hb3 : Below w2.heap.size w2 w3 := by rw [← hw3]; exact Below.refl _ _
          refine hK2_3.out _ _ (hS2.keep1 hb3) (fun hS3 => ?_)
          try simp only [Act.put, List.getElem_toArray, List.getElem_cons_zero, List.getElem_cons_succ, List.setIfInBounds_toArray, List.set_cons_zero, List.set_cons_succ]
          have y3 := (hb3.block _ (heap_lt y2)).trans y2
          clear hb3 hw3
          refine wpAnyH_take (i := 4) (v := .int .u32 (at_ : Nat)) rfl (by kernel_rfl) (by kernel_rfl) (by kernel_rfl) (fun _ _ _ h => h) (Or.inl ⟨by rfl, ?_⟩) (by assumption) ?_
          · (intro w hSw; clear hSw; go_simp; try with_reducible rfl)
          try simp only [Act.put, List.getElem_toArray, List.getElem_cons_zero, List.getElem_cons_succ, List.setIfInBounds_toArray, List.set_cons_zero, List.set_cons_succ]
          refine wpAnyH_take (i := 10) (v := .agg #[.int .i64 1, .int .u32 (at_ : Nat), .int .i64 0, .bool false, .int .i64 rd, .int .u32 0]) rfl (by kernel_rfl) (by kernel_rfl) (by kernel_rfl) (fun _ _ _ h => h) (Or.inl ⟨by rfl, ?_⟩) (by assumption) ?_
          · (intro w hSw; clear hSw; go_simp; try with_reducible rfl)
          try simp only [Act.put, List.getElem_toArray, List.getElem_cons_zero, List.getElem_cons_succ, List.setIfInBounds_toArray, List.set_cons_zero, List.set_cons_succ]
          refine wpAnyH_ready (rs := [12]) (by kernel_rfl) (by simp) ?_
          refine AllReadyH.cons rfl (fun K12 hK12 => ?_) AllReadyH.nil
          refine wp_store_row 50 _ _ rfl N _ rfl rfl _ _ y3 (by kernel_rfl) rfl (by kernel_rfl) ?_
          refine hK12.out _ _ (hS3.setRow1 nT hbl _) (fun hSf => ?_)
          try simp only [Act.put, List.getElem_toArray, List.getElem_cons_zero, List.getElem_cons_succ, List.setIfInBounds_toArray, List.set_cons_zero, List.set_cons_succ]
          refine wpAnyH_done (by kernel_rfl) ?_ _
          go_wp2_with fail
          (try go_wp2_with fail)
          go_meet
          exact ⟨N, rfl, nT, hSf, setRow_heap _ _ _ _ _ _ y3⟩
    · refine wp_runK2 (.pointer (some ⟨w0.heap.size, 0, none⟩)) (w0.alloc (.cells acc0 50)) (by kernel_rfl) ?_
      have y1 := heap_alloc_new w0 (.cells acc0 50)
      have bb1 : Below w0.heap.size w0 (w0.alloc (.cells acc0 50)) := (Below.refl _ _).alloc (Nat.le_refl _) _
      have nT : w.heap.size < w0.heap.size := heap_lt hS0.box
      refine hK0_11.out _ _ (hS0.keep1 bb1) (fun hS1 => ?_)
      try simp only [Act.put, List.getElem_toArray, List.getElem_cons_zero, List.getElem_cons_succ, List.setIfInBounds_toArray, List.set_cons_zero, List.set_cons_succ]
      generalize w0.alloc (.cells acc0 50) = w1 at *
      clear bb1
      obtain ⟨N, hN⟩ : ∃ N, N = w0.heap.size := ⟨_, rfl⟩
      have HN := Lib.hid hN
      rw [← hN] at y1 nT ⊢
      clear hN
      refine wpAnyH_ready (rs := [1]) (by kernel_rfl) (by simp) ?_
      refine AllReadyH.cons rfl (fun K1_1 hK1_1 => ?_) AllReadyH.nil
      · go_simp
        go_at_call 58
        refine (A.out _ hS1.h hS1.d).mono ?_
        rintro e w2 ⟨rfl, hb2⟩
        refine hK1_1.out _ _ (hS1.keep1 hb2) (fun hS2 => ?_)
        try simp only [Act.put, List.getElem_toArray, List.getElem_cons_zero, List.getElem_cons_succ, List.setIfInBounds_toArray, List.set_cons_zero, List.set_cons_succ]
        have y2 := (hb2.block _ (heap_lt y1)).trans y1
        clear hb2
        refine wpAnyH_ready (rs := [3]) (by kernel_rfl) (by simp) ?_
        refine AllReadyH.cons rfl (fun K2_3 hK2_3 => ?_) AllReadyH.nil
        · go_simp
          go_at_call 54
          refine (N0.out _ hS2.d).mono ?_
          rintro e w3 ⟨rfl, hw3⟩
          have hb3 : Below w2.heap.size w2 w3 := by rw [← hw3]; exact Below.refl _ _
          refine hK2_3.out _ _ (hS2.keep1 hb3) (fun hS3 => ?_)
          try simp only [Act.put, List.getElem_toArray, List.getElem_cons_zero, List.getElem_cons_succ, List.setIfInBounds_toArray, List.set_cons_zero, List.set_cons_succ]
          have y3 := (hb3.block _ (heap_lt y2)).trans y2
          clear hb3 hw3
          refine wpAnyH_take (i := 4) (v := .int .u32 (at_ : Nat)) rfl (by kernel_rfl) (by kernel_rfl) (by kernel_rfl) (fun _ _ _ h => h) (Or.inl ⟨by rfl, ?_⟩) (by assumption) ?_
          · (intro w hSw; clear hSw; go_simp; try with_reducible rfl)
          try simp only [Act.put, List.getElem_toArray, List.getElem_cons_zero, List.getElem_cons_succ, List.setIfInBounds_toArray, List.set_cons_zero, List.set_cons_succ]
          refine wpAnyH_take (i := 10) (v := .agg #[.int .i64 1, .int .u32 (at_ : Nat), .int .i64 0, .bool false, .int .i64 rd, .int .u32 0]) rfl (by kernel_rfl) (by kernel_rfl) (by kernel_rfl) (fun _ _ _ h => h) (Or.inl ⟨by rfl, ?_⟩) (by assumption) ?_
          · (intro w hSw; clear hSw; go_simp; try with_reducible rfl)
          try simp only [Act.put, List.getElem_toArray, List.getElem_cons_zero, List.getElem_cons_succ, List.setIfInBounds_toArray, List.set_cons_zero, List.set_cons_succ]
          refine wpAnyH_ready (rs := [12]) (by kernel_rfl) (by simp) ?_
          refine AllReadyH.cons rfl (fun K12 hK12 => ?_) AllReadyH.nil
          refine wp_store_row 50 _ _ rfl N _ rfl rfl _ _ y3 (by kernel_rfl) rfl (by kernel_rfl) ?_
          refine hK12.out _ _ (hS3.setRow1 nT hbl _) (fun hSf => ?_)
          try simp only [Act.put, List.getElem_toArray, List.getElem_cons_zero, List.getElem_cons_succ, List.setIfInBounds_toArray, List.set_cons_zero, List.set_cons_succ]
          refine wpAnyH_done (by kernel_rfl) ?_ _
          go_wp2_with fail
          (try go_wp2_with fail)
          go_meet
          exact ⟨N, rfl, nT, hSf, setRow_heap _ _ _ _ _ _ y3⟩
  case rest =>
    obtain ⟨N, rfl, nT, S1, rN⟩ := hcut
    have hop := HP.out
    have ho := HO.out
    obtain ⟨hal, g0, g1, g3⟩ := HG.out
    clear HP HO HG
    rcases hop with rfl | rfl | rfl | rfl | rfl
    · have e2 : Go.bits .and .u32 (at_ : Int) 0 = 0 := g0
      clear g0 g1 g3 ho hal
      have t0 : wc.cell? ⟨N, 0, none⟩ = some (.int .i64 1) := cell_of_row _ _ _ _ _ _ rN
      have t1 : wc.cell? ⟨N, 1, none⟩ = some (.int .u32 at_) := cell_of_row _ _ _ _ _ _ rN
      have t2 : wc.cell? ⟨N, 2, none⟩ = some (.int .i64 0) := cell_of_row _ _ _ _ _ _ rN
      have t3 : wc.cell? ⟨N, 3, none⟩ = some (.bool false) := cell_of_row _ _ _ _ _ _ rN
      have t4 : wc.cell? ⟨N, 4, none⟩ = some (.int .i64 rd) := cell_of_row _ _ _ _ _ _ rN
      have t5 : wc.cell? ⟨N, 5, none⟩ = some (.int .u32 0) := cell_of_row _ _ _ _ _ _ rN
      have tf : ∀ j, wc.frozen? ⟨N, j, none⟩ = false := fun j => frozen_of_row _ _ _ _ _ rN
      obtain ⟨⟨u0, u1, u2, u3, u4, u5⟩, uf, ul⟩ := acc0_facts S1.box
      have c42 := S1.d.op
      have c50 := S1.d.gone
      have cf := S1.h.fz
      have hNb : ¬ N = b := by omega
      have hTb : ¬ w.heap.size = b := by omega
      have hNT : ¬ N = w.heap.size := by omega
      have hbN : ¬ b = N := by omega
      have hbT : ¬ b = w.heap.size := by omega
      have hTN : ¬ w.heap.size = N := by omega
      have SK := Lib.hid S1
      clear S1 rN e1
      go_wp2
      refine bodyPost_ret (v := .agg #[.int .i64 1, .int .u32 at_, .int .i64 1, .bool true, .int .i64 rd, .int .u32 0]) ?_ rfl ⟨rfl, ?_, ?_, ?_⟩
      · simp [results, Tryd.results57, go_sem, *]; try exact rfl
      · repeat' (first | (with_reducible exact SK.out.h) | (with_reducible refine HAt.setTail ?_ (by decide) _) | (with_reducible refine HAt.setOther ?_ (by omega) _ _))
      · exact (DI.setOther (DI.setOther (DI.setOther (DI.setOther (DI.setOther (DI.setOther (DI.setGone (DI.setOther (DI.setOther SK.out.d hNb _ _) hNb _ _) _) hTb _ _) hTb _ _) hTb _ _) hTb _ _) hTb _ _) hTb _ _)
      · repeat' (first | (with_reducible exact SK.out.o.d) | (with_reducible refine OnlyD.set ?_ 50 _) | (with_reducible refine OnlyD.setOther ?_ (by omega) (by omega) _ _))
    · have e2 : Go.bits .and .u32 (at_ : Int) 1 = 0 := by rw [g1]; unfold accN at ho; simp at ho; omega
      clear g0 g1 g3 ho hal
      have t0 : wc.cell? ⟨N, 0, none⟩ = some (.int .i64 1) := cell_of_row _ _ _ _ _ _ rN
      have t1 : wc.cell? ⟨N, 1, none⟩ = some (.int .u32 at_) := cell_of_row _ _ _ _ _ _ rN
      have t2 : wc.cell? ⟨N, 2, none⟩ = some (.int .i64 0) := cell_of_row _ _ _ _ _ _ rN
      have t3 : wc.cell? ⟨N, 3, none⟩ = some (.bool false) := cell_of_row _ _ _ _ _ _ rN
      have t4 : wc.cell? ⟨N, 4, none⟩ = some (.int .i64 rd) := cell_of_row _ _ _ _ _ _ rN
      have t5 : wc.cell? ⟨N, 5, none⟩ = some (.int .u32 0) := cell_of_row _ _ _ _ _ _ rN
      have tf : ∀ j, wc.frozen? ⟨N, j, none⟩ = false := fun j => frozen_of_row _ _ _ _ _ rN
      obtain ⟨⟨u0, u1, u2, u3, u4, u5⟩, uf, ul⟩ := acc0_facts S1.box
      have c42 := S1.d.op
      have c50 := S1.d.gone
      have cf := S1.h.fz
      have hNb : ¬ N = b := by omega
      have hTb : ¬ w.heap.size = b := by omega
      have hNT : ¬ N = w.heap.size := by omega
      have hbN : ¬ b = N := by omega
      have hbT : ¬ b = w.heap.size := by omega
      have hTN : ¬ w.heap.size = N := by omega
      have SK := Lib.hid S1
      clear S1 rN e1
      go_wp2
      refine bodyPost_ret (v := .agg #[.int .i64 1, .int .u32 at_, .int .i64 2, .bool true, .int .i64 rd, .int .u32 0]) ?_ rfl ⟨rfl, ?_, ?_, ?_⟩
      · simp [results, Tryd.results57, go_sem, *]; try exact rfl
      · repeat' (first | (with_reducible exact SK.out.h) | (with_reducible refine HAt.setTail ?_ (by decide) _) | (with_reducible refine HAt.setOther ?_ (by omega) _ _))
      · exact (DI.setOther (DI.setOther (DI.setOther (DI.setOther (DI.setOther (DI.setOther (DI.setGone (DI.setOther (DI.setOther SK.out.d hNb _ _) hNb _ _) _) hTb _ _) hTb _ _) hTb _ _) hTb _ _) hTb _ _) hTb _ _)
      · repeat' (first | (with_reducible exact SK.out.o.d) | (with_reducible refine OnlyD.set ?_ 50 _) | (with_reducible refine OnlyD.setOther ?_ (by omega) (by omega) _ _))
    · have e2 : Go.bits .and .u32 (at_ : Int) 3 = 0 := by rw [g3]; unfold accN at ho; simp at ho; omega
      clear g0 g1 g3 ho hal
      have t0 : wc.cell? ⟨N, 0, none⟩ = some (.int .i64 1) := cell_of_row _ _ _ _ _ _ rN
      have t1 : wc.cell? ⟨N, 1, none⟩ = some (.int .u32 at_) := cell_of_row _ _ _ _ _ _ rN
      have t2 : wc.cell? ⟨N, 2, none⟩ = some (.int .i64 0) := cell_of_row _ _ _ _ _ _ rN
      have t3 : wc.cell? ⟨N, 3, none⟩ = some (.bool false) := cell_of_row _ _ _ _ _ _ rN
      have t4 : wc.cell? ⟨N, 4, none⟩ = some (.int .i64 rd) := cell_of_row _ _ _ _ _ _ rN
      have t5 : wc.cell? ⟨N, 5, none⟩ = some (.int .u32 0) := cell_of_row _ _ _ _ _ _ rN
      have tf : ∀ j, wc.frozen? ⟨N, j, none⟩ = false := fun j => frozen_of_row _ _ _ _ _ rN
      obtain ⟨⟨u0, u1, u2, u3, u4, u5⟩, uf, ul⟩ := acc0_facts S1.box
      have c42 := S1.d.op
      have c50 := S1.d.gone
      have cf := S1.h.fz
      have hNb : ¬ N = b := by omega
      have hTb : ¬ w.heap.size = b := by omega
      have hNT : ¬ N = w.heap.size := by omega
      have hbN : ¬ b = N := by omega
      have hbT : ¬ b = w.heap.size := by omega
      have hTN : ¬ w.heap.size = N := by omega
      have SK := Lib.hid S1
      clear S1 rN e1
      go_wp2
      refine bodyPost_ret (v := .agg #[.int .i64 1, .int .u32 at_, .int .i64 4, .bool true, .int .i64 rd, .int .u32 0]) ?_ rfl ⟨rfl, ?_, ?_, ?_⟩
      · simp [results, Tryd.results57, go_sem, *]; try exact rfl
      · repeat' (first | (with_reducible exact SK.out.h) | (with_reducible refine HAt.setTail ?_ (by decide) _) | (with_reducible refine HAt.setOther ?_ (by omega) _ _))
      · exact (DI.setOther (DI.setOther (DI.setOther (DI.setOther (DI.setOther (DI.setOther (DI.setGone (DI.setOther (DI.setOther SK.out.d hNb _ _) hNb _ _) _) hTb _ _) hTb _ _) hTb _ _) hTb _ _) hTb _ _) hTb _ _)
      · repeat' (first | (with_reducible exact SK.out.o.d) | (with_reducible refine OnlyD.set ?_ 50 _) | (with_reducible refine OnlyD.setOther ?_ (by omega) (by omega) _ _))
    · have e2 : Go.bits .and .u32 (at_ : Int) 0 = 0 := g0
      clear g0 g1 g3 ho hal
      have t0 : wc.cell? ⟨N, 0, none⟩ = some (.int .i64 1) := cell_of_row _ _ _ _ _ _ rN
      have t1 : wc.cell? ⟨N, 1, none⟩ = some (.int .u32 at_) := cell_of_row _ _ _ _ _ _ rN
      have t2 : wc.cell? ⟨N, 2, none⟩ = some (.int .i64 0) := cell_of_row _ _ _ _ _ _ rN
      have t3 : wc.cell? ⟨N, 3, none⟩ = some (.bool false) := cell_of_row _ _ _ _ _ _ rN
      have t4 : wc.cell? ⟨N, 4, none⟩ = some (.int .i64 rd) := cell_of_row _ _ _ _ _ _ rN
      have t5 : wc.cell? ⟨N, 5, none⟩ = some (.int .u32 0) := cell_of_row _ _ _ _ _ _ rN
      have tf : ∀ j, wc.frozen? ⟨N, j, none⟩ = false := fun j => frozen_of_row _ _ _ _ _ rN
      obtain ⟨⟨u0, u1, u2, u3, u4, u5⟩, uf, ul⟩ := acc0_facts S1.box
      have c42 := S1.d.op
      have c50 := S1.d.gone
      have cf := S1.h.fz
      have hNb : ¬ N = b := by omega
      have hTb : ¬ w.heap.size = b := by omega
      have hNT : ¬ N = w.heap.size := by omega
      have hbN : ¬ b = N := by omega
      have hbT : ¬ b = w.heap.size := by omega
      have hTN : ¬ w.heap.size = N := by omega
      have SK := Lib.hid S1
      clear S1 rN e1
      go_wp2
      refine bodyPost_ret (v := .agg #[.int .i64 1, .int .u32 at_, .int .i64 1, .bool false, .int .i64 rd, .int .u32 0]) ?_ rfl ⟨rfl, ?_, ?_, ?_⟩
      · simp [results, Tryd.results57, go_sem, *]; try exact rfl
      · repeat' (first | (with_reducible exact SK.out.h) | (with_reducible refine HAt.setTail ?_ (by decide) _) | (with_reducible refine HAt.setOther ?_ (by omega) _ _))
      · exact (DI.setOther (DI.setOther (DI.setOther (DI.setOther (DI.setOther (DI.setOther (DI.setGone (DI.setOther SK.out.d hNb _ _) _) hTb _ _) hTb _ _) hTb _ _) hTb _ _) hTb _ _) hTb _ _)
      · repeat' (first | (with_reducible exact SK.out.o.d) | (with_reducible refine OnlyD.set ?_ 50 _) | (with_reducible refine OnlyD.setOther ?_ (by omega) (by omega) _ _))
    · have e2 : Go.bits .and .u32 (at_ : Int) 1 = 0 := by rw [g1]; unfold accN at ho; simp at ho; omega
      clear g0 g1 g3 ho hal
      have t0 : wc.cell? ⟨N, 0, none⟩ = some (.int .i64 1) := cell_of_row _ _ _ _ _ _ rN
      have t1 : wc.cell? ⟨N, 1, none⟩ = some (.int .u32 at_) := cell_of_row _ _ _ _ _ _ rN
      have t2 : wc.cell? ⟨N, 2, none⟩ = some (.int .i64 0) := cell_of_row _ _ _ _ _ _ rN
      have t3 : wc.cell? ⟨N, 3, none⟩ = some (.bool false) := cell_of_row _ _ _ _ _ _ rN
      have t4 : wc.cell? ⟨N, 4, none⟩ = some (.int .i64 rd) := cell_of_row _ _ _ _ _ _ rN
      have t5 : wc.cell? ⟨N, 5, none⟩ = some (.int .u32 0) := cell_of_row _ _ _ _ _ _ rN
      have tf : ∀ j, wc.frozen? ⟨N, j, none⟩ = false := fun j => frozen_of_row _ _ _ _ _ rN
      obtain ⟨⟨u0, u1, u2, u3, u4, u5⟩, uf, ul⟩ := acc0_facts S1.box
      have c42 := S1.d.op
      have c50 := S1.d.gone
      have cf := S1.h.fz
      have hNb : ¬ N = b := by omega
      have hTb : ¬ w.heap.size = b := by omega
      have hNT : ¬ N = w.heap.size := by omega
      have hbN : ¬ b = N := by omega
      have hbT : ¬ b = w.heap.size := by omega
      have hTN : ¬ w.heap.size = N := by omega
      have SK := Lib.hid S1
      clear S1 rN e1
      go_wp2
      refine bodyPost_ret (v := .agg #[.int .i64 1, .int .u32 at_, .int .i64 2, .bool false, .int .i64 rd, .int .u32 0]) ?_ rfl ⟨rfl, ?_, ?_, ?_⟩
      · simp [results, Tryd.results57, go_sem, *]; try exact rfl
      · repeat' (first | (with_reducible exact SK.out.h) | (with_reducible refine HAt.setTail ?_ (by decide) _) | (with_reducible refine HAt.setOther ?_ (by omega) _ _))
      · exact (DI.setOther (DI.setOther (DI.setOther (DI.setOther (DI.setOther (DI.setOther (DI.setGone (DI.setOther SK.out.d hNb _ _) _) hTb _ _) hTb _ _) hTb _ _) hTb _ _) hTb _ _) hTb _ _)
      · repeat' (first | (with_reducible exact SK.out.o.d) | (with_reducible refine OnlyD.set ?_ 50 _) | (with_reducible refine OnlyD.setOther ?_ (by omega) (by omega) _ _))

set_option maxHeartbeats 8000000 in
theorem dacc_load_odd_11 (h : HS) (hk : h.ok) (b n at_ : Nat) {op rd r1 r2 : Nat} {imm cs : Int} {ww ln : Nat} (hop : op = 11 ∨ op = 12 ∨ op = 14) (hn : IntKind.u32.wrap imm = (n : Int)) (hr1 : r1 < 32) (hr2 : r2 < 32) (hat : at_ = (h.x r1 + n) % 4294967296) (ho : ¬ (at_ : Int) % accN op = 0) (w : World) (H : HAt w b h) (D : DI w b op rd r1 r2 imm cs ww ln false) : Calls Tryd.prog 57 #[.pointer (some ⟨b, 0, none⟩)] w fun e w' => e = .returned (.agg acc0) ∧ HAt w' b (trapH h 4 at_) ∧ DI w' b op rd r1 r2 imm cs ww ln true ∧ OnlyD b w w' := by
  have hal : at_ < 4294967296 := by rw [hat]; exact Nat.mod_lt _ (by decide)
  obtain ⟨g0, g1, g3⟩ := acc_and at_ hal
  have A := Lib.hid (fun w H D => (da_any h b (op := op) (rd := rd) (r1 := r1) (r2 := r2) (imm := imm) (cs := cs) (ww := ww) (ln := ln) (gone := false) hr1 w H D).below)
  have N0 := Lib.hid (fun w D => dn_any b n (op := op) (rd := rd) (r1 := r1) (r2 := r2) (imm := imm) (cs := cs) (ww := ww) (ln := ln) (gone := false) hn w D)
  have TR := Lib.hid (fun w H D => dtrap_any h hk b 4 at_ (by decide) hal (op := op) (rd := rd) (r1 := r1) (r2 := r2) (imm := imm) (cs := cs) (ww := ww) (ln := ln) (gone := true) w H D)
  have hx := hk.x r1 hr1
  have e1 : IntKind.u32.wrap ((h.x r1 : Int) + (n : Int)) = (at_ : Int) := by rw [Go.IntKind.wrap_u32, hat]; omega
  have hbl := H.2.2
  have S0 := Lib.hid (AccS.first H D).2
  have HH := Lib.hid H
  clear H D hk hn hat hx
  generalize h.x r1 = x at A e1
  generalize trapH h 4 at_ = tz at TR ⊢
  have HG := Lib.hid (And.intro hal (And.intro g0 (And.intro g1 g3)))
  have HO := Lib.hid ho
  have HP := Lib.hid hop
  clear hal g0 g1 g3 ho hop
  go_enter Tryd.func57, Tryd.ntmps57
  go_upto_region 1 with (fail)
  go_cut [3] (fun x w' => ∃ N, x = .pointer (some ⟨N, 0, none⟩) ∧ w.heap.size < N ∧ AccS w b h op rd r1 r2 imm cs ww ln false w' ∧ w'.heap[N]? = some (.cells #[.int .i64 1, .int .u32 (at_ : Nat), .int .i64 0, .bool false, .int .i64 rd, .int .u32 0] 50 (0, 0)))
  case first =>
    refine wp_region_held_drew (S := AccS w b h op rd r1 r2 imm cs ww ln false) (by kernel_rfl) S0.out (fun hHeld => ?_)
    refine wpAnyH_take (i := 0) (v := .pointer (some ⟨b, 0, none⟩)) rfl (by kernel_rfl) (by kernel_rfl) (by kernel_rfl) (fun _ _ _ h => h) (Or.inl ⟨by rfl, ?_⟩) (by assumption) ?_
    · (intro w hSw; clear hSw; go_simp; try with_reducible rfl)
    try simp only [Act.put, List.getElem_toArray, List.getElem_cons_zero, List.getElem_cons_succ, List.setIfInBounds_toArray, List.set_cons_zero, List.set_cons_succ]
    refine wpAnyH_take (i := 2) (v := .pointer (some ⟨b, 0, none⟩)) rfl (by kernel_rfl) (by kernel_rfl) (by kernel_rfl) (fun _ _ _ h => h) (Or.inl ⟨by rfl, ?_⟩) (by assumption) ?_
    · (intro w hSw; clear hSw; go_simp; try with_reducible rfl)
    try simp only [Act.put, List.getElem_toArray, List.getElem_cons_zero, List.getElem_cons_succ, List.setIfInBounds_toArray, List.set_cons_zero, List.set_cons_succ]
    refine wpAnyH_take (i := 5) (v := .pointer (some ⟨b, 0, none⟩)) rfl (by kernel_rfl) (by kernel_rfl) (by kernel_rfl) (fun _ _ _ h => h) (Or.inl ⟨by rfl, ?_⟩) (by assumption) ?_
    · (intro w hSw; clear hSw; go_simp; try with_reducible rfl)
    try simp only [Act.put, List.getElem_toArray, List.getElem_cons_zero, List.getElem_cons_succ, List.setIfInBounds_toArray, List.set_cons_zero, List.set_cons_succ]
    refine wpAnyH_take (i := 6) (v := .pointer (some ⟨b, 0, none⟩)) rfl (by kernel_rfl) (by kernel_rfl) (by kernel_rfl) (fun _ _ _ h => h) (Or.inl ⟨by rfl, ?_⟩) (by assumption) ?_
    · (intro w hSw; clear hSw; go_simp; try with_reducible rfl)
    try simp only [Act.put, List.getElem_toArray, List.getElem_cons_zero, List.getElem_cons_succ, List.setIfInBounds_toArray, List.set_cons_zero, List.set_cons_succ]
    refine wpAnyH_take (i := 7) (v := .pointer (some ⟨b, 42, none⟩)) rfl (by kernel_rfl) (by kernel_rfl) (by kernel_rfl) (fun _ _ _ h => h) (Or.inl ⟨by rfl, ?_⟩) (by assumption) ?_
    · (intro w hSw; clear hSw; go_simp; try with_reducible rfl)
    try simp only [Act.put, List.getElem_toArray, List.getElem_cons_zero, List.getElem_cons_succ, List.setIfInBounds_toArray, List.set_cons_zero, List.set_cons_succ]
    refine wpAnyH_take (i := 8) (v := .pointer (some ⟨b, 43, none⟩)) rfl (by kernel_rfl) (by kernel_rfl) (by kernel_rfl) (fun _ _ _ h => h) (Or.inl ⟨by rfl, ?_⟩) (by assumption) ?_
    · (intro w hSw; clear hSw; go_simp; try with_reducible rfl)
    try simp only [Act.put, List.getElem_toArray, List.getElem_cons_zero, List.getElem_cons_succ, List.setIfInBounds_toArray, List.set_cons_zero, List.set_cons_succ]
    refine wpAnyH_take (i := 9) (v := .int .i64 rd) rfl (by kernel_rfl) (by kernel_rfl) (by kernel_rfl) (fun _ _ _ h => h) (Or.inl ⟨by rfl, ?_⟩) (by assumption) ?_
    · (intro w hSw; have q := hSw.d.rd; have qf := hSw.h.fz; clear hSw; go_simp; try with_reducible rfl)
    try simp only [Act.put, List.getElem_toArray, List.getElem_cons_zero, List.getElem_cons_succ, List.setIfInBounds_toArray, List.set_cons_zero, List.set_cons_succ]
    have hS0 := hHeld
    clear hHeld
    generalize World.drew _ = w0 at *
    refine wpAnyH_ready (rs := [1, 11]) (by kernel_rfl) (by simp) ?_
    refine AllReadyH.cons rfl (fun K0_1 hK0_1 => ?_) (AllReadyH.cons rfl (fun K0_11 hK0_11 => ?_) AllReadyH.nil)
    · go_simp
      go_at_call 58
      refine (A.out _ hS0.h hS0.d).mono ?_
      rintro e w1 ⟨rfl, hb1⟩
      refine hK0_1.out _ _ (hS0.keep1 hb1) (fun hS1 => ?_)
      try simp only [Act.put, List.getElem_toArray, List.getElem_cons_zero, List.getElem_cons_succ, List.setIfInBounds_toArray, List.set_cons_zero, List.set_cons_succ]
      clear hb1
      refine wpAnyH_ready (rs := [3, 11]) (by kernel_rfl) (by simp) ?_
      refine AllReadyH.cons rfl (fun K1_3 hK1_3 => ?_) (AllReadyH.cons rfl (fun K1_11 hK1_11 => ?_) AllReadyH.nil)
      · go_simp
        go_at_call 54
        refine (N0.out _ hS1.d).mono ?_
        rintro e w2 ⟨rfl, hw2⟩
        have hb2 : Below w1.heap.size w1 w2 := by rw [← hw2]; exact Below.refl _ _
        refine hK1_3.out _ _ (hS1.keep1 hb2) (fun hS2 => ?_)
        try simp only [Act.put, List.getElem_toArray, List.getElem_cons_zero, List.getElem_cons_succ, List.setIfInBounds_toArray, List.set_cons_zero, List.set_cons_succ]
        clear hb2 hw2
        refine wpAnyH_take (i := 4) (v := .int .u32 (at_ : Nat)) rfl (by kernel_rfl) (by kernel_rfl) (by kernel_rfl) (fun _ _ _ h => h) (Or.inl ⟨by rfl, ?_⟩) (by assumption) ?_
        · (intro w hSw; clear hSw; go_simp; try with_reducible rfl)
        try simp only [Act.put, List.getElem_toArray, List.getElem_cons_zero, List.getElem_cons_succ, List.setIfInBounds_toArray, List.set_cons_zero, List.set_cons_succ]
        refine wpAnyH_take (i := 10) (v := .agg #[.int .i64 1, .int .u32 (at_ : Nat), .int .i64 0, .bool false, .int .i64 rd, .int .u32 0]) rfl (by kernel_rfl) (by kernel_rfl) (by kernel_rfl) (fun _ _ _ h => h) (Or.inl ⟨by rfl, ?_⟩) (by assumption) ?_
        · (intro w hSw; clear hSw; go_simp; try with_reducible rfl)
        try simp only [Act.put, List.getElem_toArray, List.getElem_cons_zero, List.getElem_cons_succ, List.setIfInBounds_toArray, List.set_cons_zero, List.set_cons_succ]
        refine wpAnyH_ready (rs := [11]) (by kernel_rfl) (by simp) ?_
        refine AllReadyH.cons rfl (fun K2_11 hK2_11 => ?_) AllReadyH.nil
        · refine wp_runK2 (.pointer (some ⟨w2.heap.size, 0, none⟩)) (w2.alloc (.cells acc0 50)) (by kernel_rfl) ?_
          have y3 := heap_alloc_new w2 (.cells acc0 50)
          have bb3 : Below w2.heap.size w2 (w2.alloc (.cells acc0 50)) := (Below.refl _ _).alloc (Nat.le_refl _) _
          have nT : w.heap.size < w2.heap.size := heap_lt hS2.box
          refine hK2_11.out _ _ (hS2.keep1 bb3) (fun hS3 => ?_)
          try simp only [Act.put, List.getElem_toArray, List.getElem_cons_zero, List.getElem_cons_succ, List.setIfInBounds_toArray, List.set_cons_zero, List.set_cons_succ]
          generalize w2.alloc (.cells acc0 50) = w3 at *
          clear bb3
          obtain ⟨N, hN⟩ : ∃ N, N = w2.heap.size := ⟨_, rfl⟩
          have HN := Lib.hid hN
          rw [← hN] at y3 nT ⊢
          clear hN
          refine wpAnyH_ready (rs := [12]) (by kernel_rfl) (by simp) ?_
          refine AllReadyH.cons rfl (fun K12 hK12 => ?_) AllReadyH.nil
          refine wp_store_row 50 _ _ rfl N _ rfl rfl _ _ y3 (by kernel_rfl) rfl (by kernel_rfl) ?_
          refine hK12.out _ _ (hS3.setRow1 nT hbl _) (fun hSf => ?_)
          try simp only [Act.put, List.getElem_toArray, List.getElem_cons_zero, List.getElem_cons_succ, List.setIfInBounds_toArray, List.set_cons_zero, List.set_cons_succ]
          refine wpAnyH_done (by kernel_rfl) ?_ _
          go_wp2_with fail
          (try go_wp2_with fail)
          go_meet
          exact ⟨N, rfl, nT, hSf, setRow_heap _ _ _ _ _ _ y3⟩
      · refine wp_runK2 (.pointer (some ⟨w1.heap.size, 0, none⟩)) (w1.alloc (.cells acc0 50)) (by kernel_rfl) ?_
        have y2 := heap_alloc_new w1 (.cells acc0 50)
        have bb2 : Below w1.heap.size w1 (w1.alloc (.cells acc0 50)) := (Below.refl _ _).alloc (Nat.le_refl _) _
        have nT : w.heap.size < w1.heap.size := heap_lt hS1.box
        refine hK1_11.out _ _ (hS1.keep1 bb2) (fun hS2 => ?_)
        try simp only [Act.put, List.getElem_toArray, List.getElem_cons_zero, List.getElem_cons_succ, List.setIfInBounds_toArray, List.set_cons_zero, List.set_cons_succ]
        generalize w1.alloc (.cells acc0 50) = w2 at *
        clear bb2
        obtain ⟨N, hN⟩ : ∃ N, N = w1.heap.size := ⟨_, rfl⟩
        have HN := Lib.hid hN
        rw [← hN] at y2 nT ⊢
        clear hN
        refine wpAnyH_ready (rs := [3]) (by kernel_rfl) (by simp) ?_
        refine AllReadyH.cons rfl (fun K2_3 hK2_3 => ?_) AllReadyH.nil
        · go_simp
          go_at_call 54
          refine (N0.out _ hS2.d).mono ?_
          rintro e w3 ⟨rfl, hw3⟩
          have hb3 : Below w2.heap.size w2 w3 := by rw [← hw3]; exact Below.refl _ _
          refine hK2_3.out _ _ (hS2.keep1 hb3) (fun hS3 => ?_)
          try simp only [Act.put, List.getElem_toArray, List.getElem_cons_zero, List.getElem_cons_succ, List.setIfInBounds_toArray, List.set_cons_zero, List.set_cons_succ]
          have y3 := (hb3.block _ (heap_lt y2)).trans y2
          clear hb3 hw3
          refine wpAnyH_take (i := 4) (v := .int .u32 (at_ : Nat)) rfl (by kernel_rfl) (by kernel_rfl) (by kernel_rfl) (fun _ _ _ h => h) (Or.inl ⟨by rfl, ?_⟩) (by assumption) ?_
          · (intro w hSw; clear hSw; go_simp; try with_reducible rfl)
          try simp only [Act.put, List.getElem_toArray, List.getElem_cons_zero, List.getElem_cons_succ, List.setIfInBounds_toArray, List.set_cons_zero, List.set_cons_succ]
          refine wpAnyH_take (i := 10) (v := .agg #[.int .i64 1, .int .u32 (at_ : Nat), .int .i64 0, .bool false, .int .i64 rd, .int .u32 0]) rfl (by kernel_rfl) (by kernel_rfl) (by kernel_rfl) (fun _ _ _ h => h) (Or.inl ⟨by rfl, ?_⟩) (by assumption) ?_
          · (intro w hSw; clear hSw; go_simp; try with_reducible rfl)
          try simp only [Act.put, List.getElem_toArray, List.getElem_cons_zero, List.getElem_cons_succ, List.setIfInBounds_toArray, List.set_cons_zero, List.set_cons_succ]
          refine wpAnyH_ready (rs := [12]) (by kernel_rfl) (by simp) ?_
          refine AllReadyH.cons rfl (fun K12 hK12 => ?_) AllReadyH.nil
          refine wp_store_row 50 _ _ rfl N _ rfl rfl _ _ y3 (by kernel_rfl) rfl (by kernel_rfl) ?_
          refine hK12.out _ _ (hS3.setRow1 nT hbl _) (fun hSf => ?_)
          try simp only [Act.put, List.getElem_toArray, List.getElem_cons_zero, List.getElem_cons_succ, List.setIfInBounds_toArray, List.set_cons_zero, List.set_cons_succ]
          refine wpAnyH_done (by kernel_rfl) ?_ _
          go_wp2_with fail
          (try go_wp2_with fail)
          go_meet
          exact ⟨N, rfl, nT, hSf, setRow_heap _ _ _ _ _ _ y3⟩
    · refine wp_runK2 (.pointer (some ⟨w0.heap.size, 0, none⟩)) (w0.alloc (.cells acc0 50)) (by kernel_rfl) ?_
      have y1 := heap_alloc_new w0 (.cells acc0 50)
      have bb1 : Below w0.heap.size w0 (w0.alloc (.cells acc0 50)) := (Below.refl _ _).alloc (Nat.le_refl _) _
      have nT : w.heap.size < w0.heap.size := heap_lt hS0.box
      refine hK0_11.out _ _ (hS0.keep1 bb1) (fun hS1 => ?_)
      try simp only [Act.put, List.getElem_toArray, List.getElem_cons_zero, List.getElem_cons_succ, List.setIfInBounds_toArray, List.set_cons_zero, List.set_cons_succ]
      generalize w0.alloc (.cells acc0 50) = w1 at *
      clear bb1
      obtain ⟨N, hN⟩ : ∃ N, N = w0.heap.size := ⟨_, rfl⟩
      have HN := Lib.hid hN
      rw [← hN] at y1 nT ⊢
      clear hN
      refine wpAnyH_ready (rs := [1]) (by kernel_rfl) (by simp) ?_
      refine AllReadyH.cons rfl (fun K1_1 hK1_1 => ?_) AllReadyH.nil
      · go_simp
        go_at_call 58
        refine (A.out _ hS1.h hS1.d).mono ?_
        rintro e w2 ⟨rfl, hb2⟩
        refine hK1_1.out _ _ (hS1.keep1 hb2) (fun hS2 => ?_)
        try simp only [Act.put, List.getElem_toArray, List.getElem_cons_zero, List.getElem_cons_succ, List.setIfInBounds_toArray, List.set_cons_zero, List.set_cons_succ]
        have y2 := (hb2.block _ (heap_lt y1)).trans y1
        clear hb2
        refine wpAnyH_ready (rs := [3]) (by kernel_rfl) (by simp) ?_
        refine AllReadyH.cons rfl (fun K2_3 hK2_3 => ?_) AllReadyH.nil
        · go_simp
          go_at_call 54
          refine (N0.out _ hS2.d).mono ?_
          rintro e w3 ⟨rfl, hw3⟩
          have hb3 : Below w2.heap.size w2 w3 := by rw [← hw3]; exact Below.refl _ _
          refine hK2_3.out _ _ (hS2.keep1 hb3) (fun hS3 => ?_)
          try simp only [Act.put, List.getElem_toArray, List.getElem_cons_zero, List.getElem_cons_succ, List.setIfInBounds_toArray, List.set_cons_zero, List.set_cons_succ]
          have y3 := (hb3.block _ (heap_lt y2)).trans y2
          clear hb3 hw3
          refine wpAnyH_take (i := 4) (v := .int .u32 (at_ : Nat)) rfl (by kernel_rfl) (by kernel_rfl) (by kernel_rfl) (fun _ _ _ h => h) (Or.inl ⟨by rfl, ?_⟩) (by assumption) ?_
          · (intro w hSw; clear hSw; go_simp; try with_reducible rfl)
          try simp only [Act.put, List.getElem_toArray, List.getElem_cons_zero, List.getElem_cons_succ, List.setIfInBounds_toArray, List.set_cons_zero, List.set_cons_succ]
          refine wpAnyH_take (i := 10) (v := .agg #[.int .i64 1, .int .u32 (at_ : Nat), .int .i64 0, .bool false, .int .i64 rd, .int .u32 0]) rfl (by kernel_rfl) (by kernel_rfl) (by kernel_rfl) (fun _ _ _ h => h) (Or.inl ⟨by rfl, ?_⟩) (by assumption) ?_
          · (intro w hSw; clear hSw; go_simp; try with_reducible rfl)
          try simp only [Act.put, List.getElem_toArray, List.getElem_cons_zero, List.getElem_cons_succ, List.setIfInBounds_toArray, List.set_cons_zero, List.set_cons_succ]
          refine wpAnyH_ready (rs := [12]) (by kernel_rfl) (by simp) ?_
          refine AllReadyH.cons rfl (fun K12 hK12 => ?_) AllReadyH.nil
          refine wp_store_row 50 _ _ rfl N _ rfl rfl _ _ y3 (by kernel_rfl) rfl (by kernel_rfl) ?_
          refine hK12.out _ _ (hS3.setRow1 nT hbl _) (fun hSf => ?_)
          try simp only [Act.put, List.getElem_toArray, List.getElem_cons_zero, List.getElem_cons_succ, List.setIfInBounds_toArray, List.set_cons_zero, List.set_cons_succ]
          refine wpAnyH_done (by kernel_rfl) ?_ _
          go_wp2_with fail
          (try go_wp2_with fail)
          go_meet
          exact ⟨N, rfl, nT, hSf, setRow_heap _ _ _ _ _ _ y3⟩
  case rest =>
    obtain ⟨N, rfl, nT, S1, rN⟩ := hcut
    have hop := HP.out
    have ho := HO.out
    obtain ⟨hal, g0, g1, g3⟩ := HG.out
    clear HP HO HG
    rcases hop with rfl | rfl | rfl
    · have e2 : Go.bits .and .u32 (at_ : Int) 1 = 1 := by rw [g1]; unfold accN at ho; simp at ho; omega
      clear g0 g1 g3 ho hal
      have t0 : wc.cell? ⟨N, 0, none⟩ = some (.int .i64 1) := cell_of_row _ _ _ _ _ _ rN
      have t1 : wc.cell? ⟨N, 1, none⟩ = some (.int .u32 at_) := cell_of_row _ _ _ _ _ _ rN
      have t2 : wc.cell? ⟨N, 2, none⟩ = some (.int .i64 0) := cell_of_row _ _ _ _ _ _ rN
      have t3 : wc.cell? ⟨N, 3, none⟩ = some (.bool false) := cell_of_row _ _ _ _ _ _ rN
      have t4 : wc.cell? ⟨N, 4, none⟩ = some (.int .i64 rd) := cell_of_row _ _ _ _ _ _ rN
      have t5 : wc.cell? ⟨N, 5, none⟩ = some (.int .u32 0) := cell_of_row _ _ _ _ _ _ rN
      have tf : ∀ j, wc.frozen? ⟨N, j, none⟩ = false := fun j => frozen_of_row _ _ _ _ _ rN
      obtain ⟨⟨u0, u1, u2, u3, u4, u5⟩, uf, ul⟩ := acc0_facts S1.box
      have c42 := S1.d.op
      have c50 := S1.d.gone
      have cf := S1.h.fz
      have hNb : ¬ N = b := by omega
      have hTb : ¬ w.heap.size = b := by omega
      have hNT : ¬ N = w.heap.size := by omega
      have hbN : ¬ b = N := by omega
      have hbT : ¬ b = w.heap.size := by omega
      have hTN : ¬ w.heap.size = N := by omega
      have SK := Lib.hid S1
      clear S1 rN e1
      go_wp2_with (go_at_call 33; refine (TR.out _ (by repeat' (first | (with_reducible exact SK.out.h) | (with_reducible refine HAt.setTail ?_ (by decide) _) | (with_reducible refine HAt.setOther ?_ (by omega) _ _))) (DI.setGone (DI.setOther (DI.setOther SK.out.d hNb _ _) hNb _ _) _)).mono ?_; rintro e w1 ⟨rfl, h1, d1, o1⟩; have q1 : OnlyD b w w1 := OnlyD.trans (by repeat' (first | (with_reducible exact SK.out.o.d) | (with_reducible refine OnlyD.set ?_ 50 _) | (with_reducible refine OnlyD.setOther ?_ (by omega) (by omega) _ _))) o1; have rw1 := (o1.over w.heap.size hbl (by simp; exact heap_lt SK.out.box)).trans (row_set (row_set (row_set SK.out.box hTN) hTN) hTb); have H1 := Lib.hid h1; have D1 := Lib.hid d1; have O1 := Lib.hid q1; clear u0 u1 u2 u3 u4 u5 uf ul c50 c42 t0 t1 t2 t3 t4 t5; (obtain ⟨⟨u0, u1, u2, u3, u4, u5⟩, uf, ul⟩ := acc0_facts rw1); clear h1 d1 o1 q1 rw1)
      refine bodyPost_ret (v := .agg acc0) ?_ rfl ⟨rfl, ?_, ?_, ?_⟩
      · simp [results, Tryd.results57, go_sem, acc0, u0, u1, u2, u3, u4, u5, uf]; try exact rfl
      · repeat' (first | (with_reducible exact H1.out) | (with_reducible refine HAt.setOther ?_ (by omega) _ _))
      · exact (DI.setOther (DI.setOther (DI.setOther (DI.setOther (DI.setOther (DI.setOther D1.out hTb _ _) hTb _ _) hTb _ _) hTb _ _) hTb _ _) hTb _ _)
      · repeat' (first | (with_reducible exact O1.out) | (with_reducible refine OnlyD.setOther ?_ (by omega) (by omega) _ _))
    · obtain ⟨rr, e2, e3⟩ : ∃ rr : Int, Go.bits .and .u32 (at_ : Int) 3 = rr ∧ ¬ rr = 0 := ⟨_, g3, by unfold accN at ho; simp at ho; omega⟩
      have e4 : (rr == 0) = false := by simpa using e3
      have e5 : (rr != 0) = true := by simpa using e3
      clear g0 g1 g3 ho hal
      have t0 : wc.cell? ⟨N, 0, none⟩ = some (.int .i64 1) := cell_of_row _ _ _ _ _ _ rN
      have t1 : wc.cell? ⟨N, 1, none⟩ = some (.int .u32 at_) := cell_of_row _ _ _ _ _ _ rN
      have t2 : wc.cell? ⟨N, 2, none⟩ = some (.int .i64 0) := cell_of_row _ _ _ _ _ _ rN
      have t3 : wc.cell? ⟨N, 3, none⟩ = some (.bool false) := cell_of_row _ _ _ _ _ _ rN
      have t4 : wc.cell? ⟨N, 4, none⟩ = some (.int .i64 rd) := cell_of_row _ _ _ _ _ _ rN
      have t5 : wc.cell? ⟨N, 5, none⟩ = some (.int .u32 0) := cell_of_row _ _ _ _ _ _ rN
      have tf : ∀ j, wc.frozen? ⟨N, j, none⟩ = false := fun j => frozen_of_row _ _ _ _ _ rN
      obtain ⟨⟨u0, u1, u2, u3, u4, u5⟩, uf, ul⟩ := acc0_facts S1.box
      have c42 := S1.d.op
      have c50 := S1.d.gone
      have cf := S1.h.fz
      have hNb : ¬ N = b := by omega
      have hTb : ¬ w.heap.size = b := by omega
      have hNT : ¬ N = w.heap.size := by omega
      have hbN : ¬ b = N := by omega
      have hbT : ¬ b = w.heap.size := by omega
      have hTN : ¬ w.heap.size = N := by omega
      have SK := Lib.hid S1
      clear S1 rN e1
      go_wp2_with (go_at_call 33; refine (TR.out _ (by repeat' (first | (with_reducible exact SK.out.h) | (with_reducible refine HAt.setTail ?_ (by decide) _) | (with_reducible refine HAt.setOther ?_ (by omega) _ _))) (DI.setGone (DI.setOther (DI.setOther SK.out.d hNb _ _) hNb _ _) _)).mono ?_; rintro e w1 ⟨rfl, h1, d1, o1⟩; have q1 : OnlyD b w w1 := OnlyD.trans (by repeat' (first | (with_reducible exact SK.out.o.d) | (with_reducible refine OnlyD.set ?_ 50 _) | (with_reducible refine OnlyD.setOther ?_ (by omega) (by omega) _ _))) o1; have rw1 := (o1.over w.heap.size hbl (by simp; exact heap_lt SK.out.box)).trans (row_set (row_set (row_set SK.out.box hTN) hTN) hTb); have H1 := Lib.hid h1; have D1 := Lib.hid d1; have O1 := Lib.hid q1; clear u0 u1 u2 u3 u4 u5 uf ul c50 c42 t0 t1 t2 t3 t4 t5; (obtain ⟨⟨u0, u1, u2, u3, u4, u5⟩, uf, ul⟩ := acc0_facts rw1); clear h1 d1 o1 q1 rw1)
      refine bodyPost_ret (v := .agg acc0) ?_ rfl ⟨rfl, ?_, ?_, ?_⟩
      · simp [results, Tryd.results57, go_sem, acc0, u0, u1, u2, u3, u4, u5, uf]; try exact rfl
      · repeat' (first | (with_reducible exact H1.out) | (with_reducible refine HAt.setOther ?_ (by omega) _ _))
      · exact (DI.setOther (DI.setOther (DI.setOther (DI.setOther (DI.setOther (DI.setOther D1.out hTb _ _) hTb _ _) hTb _ _) hTb _ _) hTb _ _) hTb _ _)
      · repeat' (first | (with_reducible exact O1.out) | (with_reducible refine OnlyD.setOther ?_ (by omega) (by omega) _ _))
    · have e2 : Go.bits .and .u32 (at_ : Int) 1 = 1 := by rw [g1]; unfold accN at ho; simp at ho; omega
      clear g0 g1 g3 ho hal
      have t0 : wc.cell? ⟨N, 0, none⟩ = some (.int .i64 1) := cell_of_row _ _ _ _ _ _ rN
      have t1 : wc.cell? ⟨N, 1, none⟩ = some (.int .u32 at_) := cell_of_row _ _ _ _ _ _ rN
      have t2 : wc.cell? ⟨N, 2, none⟩ = some (.int .i64 0) := cell_of_row _ _ _ _ _ _ rN
      have t3 : wc.cell? ⟨N, 3, none⟩ = some (.bool false) := cell_of_row _ _ _ _ _ _ rN
      have t4 : wc.cell? ⟨N, 4, none⟩ = some (.int .i64 rd) := cell_of_row _ _ _ _ _ _ rN
      have t5 : wc.cell? ⟨N, 5, none⟩ = some (.int .u32 0) := cell_of_row _ _ _ _ _ _ rN
      have tf : ∀ j, wc.frozen? ⟨N, j, none⟩ = false := fun j => frozen_of_row _ _ _ _ _ rN
      obtain ⟨⟨u0, u1, u2, u3, u4, u5⟩, uf, ul⟩ := acc0_facts S1.box
      have c42 := S1.d.op
      have c50 := S1.d.gone
      have cf := S1.h.fz
      have hNb : ¬ N = b := by omega
      have hTb : ¬ w.heap.size = b := by omega
      have hNT : ¬ N = w.heap.size := by omega
      have hbN : ¬ b = N := by omega
      have hbT : ¬ b = w.heap.size := by omega
      have hTN : ¬ w.heap.size = N := by omega
      have SK := Lib.hid S1
      clear S1 rN e1
      go_wp2_with (go_at_call 33; refine (TR.out _ (by repeat' (first | (with_reducible exact SK.out.h) | (with_reducible refine HAt.setTail ?_ (by decide) _) | (with_reducible refine HAt.setOther ?_ (by omega) _ _))) (DI.setGone (DI.setOther SK.out.d hNb _ _) _)).mono ?_; rintro e w1 ⟨rfl, h1, d1, o1⟩; have q1 : OnlyD b w w1 := OnlyD.trans (by repeat' (first | (with_reducible exact SK.out.o.d) | (with_reducible refine OnlyD.set ?_ 50 _) | (with_reducible refine OnlyD.setOther ?_ (by omega) (by omega) _ _))) o1; have rw1 := (o1.over w.heap.size hbl (by simp; exact heap_lt SK.out.box)).trans (row_set (row_set SK.out.box hTN) hTb); have H1 := Lib.hid h1; have D1 := Lib.hid d1; have O1 := Lib.hid q1; clear u0 u1 u2 u3 u4 u5 uf ul c50 c42 t0 t1 t2 t3 t4 t5; (obtain ⟨⟨u0, u1, u2, u3, u4, u5⟩, uf, ul⟩ := acc0_facts rw1); clear h1 d1 o1 q1 rw1)
      refine bodyPost_ret (v := .agg acc0) ?_ rfl ⟨rfl, ?_, ?_, ?_⟩
      · simp [results, Tryd.results57, go_sem, acc0, u0, u1, u2, u3, u4, u5, uf]; try exact rfl
      · repeat' (first | (with_reducible exact H1.out) | (with_reducible refine HAt.setOther ?_ (by omega) _ _))
      · exact (DI.setOther (DI.setOther (DI.setOther (DI.setOther (DI.setOther (DI.setOther D1.out hTb _ _) hTb _ _) hTb _ _) hTb _ _) hTb _ _) hTb _ _)
      · repeat' (first | (with_reducible exact O1.out) | (with_reducible refine OnlyD.setOther ?_ (by omega) (by omega) _ _))

end Go.Proofs.YtphlgaklfibciaaDoor
