import Derived.Test.YtphlgaklfibciaaDoorHoG
import Derived.Below
import Derived.Deep.Draws
import Derived.Deep.AppendLies
import Derived.Maps.AppendAt
import Derived.OwnWalk
import Derived.Laws.BytesArg
import Derived.Laws.MakeOwn
import Derived.Laws.OwnMore
import Derived.Deep.OwnRows
import Derived.Tactics
import Derived.Lib.ConvBytes
import Derived.Laws.Slices
import Derived.WalkKit
import Derived.KernelRfl
import Derived.RowKit3
import Derived.Deep.LoopGhost
import Derived.Deep.QuietTactic
import Derived.BigQuiet
import Derived.WideLaws
import Derived.Deep.DeepCutAuto
import Derived.Deep.CutBlock
import Derived.Deep.RegionHeld3
import Derived.Laws.Rows
import Derived.Lib.AppendStr
import Derived.ArgAppend
import Derived.Laws.IdiomCopy
import Derived.OrdersHeld
import Derived.Laws.BitsLemmas
import Derived.RowKit
import Derived.Lib.Hide
import Derived.Laws.BitsAllLaws
import Derived.WalkLawsBesides
import Derived.WalkSpells
import Derived.LaidEql
namespace Go.Proofs.YtphlgaklfibciaaDoor
open Go.RowKit
set_option maxRecDepth 100000
set_option linter.unusedVariables false
set_option linter.unusedSimpArgs false

set_option maxHeartbeats 8000000 in
theorem dctl_55 (h : HS) (hk : h.ok) (b : Nat) {rd r1 r2 : Nat} {imm cs : Int} {ww ln : Nat} (hl : ln < 4294967296) (hw : ww < 4294967296) (hrd : rd < 32) (hr1 : r1 < 32) (w : World) (H : HAt w b h) (D : DI w b 55 rd r1 r2 imm cs ww ln false) : Calls Tryd.prog 63 #[.pointer (some ⟨b, 0, none⟩)] w fun e w' => e = .returned (.tuple #[]) ∧ HAt w' b (ctlH h 55 rd r1 cs ww ln).1 ∧ DI w' b 55 rd r1 r2 imm cs ww ln (ctlH h 55 rd r1 cs ww ln).2 ∧ OnlyD b w w' := by
  have hol := cread_lt hk.c cs hl
  obtain ⟨old, re, hold, hre, RD⟩ := cread_ex h.c hk.c cs ln hl
  rw [← hold] at hol
  have hwl := ctlW_lt hk 55 hr1 hol
  obtain ⟨wv, hwv⟩ : ∃ wv, wv = ctlW h 55 r1 old := ⟨_, rfl⟩
  rw [← hwv] at hwl
  obtain ⟨c, we, hc, hwe, WR⟩ := cwrite_ex h.c hk.c cs wv hwl
  have TR := Lib.hid (fun w H D => dtrap_any h hk b 2 ww (by decide) hw (op := 55) (rd := rd) (r1 := r1) (r2 := r2) (imm := imm) (cs := cs) (ww := ww) (ln := ln) (gone := false) w H D)
  have ST := Lib.hid (fun w H => hset_any h b rd old hrd w H)
  have ST2 := Lib.hid (fun w H => hset_any { h with c := c } b rd old hrd w H)
  have A := Lib.hid (fun w H D => da_any h b (op := 55) (rd := rd) (r1 := r1) (r2 := r2) (imm := imm) (cs := cs) (ww := ww) (ln := ln) (gone := false) hr1 w H D)
  obtain ⟨cr, hcr⟩ : ∃ cr, cr = ctlH h 55 rd r1 cs ww ln := ⟨_, rfl⟩
  rw [← hcr]
  obtain ⟨v, hv⟩ : ∃ v, v = ctlV h 55 r1 := ⟨_, rfl⟩
  have hvl := ctlV_lt hk 55 hr1
  rw [← hv] at hvl
  have hwv2 : Go.bits .or .u32 (old : Int) (v : Int) = (wv : Int) := by rw [hwv, Go.u32_or_nat _ _ hol hvl, hv]; rfl
  have e6 : ∃ q : Int, Go.bits .andNot .u32 (old : Int) (v : Int) = q := ⟨_, rfl⟩
  obtain ⟨q6, e6⟩ := e6
  have hvx : v = r1 := by rw [hv]; rfl
  have e7 : IntKind.u32.wrap (r1 : Int) = (r1 : Int) := by rw [Go.IntKind.wrap_u32]; omega
  rw [hvx] at e6
  rw [hvx] at hwv2
  have CR := Lib.hid hcr
  have HOLD := Lib.hid hold
  have HWV := Lib.hid hwv
  have HC := Lib.hid hc
  have HRE := Lib.hid hre
  have HWE := Lib.hid hwe
  have hbl := H.2.2
  have S0 := Lib.hid (show CtlS w b h 55 rd r1 r2 imm cs ww ln w from ⟨H, D, Only.refl _ _⟩)
  have HH := Lib.hid H
  have DD := Lib.hid D
  have c42 := D.op
  have c44 := D.r1
  have cf := H.fz
  clear H D hk hcr hold hwv hc hre hwe hwl hol hl hw hv hvl
  obtain ⟨x1, hx1⟩ : ∃ x1, x1 = h.x r1 := ⟨_, rfl⟩
  rw [← hx1] at A
  clear hx1
  go_enter Tryd.func63, Tryd.ntmps63
  go_upto_region 4 with (go_at_call 58; refine (A.out _ (by repeat' (first | (with_reducible exact S0.out.h) | (with_reducible refine HAt.drew1 ?_) | (with_reducible refine HAt.drew ?_ _))) (by repeat' (first | (with_reducible exact S0.out.d) | (with_reducible refine DI.drew1 ?_) | (with_reducible refine DI.drewK ?_ _)))).mono ?_; rintro e w1 ⟨rfl, ka, rfl⟩)
  try simp only [e7]
  refine wp_region_held_drew (S := CtlS w b h 55 rd r1 r2 imm cs ww ln) (by kernel_rfl) (by repeat' (first | (with_reducible exact S0.out) | (with_reducible refine CtlS.drew1 ?_) | (with_reducible refine CtlS.drewK ?_ _))) (fun hHeld => ?_)
  refine wpAnyH_take (i := 0) (v := .pointer (some ⟨b, 0, none⟩)) rfl (by kernel_rfl) (by kernel_rfl) (by kernel_rfl) (fun _ _ _ h => h) (Or.inl ⟨by rfl, ?_⟩) (by assumption) ?_
  · (intro w hSw; clear hSw; go_simp; try first | with_reducible rfl | rfl)
  try simp only [Act.put, List.getElem_toArray, List.getElem_cons_zero, List.getElem_cons_succ, List.setIfInBounds_toArray, List.set_cons_zero, List.set_cons_succ]
  refine wpAnyH_take (i := 1) (v := .pointer (some ⟨b, 0, none⟩)) rfl (by kernel_rfl) (by kernel_rfl) (by kernel_rfl) (fun _ _ _ h => h) (Or.inl ⟨by rfl, ?_⟩) (by assumption) ?_
  · (intro w hSw; clear hSw; go_simp; try first | with_reducible rfl | rfl)
  try simp only [Act.put, List.getElem_toArray, List.getElem_cons_zero, List.getElem_cons_succ, List.setIfInBounds_toArray, List.set_cons_zero, List.set_cons_succ]
  refine wpAnyH_take (i := 2) (v := .pointer (some ⟨b, 0, none⟩)) rfl (by kernel_rfl) (by kernel_rfl) (by kernel_rfl) (fun _ _ _ h => h) (Or.inl ⟨by rfl, ?_⟩) (by assumption) ?_
  · (intro w hSw; clear hSw; go_simp; try first | with_reducible rfl | rfl)
  try simp only [Act.put, List.getElem_toArray, List.getElem_cons_zero, List.getElem_cons_succ, List.setIfInBounds_toArray, List.set_cons_zero, List.set_cons_succ]
  refine wpAnyH_take (i := 3) (v := .pointer (some ⟨b, 34, none⟩)) rfl (by kernel_rfl) (by kernel_rfl) (by kernel_rfl) (fun _ _ _ h => h) (Or.inl ⟨by rfl, ?_⟩) (by assumption) ?_
  · (intro w hSw; clear hSw; go_simp; try first | with_reducible rfl | rfl)
  try simp only [Act.put, List.getElem_toArray, List.getElem_cons_zero, List.getElem_cons_succ, List.setIfInBounds_toArray, List.set_cons_zero, List.set_cons_succ]
  refine wpAnyH_take (i := 4) (v := .agg #[.int .u32 (h.c.status : Nat), .int .u32 (h.c.enable : Nat), .int .u32 (h.c.vector : Nat), .int .u32 (h.c.scratch : Nat), .int .u32 (h.c.epc : Nat), .int .u32 (h.c.cause : Nat), .int .u32 (h.c.value : Nat), .int .u64 (h.c.count : Nat)]) rfl (by kernel_rfl) (by kernel_rfl) (by kernel_rfl) (fun _ _ _ h => h) (Or.inl ⟨by rfl, ?_⟩) (by assumption) ?_
  · (intro w hSw; have q34 : w.cell? ⟨b, 34, none⟩ = some (.int .u32 (h.c.status : Nat)) := hSw.h.1 34 (by decide); have q35 : w.cell? ⟨b, 35, none⟩ = some (.int .u32 (h.c.enable : Nat)) := hSw.h.1 35 (by decide); have q36 : w.cell? ⟨b, 36, none⟩ = some (.int .u32 (h.c.vector : Nat)) := hSw.h.1 36 (by decide); have q37 : w.cell? ⟨b, 37, none⟩ = some (.int .u32 (h.c.scratch : Nat)) := hSw.h.1 37 (by decide); have q38 : w.cell? ⟨b, 38, none⟩ = some (.int .u32 (h.c.epc : Nat)) := hSw.h.1 38 (by decide); have q39 : w.cell? ⟨b, 39, none⟩ = some (.int .u32 (h.c.cause : Nat)) := hSw.h.1 39 (by decide); have q40 : w.cell? ⟨b, 40, none⟩ = some (.int .u32 (h.c.value : Nat)) := hSw.h.1 40 (by decide); have q41 : w.cell? ⟨b, 41, none⟩ = some (.int .u64 (h.c.count : Nat)) := hSw.h.1 41 (by decide); have qf := hSw.h.fz; clear hSw; go_simp; try first | with_reducible rfl | rfl)
  try simp only [Act.put, List.getElem_toArray, List.getElem_cons_zero, List.getElem_cons_succ, List.setIfInBounds_toArray, List.set_cons_zero, List.set_cons_succ]
  refine wpAnyH_take (i := 5) (v := .pointer (some ⟨b, 0, none⟩)) rfl (by kernel_rfl) (by kernel_rfl) (by kernel_rfl) (fun _ _ _ h => h) (Or.inl ⟨by rfl, ?_⟩) (by assumption) ?_
  · (intro w hSw; clear hSw; go_simp; try first | with_reducible rfl | rfl)
  try simp only [Act.put, List.getElem_toArray, List.getElem_cons_zero, List.getElem_cons_succ, List.setIfInBounds_toArray, List.set_cons_zero, List.set_cons_succ]
  refine wpAnyH_take (i := 6) (v := .pointer (some ⟨b, 0, none⟩)) rfl (by kernel_rfl) (by kernel_rfl) (by kernel_rfl) (fun _ _ _ h => h) (Or.inl ⟨by rfl, ?_⟩) (by assumption) ?_
  · (intro w hSw; clear hSw; go_simp; try first | with_reducible rfl | rfl)
  try simp only [Act.put, List.getElem_toArray, List.getElem_cons_zero, List.getElem_cons_succ, List.setIfInBounds_toArray, List.set_cons_zero, List.set_cons_succ]
  refine wpAnyH_take (i := 7) (v := .pointer (some ⟨b, 42, none⟩)) rfl (by kernel_rfl) (by kernel_rfl) (by kernel_rfl) (fun _ _ _ h => h) (Or.inl ⟨by rfl, ?_⟩) (by assumption) ?_
  · (intro w hSw; clear hSw; go_simp; try first | with_reducible rfl | rfl)
  try simp only [Act.put, List.getElem_toArray, List.getElem_cons_zero, List.getElem_cons_succ, List.setIfInBounds_toArray, List.set_cons_zero, List.set_cons_succ]
  refine wpAnyH_take (i := 8) (v := .pointer (some ⟨b, 47, none⟩)) rfl (by kernel_rfl) (by kernel_rfl) (by kernel_rfl) (fun _ _ _ h => h) (Or.inl ⟨by rfl, ?_⟩) (by assumption) ?_
  · (intro w hSw; clear hSw; go_simp; try first | with_reducible rfl | rfl)
  try simp only [Act.put, List.getElem_toArray, List.getElem_cons_zero, List.getElem_cons_succ, List.setIfInBounds_toArray, List.set_cons_zero, List.set_cons_succ]
  refine wpAnyH_take (i := 9) (v := .int .i64 cs) rfl (by kernel_rfl) (by kernel_rfl) (by kernel_rfl) (fun _ _ _ h => h) (Or.inl ⟨by rfl, ?_⟩) (by assumption) ?_
  · (intro w hSw; have q := hSw.d.cs; have qf := hSw.h.fz; clear hSw; go_simp; try first | with_reducible rfl | rfl)
  try simp only [Act.put, List.getElem_toArray, List.getElem_cons_zero, List.getElem_cons_succ, List.setIfInBounds_toArray, List.set_cons_zero, List.set_cons_succ]
  refine wpAnyH_take (i := 10) (v := .pointer (some ⟨b, 0, none⟩)) rfl (by kernel_rfl) (by kernel_rfl) (by kernel_rfl) (fun _ _ _ h => h) (Or.inl ⟨by rfl, ?_⟩) (by assumption) ?_
  · (intro w hSw; clear hSw; go_simp; try first | with_reducible rfl | rfl)
  try simp only [Act.put, List.getElem_toArray, List.getElem_cons_zero, List.getElem_cons_succ, List.setIfInBounds_toArray, List.set_cons_zero, List.set_cons_succ]
  refine wpAnyH_take (i := 11) (v := .pointer (some ⟨b, 0, none⟩)) rfl (by kernel_rfl) (by kernel_rfl) (by kernel_rfl) (fun _ _ _ h => h) (Or.inl ⟨by rfl, ?_⟩) (by assumption) ?_
  · (intro w hSw; clear hSw; go_simp; try first | with_reducible rfl | rfl)
  try simp only [Act.put, List.getElem_toArray, List.getElem_cons_zero, List.getElem_cons_succ, List.setIfInBounds_toArray, List.set_cons_zero, List.set_cons_succ]
  refine wpAnyH_take (i := 12) (v := .pointer (some ⟨b, 49, none⟩)) rfl (by kernel_rfl) (by kernel_rfl) (by kernel_rfl) (fun _ _ _ h => h) (Or.inl ⟨by rfl, ?_⟩) (by assumption) ?_
  · (intro w hSw; clear hSw; go_simp; try first | with_reducible rfl | rfl)
  try simp only [Act.put, List.getElem_toArray, List.getElem_cons_zero, List.getElem_cons_succ, List.setIfInBounds_toArray, List.set_cons_zero, List.set_cons_succ]
  refine wpAnyH_take (i := 13) (v := .int .u32 (ln : Nat)) rfl (by kernel_rfl) (by kernel_rfl) (by kernel_rfl) (fun _ _ _ h => h) (Or.inl ⟨by rfl, ?_⟩) (by assumption) ?_
  · (intro w hSw; have q := hSw.d.ln; have qf := hSw.h.fz; clear hSw; go_simp; try first | with_reducible rfl | rfl)
  try simp only [Act.put, List.getElem_toArray, List.getElem_cons_zero, List.getElem_cons_succ, List.setIfInBounds_toArray, List.set_cons_zero, List.set_cons_succ]
  have hS0 := hHeld
  clear hHeld c42 c44 cf
  generalize World.drew _ = w0 at *
  refine wpAnyH_ready (rs := [14]) (by kernel_rfl) (by simp) ?_
  refine AllReadyH.cons rfl (fun K14 hK14 => ?_) AllReadyH.nil
  go_simp
  go_at_call 77
  refine (RD.out _).mono ?_
  rintro e w1 ⟨rfl, hb1⟩
  refine hK14.out _ _ (hS0.below hb1) (fun hS1 => ?_)
  try simp only [Act.put, List.getElem_toArray, List.getElem_cons_zero, List.getElem_cons_succ, List.setIfInBounds_toArray, List.set_cons_zero, List.set_cons_succ]
  clear hb1 hS0
  refine wpAnyH_take (i := 15) (v := .tuple #[.int .u32 (old : Nat), re]) rfl (by kernel_rfl) (by kernel_rfl) (by kernel_rfl) (fun _ _ _ h => h) (Or.inl ⟨by rfl, ?_⟩) (by assumption) ?_
  · (intro w hSw; clear hSw; go_simp; try first | with_reducible rfl | rfl)
  try simp only [Act.put, List.getElem_toArray, List.getElem_cons_zero, List.getElem_cons_succ, List.setIfInBounds_toArray, List.set_cons_zero, List.set_cons_succ]
  refine wpAnyH_take (i := 16) (v := .int .u32 (old : Nat)) rfl (by kernel_rfl) (by kernel_rfl) (by kernel_rfl) (fun _ _ _ h => h) (Or.inl ⟨by rfl, ?_⟩) (by assumption) ?_
  · (intro w hSw; clear hSw; go_simp; try first | with_reducible rfl | rfl)
  try simp only [Act.put, List.getElem_toArray, List.getElem_cons_zero, List.getElem_cons_succ, List.setIfInBounds_toArray, List.set_cons_zero, List.set_cons_succ]
  refine wpAnyH_take (i := 17) (v := re) rfl (by kernel_rfl) (by kernel_rfl) (by kernel_rfl) (fun _ _ _ h => h) (Or.inl ⟨by rfl, ?_⟩) (by assumption) ?_
  · (intro w hSw; clear hSw; go_simp; try first | with_reducible rfl | rfl)
  try simp only [Act.put, List.getElem_toArray, List.getElem_cons_zero, List.getElem_cons_succ, List.setIfInBounds_toArray, List.set_cons_zero, List.set_cons_succ]
  refine wpAnyH_take (i := 18) (v := .int .u32 (old : Nat)) rfl (by kernel_rfl) (by kernel_rfl) (by kernel_rfl) (fun _ _ _ h => h) (Or.inl ⟨by rfl, ?_⟩) (by assumption) ?_
  · (intro w hSw; clear hSw; go_simp; try first | with_reducible rfl | rfl)
  try simp only [Act.put, List.getElem_toArray, List.getElem_cons_zero, List.getElem_cons_succ, List.setIfInBounds_toArray, List.set_cons_zero, List.set_cons_succ]
  refine wpAnyH_take (i := 19) (v := re) rfl (by kernel_rfl) (by kernel_rfl) (by kernel_rfl) (fun _ _ _ h => h) (Or.inl ⟨by rfl, ?_⟩) (by assumption) ?_
  · (intro w hSw; clear hSw; go_simp; try first | with_reducible rfl | rfl)
  try simp only [Act.put, List.getElem_toArray, List.getElem_cons_zero, List.getElem_cons_succ, List.setIfInBounds_toArray, List.set_cons_zero, List.set_cons_succ]
  refine wpAnyH_done (by kernel_rfl) ?_ _
  have c34 : w1.cell? ⟨b, 34, none⟩ = some (.int .u32 (h.c.status : Nat)) := hS1.h.1 34 (by decide)
  have c35 : w1.cell? ⟨b, 35, none⟩ = some (.int .u32 (h.c.enable : Nat)) := hS1.h.1 35 (by decide)
  have c36 : w1.cell? ⟨b, 36, none⟩ = some (.int .u32 (h.c.vector : Nat)) := hS1.h.1 36 (by decide)
  have c37 : w1.cell? ⟨b, 37, none⟩ = some (.int .u32 (h.c.scratch : Nat)) := hS1.h.1 37 (by decide)
  have c38 : w1.cell? ⟨b, 38, none⟩ = some (.int .u32 (h.c.epc : Nat)) := hS1.h.1 38 (by decide)
  have c39 : w1.cell? ⟨b, 39, none⟩ = some (.int .u32 (h.c.cause : Nat)) := hS1.h.1 39 (by decide)
  have c40 : w1.cell? ⟨b, 40, none⟩ = some (.int .u32 (h.c.value : Nat)) := hS1.h.1 40 (by decide)
  have c41 : w1.cell? ⟨b, 41, none⟩ = some (.int .u64 (h.c.count : Nat)) := hS1.h.1 41 (by decide)
  have c42 := hS1.d.op
  have c43 := hS1.d.rd
  have c44 := hS1.d.r1
  have c47 := hS1.d.cs
  have c48 := hS1.d.ww
  have c49 := hS1.d.ln
  have cf := hS1.h.fz
  have SK := Lib.hid hS1
  clear hS1
  rcases HRE.out with ⟨hn, rfl⟩ | ⟨hn, rfl⟩
  · by_cases h0d : r1 = 0
    · subst h0d
      go_upto_region 12 with (fail)
      clear c34 c35 c36 c37 c38 c39 c40 c41 c42 c44 c47 c48 c49
      refine wp_region_held_drew (S := fun w' => w'.cell? ⟨b, 43, none⟩ = some (.int .i64 rd) ∧ w'.frozen? ⟨b, 43, none⟩ = false) (by kernel_rfl) ⟨c43, cf 43⟩ (fun hHeld => ?_)
      refine wpAnyH_take (i := 0) (v := .pointer (some ⟨b, 0, none⟩)) rfl (by kernel_rfl) (by kernel_rfl) (by kernel_rfl) (fun _ _ _ h => h) (Or.inl ⟨by rfl, ?_⟩) (by assumption) ?_
      · (intro w hSw; clear hSw; go_simp; try first | with_reducible rfl | rfl)
      try simp only [Act.put, List.getElem_toArray, List.getElem_cons_zero, List.getElem_cons_succ, List.setIfInBounds_toArray, List.set_cons_zero, List.set_cons_succ]
      refine wpAnyH_take (i := 1) (v := .pointer (some ⟨b, 0, none⟩)) rfl (by kernel_rfl) (by kernel_rfl) (by kernel_rfl) (fun _ _ _ h => h) (Or.inl ⟨by rfl, ?_⟩) (by assumption) ?_
      · (intro w hSw; clear hSw; go_simp; try first | with_reducible rfl | rfl)
      try simp only [Act.put, List.getElem_toArray, List.getElem_cons_zero, List.getElem_cons_succ, List.setIfInBounds_toArray, List.set_cons_zero, List.set_cons_succ]
      refine wpAnyH_take (i := 2) (v := .pointer (some ⟨b, 0, none⟩)) rfl (by kernel_rfl) (by kernel_rfl) (by kernel_rfl) (fun _ _ _ h => h) (Or.inl ⟨by rfl, ?_⟩) (by assumption) ?_
      · (intro w hSw; clear hSw; go_simp; try first | with_reducible rfl | rfl)
      try simp only [Act.put, List.getElem_toArray, List.getElem_cons_zero, List.getElem_cons_succ, List.setIfInBounds_toArray, List.set_cons_zero, List.set_cons_succ]
      refine wpAnyH_take (i := 3) (v := .pointer (some ⟨b, 0, none⟩)) rfl (by kernel_rfl) (by kernel_rfl) (by kernel_rfl) (fun _ _ _ h => h) (Or.inl ⟨by rfl, ?_⟩) (by assumption) ?_
      · (intro w hSw; clear hSw; go_simp; try first | with_reducible rfl | rfl)
      try simp only [Act.put, List.getElem_toArray, List.getElem_cons_zero, List.getElem_cons_succ, List.setIfInBounds_toArray, List.set_cons_zero, List.set_cons_succ]
      refine wpAnyH_take (i := 4) (v := .pointer (some ⟨b, 0, none⟩)) rfl (by kernel_rfl) (by kernel_rfl) (by kernel_rfl) (fun _ _ _ h => h) (Or.inl ⟨by rfl, ?_⟩) (by assumption) ?_
      · (intro w hSw; clear hSw; go_simp; try first | with_reducible rfl | rfl)
      try simp only [Act.put, List.getElem_toArray, List.getElem_cons_zero, List.getElem_cons_succ, List.setIfInBounds_toArray, List.set_cons_zero, List.set_cons_succ]
      refine wpAnyH_take (i := 5) (v := .pointer (some ⟨b, 42, none⟩)) rfl (by kernel_rfl) (by kernel_rfl) (by kernel_rfl) (fun _ _ _ h => h) (Or.inl ⟨by rfl, ?_⟩) (by assumption) ?_
      · (intro w hSw; clear hSw; go_simp; try first | with_reducible rfl | rfl)
      try simp only [Act.put, List.getElem_toArray, List.getElem_cons_zero, List.getElem_cons_succ, List.setIfInBounds_toArray, List.set_cons_zero, List.set_cons_succ]
      refine wpAnyH_take (i := 6) (v := .pointer (some ⟨b, 43, none⟩)) rfl (by kernel_rfl) (by kernel_rfl) (by kernel_rfl) (fun _ _ _ h => h) (Or.inl ⟨by rfl, ?_⟩) (by assumption) ?_
      · (intro w hSw; clear hSw; go_simp; try first | with_reducible rfl | rfl)
      try simp only [Act.put, List.getElem_toArray, List.getElem_cons_zero, List.getElem_cons_succ, List.setIfInBounds_toArray, List.set_cons_zero, List.set_cons_succ]
      refine wpAnyH_take (i := 7) (v := .int .i64 rd) rfl (by kernel_rfl) (by kernel_rfl) (by kernel_rfl) (fun _ _ _ h => h) (Or.inl ⟨by rfl, ?_⟩) (by assumption) ?_
      · (intro w hSw; have q1 := hSw.1; have qf := hSw.2; clear hSw; go_simp; try first | with_reducible rfl | rfl)
      try simp only [Act.put, List.getElem_toArray, List.getElem_cons_zero, List.getElem_cons_succ, List.setIfInBounds_toArray, List.set_cons_zero, List.set_cons_succ]
      refine wpAnyH_take (i := 8) (v := .int .u32 (old : Nat)) rfl (by kernel_rfl) (by kernel_rfl) (by kernel_rfl) (fun _ _ _ h => h) (Or.inl ⟨by rfl, ?_⟩) (by assumption) ?_
      · (intro w hSw; clear hSw; go_simp; try first | with_reducible rfl | rfl)
      try simp only [Act.put, List.getElem_toArray, List.getElem_cons_zero, List.getElem_cons_succ, List.setIfInBounds_toArray, List.set_cons_zero, List.set_cons_succ]
      have SX := Lib.hid (CtlS.drew1 SK.out)
      clear hHeld c43 cf
      generalize World.drew _ = wz at *
      refine wpAnyH_ready (rs := [9]) (by kernel_rfl) (by simp) ?_
      refine AllReadyH.cons rfl (fun K9 hK9 => ?_) AllReadyH.nil
      go_simp
      go_at_call 39
      refine (ST.out _ SX.out.h).mono ?_
      rintro e w3 ⟨rfl, h3, o3⟩
      have H3 := Lib.hid h3
      have D3 := Lib.hid (DI.only SX.out.d o3)
      have O3 := Lib.hid (OnlyD.trans SX.out.o.d o3.d)
      refine hK9.out _ _ ⟨D3.out.rd, h3.fz 43⟩ (fun _ => ?_)
      try simp only [Act.put, List.getElem_toArray, List.getElem_cons_zero, List.getElem_cons_succ, List.setIfInBounds_toArray, List.set_cons_zero, List.set_cons_succ]
      clear h3 o3
      refine wpAnyH_done (by kernel_rfl) ?_ _
      (try go_wp2_with fail)
      rw [show cr = _ from CR.out.trans (ctl_set HOLD.out (fun q => hn q.1) (fun q => q.elim (fun z => (show ¬ (55 - 51) % 3 = 0 by decide) z) (fun z => z rfl)))]
      exact post_none (by kernel_rfl) rfl ⟨rfl, H3.out, D3.out, O3.out⟩
    · have f1 : ((r1 : Int) == 0) = false := by simp; omega
      have f2 : ¬ (r1 : Int) = 0 := by omega
      have f3 : ((r1 : Int) != 0) = true := by simp; omega
      go_upto_region 8 with (fail)
      go_cut [6, 7] (fun x y w' => ∃ N, x = .pointer (some ⟨N, 0, none⟩) ∧ y = we ∧ w.heap.size ≤ N ∧ CtlS w b h 55 rd r1 r2 imm cs ww ln w' ∧ w'.heap[N]? = some (.cells #[.int .u32 (c.status : Nat), .int .u32 (c.enable : Nat), .int .u32 (c.vector : Nat), .int .u32 (c.scratch : Nat), .int .u32 (c.epc : Nat), .int .u32 (c.cause : Nat), .int .u32 (c.value : Nat), .int .u64 (c.count : Nat)] 42 (0, 0)))
      case first =>
        refine wp_region_held_drew (S := CtlS w b h 55 rd r1 r2 imm cs ww ln) (by kernel_rfl) (by repeat' (first | (with_reducible exact SK.out) | (with_reducible refine CtlS.drew1 ?_) | (with_reducible refine CtlS.drewK ?_ _))) (fun hHeld => ?_)
        refine wpAnyH_take (i := 0) (v := .pointer (some ⟨b, 0, none⟩)) rfl (by kernel_rfl) (by kernel_rfl) (by kernel_rfl) (fun _ _ _ h => h) (Or.inl ⟨by rfl, ?_⟩) (by assumption) ?_
        · (intro w hSw; clear hSw; go_simp; try first | with_reducible rfl | rfl)
        try simp only [Act.put, List.getElem_toArray, List.getElem_cons_zero, List.getElem_cons_succ, List.setIfInBounds_toArray, List.set_cons_zero, List.set_cons_succ]
        refine wpAnyH_take (i := 1) (v := .pointer (some ⟨b, 0, none⟩)) rfl (by kernel_rfl) (by kernel_rfl) (by kernel_rfl) (fun _ _ _ h => h) (Or.inl ⟨by rfl, ?_⟩) (by assumption) ?_
        · (intro w hSw; clear hSw; go_simp; try first | with_reducible rfl | rfl)
        try simp only [Act.put, List.getElem_toArray, List.getElem_cons_zero, List.getElem_cons_succ, List.setIfInBounds_toArray, List.set_cons_zero, List.set_cons_succ]
        refine wpAnyH_take (i := 2) (v := .pointer (some ⟨b, 0, none⟩)) rfl (by kernel_rfl) (by kernel_rfl) (by kernel_rfl) (fun _ _ _ h => h) (Or.inl ⟨by rfl, ?_⟩) (by assumption) ?_
        · (intro w hSw; clear hSw; go_simp; try first | with_reducible rfl | rfl)
        try simp only [Act.put, List.getElem_toArray, List.getElem_cons_zero, List.getElem_cons_succ, List.setIfInBounds_toArray, List.set_cons_zero, List.set_cons_succ]
        refine wpAnyH_take (i := 3) (v := .pointer (some ⟨b, 34, none⟩)) rfl (by kernel_rfl) (by kernel_rfl) (by kernel_rfl) (fun _ _ _ h => h) (Or.inl ⟨by rfl, ?_⟩) (by assumption) ?_
        · (intro w hSw; clear hSw; go_simp; try first | with_reducible rfl | rfl)
        try simp only [Act.put, List.getElem_toArray, List.getElem_cons_zero, List.getElem_cons_succ, List.setIfInBounds_toArray, List.set_cons_zero, List.set_cons_succ]
        refine wpAnyH_take (i := 4) (v := .agg #[.int .u32 (h.c.status : Nat), .int .u32 (h.c.enable : Nat), .int .u32 (h.c.vector : Nat), .int .u32 (h.c.scratch : Nat), .int .u32 (h.c.epc : Nat), .int .u32 (h.c.cause : Nat), .int .u32 (h.c.value : Nat), .int .u64 (h.c.count : Nat)]) rfl (by kernel_rfl) (by kernel_rfl) (by kernel_rfl) (fun _ _ _ h => h) (Or.inl ⟨by rfl, ?_⟩) (by assumption) ?_
        · (intro w hSw; have q34 : w.cell? ⟨b, 34, none⟩ = some (.int .u32 (h.c.status : Nat)) := hSw.h.1 34 (by decide); have q35 : w.cell? ⟨b, 35, none⟩ = some (.int .u32 (h.c.enable : Nat)) := hSw.h.1 35 (by decide); have q36 : w.cell? ⟨b, 36, none⟩ = some (.int .u32 (h.c.vector : Nat)) := hSw.h.1 36 (by decide); have q37 : w.cell? ⟨b, 37, none⟩ = some (.int .u32 (h.c.scratch : Nat)) := hSw.h.1 37 (by decide); have q38 : w.cell? ⟨b, 38, none⟩ = some (.int .u32 (h.c.epc : Nat)) := hSw.h.1 38 (by decide); have q39 : w.cell? ⟨b, 39, none⟩ = some (.int .u32 (h.c.cause : Nat)) := hSw.h.1 39 (by decide); have q40 : w.cell? ⟨b, 40, none⟩ = some (.int .u32 (h.c.value : Nat)) := hSw.h.1 40 (by decide); have q41 : w.cell? ⟨b, 41, none⟩ = some (.int .u64 (h.c.count : Nat)) := hSw.h.1 41 (by decide); have qf := hSw.h.fz; clear hSw; go_simp; try first | with_reducible rfl | rfl)
        try simp only [Act.put, List.getElem_toArray, List.getElem_cons_zero, List.getElem_cons_succ, List.setIfInBounds_toArray, List.set_cons_zero, List.set_cons_succ]
        refine wpAnyH_take (i := 5) (v := .pointer (some ⟨b, 0, none⟩)) rfl (by kernel_rfl) (by kernel_rfl) (by kernel_rfl) (fun _ _ _ h => h) (Or.inl ⟨by rfl, ?_⟩) (by assumption) ?_
        · (intro w hSw; clear hSw; go_simp; try first | with_reducible rfl | rfl)
        try simp only [Act.put, List.getElem_toArray, List.getElem_cons_zero, List.getElem_cons_succ, List.setIfInBounds_toArray, List.set_cons_zero, List.set_cons_succ]
        refine wpAnyH_take (i := 6) (v := .pointer (some ⟨b, 0, none⟩)) rfl (by kernel_rfl) (by kernel_rfl) (by kernel_rfl) (fun _ _ _ h => h) (Or.inl ⟨by rfl, ?_⟩) (by assumption) ?_
        · (intro w hSw; clear hSw; go_simp; try first | with_reducible rfl | rfl)
        try simp only [Act.put, List.getElem_toArray, List.getElem_cons_zero, List.getElem_cons_succ, List.setIfInBounds_toArray, List.set_cons_zero, List.set_cons_succ]
        refine wpAnyH_take (i := 7) (v := .pointer (some ⟨b, 42, none⟩)) rfl (by kernel_rfl) (by kernel_rfl) (by kernel_rfl) (fun _ _ _ h => h) (Or.inl ⟨by rfl, ?_⟩) (by assumption) ?_
        · (intro w hSw; clear hSw; go_simp; try first | with_reducible rfl | rfl)
        try simp only [Act.put, List.getElem_toArray, List.getElem_cons_zero, List.getElem_cons_succ, List.setIfInBounds_toArray, List.set_cons_zero, List.set_cons_succ]
        refine wpAnyH_take (i := 8) (v := .pointer (some ⟨b, 47, none⟩)) rfl (by kernel_rfl) (by kernel_rfl) (by kernel_rfl) (fun _ _ _ h => h) (Or.inl ⟨by rfl, ?_⟩) (by assumption) ?_
        · (intro w hSw; clear hSw; go_simp; try first | with_reducible rfl | rfl)
        try simp only [Act.put, List.getElem_toArray, List.getElem_cons_zero, List.getElem_cons_succ, List.setIfInBounds_toArray, List.set_cons_zero, List.set_cons_succ]
        refine wpAnyH_take (i := 9) (v := .int .i64 cs) rfl (by kernel_rfl) (by kernel_rfl) (by kernel_rfl) (fun _ _ _ h => h) (Or.inl ⟨by rfl, ?_⟩) (by assumption) ?_
        · (intro w hSw; have q := hSw.d.cs; have qf := hSw.h.fz; clear hSw; go_simp; try first | with_reducible rfl | rfl)
        try simp only [Act.put, List.getElem_toArray, List.getElem_cons_zero, List.getElem_cons_succ, List.setIfInBounds_toArray, List.set_cons_zero, List.set_cons_succ]
        refine wpAnyH_take (i := 10) (v := .int .u32 (r1 : Nat)) rfl (by kernel_rfl) (by kernel_rfl) (by kernel_rfl) (fun _ _ _ h => h) (Or.inl ⟨by rfl, ?_⟩) (by assumption) ?_
        · (intro w hSw; clear hSw; go_simp; try first | with_reducible rfl | rfl)
        try simp only [Act.put, List.getElem_toArray, List.getElem_cons_zero, List.getElem_cons_succ, List.setIfInBounds_toArray, List.set_cons_zero, List.set_cons_succ]
        refine wpAnyH_take (i := 11) (v := .int .u32 (old : Nat)) rfl (by kernel_rfl) (by kernel_rfl) (by kernel_rfl) (fun _ _ _ h => h) (Or.inl ⟨by rfl, ?_⟩) (by assumption) ?_
        · (intro w hSw; clear hSw; go_simp; try first | with_reducible rfl | rfl)
        try simp only [Act.put, List.getElem_toArray, List.getElem_cons_zero, List.getElem_cons_succ, List.setIfInBounds_toArray, List.set_cons_zero, List.set_cons_succ]
        refine wpAnyH_take (i := 12) (v := .int .u32 (r1 : Nat)) rfl (by kernel_rfl) (by kernel_rfl) (by kernel_rfl) (fun _ _ _ h => h) (Or.inl ⟨by rfl, ?_⟩) (by assumption) ?_
        · (intro w hSw; clear hSw; go_simp; try first | with_reducible rfl | rfl)
        try simp only [Act.put, List.getElem_toArray, List.getElem_cons_zero, List.getElem_cons_succ, List.setIfInBounds_toArray, List.set_cons_zero, List.set_cons_succ]
        refine wpAnyH_take (i := 13) (v := .int .u32 (wv : Nat)) rfl (by kernel_rfl) (by kernel_rfl) (by kernel_rfl) (fun _ _ _ h => h) (Or.inl ⟨by rfl, ?_⟩) (by assumption) ?_
        · (intro w hSw; clear hSw; go_simp; try first | with_reducible rfl | rfl)
        try simp only [Act.put, List.getElem_toArray, List.getElem_cons_zero, List.getElem_cons_succ, List.setIfInBounds_toArray, List.set_cons_zero, List.set_cons_succ]
        refine wpAnyH_take (i := 14) (v := .int .u32 (old : Nat)) rfl (by kernel_rfl) (by kernel_rfl) (by kernel_rfl) (fun _ _ _ h => h) (Or.inl ⟨by rfl, ?_⟩) (by assumption) ?_
        · (intro w hSw; clear hSw; go_simp; try first | with_reducible rfl | rfl)
        try simp only [Act.put, List.getElem_toArray, List.getElem_cons_zero, List.getElem_cons_succ, List.setIfInBounds_toArray, List.set_cons_zero, List.set_cons_succ]
        refine wpAnyH_take (i := 15) (v := .int .u32 (r1 : Nat)) rfl (by kernel_rfl) (by kernel_rfl) (by kernel_rfl) (fun _ _ _ h => h) (Or.inl ⟨by rfl, ?_⟩) (by assumption) ?_
        · (intro w hSw; clear hSw; go_simp; try first | with_reducible rfl | rfl)
        try simp only [Act.put, List.getElem_toArray, List.getElem_cons_zero, List.getElem_cons_succ, List.setIfInBounds_toArray, List.set_cons_zero, List.set_cons_succ]
        refine wpAnyH_take (i := 16) (v := .int .u32 q6) rfl (by kernel_rfl) (by kernel_rfl) (by kernel_rfl) (fun _ _ _ h => h) (Or.inl ⟨by rfl, ?_⟩) (by assumption) ?_
        · (intro w hSw; clear hSw; go_simp; try first | with_reducible rfl | rfl)
        try simp only [Act.put, List.getElem_toArray, List.getElem_cons_zero, List.getElem_cons_succ, List.setIfInBounds_toArray, List.set_cons_zero, List.set_cons_succ]
        refine wpAnyH_take (i := 17) (v := .agg #[.int .u32 (r1 : Nat), .int .u32 (wv : Nat), .int .u32 q6]) rfl (by kernel_rfl) (by kernel_rfl) (by kernel_rfl) (fun _ _ _ h => h) (Or.inl ⟨by rfl, ?_⟩) (by assumption) ?_
        · (intro w hSw; clear hSw; go_simp; try first | with_reducible rfl | rfl)
        try simp only [Act.put, List.getElem_toArray, List.getElem_cons_zero, List.getElem_cons_succ, List.setIfInBounds_toArray, List.set_cons_zero, List.set_cons_succ]
        refine wpAnyH_take (i := 18) (v := .int .i64 1) rfl (by kernel_rfl) (by kernel_rfl) (by kernel_rfl) (fun _ _ _ h => h) (Or.inl ⟨by rfl, ?_⟩) (by assumption) ?_
        · (intro w hSw; clear hSw; go_simp; try first | with_reducible rfl | rfl)
        try simp only [Act.put, List.getElem_toArray, List.getElem_cons_zero, List.getElem_cons_succ, List.setIfInBounds_toArray, List.set_cons_zero, List.set_cons_succ]
        refine wpAnyH_take (i := 19) (v := .int .u32 (wv : Nat)) rfl (by kernel_rfl) (by kernel_rfl) (by kernel_rfl) (fun _ _ _ h => h) (Or.inl ⟨by rfl, ?_⟩) (by assumption) ?_
        · (intro w hSw; clear hSw; go_simp; try first | with_reducible rfl | rfl)
        try simp only [Act.put, List.getElem_toArray, List.getElem_cons_zero, List.getElem_cons_succ, List.setIfInBounds_toArray, List.set_cons_zero, List.set_cons_succ]
        have hS0 := hHeld
        clear hHeld c34 c35 c36 c37 c38 c39 c40 c41 c42 c43 c44 c47 c48 c49 cf
        generalize World.drew _ = wa at *
        refine wpAnyH_ready (rs := [20, 24]) (by kernel_rfl) (by simp) ?_
        refine AllReadyH.cons rfl (fun K20 hK20 => ?_) (AllReadyH.cons rfl (fun K24 hK24 => ?_) AllReadyH.nil)
        ·
          go_simp
          go_at_call 78
          refine (WR.out _).mono ?_
          rintro e wb ⟨rfl, hbwb⟩
          refine hK20.out _ _ (hS0.below hbwb) (fun hS1 => ?_)
          try simp only [Act.put, List.getElem_toArray, List.getElem_cons_zero, List.getElem_cons_succ, List.setIfInBounds_toArray, List.set_cons_zero, List.set_cons_succ]
          clear hbwb
          refine wpAnyH_take (i := 21) (v := .tuple #[.agg #[.int .u32 (c.status : Nat), .int .u32 (c.enable : Nat), .int .u32 (c.vector : Nat), .int .u32 (c.scratch : Nat), .int .u32 (c.epc : Nat), .int .u32 (c.cause : Nat), .int .u32 (c.value : Nat), .int .u64 (c.count : Nat)], we]) rfl (by kernel_rfl) (by kernel_rfl) (by kernel_rfl) (fun _ _ _ h => h) (Or.inl ⟨by rfl, ?_⟩) (by assumption) ?_
          · (intro w hSw; clear hSw; go_simp; try first | with_reducible rfl | rfl)
          try simp only [Act.put, List.getElem_toArray, List.getElem_cons_zero, List.getElem_cons_succ, List.setIfInBounds_toArray, List.set_cons_zero, List.set_cons_succ]
          refine wpAnyH_take (i := 22) (v := .agg #[.int .u32 (c.status : Nat), .int .u32 (c.enable : Nat), .int .u32 (c.vector : Nat), .int .u32 (c.scratch : Nat), .int .u32 (c.epc : Nat), .int .u32 (c.cause : Nat), .int .u32 (c.value : Nat), .int .u64 (c.count : Nat)]) rfl (by kernel_rfl) (by kernel_rfl) (by kernel_rfl) (fun _ _ _ h => h) (Or.inl ⟨by rfl, ?_⟩) (by assumption) ?_
          · (intro w hSw; clear hSw; go_simp; try first | with_reducible rfl | rfl)
          try simp only [Act.put, List.getElem_toArray, List.getElem_cons_zero, List.getElem_cons_succ, List.setIfInBounds_toArray, List.set_cons_zero, List.set_cons_succ]
          refine wpAnyH_take (i := 23) (v := we) rfl (by kernel_rfl) (by kernel_rfl) (by kernel_rfl) (fun _ _ _ h => h) (Or.inl ⟨by rfl, ?_⟩) (by assumption) ?_
          · (intro w hSw; clear hSw; go_simp; try first | with_reducible rfl | rfl)
          try simp only [Act.put, List.getElem_toArray, List.getElem_cons_zero, List.getElem_cons_succ, List.setIfInBounds_toArray, List.set_cons_zero, List.set_cons_succ]
          refine wpAnyH_ready (rs := [24]) (by kernel_rfl) (by simp) ?_
          refine AllReadyH.cons rfl (fun K24b hK24b => ?_) AllReadyH.nil
          refine wp_runK2 (.pointer (some ⟨wb.heap.size, 0, none⟩)) (wb.alloc (.cells #[.int .u32 0, .int .u32 0, .int .u32 0, .int .u32 0, .int .u32 0, .int .u32 0, .int .u32 0, .int .u64 0] 42)) (by kernel_rfl) ?_
          have y1 := heap_alloc_new wb (.cells #[.int .u32 0, .int .u32 0, .int .u32 0, .int .u32 0, .int .u32 0, .int .u32 0, .int .u32 0, .int .u64 0] 42)
          have bb : Below wb.heap.size wb (wb.alloc (.cells #[.int .u32 0, .int .u32 0, .int .u32 0, .int .u32 0, .int .u32 0, .int .u32 0, .int .u32 0, .int .u64 0] 42)) := (Below.refl _ _).alloc (Nat.le_refl _) _
          have nT : w.heap.size ≤ wb.heap.size := hS1.o.below.size
          refine hK24b.out _ _ (hS1.below bb) (fun hS2 => ?_)
          try simp only [Act.put, List.getElem_toArray, List.getElem_cons_zero, List.getElem_cons_succ, List.setIfInBounds_toArray, List.set_cons_zero, List.set_cons_succ]
          generalize wb.alloc (.cells #[.int .u32 0, .int .u32 0, .int .u32 0, .int .u32 0, .int .u32 0, .int .u32 0, .int .u32 0, .int .u64 0] 42) = wd at *
          clear bb
          obtain ⟨N, hN⟩ : ∃ N, N = wb.heap.size := ⟨_, rfl⟩
          rw [← hN] at y1 nT ⊢
          clear hN
          refine wpAnyH_ready (rs := [25]) (by kernel_rfl) (by simp) ?_
          refine AllReadyH.cons rfl (fun K25 hK25 => ?_) AllReadyH.nil
          refine wp_store_row 42 _ _ rfl N _ rfl rfl _ _ y1 (by kernel_rfl) rfl (by kernel_rfl) ?_
          refine hK25.out _ _ (hS2.setRow nT hbl _) (fun hSf => ?_)
          try simp only [Act.put, List.getElem_toArray, List.getElem_cons_zero, List.getElem_cons_succ, List.setIfInBounds_toArray, List.set_cons_zero, List.set_cons_succ]
          refine wpAnyH_take (i := 26) (v := we) rfl (by kernel_rfl) (by kernel_rfl) (by kernel_rfl) (fun _ _ _ h => h) (Or.inl ⟨by rfl, ?_⟩) (by assumption) ?_
          · (intro w hSw; clear hSw; go_simp; try first | with_reducible rfl | rfl)
          try simp only [Act.put, List.getElem_toArray, List.getElem_cons_zero, List.getElem_cons_succ, List.setIfInBounds_toArray, List.set_cons_zero, List.set_cons_succ]
          refine wpAnyH_done (by kernel_rfl) ?_ _
          (try go_wp2_with fail)
          go_meet
          exact ⟨N, rfl, rfl, nT, hSf, setRow_heap _ _ _ _ _ _ y1⟩
        ·
          refine wp_runK2 (.pointer (some ⟨wa.heap.size, 0, none⟩)) (wa.alloc (.cells #[.int .u32 0, .int .u32 0, .int .u32 0, .int .u32 0, .int .u32 0, .int .u32 0, .int .u32 0, .int .u64 0] 42)) (by kernel_rfl) ?_
          have y1 := heap_alloc_new wa (.cells #[.int .u32 0, .int .u32 0, .int .u32 0, .int .u32 0, .int .u32 0, .int .u32 0, .int .u32 0, .int .u64 0] 42)
          have bb : Below wa.heap.size wa (wa.alloc (.cells #[.int .u32 0, .int .u32 0, .int .u32 0, .int .u32 0, .int .u32 0, .int .u32 0, .int .u32 0, .int .u64 0] 42)) := (Below.refl _ _).alloc (Nat.le_refl _) _
          have nT : w.heap.size ≤ wa.heap.size := hS0.o.below.size
          refine hK24.out _ _ (hS0.below bb) (fun hS1 => ?_)
          try simp only [Act.put, List.getElem_toArray, List.getElem_cons_zero, List.getElem_cons_succ, List.setIfInBounds_toArray, List.set_cons_zero, List.set_cons_succ]
          generalize wa.alloc (.cells #[.int .u32 0, .int .u32 0, .int .u32 0, .int .u32 0, .int .u32 0, .int .u32 0, .int .u32 0, .int .u64 0] 42) = wb at *
          clear bb
          obtain ⟨N, hN⟩ : ∃ N, N = wa.heap.size := ⟨_, rfl⟩
          rw [← hN] at y1 nT ⊢
          clear hN
          refine wpAnyH_ready (rs := [20]) (by kernel_rfl) (by simp) ?_
          refine AllReadyH.cons rfl (fun K20b hK20b => ?_) AllReadyH.nil
          go_simp
          go_at_call 78
          refine (WR.out _).mono ?_
          rintro e wd ⟨rfl, hbwd⟩
          refine hK20b.out _ _ (hS1.below hbwd) (fun hS2 => ?_)
          try simp only [Act.put, List.getElem_toArray, List.getElem_cons_zero, List.getElem_cons_succ, List.setIfInBounds_toArray, List.set_cons_zero, List.set_cons_succ]
          have y2 := (hbwd.block _ (heap_lt y1)).trans y1
          clear hbwd
          refine wpAnyH_take (i := 21) (v := .tuple #[.agg #[.int .u32 (c.status : Nat), .int .u32 (c.enable : Nat), .int .u32 (c.vector : Nat), .int .u32 (c.scratch : Nat), .int .u32 (c.epc : Nat), .int .u32 (c.cause : Nat), .int .u32 (c.value : Nat), .int .u64 (c.count : Nat)], we]) rfl (by kernel_rfl) (by kernel_rfl) (by kernel_rfl) (fun _ _ _ h => h) (Or.inl ⟨by rfl, ?_⟩) (by assumption) ?_
          · (intro w hSw; clear hSw; go_simp; try first | with_reducible rfl | rfl)
          try simp only [Act.put, List.getElem_toArray, List.getElem_cons_zero, List.getElem_cons_succ, List.setIfInBounds_toArray, List.set_cons_zero, List.set_cons_succ]
          refine wpAnyH_take (i := 22) (v := .agg #[.int .u32 (c.status : Nat), .int .u32 (c.enable : Nat), .int .u32 (c.vector : Nat), .int .u32 (c.scratch : Nat), .int .u32 (c.epc : Nat), .int .u32 (c.cause : Nat), .int .u32 (c.value : Nat), .int .u64 (c.count : Nat)]) rfl (by kernel_rfl) (by kernel_rfl) (by kernel_rfl) (fun _ _ _ h => h) (Or.inl ⟨by rfl, ?_⟩) (by assumption) ?_
          · (intro w hSw; clear hSw; go_simp; try first | with_reducible rfl | rfl)
          try simp only [Act.put, List.getElem_toArray, List.getElem_cons_zero, List.getElem_cons_succ, List.setIfInBounds_toArray, List.set_cons_zero, List.set_cons_succ]
          refine wpAnyH_take (i := 23) (v := we) rfl (by kernel_rfl) (by kernel_rfl) (by kernel_rfl) (fun _ _ _ h => h) (Or.inl ⟨by rfl, ?_⟩) (by assumption) ?_
          · (intro w hSw; clear hSw; go_simp; try first | with_reducible rfl | rfl)
          try simp only [Act.put, List.getElem_toArray, List.getElem_cons_zero, List.getElem_cons_succ, List.setIfInBounds_toArray, List.set_cons_zero, List.set_cons_succ]
          refine wpAnyH_ready (rs := [25]) (by kernel_rfl) (by simp) ?_
          refine AllReadyH.cons rfl (fun K25 hK25 => ?_) AllReadyH.nil
          refine wp_store_row 42 _ _ rfl N _ rfl rfl _ _ y2 (by kernel_rfl) rfl (by kernel_rfl) ?_
          refine hK25.out _ _ (hS2.setRow nT hbl _) (fun hSf => ?_)
          try simp only [Act.put, List.getElem_toArray, List.getElem_cons_zero, List.getElem_cons_succ, List.setIfInBounds_toArray, List.set_cons_zero, List.set_cons_succ]
          refine wpAnyH_take (i := 26) (v := we) rfl (by kernel_rfl) (by kernel_rfl) (by kernel_rfl) (fun _ _ _ h => h) (Or.inl ⟨by rfl, ?_⟩) (by assumption) ?_
          · (intro w hSw; clear hSw; go_simp; try first | with_reducible rfl | rfl)
          try simp only [Act.put, List.getElem_toArray, List.getElem_cons_zero, List.getElem_cons_succ, List.setIfInBounds_toArray, List.set_cons_zero, List.set_cons_succ]
          refine wpAnyH_done (by kernel_rfl) ?_ _
          (try go_wp2_with fail)
          go_meet
          exact ⟨N, rfl, rfl, nT, hSf, setRow_heap _ _ _ _ _ _ y2⟩
      case rest =>
        obtain ⟨N, rfl, rfl, hN, S2, rN⟩ := hcut
        clear c34 c35 c36 c37 c38 c39 c40 c41 c42 c43 c44 c47 c48 c49 cf
        have c34 : wc.cell? ⟨b, 34, none⟩ = some (.int .u32 (h.c.status : Nat)) := S2.h.1 34 (by decide)
        have c35 : wc.cell? ⟨b, 35, none⟩ = some (.int .u32 (h.c.enable : Nat)) := S2.h.1 35 (by decide)
        have c36 : wc.cell? ⟨b, 36, none⟩ = some (.int .u32 (h.c.vector : Nat)) := S2.h.1 36 (by decide)
        have c37 : wc.cell? ⟨b, 37, none⟩ = some (.int .u32 (h.c.scratch : Nat)) := S2.h.1 37 (by decide)
        have c38 : wc.cell? ⟨b, 38, none⟩ = some (.int .u32 (h.c.epc : Nat)) := S2.h.1 38 (by decide)
        have c39 : wc.cell? ⟨b, 39, none⟩ = some (.int .u32 (h.c.cause : Nat)) := S2.h.1 39 (by decide)
        have c40 : wc.cell? ⟨b, 40, none⟩ = some (.int .u32 (h.c.value : Nat)) := S2.h.1 40 (by decide)
        have c41 : wc.cell? ⟨b, 41, none⟩ = some (.int .u64 (h.c.count : Nat)) := S2.h.1 41 (by decide)
        have c42 := S2.d.op
        have c43 := S2.d.rd
        have c44 := S2.d.r1
        have c47 := S2.d.cs
        have c48 := S2.d.ww
        have c49 := S2.d.ln
        have cf := S2.h.fz
        have n0 : wc.cell? ⟨N, 0, none⟩ = some (.int .u32 (c.status : Nat)) := cell_of_row _ _ _ _ _ _ rN
        have n1 : wc.cell? ⟨N, 1, none⟩ = some (.int .u32 (c.enable : Nat)) := cell_of_row _ _ _ _ _ _ rN
        have n2 : wc.cell? ⟨N, 2, none⟩ = some (.int .u32 (c.vector : Nat)) := cell_of_row _ _ _ _ _ _ rN
        have n3 : wc.cell? ⟨N, 3, none⟩ = some (.int .u32 (c.scratch : Nat)) := cell_of_row _ _ _ _ _ _ rN
        have n4 : wc.cell? ⟨N, 4, none⟩ = some (.int .u32 (c.epc : Nat)) := cell_of_row _ _ _ _ _ _ rN
        have n5 : wc.cell? ⟨N, 5, none⟩ = some (.int .u32 (c.cause : Nat)) := cell_of_row _ _ _ _ _ _ rN
        have n6 : wc.cell? ⟨N, 6, none⟩ = some (.int .u32 (c.value : Nat)) := cell_of_row _ _ _ _ _ _ rN
        have n7 : wc.cell? ⟨N, 7, none⟩ = some (.int .u64 (c.count : Nat)) := cell_of_row _ _ _ _ _ _ rN
        have nf : ∀ j, wc.frozen? ⟨N, j, none⟩ = false := fun j => frozen_of_row _ _ _ _ _ rN
        have hNb : ¬ N = b := by omega
        have hbN : ¬ b = N := by omega
        have SL := Lib.hid S2
        clear S2 rN
        rcases HWE.out with ⟨h0, rfl⟩ | ⟨h0, z, rfl⟩
        · go_upto_region 12 with (fail)
          generalize hq : World.setCell _ _ _ = q
          have OX : Only b wc q := by rw [← hq]; exact (Only.set (Only.set (Only.set (Only.set (Only.set (Only.set (Only.set (Only.set (Only.refl b wc) (k := 34) (by decide) (.int .u32 (c.status : Nat))) (k := 35) (by decide) (.int .u32 (c.enable : Nat))) (k := 36) (by decide) (.int .u32 (c.vector : Nat))) (k := 37) (by decide) (.int .u32 (c.scratch : Nat))) (k := 38) (by decide) (.int .u32 (c.epc : Nat))) (k := 39) (by decide) (.int .u32 (c.cause : Nat))) (k := 40) (by decide) (.int .u32 (c.value : Nat))) (k := 41) (by decide) (.int .u64 (c.count : Nat)))
          have SQ := Lib.hid (show CtlS w b { h with c := c } 55 rd r1 r2 imm cs ww ln q from ⟨by rw [← hq]; exact (GAt.ext (GAt.set (GAt.set (GAt.set (GAt.set (GAt.set (GAt.set (GAt.set (GAt.set SL.out.h (k := 34) (by decide) _) (k := 35) (by decide) _) (k := 36) (by decide) _) (k := 37) (by decide) _) (k := 38) (by decide) _) (k := 39) (by decide) _) (k := 40) (by decide) _) (k := 41) (by decide) _) (get_ext rfl (fun j h1 h2 => by simp [HS.get, show j ≠ 0 by omega, show j ≠ 34 by omega, show j ≠ 35 by omega, show j ≠ 36 by omega, show j ≠ 37 by omega, show j ≠ 38 by omega, show j ≠ 39 by omega, show j ≠ 40 by omega, show j ≠ 41 by omega, h2]) ⟨rfl, rfl, rfl, rfl, rfl, rfl, rfl, rfl, rfl⟩)), SL.out.d.only OX, SL.out.o.trans OX⟩)
          clear hq OX n0 n1 n2 n3 n4 n5 n6 n7 nf c34 c35 c36 c37 c38 c39 c40 c41 c42 c43 c44 c47 c48 c49 cf
          have c43 := SQ.out.d.rd
          have cf := SQ.out.h.fz
          refine wp_region_held_drew (S := fun w' => w'.cell? ⟨b, 43, none⟩ = some (.int .i64 rd) ∧ w'.frozen? ⟨b, 43, none⟩ = false) (by kernel_rfl) ⟨c43, cf 43⟩ (fun hHeld => ?_)
          refine wpAnyH_take (i := 0) (v := .pointer (some ⟨b, 0, none⟩)) rfl (by kernel_rfl) (by kernel_rfl) (by kernel_rfl) (fun _ _ _ h => h) (Or.inl ⟨by rfl, ?_⟩) (by assumption) ?_
          · (intro w hSw; clear hSw; go_simp; try first | with_reducible rfl | rfl)
          try simp only [Act.put, List.getElem_toArray, List.getElem_cons_zero, List.getElem_cons_succ, List.setIfInBounds_toArray, List.set_cons_zero, List.set_cons_succ]
          refine wpAnyH_take (i := 1) (v := .pointer (some ⟨b, 0, none⟩)) rfl (by kernel_rfl) (by kernel_rfl) (by kernel_rfl) (fun _ _ _ h => h) (Or.inl ⟨by rfl, ?_⟩) (by assumption) ?_
          · (intro w hSw; clear hSw; go_simp; try first | with_reducible rfl | rfl)
          try simp only [Act.put, List.getElem_toArray, List.getElem_cons_zero, List.getElem_cons_succ, List.setIfInBounds_toArray, List.set_cons_zero, List.set_cons_succ]
          refine wpAnyH_take (i := 2) (v := .pointer (some ⟨b, 0, none⟩)) rfl (by kernel_rfl) (by kernel_rfl) (by kernel_rfl) (fun _ _ _ h => h) (Or.inl ⟨by rfl, ?_⟩) (by assumption) ?_
          · (intro w hSw; clear hSw; go_simp; try first | with_reducible rfl | rfl)
          try simp only [Act.put, List.getElem_toArray, List.getElem_cons_zero, List.getElem_cons_succ, List.setIfInBounds_toArray, List.set_cons_zero, List.set_cons_succ]
          refine wpAnyH_take (i := 3) (v := .pointer (some ⟨b, 0, none⟩)) rfl (by kernel_rfl) (by kernel_rfl) (by kernel_rfl) (fun _ _ _ h => h) (Or.inl ⟨by rfl, ?_⟩) (by assumption) ?_
          · (intro w hSw; clear hSw; go_simp; try first | with_reducible rfl | rfl)
          try simp only [Act.put, List.getElem_toArray, List.getElem_cons_zero, List.getElem_cons_succ, List.setIfInBounds_toArray, List.set_cons_zero, List.set_cons_succ]
          refine wpAnyH_take (i := 4) (v := .pointer (some ⟨b, 0, none⟩)) rfl (by kernel_rfl) (by kernel_rfl) (by kernel_rfl) (fun _ _ _ h => h) (Or.inl ⟨by rfl, ?_⟩) (by assumption) ?_
          · (intro w hSw; clear hSw; go_simp; try first | with_reducible rfl | rfl)
          try simp only [Act.put, List.getElem_toArray, List.getElem_cons_zero, List.getElem_cons_succ, List.setIfInBounds_toArray, List.set_cons_zero, List.set_cons_succ]
          refine wpAnyH_take (i := 5) (v := .pointer (some ⟨b, 42, none⟩)) rfl (by kernel_rfl) (by kernel_rfl) (by kernel_rfl) (fun _ _ _ h => h) (Or.inl ⟨by rfl, ?_⟩) (by assumption) ?_
          · (intro w hSw; clear hSw; go_simp; try first | with_reducible rfl | rfl)
          try simp only [Act.put, List.getElem_toArray, List.getElem_cons_zero, List.getElem_cons_succ, List.setIfInBounds_toArray, List.set_cons_zero, List.set_cons_succ]
          refine wpAnyH_take (i := 6) (v := .pointer (some ⟨b, 43, none⟩)) rfl (by kernel_rfl) (by kernel_rfl) (by kernel_rfl) (fun _ _ _ h => h) (Or.inl ⟨by rfl, ?_⟩) (by assumption) ?_
          · (intro w hSw; clear hSw; go_simp; try first | with_reducible rfl | rfl)
          try simp only [Act.put, List.getElem_toArray, List.getElem_cons_zero, List.getElem_cons_succ, List.setIfInBounds_toArray, List.set_cons_zero, List.set_cons_succ]
          refine wpAnyH_take (i := 7) (v := .int .i64 rd) rfl (by kernel_rfl) (by kernel_rfl) (by kernel_rfl) (fun _ _ _ h => h) (Or.inl ⟨by rfl, ?_⟩) (by assumption) ?_
          · (intro w hSw; have q1 := hSw.1; have qf := hSw.2; clear hSw; go_simp; try first | with_reducible rfl | rfl)
          try simp only [Act.put, List.getElem_toArray, List.getElem_cons_zero, List.getElem_cons_succ, List.setIfInBounds_toArray, List.set_cons_zero, List.set_cons_succ]
          refine wpAnyH_take (i := 8) (v := .int .u32 (old : Nat)) rfl (by kernel_rfl) (by kernel_rfl) (by kernel_rfl) (fun _ _ _ h => h) (Or.inl ⟨by rfl, ?_⟩) (by assumption) ?_
          · (intro w hSw; clear hSw; go_simp; try first | with_reducible rfl | rfl)
          try simp only [Act.put, List.getElem_toArray, List.getElem_cons_zero, List.getElem_cons_succ, List.setIfInBounds_toArray, List.set_cons_zero, List.set_cons_succ]
          have SX := Lib.hid (CtlS.drew1 SQ.out)
          clear hHeld c43 cf
          generalize World.drew _ = wz at *
          refine wpAnyH_ready (rs := [9]) (by kernel_rfl) (by simp) ?_
          refine AllReadyH.cons rfl (fun K9 hK9 => ?_) AllReadyH.nil
          go_simp
          go_at_call 39
          refine (ST2.out _ SX.out.h).mono ?_
          rintro e w3 ⟨rfl, h3, o3⟩
          have H3 := Lib.hid h3
          have D3 := Lib.hid (DI.only SX.out.d o3)
          have O3 := Lib.hid (OnlyD.trans SX.out.o.d o3.d)
          refine hK9.out _ _ ⟨D3.out.rd, h3.fz 43⟩ (fun _ => ?_)
          try simp only [Act.put, List.getElem_toArray, List.getElem_cons_zero, List.getElem_cons_succ, List.setIfInBounds_toArray, List.set_cons_zero, List.set_cons_succ]
          clear h3 o3
          refine wpAnyH_done (by kernel_rfl) ?_ _
          (try go_wp2_with fail)
          rw [show cr = _ from CR.out.trans (ctl_ok (c := c) HOLD.out (fun q => hn q.1) (Or.inr h0d) (by rw [← HWV.out]; exact h0) (by rw [← HWV.out]; exact HC.out))]
          exact post_none (by kernel_rfl) rfl ⟨rfl, H3.out, D3.out, O3.out⟩
        · go_wp2_with (go_at_call 33; refine (TR.out _ (by repeat' (first | (with_reducible exact SL.out.h) | (with_reducible refine HAt.drew1 ?_) | (with_reducible refine HAt.drew ?_ _))) (by repeat' (first | (with_reducible exact SL.out.d) | (with_reducible refine DI.drew1 ?_) | (with_reducible refine DI.drewK ?_ _)))).mono ?_; rintro e w3 ⟨rfl, h3, d3, o3⟩; have H3 := Lib.hid h3; have D3 := Lib.hid d3; have O3 := Lib.hid (OnlyD.trans (by repeat' (first | (with_reducible exact SL.out.o.d) | (with_reducible refine OnlyD.drew1 ?_) | (with_reducible refine OnlyD.drewK ?_ _))) o3); clear h3 d3 o3)
          rw [show cr = _ from CR.out.trans (ctl_bad HOLD.out (fun q => hn q.1) (Or.inr h0d) (by rw [← HWV.out]; exact h0))]
          exact bodyPost_ret (results_none (by kernel_rfl) _ _ _) rfl ⟨rfl, H3.out, D3.out, O3.out⟩
  · go_wp2_with (go_at_call 33; refine (TR.out _ (by repeat' (first | (with_reducible exact SK.out.h) | (with_reducible refine HAt.drew1 ?_) | (with_reducible refine HAt.drew ?_ _))) (by repeat' (first | (with_reducible exact SK.out.d) | (with_reducible refine DI.drew1 ?_) | (with_reducible refine DI.drewK ?_ _)))).mono ?_; rintro e w3 ⟨rfl, h3, d3, o3⟩; have H3 := Lib.hid h3; have D3 := Lib.hid d3; have O3 := Lib.hid (OnlyD.trans (by repeat' (first | (with_reducible exact SK.out.o.d) | (with_reducible refine OnlyD.drew1 ?_) | (with_reducible refine OnlyD.drewK ?_ _))) o3); clear h3 d3 o3)
    rw [show cr = _ from CR.out.trans (ctl_trap hn (Or.inl (show ¬ (55 - 51) % 3 = 0 by decide)))]
    exact bodyPost_ret (results_none (by kernel_rfl) _ _ _) rfl ⟨rfl, H3.out, D3.out, O3.out⟩

set_option maxHeartbeats 8000000 in
theorem dctl_56 (h : HS) (hk : h.ok) (b : Nat) {rd r1 r2 : Nat} {imm cs : Int} {ww ln : Nat} (hl : ln < 4294967296) (hw : ww < 4294967296) (hrd : rd < 32) (hr1 : r1 < 32) (w : World) (H : HAt w b h) (D : DI w b 56 rd r1 r2 imm cs ww ln false) : Calls Tryd.prog 63 #[.pointer (some ⟨b, 0, none⟩)] w fun e w' => e = .returned (.tuple #[]) ∧ HAt w' b (ctlH h 56 rd r1 cs ww ln).1 ∧ DI w' b 56 rd r1 r2 imm cs ww ln (ctlH h 56 rd r1 cs ww ln).2 ∧ OnlyD b w w' := by
  have hol := cread_lt hk.c cs hl
  obtain ⟨old, re, hold, hre, RD⟩ := cread_ex h.c hk.c cs ln hl
  rw [← hold] at hol
  have hwl := ctlW_lt hk 56 hr1 hol
  obtain ⟨wv, hwv⟩ : ∃ wv, wv = ctlW h 56 r1 old := ⟨_, rfl⟩
  rw [← hwv] at hwl
  obtain ⟨c, we, hc, hwe, WR⟩ := cwrite_ex h.c hk.c cs wv hwl
  have TR := Lib.hid (fun w H D => dtrap_any h hk b 2 ww (by decide) hw (op := 56) (rd := rd) (r1 := r1) (r2 := r2) (imm := imm) (cs := cs) (ww := ww) (ln := ln) (gone := false) w H D)
  have ST := Lib.hid (fun w H => hset_any h b rd old hrd w H)
  have ST2 := Lib.hid (fun w H => hset_any { h with c := c } b rd old hrd w H)
  have A := Lib.hid (fun w H D => da_any h b (op := 56) (rd := rd) (r1 := r1) (r2 := r2) (imm := imm) (cs := cs) (ww := ww) (ln := ln) (gone := false) hr1 w H D)
  obtain ⟨cr, hcr⟩ : ∃ cr, cr = ctlH h 56 rd r1 cs ww ln := ⟨_, rfl⟩
  rw [← hcr]
  obtain ⟨v, hv⟩ : ∃ v, v = ctlV h 56 r1 := ⟨_, rfl⟩
  have hvl := ctlV_lt hk 56 hr1
  rw [← hv] at hvl
  have hwv2 : Go.bits .andNot .u32 (old : Int) (v : Int) = (wv : Int) := by rw [hwv, u32c_andNot v hol hvl, hv]; rfl
  have e5 : ∃ q : Int, Go.bits .or .u32 (old : Int) (v : Int) = q := ⟨_, rfl⟩
  obtain ⟨q5, e5⟩ := e5
  have hvx : v = r1 := by rw [hv]; rfl
  have e7 : IntKind.u32.wrap (r1 : Int) = (r1 : Int) := by rw [Go.IntKind.wrap_u32]; omega
  rw [hvx] at e5
  rw [hvx] at hwv2
  have CR := Lib.hid hcr
  have HOLD := Lib.hid hold
  have HWV := Lib.hid hwv
  have HC := Lib.hid hc
  have HRE := Lib.hid hre
  have HWE := Lib.hid hwe
  have hbl := H.2.2
  have S0 := Lib.hid (show CtlS w b h 56 rd r1 r2 imm cs ww ln w from ⟨H, D, Only.refl _ _⟩)
  have HH := Lib.hid H
  have DD := Lib.hid D
  have c42 := D.op
  have c44 := D.r1
  have cf := H.fz
  clear H D hk hcr hold hwv hc hre hwe hwl hol hl hw hv hvl
  obtain ⟨x1, hx1⟩ : ∃ x1, x1 = h.x r1 := ⟨_, rfl⟩
  rw [← hx1] at A
  clear hx1
  go_enter Tryd.func63, Tryd.ntmps63
  go_upto_region 4 with (go_at_call 58; refine (A.out _ (by repeat' (first | (with_reducible exact S0.out.h) | (with_reducible refine HAt.drew1 ?_) | (with_reducible refine HAt.drew ?_ _))) (by repeat' (first | (with_reducible exact S0.out.d) | (with_reducible refine DI.drew1 ?_) | (with_reducible refine DI.drewK ?_ _)))).mono ?_; rintro e w1 ⟨rfl, ka, rfl⟩)
  try simp only [e7]
  refine wp_region_held_drew (S := CtlS w b h 56 rd r1 r2 imm cs ww ln) (by kernel_rfl) (by repeat' (first | (with_reducible exact S0.out) | (with_reducible refine CtlS.drew1 ?_) | (with_reducible refine CtlS.drewK ?_ _))) (fun hHeld => ?_)
  refine wpAnyH_take (i := 0) (v := .pointer (some ⟨b, 0, none⟩)) rfl (by kernel_rfl) (by kernel_rfl) (by kernel_rfl) (fun _ _ _ h => h) (Or.inl ⟨by rfl, ?_⟩) (by assumption) ?_
  · (intro w hSw; clear hSw; go_simp; try first | with_reducible rfl | rfl)
  try simp only [Act.put, List.getElem_toArray, List.getElem_cons_zero, List.getElem_cons_succ, List.setIfInBounds_toArray, List.set_cons_zero, List.set_cons_succ]
  refine wpAnyH_take (i := 1) (v := .pointer (some ⟨b, 0, none⟩)) rfl (by kernel_rfl) (by kernel_rfl) (by kernel_rfl) (fun _ _ _ h => h) (Or.inl ⟨by rfl, ?_⟩) (by assumption) ?_
  · (intro w hSw; clear hSw; go_simp; try first | with_reducible rfl | rfl)
  try simp only [Act.put, List.getElem_toArray, List.getElem_cons_zero, List.getElem_cons_succ, List.setIfInBounds_toArray, List.set_cons_zero, List.set_cons_succ]
  refine wpAnyH_take (i := 2) (v := .pointer (some ⟨b, 0, none⟩)) rfl (by kernel_rfl) (by kernel_rfl) (by kernel_rfl) (fun _ _ _ h => h) (Or.inl ⟨by rfl, ?_⟩) (by assumption) ?_
  · (intro w hSw; clear hSw; go_simp; try first | with_reducible rfl | rfl)
  try simp only [Act.put, List.getElem_toArray, List.getElem_cons_zero, List.getElem_cons_succ, List.setIfInBounds_toArray, List.set_cons_zero, List.set_cons_succ]
  refine wpAnyH_take (i := 3) (v := .pointer (some ⟨b, 34, none⟩)) rfl (by kernel_rfl) (by kernel_rfl) (by kernel_rfl) (fun _ _ _ h => h) (Or.inl ⟨by rfl, ?_⟩) (by assumption) ?_
  · (intro w hSw; clear hSw; go_simp; try first | with_reducible rfl | rfl)
  try simp only [Act.put, List.getElem_toArray, List.getElem_cons_zero, List.getElem_cons_succ, List.setIfInBounds_toArray, List.set_cons_zero, List.set_cons_succ]
  refine wpAnyH_take (i := 4) (v := .agg #[.int .u32 (h.c.status : Nat), .int .u32 (h.c.enable : Nat), .int .u32 (h.c.vector : Nat), .int .u32 (h.c.scratch : Nat), .int .u32 (h.c.epc : Nat), .int .u32 (h.c.cause : Nat), .int .u32 (h.c.value : Nat), .int .u64 (h.c.count : Nat)]) rfl (by kernel_rfl) (by kernel_rfl) (by kernel_rfl) (fun _ _ _ h => h) (Or.inl ⟨by rfl, ?_⟩) (by assumption) ?_
  · (intro w hSw; have q34 : w.cell? ⟨b, 34, none⟩ = some (.int .u32 (h.c.status : Nat)) := hSw.h.1 34 (by decide); have q35 : w.cell? ⟨b, 35, none⟩ = some (.int .u32 (h.c.enable : Nat)) := hSw.h.1 35 (by decide); have q36 : w.cell? ⟨b, 36, none⟩ = some (.int .u32 (h.c.vector : Nat)) := hSw.h.1 36 (by decide); have q37 : w.cell? ⟨b, 37, none⟩ = some (.int .u32 (h.c.scratch : Nat)) := hSw.h.1 37 (by decide); have q38 : w.cell? ⟨b, 38, none⟩ = some (.int .u32 (h.c.epc : Nat)) := hSw.h.1 38 (by decide); have q39 : w.cell? ⟨b, 39, none⟩ = some (.int .u32 (h.c.cause : Nat)) := hSw.h.1 39 (by decide); have q40 : w.cell? ⟨b, 40, none⟩ = some (.int .u32 (h.c.value : Nat)) := hSw.h.1 40 (by decide); have q41 : w.cell? ⟨b, 41, none⟩ = some (.int .u64 (h.c.count : Nat)) := hSw.h.1 41 (by decide); have qf := hSw.h.fz; clear hSw; go_simp; try first | with_reducible rfl | rfl)
  try simp only [Act.put, List.getElem_toArray, List.getElem_cons_zero, List.getElem_cons_succ, List.setIfInBounds_toArray, List.set_cons_zero, List.set_cons_succ]
  refine wpAnyH_take (i := 5) (v := .pointer (some ⟨b, 0, none⟩)) rfl (by kernel_rfl) (by kernel_rfl) (by kernel_rfl) (fun _ _ _ h => h) (Or.inl ⟨by rfl, ?_⟩) (by assumption) ?_
  · (intro w hSw; clear hSw; go_simp; try first | with_reducible rfl | rfl)
  try simp only [Act.put, List.getElem_toArray, List.getElem_cons_zero, List.getElem_cons_succ, List.setIfInBounds_toArray, List.set_cons_zero, List.set_cons_succ]
  refine wpAnyH_take (i := 6) (v := .pointer (some ⟨b, 0, none⟩)) rfl (by kernel_rfl) (by kernel_rfl) (by kernel_rfl) (fun _ _ _ h => h) (Or.inl ⟨by rfl, ?_⟩) (by assumption) ?_
  · (intro w hSw; clear hSw; go_simp; try first | with_reducible rfl | rfl)
  try simp only [Act.put, List.getElem_toArray, List.getElem_cons_zero, List.getElem_cons_succ, List.setIfInBounds_toArray, List.set_cons_zero, List.set_cons_succ]
  refine wpAnyH_take (i := 7) (v := .pointer (some ⟨b, 42, none⟩)) rfl (by kernel_rfl) (by kernel_rfl) (by kernel_rfl) (fun _ _ _ h => h) (Or.inl ⟨by rfl, ?_⟩) (by assumption) ?_
  · (intro w hSw; clear hSw; go_simp; try first | with_reducible rfl | rfl)
  try simp only [Act.put, List.getElem_toArray, List.getElem_cons_zero, List.getElem_cons_succ, List.setIfInBounds_toArray, List.set_cons_zero, List.set_cons_succ]
  refine wpAnyH_take (i := 8) (v := .pointer (some ⟨b, 47, none⟩)) rfl (by kernel_rfl) (by kernel_rfl) (by kernel_rfl) (fun _ _ _ h => h) (Or.inl ⟨by rfl, ?_⟩) (by assumption) ?_
  · (intro w hSw; clear hSw; go_simp; try first | with_reducible rfl | rfl)
  try simp only [Act.put, List.getElem_toArray, List.getElem_cons_zero, List.getElem_cons_succ, List.setIfInBounds_toArray, List.set_cons_zero, List.set_cons_succ]
  refine wpAnyH_take (i := 9) (v := .int .i64 cs) rfl (by kernel_rfl) (by kernel_rfl) (by kernel_rfl) (fun _ _ _ h => h) (Or.inl ⟨by rfl, ?_⟩) (by assumption) ?_
  · (intro w hSw; have q := hSw.d.cs; have qf := hSw.h.fz; clear hSw; go_simp; try first | with_reducible rfl | rfl)
  try simp only [Act.put, List.getElem_toArray, List.getElem_cons_zero, List.getElem_cons_succ, List.setIfInBounds_toArray, List.set_cons_zero, List.set_cons_succ]
  refine wpAnyH_take (i := 10) (v := .pointer (some ⟨b, 0, none⟩)) rfl (by kernel_rfl) (by kernel_rfl) (by kernel_rfl) (fun _ _ _ h => h) (Or.inl ⟨by rfl, ?_⟩) (by assumption) ?_
  · (intro w hSw; clear hSw; go_simp; try first | with_reducible rfl | rfl)
  try simp only [Act.put, List.getElem_toArray, List.getElem_cons_zero, List.getElem_cons_succ, List.setIfInBounds_toArray, List.set_cons_zero, List.set_cons_succ]
  refine wpAnyH_take (i := 11) (v := .pointer (some ⟨b, 0, none⟩)) rfl (by kernel_rfl) (by kernel_rfl) (by kernel_rfl) (fun _ _ _ h => h) (Or.inl ⟨by rfl, ?_⟩) (by assumption) ?_
  · (intro w hSw; clear hSw; go_simp; try first | with_reducible rfl | rfl)
  try simp only [Act.put, List.getElem_toArray, List.getElem_cons_zero, List.getElem_cons_succ, List.setIfInBounds_toArray, List.set_cons_zero, List.set_cons_succ]
  refine wpAnyH_take (i := 12) (v := .pointer (some ⟨b, 49, none⟩)) rfl (by kernel_rfl) (by kernel_rfl) (by kernel_rfl) (fun _ _ _ h => h) (Or.inl ⟨by rfl, ?_⟩) (by assumption) ?_
  · (intro w hSw; clear hSw; go_simp; try first | with_reducible rfl | rfl)
  try simp only [Act.put, List.getElem_toArray, List.getElem_cons_zero, List.getElem_cons_succ, List.setIfInBounds_toArray, List.set_cons_zero, List.set_cons_succ]
  refine wpAnyH_take (i := 13) (v := .int .u32 (ln : Nat)) rfl (by kernel_rfl) (by kernel_rfl) (by kernel_rfl) (fun _ _ _ h => h) (Or.inl ⟨by rfl, ?_⟩) (by assumption) ?_
  · (intro w hSw; have q := hSw.d.ln; have qf := hSw.h.fz; clear hSw; go_simp; try first | with_reducible rfl | rfl)
  try simp only [Act.put, List.getElem_toArray, List.getElem_cons_zero, List.getElem_cons_succ, List.setIfInBounds_toArray, List.set_cons_zero, List.set_cons_succ]
  have hS0 := hHeld
  clear hHeld c42 c44 cf
  generalize World.drew _ = w0 at *
  refine wpAnyH_ready (rs := [14]) (by kernel_rfl) (by simp) ?_
  refine AllReadyH.cons rfl (fun K14 hK14 => ?_) AllReadyH.nil
  go_simp
  go_at_call 77
  refine (RD.out _).mono ?_
  rintro e w1 ⟨rfl, hb1⟩
  refine hK14.out _ _ (hS0.below hb1) (fun hS1 => ?_)
  try simp only [Act.put, List.getElem_toArray, List.getElem_cons_zero, List.getElem_cons_succ, List.setIfInBounds_toArray, List.set_cons_zero, List.set_cons_succ]
  clear hb1 hS0
  refine wpAnyH_take (i := 15) (v := .tuple #[.int .u32 (old : Nat), re]) rfl (by kernel_rfl) (by kernel_rfl) (by kernel_rfl) (fun _ _ _ h => h) (Or.inl ⟨by rfl, ?_⟩) (by assumption) ?_
  · (intro w hSw; clear hSw; go_simp; try first | with_reducible rfl | rfl)
  try simp only [Act.put, List.getElem_toArray, List.getElem_cons_zero, List.getElem_cons_succ, List.setIfInBounds_toArray, List.set_cons_zero, List.set_cons_succ]
  refine wpAnyH_take (i := 16) (v := .int .u32 (old : Nat)) rfl (by kernel_rfl) (by kernel_rfl) (by kernel_rfl) (fun _ _ _ h => h) (Or.inl ⟨by rfl, ?_⟩) (by assumption) ?_
  · (intro w hSw; clear hSw; go_simp; try first | with_reducible rfl | rfl)
  try simp only [Act.put, List.getElem_toArray, List.getElem_cons_zero, List.getElem_cons_succ, List.setIfInBounds_toArray, List.set_cons_zero, List.set_cons_succ]
  refine wpAnyH_take (i := 17) (v := re) rfl (by kernel_rfl) (by kernel_rfl) (by kernel_rfl) (fun _ _ _ h => h) (Or.inl ⟨by rfl, ?_⟩) (by assumption) ?_
  · (intro w hSw; clear hSw; go_simp; try first | with_reducible rfl | rfl)
  try simp only [Act.put, List.getElem_toArray, List.getElem_cons_zero, List.getElem_cons_succ, List.setIfInBounds_toArray, List.set_cons_zero, List.set_cons_succ]
  refine wpAnyH_take (i := 18) (v := .int .u32 (old : Nat)) rfl (by kernel_rfl) (by kernel_rfl) (by kernel_rfl) (fun _ _ _ h => h) (Or.inl ⟨by rfl, ?_⟩) (by assumption) ?_
  · (intro w hSw; clear hSw; go_simp; try first | with_reducible rfl | rfl)
  try simp only [Act.put, List.getElem_toArray, List.getElem_cons_zero, List.getElem_cons_succ, List.setIfInBounds_toArray, List.set_cons_zero, List.set_cons_succ]
  refine wpAnyH_take (i := 19) (v := re) rfl (by kernel_rfl) (by kernel_rfl) (by kernel_rfl) (fun _ _ _ h => h) (Or.inl ⟨by rfl, ?_⟩) (by assumption) ?_
  · (intro w hSw; clear hSw; go_simp; try first | with_reducible rfl | rfl)
  try simp only [Act.put, List.getElem_toArray, List.getElem_cons_zero, List.getElem_cons_succ, List.setIfInBounds_toArray, List.set_cons_zero, List.set_cons_succ]
  refine wpAnyH_done (by kernel_rfl) ?_ _
  have c34 : w1.cell? ⟨b, 34, none⟩ = some (.int .u32 (h.c.status : Nat)) := hS1.h.1 34 (by decide)
  have c35 : w1.cell? ⟨b, 35, none⟩ = some (.int .u32 (h.c.enable : Nat)) := hS1.h.1 35 (by decide)
  have c36 : w1.cell? ⟨b, 36, none⟩ = some (.int .u32 (h.c.vector : Nat)) := hS1.h.1 36 (by decide)
  have c37 : w1.cell? ⟨b, 37, none⟩ = some (.int .u32 (h.c.scratch : Nat)) := hS1.h.1 37 (by decide)
  have c38 : w1.cell? ⟨b, 38, none⟩ = some (.int .u32 (h.c.epc : Nat)) := hS1.h.1 38 (by decide)
  have c39 : w1.cell? ⟨b, 39, none⟩ = some (.int .u32 (h.c.cause : Nat)) := hS1.h.1 39 (by decide)
  have c40 : w1.cell? ⟨b, 40, none⟩ = some (.int .u32 (h.c.value : Nat)) := hS1.h.1 40 (by decide)
  have c41 : w1.cell? ⟨b, 41, none⟩ = some (.int .u64 (h.c.count : Nat)) := hS1.h.1 41 (by decide)
  have c42 := hS1.d.op
  have c43 := hS1.d.rd
  have c44 := hS1.d.r1
  have c47 := hS1.d.cs
  have c48 := hS1.d.ww
  have c49 := hS1.d.ln
  have cf := hS1.h.fz
  have SK := Lib.hid hS1
  clear hS1
  rcases HRE.out with ⟨hn, rfl⟩ | ⟨hn, rfl⟩
  · by_cases h0d : r1 = 0
    · subst h0d
      go_upto_region 12 with (fail)
      clear c34 c35 c36 c37 c38 c39 c40 c41 c42 c44 c47 c48 c49
      refine wp_region_held_drew (S := fun w' => w'.cell? ⟨b, 43, none⟩ = some (.int .i64 rd) ∧ w'.frozen? ⟨b, 43, none⟩ = false) (by kernel_rfl) ⟨c43, cf 43⟩ (fun hHeld => ?_)
      refine wpAnyH_take (i := 0) (v := .pointer (some ⟨b, 0, none⟩)) rfl (by kernel_rfl) (by kernel_rfl) (by kernel_rfl) (fun _ _ _ h => h) (Or.inl ⟨by rfl, ?_⟩) (by assumption) ?_
      · (intro w hSw; clear hSw; go_simp; try first | with_reducible rfl | rfl)
      try simp only [Act.put, List.getElem_toArray, List.getElem_cons_zero, List.getElem_cons_succ, List.setIfInBounds_toArray, List.set_cons_zero, List.set_cons_succ]
      refine wpAnyH_take (i := 1) (v := .pointer (some ⟨b, 0, none⟩)) rfl (by kernel_rfl) (by kernel_rfl) (by kernel_rfl) (fun _ _ _ h => h) (Or.inl ⟨by rfl, ?_⟩) (by assumption) ?_
      · (intro w hSw; clear hSw; go_simp; try first | with_reducible rfl | rfl)
      try simp only [Act.put, List.getElem_toArray, List.getElem_cons_zero, List.getElem_cons_succ, List.setIfInBounds_toArray, List.set_cons_zero, List.set_cons_succ]
      refine wpAnyH_take (i := 2) (v := .pointer (some ⟨b, 0, none⟩)) rfl (by kernel_rfl) (by kernel_rfl) (by kernel_rfl) (fun _ _ _ h => h) (Or.inl ⟨by rfl, ?_⟩) (by assumption) ?_
      · (intro w hSw; clear hSw; go_simp; try first | with_reducible rfl | rfl)
      try simp only [Act.put, List.getElem_toArray, List.getElem_cons_zero, List.getElem_cons_succ, List.setIfInBounds_toArray, List.set_cons_zero, List.set_cons_succ]
      refine wpAnyH_take (i := 3) (v := .pointer (some ⟨b, 0, none⟩)) rfl (by kernel_rfl) (by kernel_rfl) (by kernel_rfl) (fun _ _ _ h => h) (Or.inl ⟨by rfl, ?_⟩) (by assumption) ?_
      · (intro w hSw; clear hSw; go_simp; try first | with_reducible rfl | rfl)
      try simp only [Act.put, List.getElem_toArray, List.getElem_cons_zero, List.getElem_cons_succ, List.setIfInBounds_toArray, List.set_cons_zero, List.set_cons_succ]
      refine wpAnyH_take (i := 4) (v := .pointer (some ⟨b, 0, none⟩)) rfl (by kernel_rfl) (by kernel_rfl) (by kernel_rfl) (fun _ _ _ h => h) (Or.inl ⟨by rfl, ?_⟩) (by assumption) ?_
      · (intro w hSw; clear hSw; go_simp; try first | with_reducible rfl | rfl)
      try simp only [Act.put, List.getElem_toArray, List.getElem_cons_zero, List.getElem_cons_succ, List.setIfInBounds_toArray, List.set_cons_zero, List.set_cons_succ]
      refine wpAnyH_take (i := 5) (v := .pointer (some ⟨b, 42, none⟩)) rfl (by kernel_rfl) (by kernel_rfl) (by kernel_rfl) (fun _ _ _ h => h) (Or.inl ⟨by rfl, ?_⟩) (by assumption) ?_
      · (intro w hSw; clear hSw; go_simp; try first | with_reducible rfl | rfl)
      try simp only [Act.put, List.getElem_toArray, List.getElem_cons_zero, List.getElem_cons_succ, List.setIfInBounds_toArray, List.set_cons_zero, List.set_cons_succ]
      refine wpAnyH_take (i := 6) (v := .pointer (some ⟨b, 43, none⟩)) rfl (by kernel_rfl) (by kernel_rfl) (by kernel_rfl) (fun _ _ _ h => h) (Or.inl ⟨by rfl, ?_⟩) (by assumption) ?_
      · (intro w hSw; clear hSw; go_simp; try first | with_reducible rfl | rfl)
      try simp only [Act.put, List.getElem_toArray, List.getElem_cons_zero, List.getElem_cons_succ, List.setIfInBounds_toArray, List.set_cons_zero, List.set_cons_succ]
      refine wpAnyH_take (i := 7) (v := .int .i64 rd) rfl (by kernel_rfl) (by kernel_rfl) (by kernel_rfl) (fun _ _ _ h => h) (Or.inl ⟨by rfl, ?_⟩) (by assumption) ?_
      · (intro w hSw; have q1 := hSw.1; have qf := hSw.2; clear hSw; go_simp; try first | with_reducible rfl | rfl)
      try simp only [Act.put, List.getElem_toArray, List.getElem_cons_zero, List.getElem_cons_succ, List.setIfInBounds_toArray, List.set_cons_zero, List.set_cons_succ]
      refine wpAnyH_take (i := 8) (v := .int .u32 (old : Nat)) rfl (by kernel_rfl) (by kernel_rfl) (by kernel_rfl) (fun _ _ _ h => h) (Or.inl ⟨by rfl, ?_⟩) (by assumption) ?_
      · (intro w hSw; clear hSw; go_simp; try first | with_reducible rfl | rfl)
      try simp only [Act.put, List.getElem_toArray, List.getElem_cons_zero, List.getElem_cons_succ, List.setIfInBounds_toArray, List.set_cons_zero, List.set_cons_succ]
      have SX := Lib.hid (CtlS.drew1 SK.out)
      clear hHeld c43 cf
      generalize World.drew _ = wz at *
      refine wpAnyH_ready (rs := [9]) (by kernel_rfl) (by simp) ?_
      refine AllReadyH.cons rfl (fun K9 hK9 => ?_) AllReadyH.nil
      go_simp
      go_at_call 39
      refine (ST.out _ SX.out.h).mono ?_
      rintro e w3 ⟨rfl, h3, o3⟩
      have H3 := Lib.hid h3
      have D3 := Lib.hid (DI.only SX.out.d o3)
      have O3 := Lib.hid (OnlyD.trans SX.out.o.d o3.d)
      refine hK9.out _ _ ⟨D3.out.rd, h3.fz 43⟩ (fun _ => ?_)
      try simp only [Act.put, List.getElem_toArray, List.getElem_cons_zero, List.getElem_cons_succ, List.setIfInBounds_toArray, List.set_cons_zero, List.set_cons_succ]
      clear h3 o3
      refine wpAnyH_done (by kernel_rfl) ?_ _
      (try go_wp2_with fail)
      rw [show cr = _ from CR.out.trans (ctl_set HOLD.out (fun q => hn q.1) (fun q => q.elim (fun z => (show ¬ (56 - 51) % 3 = 0 by decide) z) (fun z => z rfl)))]
      exact post_none (by kernel_rfl) rfl ⟨rfl, H3.out, D3.out, O3.out⟩
    · have f1 : ((r1 : Int) == 0) = false := by simp; omega
      have f2 : ¬ (r1 : Int) = 0 := by omega
      have f3 : ((r1 : Int) != 0) = true := by simp; omega
      go_upto_region 8 with (fail)
      go_cut [6, 7] (fun x y w' => ∃ N, x = .pointer (some ⟨N, 0, none⟩) ∧ y = we ∧ w.heap.size ≤ N ∧ CtlS w b h 56 rd r1 r2 imm cs ww ln w' ∧ w'.heap[N]? = some (.cells #[.int .u32 (c.status : Nat), .int .u32 (c.enable : Nat), .int .u32 (c.vector : Nat), .int .u32 (c.scratch : Nat), .int .u32 (c.epc : Nat), .int .u32 (c.cause : Nat), .int .u32 (c.value : Nat), .int .u64 (c.count : Nat)] 42 (0, 0)))
      case first =>
        refine wp_region_held_drew (S := CtlS w b h 56 rd r1 r2 imm cs ww ln) (by kernel_rfl) (by repeat' (first | (with_reducible exact SK.out) | (with_reducible refine CtlS.drew1 ?_) | (with_reducible refine CtlS.drewK ?_ _))) (fun hHeld => ?_)
        refine wpAnyH_take (i := 0) (v := .pointer (some ⟨b, 0, none⟩)) rfl (by kernel_rfl) (by kernel_rfl) (by kernel_rfl) (fun _ _ _ h => h) (Or.inl ⟨by rfl, ?_⟩) (by assumption) ?_
        · (intro w hSw; clear hSw; go_simp; try first | with_reducible rfl | rfl)
        try simp only [Act.put, List.getElem_toArray, List.getElem_cons_zero, List.getElem_cons_succ, List.setIfInBounds_toArray, List.set_cons_zero, List.set_cons_succ]
        refine wpAnyH_take (i := 1) (v := .pointer (some ⟨b, 0, none⟩)) rfl (by kernel_rfl) (by kernel_rfl) (by kernel_rfl) (fun _ _ _ h => h) (Or.inl ⟨by rfl, ?_⟩) (by assumption) ?_
        · (intro w hSw; clear hSw; go_simp; try first | with_reducible rfl | rfl)
        try simp only [Act.put, List.getElem_toArray, List.getElem_cons_zero, List.getElem_cons_succ, List.setIfInBounds_toArray, List.set_cons_zero, List.set_cons_succ]
        refine wpAnyH_take (i := 2) (v := .pointer (some ⟨b, 0, none⟩)) rfl (by kernel_rfl) (by kernel_rfl) (by kernel_rfl) (fun _ _ _ h => h) (Or.inl ⟨by rfl, ?_⟩) (by assumption) ?_
        · (intro w hSw; clear hSw; go_simp; try first | with_reducible rfl | rfl)
        try simp only [Act.put, List.getElem_toArray, List.getElem_cons_zero, List.getElem_cons_succ, List.setIfInBounds_toArray, List.set_cons_zero, List.set_cons_succ]
        refine wpAnyH_take (i := 3) (v := .pointer (some ⟨b, 34, none⟩)) rfl (by kernel_rfl) (by kernel_rfl) (by kernel_rfl) (fun _ _ _ h => h) (Or.inl ⟨by rfl, ?_⟩) (by assumption) ?_
        · (intro w hSw; clear hSw; go_simp; try first | with_reducible rfl | rfl)
        try simp only [Act.put, List.getElem_toArray, List.getElem_cons_zero, List.getElem_cons_succ, List.setIfInBounds_toArray, List.set_cons_zero, List.set_cons_succ]
        refine wpAnyH_take (i := 4) (v := .agg #[.int .u32 (h.c.status : Nat), .int .u32 (h.c.enable : Nat), .int .u32 (h.c.vector : Nat), .int .u32 (h.c.scratch : Nat), .int .u32 (h.c.epc : Nat), .int .u32 (h.c.cause : Nat), .int .u32 (h.c.value : Nat), .int .u64 (h.c.count : Nat)]) rfl (by kernel_rfl) (by kernel_rfl) (by kernel_rfl) (fun _ _ _ h => h) (Or.inl ⟨by rfl, ?_⟩) (by assumption) ?_
        · (intro w hSw; have q34 : w.cell? ⟨b, 34, none⟩ = some (.int .u32 (h.c.status : Nat)) := hSw.h.1 34 (by decide); have q35 : w.cell? ⟨b, 35, none⟩ = some (.int .u32 (h.c.enable : Nat)) := hSw.h.1 35 (by decide); have q36 : w.cell? ⟨b, 36, none⟩ = some (.int .u32 (h.c.vector : Nat)) := hSw.h.1 36 (by decide); have q37 : w.cell? ⟨b, 37, none⟩ = some (.int .u32 (h.c.scratch : Nat)) := hSw.h.1 37 (by decide); have q38 : w.cell? ⟨b, 38, none⟩ = some (.int .u32 (h.c.epc : Nat)) := hSw.h.1 38 (by decide); have q39 : w.cell? ⟨b, 39, none⟩ = some (.int .u32 (h.c.cause : Nat)) := hSw.h.1 39 (by decide); have q40 : w.cell? ⟨b, 40, none⟩ = some (.int .u32 (h.c.value : Nat)) := hSw.h.1 40 (by decide); have q41 : w.cell? ⟨b, 41, none⟩ = some (.int .u64 (h.c.count : Nat)) := hSw.h.1 41 (by decide); have qf := hSw.h.fz; clear hSw; go_simp; try first | with_reducible rfl | rfl)
        try simp only [Act.put, List.getElem_toArray, List.getElem_cons_zero, List.getElem_cons_succ, List.setIfInBounds_toArray, List.set_cons_zero, List.set_cons_succ]
        refine wpAnyH_take (i := 5) (v := .pointer (some ⟨b, 0, none⟩)) rfl (by kernel_rfl) (by kernel_rfl) (by kernel_rfl) (fun _ _ _ h => h) (Or.inl ⟨by rfl, ?_⟩) (by assumption) ?_
        · (intro w hSw; clear hSw; go_simp; try first | with_reducible rfl | rfl)
        try simp only [Act.put, List.getElem_toArray, List.getElem_cons_zero, List.getElem_cons_succ, List.setIfInBounds_toArray, List.set_cons_zero, List.set_cons_succ]
        refine wpAnyH_take (i := 6) (v := .pointer (some ⟨b, 0, none⟩)) rfl (by kernel_rfl) (by kernel_rfl) (by kernel_rfl) (fun _ _ _ h => h) (Or.inl ⟨by rfl, ?_⟩) (by assumption) ?_
        · (intro w hSw; clear hSw; go_simp; try first | with_reducible rfl | rfl)
        try simp only [Act.put, List.getElem_toArray, List.getElem_cons_zero, List.getElem_cons_succ, List.setIfInBounds_toArray, List.set_cons_zero, List.set_cons_succ]
        refine wpAnyH_take (i := 7) (v := .pointer (some ⟨b, 42, none⟩)) rfl (by kernel_rfl) (by kernel_rfl) (by kernel_rfl) (fun _ _ _ h => h) (Or.inl ⟨by rfl, ?_⟩) (by assumption) ?_
        · (intro w hSw; clear hSw; go_simp; try first | with_reducible rfl | rfl)
        try simp only [Act.put, List.getElem_toArray, List.getElem_cons_zero, List.getElem_cons_succ, List.setIfInBounds_toArray, List.set_cons_zero, List.set_cons_succ]
        refine wpAnyH_take (i := 8) (v := .pointer (some ⟨b, 47, none⟩)) rfl (by kernel_rfl) (by kernel_rfl) (by kernel_rfl) (fun _ _ _ h => h) (Or.inl ⟨by rfl, ?_⟩) (by assumption) ?_
        · (intro w hSw; clear hSw; go_simp; try first | with_reducible rfl | rfl)
        try simp only [Act.put, List.getElem_toArray, List.getElem_cons_zero, List.getElem_cons_succ, List.setIfInBounds_toArray, List.set_cons_zero, List.set_cons_succ]
        refine wpAnyH_take (i := 9) (v := .int .i64 cs) rfl (by kernel_rfl) (by kernel_rfl) (by kernel_rfl) (fun _ _ _ h => h) (Or.inl ⟨by rfl, ?_⟩) (by assumption) ?_
        · (intro w hSw; have q := hSw.d.cs; have qf := hSw.h.fz; clear hSw; go_simp; try first | with_reducible rfl | rfl)
        try simp only [Act.put, List.getElem_toArray, List.getElem_cons_zero, List.getElem_cons_succ, List.setIfInBounds_toArray, List.set_cons_zero, List.set_cons_succ]
        refine wpAnyH_take (i := 10) (v := .int .u32 (r1 : Nat)) rfl (by kernel_rfl) (by kernel_rfl) (by kernel_rfl) (fun _ _ _ h => h) (Or.inl ⟨by rfl, ?_⟩) (by assumption) ?_
        · (intro w hSw; clear hSw; go_simp; try first | with_reducible rfl | rfl)
        try simp only [Act.put, List.getElem_toArray, List.getElem_cons_zero, List.getElem_cons_succ, List.setIfInBounds_toArray, List.set_cons_zero, List.set_cons_succ]
        refine wpAnyH_take (i := 11) (v := .int .u32 (old : Nat)) rfl (by kernel_rfl) (by kernel_rfl) (by kernel_rfl) (fun _ _ _ h => h) (Or.inl ⟨by rfl, ?_⟩) (by assumption) ?_
        · (intro w hSw; clear hSw; go_simp; try first | with_reducible rfl | rfl)
        try simp only [Act.put, List.getElem_toArray, List.getElem_cons_zero, List.getElem_cons_succ, List.setIfInBounds_toArray, List.set_cons_zero, List.set_cons_succ]
        refine wpAnyH_take (i := 12) (v := .int .u32 (r1 : Nat)) rfl (by kernel_rfl) (by kernel_rfl) (by kernel_rfl) (fun _ _ _ h => h) (Or.inl ⟨by rfl, ?_⟩) (by assumption) ?_
        · (intro w hSw; clear hSw; go_simp; try first | with_reducible rfl | rfl)
        try simp only [Act.put, List.getElem_toArray, List.getElem_cons_zero, List.getElem_cons_succ, List.setIfInBounds_toArray, List.set_cons_zero, List.set_cons_succ]
        refine wpAnyH_take (i := 13) (v := .int .u32 q5) rfl (by kernel_rfl) (by kernel_rfl) (by kernel_rfl) (fun _ _ _ h => h) (Or.inl ⟨by rfl, ?_⟩) (by assumption) ?_
        · (intro w hSw; clear hSw; go_simp; try first | with_reducible rfl | rfl)
        try simp only [Act.put, List.getElem_toArray, List.getElem_cons_zero, List.getElem_cons_succ, List.setIfInBounds_toArray, List.set_cons_zero, List.set_cons_succ]
        refine wpAnyH_take (i := 14) (v := .int .u32 (old : Nat)) rfl (by kernel_rfl) (by kernel_rfl) (by kernel_rfl) (fun _ _ _ h => h) (Or.inl ⟨by rfl, ?_⟩) (by assumption) ?_
        · (intro w hSw; clear hSw; go_simp; try first | with_reducible rfl | rfl)
        try simp only [Act.put, List.getElem_toArray, List.getElem_cons_zero, List.getElem_cons_succ, List.setIfInBounds_toArray, List.set_cons_zero, List.set_cons_succ]
        refine wpAnyH_take (i := 15) (v := .int .u32 (r1 : Nat)) rfl (by kernel_rfl) (by kernel_rfl) (by kernel_rfl) (fun _ _ _ h => h) (Or.inl ⟨by rfl, ?_⟩) (by assumption) ?_
        · (intro w hSw; clear hSw; go_simp; try first | with_reducible rfl | rfl)
        try simp only [Act.put, List.getElem_toArray, List.getElem_cons_zero, List.getElem_cons_succ, List.setIfInBounds_toArray, List.set_cons_zero, List.set_cons_succ]
        refine wpAnyH_take (i := 16) (v := .int .u32 (wv : Nat)) rfl (by kernel_rfl) (by kernel_rfl) (by kernel_rfl) (fun _ _ _ h => h) (Or.inl ⟨by rfl, ?_⟩) (by assumption) ?_
        · (intro w hSw; clear hSw; go_simp; try first | with_reducible rfl | rfl)
        try simp only [Act.put, List.getElem_toArray, List.getElem_cons_zero, List.getElem_cons_succ, List.setIfInBounds_toArray, List.set_cons_zero, List.set_cons_succ]
        refine wpAnyH_take (i := 17) (v := .agg #[.int .u32 (r1 : Nat), .int .u32 q5, .int .u32 (wv : Nat)]) rfl (by kernel_rfl) (by kernel_rfl) (by kernel_rfl) (fun _ _ _ h => h) (Or.inl ⟨by rfl, ?_⟩) (by assumption) ?_
        · (intro w hSw; clear hSw; go_simp; try first | with_reducible rfl | rfl)
        try simp only [Act.put, List.getElem_toArray, List.getElem_cons_zero, List.getElem_cons_succ, List.setIfInBounds_toArray, List.set_cons_zero, List.set_cons_succ]
        refine wpAnyH_take (i := 18) (v := .int .i64 2) rfl (by kernel_rfl) (by kernel_rfl) (by kernel_rfl) (fun _ _ _ h => h) (Or.inl ⟨by rfl, ?_⟩) (by assumption) ?_
        · (intro w hSw; clear hSw; go_simp; try first | with_reducible rfl | rfl)
        try simp only [Act.put, List.getElem_toArray, List.getElem_cons_zero, List.getElem_cons_succ, List.setIfInBounds_toArray, List.set_cons_zero, List.set_cons_succ]
        refine wpAnyH_take (i := 19) (v := .int .u32 (wv : Nat)) rfl (by kernel_rfl) (by kernel_rfl) (by kernel_rfl) (fun _ _ _ h => h) (Or.inl ⟨by rfl, ?_⟩) (by assumption) ?_
        · (intro w hSw; clear hSw; go_simp; try first | with_reducible rfl | rfl)
        try simp only [Act.put, List.getElem_toArray, List.getElem_cons_zero, List.getElem_cons_succ, List.setIfInBounds_toArray, List.set_cons_zero, List.set_cons_succ]
        have hS0 := hHeld
        clear hHeld c34 c35 c36 c37 c38 c39 c40 c41 c42 c43 c44 c47 c48 c49 cf
        generalize World.drew _ = wa at *
        refine wpAnyH_ready (rs := [20, 24]) (by kernel_rfl) (by simp) ?_
        refine AllReadyH.cons rfl (fun K20 hK20 => ?_) (AllReadyH.cons rfl (fun K24 hK24 => ?_) AllReadyH.nil)
        ·
          go_simp
          go_at_call 78
          refine (WR.out _).mono ?_
          rintro e wb ⟨rfl, hbwb⟩
          refine hK20.out _ _ (hS0.below hbwb) (fun hS1 => ?_)
          try simp only [Act.put, List.getElem_toArray, List.getElem_cons_zero, List.getElem_cons_succ, List.setIfInBounds_toArray, List.set_cons_zero, List.set_cons_succ]
          clear hbwb
          refine wpAnyH_take (i := 21) (v := .tuple #[.agg #[.int .u32 (c.status : Nat), .int .u32 (c.enable : Nat), .int .u32 (c.vector : Nat), .int .u32 (c.scratch : Nat), .int .u32 (c.epc : Nat), .int .u32 (c.cause : Nat), .int .u32 (c.value : Nat), .int .u64 (c.count : Nat)], we]) rfl (by kernel_rfl) (by kernel_rfl) (by kernel_rfl) (fun _ _ _ h => h) (Or.inl ⟨by rfl, ?_⟩) (by assumption) ?_
          · (intro w hSw; clear hSw; go_simp; try first | with_reducible rfl | rfl)
          try simp only [Act.put, List.getElem_toArray, List.getElem_cons_zero, List.getElem_cons_succ, List.setIfInBounds_toArray, List.set_cons_zero, List.set_cons_succ]
          refine wpAnyH_take (i := 22) (v := .agg #[.int .u32 (c.status : Nat), .int .u32 (c.enable : Nat), .int .u32 (c.vector : Nat), .int .u32 (c.scratch : Nat), .int .u32 (c.epc : Nat), .int .u32 (c.cause : Nat), .int .u32 (c.value : Nat), .int .u64 (c.count : Nat)]) rfl (by kernel_rfl) (by kernel_rfl) (by kernel_rfl) (fun _ _ _ h => h) (Or.inl ⟨by rfl, ?_⟩) (by assumption) ?_
          · (intro w hSw; clear hSw; go_simp; try first | with_reducible rfl | rfl)
          try simp only [Act.put, List.getElem_toArray, List.getElem_cons_zero, List.getElem_cons_succ, List.setIfInBounds_toArray, List.set_cons_zero, List.set_cons_succ]
          refine wpAnyH_take (i := 23) (v := we) rfl (by kernel_rfl) (by kernel_rfl) (by kernel_rfl) (fun _ _ _ h => h) (Or.inl ⟨by rfl, ?_⟩) (by assumption) ?_
          · (intro w hSw; clear hSw; go_simp; try first | with_reducible rfl | rfl)
          try simp only [Act.put, List.getElem_toArray, List.getElem_cons_zero, List.getElem_cons_succ, List.setIfInBounds_toArray, List.set_cons_zero, List.set_cons_succ]
          refine wpAnyH_ready (rs := [24]) (by kernel_rfl) (by simp) ?_
          refine AllReadyH.cons rfl (fun K24b hK24b => ?_) AllReadyH.nil
          refine wp_runK2 (.pointer (some ⟨wb.heap.size, 0, none⟩)) (wb.alloc (.cells #[.int .u32 0, .int .u32 0, .int .u32 0, .int .u32 0, .int .u32 0, .int .u32 0, .int .u32 0, .int .u64 0] 42)) (by kernel_rfl) ?_
          have y1 := heap_alloc_new wb (.cells #[.int .u32 0, .int .u32 0, .int .u32 0, .int .u32 0, .int .u32 0, .int .u32 0, .int .u32 0, .int .u64 0] 42)
          have bb : Below wb.heap.size wb (wb.alloc (.cells #[.int .u32 0, .int .u32 0, .int .u32 0, .int .u32 0, .int .u32 0, .int .u32 0, .int .u32 0, .int .u64 0] 42)) := (Below.refl _ _).alloc (Nat.le_refl _) _
          have nT : w.heap.size ≤ wb.heap.size := hS1.o.below.size
          refine hK24b.out _ _ (hS1.below bb) (fun hS2 => ?_)
          try simp only [Act.put, List.getElem_toArray, List.getElem_cons_zero, List.getElem_cons_succ, List.setIfInBounds_toArray, List.set_cons_zero, List.set_cons_succ]
          generalize wb.alloc (.cells #[.int .u32 0, .int .u32 0, .int .u32 0, .int .u32 0, .int .u32 0, .int .u32 0, .int .u32 0, .int .u64 0] 42) = wd at *
          clear bb
          obtain ⟨N, hN⟩ : ∃ N, N = wb.heap.size := ⟨_, rfl⟩
          rw [← hN] at y1 nT ⊢
          clear hN
          refine wpAnyH_ready (rs := [25]) (by kernel_rfl) (by simp) ?_
          refine AllReadyH.cons rfl (fun K25 hK25 => ?_) AllReadyH.nil
          refine wp_store_row 42 _ _ rfl N _ rfl rfl _ _ y1 (by kernel_rfl) rfl (by kernel_rfl) ?_
          refine hK25.out _ _ (hS2.setRow nT hbl _) (fun hSf => ?_)
          try simp only [Act.put, List.getElem_toArray, List.getElem_cons_zero, List.getElem_cons_succ, List.setIfInBounds_toArray, List.set_cons_zero, List.set_cons_succ]
          refine wpAnyH_take (i := 26) (v := we) rfl (by kernel_rfl) (by kernel_rfl) (by kernel_rfl) (fun _ _ _ h => h) (Or.inl ⟨by rfl, ?_⟩) (by assumption) ?_
          · (intro w hSw; clear hSw; go_simp; try first | with_reducible rfl | rfl)
          try simp only [Act.put, List.getElem_toArray, List.getElem_cons_zero, List.getElem_cons_succ, List.setIfInBounds_toArray, List.set_cons_zero, List.set_cons_succ]
          refine wpAnyH_done (by kernel_rfl) ?_ _
          (try go_wp2_with fail)
          go_meet
          exact ⟨N, rfl, rfl, nT, hSf, setRow_heap _ _ _ _ _ _ y1⟩
        ·
          refine wp_runK2 (.pointer (some ⟨wa.heap.size, 0, none⟩)) (wa.alloc (.cells #[.int .u32 0, .int .u32 0, .int .u32 0, .int .u32 0, .int .u32 0, .int .u32 0, .int .u32 0, .int .u64 0] 42)) (by kernel_rfl) ?_
          have y1 := heap_alloc_new wa (.cells #[.int .u32 0, .int .u32 0, .int .u32 0, .int .u32 0, .int .u32 0, .int .u32 0, .int .u32 0, .int .u64 0] 42)
          have bb : Below wa.heap.size wa (wa.alloc (.cells #[.int .u32 0, .int .u32 0, .int .u32 0, .int .u32 0, .int .u32 0, .int .u32 0, .int .u32 0, .int .u64 0] 42)) := (Below.refl _ _).alloc (Nat.le_refl _) _
          have nT : w.heap.size ≤ wa.heap.size := hS0.o.below.size
          refine hK24.out _ _ (hS0.below bb) (fun hS1 => ?_)
          try simp only [Act.put, List.getElem_toArray, List.getElem_cons_zero, List.getElem_cons_succ, List.setIfInBounds_toArray, List.set_cons_zero, List.set_cons_succ]
          generalize wa.alloc (.cells #[.int .u32 0, .int .u32 0, .int .u32 0, .int .u32 0, .int .u32 0, .int .u32 0, .int .u32 0, .int .u64 0] 42) = wb at *
          clear bb
          obtain ⟨N, hN⟩ : ∃ N, N = wa.heap.size := ⟨_, rfl⟩
          rw [← hN] at y1 nT ⊢
          clear hN
          refine wpAnyH_ready (rs := [20]) (by kernel_rfl) (by simp) ?_
          refine AllReadyH.cons rfl (fun K20b hK20b => ?_) AllReadyH.nil
          go_simp
          go_at_call 78
          refine (WR.out _).mono ?_
          rintro e wd ⟨rfl, hbwd⟩
          refine hK20b.out _ _ (hS1.below hbwd) (fun hS2 => ?_)
          try simp only [Act.put, List.getElem_toArray, List.getElem_cons_zero, List.getElem_cons_succ, List.setIfInBounds_toArray, List.set_cons_zero, List.set_cons_succ]
          have y2 := (hbwd.block _ (heap_lt y1)).trans y1
          clear hbwd
          refine wpAnyH_take (i := 21) (v := .tuple #[.agg #[.int .u32 (c.status : Nat), .int .u32 (c.enable : Nat), .int .u32 (c.vector : Nat), .int .u32 (c.scratch : Nat), .int .u32 (c.epc : Nat), .int .u32 (c.cause : Nat), .int .u32 (c.value : Nat), .int .u64 (c.count : Nat)], we]) rfl (by kernel_rfl) (by kernel_rfl) (by kernel_rfl) (fun _ _ _ h => h) (Or.inl ⟨by rfl, ?_⟩) (by assumption) ?_
          · (intro w hSw; clear hSw; go_simp; try first | with_reducible rfl | rfl)
          try simp only [Act.put, List.getElem_toArray, List.getElem_cons_zero, List.getElem_cons_succ, List.setIfInBounds_toArray, List.set_cons_zero, List.set_cons_succ]
          refine wpAnyH_take (i := 22) (v := .agg #[.int .u32 (c.status : Nat), .int .u32 (c.enable : Nat), .int .u32 (c.vector : Nat), .int .u32 (c.scratch : Nat), .int .u32 (c.epc : Nat), .int .u32 (c.cause : Nat), .int .u32 (c.value : Nat), .int .u64 (c.count : Nat)]) rfl (by kernel_rfl) (by kernel_rfl) (by kernel_rfl) (fun _ _ _ h => h) (Or.inl ⟨by rfl, ?_⟩) (by assumption) ?_
          · (intro w hSw; clear hSw; go_simp; try first | with_reducible rfl | rfl)
          try simp only [Act.put, List.getElem_toArray, List.getElem_cons_zero, List.getElem_cons_succ, List.setIfInBounds_toArray, List.set_cons_zero, List.set_cons_succ]
          refine wpAnyH_take (i := 23) (v := we) rfl (by kernel_rfl) (by kernel_rfl) (by kernel_rfl) (fun _ _ _ h => h) (Or.inl ⟨by rfl, ?_⟩) (by assumption) ?_
          · (intro w hSw; clear hSw; go_simp; try first | with_reducible rfl | rfl)
          try simp only [Act.put, List.getElem_toArray, List.getElem_cons_zero, List.getElem_cons_succ, List.setIfInBounds_toArray, List.set_cons_zero, List.set_cons_succ]
          refine wpAnyH_ready (rs := [25]) (by kernel_rfl) (by simp) ?_
          refine AllReadyH.cons rfl (fun K25 hK25 => ?_) AllReadyH.nil
          refine wp_store_row 42 _ _ rfl N _ rfl rfl _ _ y2 (by kernel_rfl) rfl (by kernel_rfl) ?_
          refine hK25.out _ _ (hS2.setRow nT hbl _) (fun hSf => ?_)
          try simp only [Act.put, List.getElem_toArray, List.getElem_cons_zero, List.getElem_cons_succ, List.setIfInBounds_toArray, List.set_cons_zero, List.set_cons_succ]
          refine wpAnyH_take (i := 26) (v := we) rfl (by kernel_rfl) (by kernel_rfl) (by kernel_rfl) (fun _ _ _ h => h) (Or.inl ⟨by rfl, ?_⟩) (by assumption) ?_
          · (intro w hSw; clear hSw; go_simp; try first | with_reducible rfl | rfl)
          try simp only [Act.put, List.getElem_toArray, List.getElem_cons_zero, List.getElem_cons_succ, List.setIfInBounds_toArray, List.set_cons_zero, List.set_cons_succ]
          refine wpAnyH_done (by kernel_rfl) ?_ _
          (try go_wp2_with fail)
          go_meet
          exact ⟨N, rfl, rfl, nT, hSf, setRow_heap _ _ _ _ _ _ y2⟩
      case rest =>
        obtain ⟨N, rfl, rfl, hN, S2, rN⟩ := hcut
        clear c34 c35 c36 c37 c38 c39 c40 c41 c42 c43 c44 c47 c48 c49 cf
        have c34 : wc.cell? ⟨b, 34, none⟩ = some (.int .u32 (h.c.status : Nat)) := S2.h.1 34 (by decide)
        have c35 : wc.cell? ⟨b, 35, none⟩ = some (.int .u32 (h.c.enable : Nat)) := S2.h.1 35 (by decide)
        have c36 : wc.cell? ⟨b, 36, none⟩ = some (.int .u32 (h.c.vector : Nat)) := S2.h.1 36 (by decide)
        have c37 : wc.cell? ⟨b, 37, none⟩ = some (.int .u32 (h.c.scratch : Nat)) := S2.h.1 37 (by decide)
        have c38 : wc.cell? ⟨b, 38, none⟩ = some (.int .u32 (h.c.epc : Nat)) := S2.h.1 38 (by decide)
        have c39 : wc.cell? ⟨b, 39, none⟩ = some (.int .u32 (h.c.cause : Nat)) := S2.h.1 39 (by decide)
        have c40 : wc.cell? ⟨b, 40, none⟩ = some (.int .u32 (h.c.value : Nat)) := S2.h.1 40 (by decide)
        have c41 : wc.cell? ⟨b, 41, none⟩ = some (.int .u64 (h.c.count : Nat)) := S2.h.1 41 (by decide)
        have c42 := S2.d.op
        have c43 := S2.d.rd
        have c44 := S2.d.r1
        have c47 := S2.d.cs
        have c48 := S2.d.ww
        have c49 := S2.d.ln
        have cf := S2.h.fz
        have n0 : wc.cell? ⟨N, 0, none⟩ = some (.int .u32 (c.status : Nat)) := cell_of_row _ _ _ _ _ _ rN
        have n1 : wc.cell? ⟨N, 1, none⟩ = some (.int .u32 (c.enable : Nat)) := cell_of_row _ _ _ _ _ _ rN
        have n2 : wc.cell? ⟨N, 2, none⟩ = some (.int .u32 (c.vector : Nat)) := cell_of_row _ _ _ _ _ _ rN
        have n3 : wc.cell? ⟨N, 3, none⟩ = some (.int .u32 (c.scratch : Nat)) := cell_of_row _ _ _ _ _ _ rN
        have n4 : wc.cell? ⟨N, 4, none⟩ = some (.int .u32 (c.epc : Nat)) := cell_of_row _ _ _ _ _ _ rN
        have n5 : wc.cell? ⟨N, 5, none⟩ = some (.int .u32 (c.cause : Nat)) := cell_of_row _ _ _ _ _ _ rN
        have n6 : wc.cell? ⟨N, 6, none⟩ = some (.int .u32 (c.value : Nat)) := cell_of_row _ _ _ _ _ _ rN
        have n7 : wc.cell? ⟨N, 7, none⟩ = some (.int .u64 (c.count : Nat)) := cell_of_row _ _ _ _ _ _ rN
        have nf : ∀ j, wc.frozen? ⟨N, j, none⟩ = false := fun j => frozen_of_row _ _ _ _ _ rN
        have hNb : ¬ N = b := by omega
        have hbN : ¬ b = N := by omega
        have SL := Lib.hid S2
        clear S2 rN
        rcases HWE.out with ⟨h0, rfl⟩ | ⟨h0, z, rfl⟩
        · go_upto_region 12 with (fail)
          generalize hq : World.setCell _ _ _ = q
          have OX : Only b wc q := by rw [← hq]; exact (Only.set (Only.set (Only.set (Only.set (Only.set (Only.set (Only.set (Only.set (Only.refl b wc) (k := 34) (by decide) (.int .u32 (c.status : Nat))) (k := 35) (by decide) (.int .u32 (c.enable : Nat))) (k := 36) (by decide) (.int .u32 (c.vector : Nat))) (k := 37) (by decide) (.int .u32 (c.scratch : Nat))) (k := 38) (by decide) (.int .u32 (c.epc : Nat))) (k := 39) (by decide) (.int .u32 (c.cause : Nat))) (k := 40) (by decide) (.int .u32 (c.value : Nat))) (k := 41) (by decide) (.int .u64 (c.count : Nat)))
          have SQ := Lib.hid (show CtlS w b { h with c := c } 56 rd r1 r2 imm cs ww ln q from ⟨by rw [← hq]; exact (GAt.ext (GAt.set (GAt.set (GAt.set (GAt.set (GAt.set (GAt.set (GAt.set (GAt.set SL.out.h (k := 34) (by decide) _) (k := 35) (by decide) _) (k := 36) (by decide) _) (k := 37) (by decide) _) (k := 38) (by decide) _) (k := 39) (by decide) _) (k := 40) (by decide) _) (k := 41) (by decide) _) (get_ext rfl (fun j h1 h2 => by simp [HS.get, show j ≠ 0 by omega, show j ≠ 34 by omega, show j ≠ 35 by omega, show j ≠ 36 by omega, show j ≠ 37 by omega, show j ≠ 38 by omega, show j ≠ 39 by omega, show j ≠ 40 by omega, show j ≠ 41 by omega, h2]) ⟨rfl, rfl, rfl, rfl, rfl, rfl, rfl, rfl, rfl⟩)), SL.out.d.only OX, SL.out.o.trans OX⟩)
          clear hq OX n0 n1 n2 n3 n4 n5 n6 n7 nf c34 c35 c36 c37 c38 c39 c40 c41 c42 c43 c44 c47 c48 c49 cf
          have c43 := SQ.out.d.rd
          have cf := SQ.out.h.fz
          refine wp_region_held_drew (S := fun w' => w'.cell? ⟨b, 43, none⟩ = some (.int .i64 rd) ∧ w'.frozen? ⟨b, 43, none⟩ = false) (by kernel_rfl) ⟨c43, cf 43⟩ (fun hHeld => ?_)
          refine wpAnyH_take (i := 0) (v := .pointer (some ⟨b, 0, none⟩)) rfl (by kernel_rfl) (by kernel_rfl) (by kernel_rfl) (fun _ _ _ h => h) (Or.inl ⟨by rfl, ?_⟩) (by assumption) ?_
          · (intro w hSw; clear hSw; go_simp; try first | with_reducible rfl | rfl)
          try simp only [Act.put, List.getElem_toArray, List.getElem_cons_zero, List.getElem_cons_succ, List.setIfInBounds_toArray, List.set_cons_zero, List.set_cons_succ]
          refine wpAnyH_take (i := 1) (v := .pointer (some ⟨b, 0, none⟩)) rfl (by kernel_rfl) (by kernel_rfl) (by kernel_rfl) (fun _ _ _ h => h) (Or.inl ⟨by rfl, ?_⟩) (by assumption) ?_
          · (intro w hSw; clear hSw; go_simp; try first | with_reducible rfl | rfl)
          try simp only [Act.put, List.getElem_toArray, List.getElem_cons_zero, List.getElem_cons_succ, List.setIfInBounds_toArray, List.set_cons_zero, List.set_cons_succ]
          refine wpAnyH_take (i := 2) (v := .pointer (some ⟨b, 0, none⟩)) rfl (by kernel_rfl) (by kernel_rfl) (by kernel_rfl) (fun _ _ _ h => h) (Or.inl ⟨by rfl, ?_⟩) (by assumption) ?_
          · (intro w hSw; clear hSw; go_simp; try first | with_reducible rfl | rfl)
          try simp only [Act.put, List.getElem_toArray, List.getElem_cons_zero, List.getElem_cons_succ, List.setIfInBounds_toArray, List.set_cons_zero, List.set_cons_succ]
          refine wpAnyH_take (i := 3) (v := .pointer (some ⟨b, 0, none⟩)) rfl (by kernel_rfl) (by kernel_rfl) (by kernel_rfl) (fun _ _ _ h => h) (Or.inl ⟨by rfl, ?_⟩) (by assumption) ?_
          · (intro w hSw; clear hSw; go_simp; try first | with_reducible rfl | rfl)
          try simp only [Act.put, List.getElem_toArray, List.getElem_cons_zero, List.getElem_cons_succ, List.setIfInBounds_toArray, List.set_cons_zero, List.set_cons_succ]
          refine wpAnyH_take (i := 4) (v := .pointer (some ⟨b, 0, none⟩)) rfl (by kernel_rfl) (by kernel_rfl) (by kernel_rfl) (fun _ _ _ h => h) (Or.inl ⟨by rfl, ?_⟩) (by assumption) ?_
          · (intro w hSw; clear hSw; go_simp; try first | with_reducible rfl | rfl)
          try simp only [Act.put, List.getElem_toArray, List.getElem_cons_zero, List.getElem_cons_succ, List.setIfInBounds_toArray, List.set_cons_zero, List.set_cons_succ]
          refine wpAnyH_take (i := 5) (v := .pointer (some ⟨b, 42, none⟩)) rfl (by kernel_rfl) (by kernel_rfl) (by kernel_rfl) (fun _ _ _ h => h) (Or.inl ⟨by rfl, ?_⟩) (by assumption) ?_
          · (intro w hSw; clear hSw; go_simp; try first | with_reducible rfl | rfl)
          try simp only [Act.put, List.getElem_toArray, List.getElem_cons_zero, List.getElem_cons_succ, List.setIfInBounds_toArray, List.set_cons_zero, List.set_cons_succ]
          refine wpAnyH_take (i := 6) (v := .pointer (some ⟨b, 43, none⟩)) rfl (by kernel_rfl) (by kernel_rfl) (by kernel_rfl) (fun _ _ _ h => h) (Or.inl ⟨by rfl, ?_⟩) (by assumption) ?_
          · (intro w hSw; clear hSw; go_simp; try first | with_reducible rfl | rfl)
          try simp only [Act.put, List.getElem_toArray, List.getElem_cons_zero, List.getElem_cons_succ, List.setIfInBounds_toArray, List.set_cons_zero, List.set_cons_succ]
          refine wpAnyH_take (i := 7) (v := .int .i64 rd) rfl (by kernel_rfl) (by kernel_rfl) (by kernel_rfl) (fun _ _ _ h => h) (Or.inl ⟨by rfl, ?_⟩) (by assumption) ?_
          · (intro w hSw; have q1 := hSw.1; have qf := hSw.2; clear hSw; go_simp; try first | with_reducible rfl | rfl)
          try simp only [Act.put, List.getElem_toArray, List.getElem_cons_zero, List.getElem_cons_succ, List.setIfInBounds_toArray, List.set_cons_zero, List.set_cons_succ]
          refine wpAnyH_take (i := 8) (v := .int .u32 (old : Nat)) rfl (by kernel_rfl) (by kernel_rfl) (by kernel_rfl) (fun _ _ _ h => h) (Or.inl ⟨by rfl, ?_⟩) (by assumption) ?_
          · (intro w hSw; clear hSw; go_simp; try first | with_reducible rfl | rfl)
          try simp only [Act.put, List.getElem_toArray, List.getElem_cons_zero, List.getElem_cons_succ, List.setIfInBounds_toArray, List.set_cons_zero, List.set_cons_succ]
          have SX := Lib.hid (CtlS.drew1 SQ.out)
          clear hHeld c43 cf
          generalize World.drew _ = wz at *
          refine wpAnyH_ready (rs := [9]) (by kernel_rfl) (by simp) ?_
          refine AllReadyH.cons rfl (fun K9 hK9 => ?_) AllReadyH.nil
          go_simp
          go_at_call 39
          refine (ST2.out _ SX.out.h).mono ?_
          rintro e w3 ⟨rfl, h3, o3⟩
          have H3 := Lib.hid h3
          have D3 := Lib.hid (DI.only SX.out.d o3)
          have O3 := Lib.hid (OnlyD.trans SX.out.o.d o3.d)
          refine hK9.out _ _ ⟨D3.out.rd, h3.fz 43⟩ (fun _ => ?_)
          try simp only [Act.put, List.getElem_toArray, List.getElem_cons_zero, List.getElem_cons_succ, List.setIfInBounds_toArray, List.set_cons_zero, List.set_cons_succ]
          clear h3 o3
          refine wpAnyH_done (by kernel_rfl) ?_ _
          (try go_wp2_with fail)
          rw [show cr = _ from CR.out.trans (ctl_ok (c := c) HOLD.out (fun q => hn q.1) (Or.inr h0d) (by rw [← HWV.out]; exact h0) (by rw [← HWV.out]; exact HC.out))]
          exact post_none (by kernel_rfl) rfl ⟨rfl, H3.out, D3.out, O3.out⟩
        · go_wp2_with (go_at_call 33; refine (TR.out _ (by repeat' (first | (with_reducible exact SL.out.h) | (with_reducible refine HAt.drew1 ?_) | (with_reducible refine HAt.drew ?_ _))) (by repeat' (first | (with_reducible exact SL.out.d) | (with_reducible refine DI.drew1 ?_) | (with_reducible refine DI.drewK ?_ _)))).mono ?_; rintro e w3 ⟨rfl, h3, d3, o3⟩; have H3 := Lib.hid h3; have D3 := Lib.hid d3; have O3 := Lib.hid (OnlyD.trans (by repeat' (first | (with_reducible exact SL.out.o.d) | (with_reducible refine OnlyD.drew1 ?_) | (with_reducible refine OnlyD.drewK ?_ _))) o3); clear h3 d3 o3)
          rw [show cr = _ from CR.out.trans (ctl_bad HOLD.out (fun q => hn q.1) (Or.inr h0d) (by rw [← HWV.out]; exact h0))]
          exact bodyPost_ret (results_none (by kernel_rfl) _ _ _) rfl ⟨rfl, H3.out, D3.out, O3.out⟩
  · go_wp2_with (go_at_call 33; refine (TR.out _ (by repeat' (first | (with_reducible exact SK.out.h) | (with_reducible refine HAt.drew1 ?_) | (with_reducible refine HAt.drew ?_ _))) (by repeat' (first | (with_reducible exact SK.out.d) | (with_reducible refine DI.drew1 ?_) | (with_reducible refine DI.drewK ?_ _)))).mono ?_; rintro e w3 ⟨rfl, h3, d3, o3⟩; have H3 := Lib.hid h3; have D3 := Lib.hid d3; have O3 := Lib.hid (OnlyD.trans (by repeat' (first | (with_reducible exact SK.out.o.d) | (with_reducible refine OnlyD.drew1 ?_) | (with_reducible refine OnlyD.drewK ?_ _))) o3); clear h3 d3 o3)
    rw [show cr = _ from CR.out.trans (ctl_trap hn (Or.inl (show ¬ (56 - 51) % 3 = 0 by decide)))]
    exact bodyPost_ret (results_none (by kernel_rfl) _ _ _) rfl ⟨rfl, H3.out, D3.out, O3.out⟩

end Go.Proofs.YtphlgaklfibciaaDoor
