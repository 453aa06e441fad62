import Derived.Test.YtphlgaklfibciaaDoorHartG
import Derived.Below
import Derived.Deep.Draws
import Derived.Deep.AppendLies
import Derived.Maps.AppendAt
import Derived.OwnWalk
import Derived.Laws.BytesArg
import Derived.Laws.MakeOwn
import Derived.Laws.OwnMore
import Derived.Deep.OwnRows
import Derived.Tactics
import Derived.Lib.ConvBytes
import Derived.Laws.Slices
import Derived.WalkKit
import Derived.KernelRfl
import Derived.RowKit3
import Derived.Deep.LoopGhost
import Derived.Deep.QuietTactic
import Derived.BigQuiet
import Derived.WideLaws
import Derived.Deep.DeepCutAuto
import Derived.Deep.CutBlock
import Derived.Deep.RegionHeld3
import Derived.Laws.Rows
import Derived.Lib.AppendStr
import Derived.ArgAppend
import Derived.Laws.IdiomCopy
import Derived.OrdersHeld
import Derived.Laws.BitsLemmas
import Derived.RowKit
import Derived.Lib.Hide
import Derived.Laws.BitsAllLaws
import Derived.WalkLawsBesides
import Derived.WalkSpells
import Derived.LaidEql
namespace Go.Proofs.YtphlgaklfibciaaDoor
open Go.RowKit
set_option maxRecDepth 100000
set_option linter.unusedVariables false
set_option linter.unusedSimpArgs false

set_option maxHeartbeats 4000000 in
theorem one_jal (h : HS) (hk : h.ok) (b : Nat) (n : Nat) {rd r1 r2 : Nat} {imm cs : Int} {ww ln : Nat} (hn : IntKind.u32.wrap imm = (n : Int)) (hnl : n < 4294967296) (hrd : rd < 32) (hr1 : r1 < 32) (hr2 : r2 < 32) (w : World) (H : HAt w b h) (D : DI w b 2 rd r1 r2 imm cs ww ln false) :
    Calls Tryd.prog 34 #[.pointer (some ⟨b, 0, none⟩)] w fun e w' => e = .returned (.agg acc0) ∧ HAt w' b (jumpH h rd ((h.pc + n) % 4294967296)) ∧ DI w' b 2 rd r1 r2 imm cs ww ln true ∧ OnlyD b w w' := by
  have KI := Lib.hid (fun w => by have h := kind_at 2 (by decide) w; exact h)
  have N := Lib.hid (fun w D => dn_any b n (op := 2) (rd := rd) (r1 := r1) (r2 := r2) (imm := imm) (cs := cs) (ww := ww) (ln := ln) (gone := false) hn w D)
  have hpc := hk.pc
  have e1 : IntKind.u32.wrap ((h.pc : Int) + (n : Int)) = (((h.pc + n) % 4294967296 : Nat) : Int) := by rw [Go.IntKind.wrap_u32]; omega
  obtain ⟨nx, hnx⟩ : ∃ nx, nx = (h.pc + n) % 4294967296 := ⟨_, rfl⟩
  have hnxl : nx < 4294967296 := by omega
  rw [← hnx] at e1 ⊢
  have JU := Lib.hid (fun w H D => djump_any h hk b nx hnxl (op := 2) (rd := rd) (r1 := r1) (r2 := r2) (imm := imm) (cs := cs) (ww := ww) (ln := ln) (gone := false) hrd w H D)
  generalize jumpH h rd nx = s at JU ⊢
  have hbl := H.2.2
  have RW := Lib.hid (heap_alloc_new w (.cells acc0 50))
  have hT := show w.heap.size ≠ b from by omega
  have HH := Lib.hid H
  have DD := Lib.hid D
  have c42 := D.op
  have c43 := D.rd
  have c0 := H.pc_
  clear H D hk
  clear hnx hn hnl hpc
  generalize h.pc = pc at *
  go_enter Tryd.func34, Tryd.ntmps34
  go_upto_region 9 with (go_at_call 53; refine (KI.out _).mono ?_; rintro e w' ⟨rfl, rfl⟩)
  go_region_with (first | (go_at_call 54; refine (N.out _ (by repeat' (first | (with_reducible exact D1.out) | (with_reducible exact DD.out) | (with_reducible refine DI.setGone ?_ _) | (with_reducible refine DI.setOther ?_ (by omega) _ _) | (with_reducible refine DI.drewK ?_ _) | (with_reducible refine DI.drew1 ?_) | (with_reducible refine DI.allocK ?_ hbl _)))).mono ?_; rintro e w1 ⟨rfl, rfl⟩) | (go_at_call 55; refine (JU.out _ (by repeat' (first | (with_reducible exact H1.out) | (with_reducible exact HH.out) | (with_reducible refine HAt.drew ?_ _) | (with_reducible refine HAt.drew1 ?_) | (with_reducible refine HAt.setTail ?_ (by decide) _) | (with_reducible refine HAt.setOther ?_ (by omega) _ _) | (with_reducible refine HAt.allocK ?_ _))) (by repeat' (first | (with_reducible exact D1.out) | (with_reducible exact DD.out) | (with_reducible refine DI.setGone ?_ _) | (with_reducible refine DI.setOther ?_ (by omega) _ _) | (with_reducible refine DI.drewK ?_ _) | (with_reducible refine DI.drew1 ?_) | (with_reducible refine DI.allocK ?_ hbl _)))).mono ?_; rintro e w1 ⟨rfl, h1, d1, o1⟩; have q1 : OnlyD b w w1 := OnlyD.trans (w1 := _) (by repeat' (first | (with_reducible refine OnlyD.drewK ?_ _) | (with_reducible refine OnlyD.drew1 ?_) | (with_reducible exact OnlyD.refl _ _) | (with_reducible refine OnlyD.set ?_ 50 _) | (with_reducible refine OnlyD.setOther ?_ hbl (Nat.le_refl _) _ _) | (with_reducible refine OnlyD.allocK ?_ hbl _))) o1; have rw1 := (o1.over _ hbl (by simp)).trans RW.out; have H1 := Lib.hid h1; have D1 := Lib.hid d1; have O1 := Lib.hid q1; (obtain ⟨⟨t0, t1, t2, t3, t4, t5⟩, tf, tl⟩ := acc0_facts rw1); clear h1 d1 o1 q1 rw1))
  all_goals
    go_wp2
    refine bodyPost_ret (v := .agg acc0) ?_ rfl ⟨rfl, ?_, ?_, ?_⟩
    · simp [results, Tryd.results34, go_sem, acc0, t0, t1, t2, t3, t4, t5]
    · exact (by repeat' (first | (with_reducible exact H1.out) | (with_reducible exact HH.out) | (with_reducible refine HAt.drew ?_ _) | (with_reducible refine HAt.drew1 ?_) | (with_reducible refine HAt.setTail ?_ (by decide) _) | (with_reducible refine HAt.setOther ?_ (by omega) _ _) | (with_reducible refine HAt.allocK ?_ _)))
    · exact (by repeat' (first | (with_reducible exact D1.out) | (with_reducible exact DD.out) | (with_reducible refine DI.setGone ?_ _) | (with_reducible refine DI.setOther ?_ (by omega) _ _) | (with_reducible refine DI.drewK ?_ _) | (with_reducible refine DI.drew1 ?_) | (with_reducible refine DI.allocK ?_ hbl _)))
    · exact (by repeat' (first | (with_reducible exact O1.out) | (with_reducible exact OnlyD.refl _ _) | (with_reducible refine OnlyD.set ?_ 50 _) | (with_reducible refine OnlyD.setOther ?_ hbl (Nat.le_refl _) _ _) | (with_reducible refine OnlyD.allocK ?_ hbl _)))
set_option maxHeartbeats 4000000 in
theorem one_lui (h : HS) (hk : h.ok) (b : Nat) (n : Nat) {rd r1 r2 : Nat} {imm cs : Int} {ww ln : Nat} (hn : IntKind.u32.wrap imm = (n : Int)) (hnl : n < 4294967296) (hrd : rd < 32) (hr1 : r1 < 32) (hr2 : r2 < 32) (w : World) (H : HAt w b h) (D : DI w b 0 rd r1 r2 imm cs ww ln false) :
    Calls Tryd.prog 34 #[.pointer (some ⟨b, 0, none⟩)] w fun e w' => e = .returned (.agg acc0) ∧ HAt w' b (setH h rd (n)) ∧ DI w' b 0 rd r1 r2 imm cs ww ln false ∧ OnlyD b w w' := by
  have KI := Lib.hid (fun w => by have h := kind_at 0 (by decide) w; exact h)
  have N := Lib.hid (fun w D => dn_any b n (op := 0) (rd := rd) (r1 := r1) (r2 := r2) (imm := imm) (cs := cs) (ww := ww) (ln := ln) (gone := false) hn w D)
  have hpc := hk.pc
  have e1 : IntKind.u32.wrap (0 + (n : Int)) = (n : Int) := by rw [Go.IntKind.wrap_u32]; omega
  have e2 : IntKind.u32.wrap (n : Int) = (n : Int) := by rw [Go.IntKind.wrap_u32]; omega
  have ST := Lib.hid (fun w H => hset_any h b rd n hrd w H)
  generalize setH h rd n = s at ST ⊢
  have hbl := H.2.2
  have RW := Lib.hid (heap_alloc_new w (.cells acc0 50))
  have hT := show w.heap.size ≠ b from by omega
  have HH := Lib.hid H
  have DD := Lib.hid D
  have c42 := D.op
  have c43 := D.rd
  have c0 := H.pc_
  clear H D hk
  clear hn hpc
  generalize h.pc = pc at *
  go_enter Tryd.func34, Tryd.ntmps34
  go_upto_region 7 with (go_at_call 53; refine (KI.out _).mono ?_; rintro e w' ⟨rfl, rfl⟩)
  go_region_with (first | (go_at_call 54; refine (N.out _ (by repeat' (first | (with_reducible exact D1.out) | (with_reducible exact DD.out) | (with_reducible refine DI.setGone ?_ _) | (with_reducible refine DI.setOther ?_ (by omega) _ _) | (with_reducible refine DI.drewK ?_ _) | (with_reducible refine DI.drew1 ?_) | (with_reducible refine DI.allocK ?_ hbl _)))).mono ?_; rintro e w1 ⟨rfl, rfl⟩) | (go_at_call 39; refine (ST.out _ (by repeat' (first | (with_reducible exact H1.out) | (with_reducible exact HH.out) | (with_reducible refine HAt.drew ?_ _) | (with_reducible refine HAt.drew1 ?_) | (with_reducible refine HAt.setTail ?_ (by decide) _) | (with_reducible refine HAt.setOther ?_ (by omega) _ _) | (with_reducible refine HAt.allocK ?_ _)))).mono ?_; rintro e w1 ⟨rfl, h1, oo⟩; have o1 := oo.d; have d1 : DI w1 b 0 rd r1 r2 imm cs ww ln false := DI.only (by repeat' (first | (with_reducible exact D1.out) | (with_reducible exact DD.out) | (with_reducible refine DI.setGone ?_ _) | (with_reducible refine DI.setOther ?_ (by omega) _ _) | (with_reducible refine DI.drewK ?_ _) | (with_reducible refine DI.drew1 ?_) | (with_reducible refine DI.allocK ?_ hbl _))) oo; have q1 : OnlyD b w w1 := OnlyD.trans (w1 := _) (by repeat' (first | (with_reducible refine OnlyD.drewK ?_ _) | (with_reducible refine OnlyD.drew1 ?_) | (with_reducible exact OnlyD.refl _ _) | (with_reducible refine OnlyD.set ?_ 50 _) | (with_reducible refine OnlyD.setOther ?_ hbl (Nat.le_refl _) _ _) | (with_reducible refine OnlyD.allocK ?_ hbl _))) o1; have rw1 := (o1.over _ hbl (by simp)).trans RW.out; have H1 := Lib.hid h1; have D1 := Lib.hid d1; have O1 := Lib.hid q1; (obtain ⟨⟨t0, t1, t2, t3, t4, t5⟩, tf, tl⟩ := acc0_facts rw1); clear h1 d1 o1 q1 rw1))
  all_goals
    go_wp2
    refine bodyPost_ret (v := .agg acc0) ?_ rfl ⟨rfl, ?_, ?_, ?_⟩
    · simp [results, Tryd.results34, go_sem, acc0, t0, t1, t2, t3, t4, t5]
    · exact (by repeat' (first | (with_reducible exact H1.out) | (with_reducible exact HH.out) | (with_reducible refine HAt.drew ?_ _) | (with_reducible refine HAt.drew1 ?_) | (with_reducible refine HAt.setTail ?_ (by decide) _) | (with_reducible refine HAt.setOther ?_ (by omega) _ _) | (with_reducible refine HAt.allocK ?_ _)))
    · exact (by repeat' (first | (with_reducible exact D1.out) | (with_reducible exact DD.out) | (with_reducible refine DI.setGone ?_ _) | (with_reducible refine DI.setOther ?_ (by omega) _ _) | (with_reducible refine DI.drewK ?_ _) | (with_reducible refine DI.drew1 ?_) | (with_reducible refine DI.allocK ?_ hbl _)))
    · exact (by repeat' (first | (with_reducible exact O1.out) | (with_reducible exact OnlyD.refl _ _) | (with_reducible refine OnlyD.set ?_ 50 _) | (with_reducible refine OnlyD.setOther ?_ hbl (Nat.le_refl _) _ _) | (with_reducible refine OnlyD.allocK ?_ hbl _)))
set_option maxHeartbeats 4000000 in
theorem one_auipc (h : HS) (hk : h.ok) (b : Nat) (n : Nat) {rd r1 r2 : Nat} {imm cs : Int} {ww ln : Nat} (hn : IntKind.u32.wrap imm = (n : Int)) (hnl : n < 4294967296) (hrd : rd < 32) (hr1 : r1 < 32) (hr2 : r2 < 32) (w : World) (H : HAt w b h) (D : DI w b 1 rd r1 r2 imm cs ww ln false) :
    Calls Tryd.prog 34 #[.pointer (some ⟨b, 0, none⟩)] w fun e w' => e = .returned (.agg acc0) ∧ HAt w' b (setH h rd ((h.pc + n) % 4294967296)) ∧ DI w' b 1 rd r1 r2 imm cs ww ln false ∧ OnlyD b w w' := by
  have KI := Lib.hid (fun w => by have h := kind_at 1 (by decide) w; exact h)
  have N := Lib.hid (fun w D => dn_any b n (op := 1) (rd := rd) (r1 := r1) (r2 := r2) (imm := imm) (cs := cs) (ww := ww) (ln := ln) (gone := false) hn w D)
  have hpc := hk.pc
  have e1 : IntKind.u32.wrap ((h.pc : Int) + (n : Int)) = (((h.pc + n) % 4294967296 : Nat) : Int) := by rw [Go.IntKind.wrap_u32]; omega
  obtain ⟨nx, hnx⟩ : ∃ nx, nx = (h.pc + n) % 4294967296 := ⟨_, rfl⟩
  rw [← hnx] at e1 ⊢
  have ST := Lib.hid (fun w H => hset_any h b rd nx hrd w H)
  generalize setH h rd nx = s at ST ⊢
  have hbl := H.2.2
  have RW := Lib.hid (heap_alloc_new w (.cells acc0 50))
  have hT := show w.heap.size ≠ b from by omega
  have HH := Lib.hid H
  have DD := Lib.hid D
  have c42 := D.op
  have c43 := D.rd
  have c0 := H.pc_
  clear H D hk
  clear hn hpc hnx
  generalize h.pc = pc at *
  go_enter Tryd.func34, Tryd.ntmps34
  go_upto_region 7 with (go_at_call 53; refine (KI.out _).mono ?_; rintro e w' ⟨rfl, rfl⟩)
  go_region_with (first | (go_at_call 54; refine (N.out _ (by repeat' (first | (with_reducible exact D1.out) | (with_reducible exact DD.out) | (with_reducible refine DI.setGone ?_ _) | (with_reducible refine DI.setOther ?_ (by omega) _ _) | (with_reducible refine DI.drewK ?_ _) | (with_reducible refine DI.drew1 ?_) | (with_reducible refine DI.allocK ?_ hbl _)))).mono ?_; rintro e w1 ⟨rfl, rfl⟩) | (go_at_call 39; refine (ST.out _ (by repeat' (first | (with_reducible exact H1.out) | (with_reducible exact HH.out) | (with_reducible refine HAt.drew ?_ _) | (with_reducible refine HAt.drew1 ?_) | (with_reducible refine HAt.setTail ?_ (by decide) _) | (with_reducible refine HAt.setOther ?_ (by omega) _ _) | (with_reducible refine HAt.allocK ?_ _)))).mono ?_; rintro e w1 ⟨rfl, h1, oo⟩; have o1 := oo.d; have d1 : DI w1 b 1 rd r1 r2 imm cs ww ln false := DI.only (by repeat' (first | (with_reducible exact D1.out) | (with_reducible exact DD.out) | (with_reducible refine DI.setGone ?_ _) | (with_reducible refine DI.setOther ?_ (by omega) _ _) | (with_reducible refine DI.drewK ?_ _) | (with_reducible refine DI.drew1 ?_) | (with_reducible refine DI.allocK ?_ hbl _))) oo; have q1 : OnlyD b w w1 := OnlyD.trans (w1 := _) (by repeat' (first | (with_reducible refine OnlyD.drewK ?_ _) | (with_reducible refine OnlyD.drew1 ?_) | (with_reducible exact OnlyD.refl _ _) | (with_reducible refine OnlyD.set ?_ 50 _) | (with_reducible refine OnlyD.setOther ?_ hbl (Nat.le_refl _) _ _) | (with_reducible refine OnlyD.allocK ?_ hbl _))) o1; have rw1 := (o1.over _ hbl (by simp)).trans RW.out; have H1 := Lib.hid h1; have D1 := Lib.hid d1; have O1 := Lib.hid q1; (obtain ⟨⟨t0, t1, t2, t3, t4, t5⟩, tf, tl⟩ := acc0_facts rw1); clear h1 d1 o1 q1 rw1))
  all_goals
    go_wp2
    refine bodyPost_ret (v := .agg acc0) ?_ rfl ⟨rfl, ?_, ?_, ?_⟩
    · simp [results, Tryd.results34, go_sem, acc0, t0, t1, t2, t3, t4, t5]
    · exact (by repeat' (first | (with_reducible exact H1.out) | (with_reducible exact HH.out) | (with_reducible refine HAt.drew ?_ _) | (with_reducible refine HAt.drew1 ?_) | (with_reducible refine HAt.setTail ?_ (by decide) _) | (with_reducible refine HAt.setOther ?_ (by omega) _ _) | (with_reducible refine HAt.allocK ?_ _)))
    · exact (by repeat' (first | (with_reducible exact D1.out) | (with_reducible exact DD.out) | (with_reducible refine DI.setGone ?_ _) | (with_reducible refine DI.setOther ?_ (by omega) _ _) | (with_reducible refine DI.drewK ?_ _) | (with_reducible refine DI.drew1 ?_) | (with_reducible refine DI.allocK ?_ hbl _)))
    · exact (by repeat' (first | (with_reducible exact O1.out) | (with_reducible exact OnlyD.refl _ _) | (with_reducible refine OnlyD.set ?_ 50 _) | (with_reducible refine OnlyD.setOther ?_ hbl (Nat.le_refl _) _ _) | (with_reducible refine OnlyD.allocK ?_ hbl _)))
set_option maxHeartbeats 4000000 in
theorem one_jalr (h : HS) (hk : h.ok) (b : Nat) (n : Nat) {rd r1 r2 : Nat} {imm cs : Int} {ww ln : Nat} (hn : IntKind.u32.wrap imm = (n : Int)) (hnl : n < 4294967296) (hrd : rd < 32) (hr1 : r1 < 32) (hr2 : r2 < 32) (w : World) (H : HAt w b h) (D : DI w b 3 rd r1 r2 imm cs ww ln false) :
    Calls Tryd.prog 34 #[.pointer (some ⟨b, 0, none⟩)] w fun e w' => e = .returned (.agg acc0) ∧ HAt w' b (jumpH h rd (clr ((h.x r1 + n) % 4294967296) 1)) ∧ DI w' b 3 rd r1 r2 imm cs ww ln true ∧ OnlyD b w w' := by
  have KI := Lib.hid (fun w => by have h := kind_at 3 (by decide) w; exact h)
  have A := Lib.hid (fun w H D => da_any h b (op := 3) (rd := rd) (r1 := r1) (r2 := r2) (imm := imm) (cs := cs) (ww := ww) (ln := ln) (gone := false) hr1 w H D)
  have N := Lib.hid (fun w D => dn_any b n (op := 3) (rd := rd) (r1 := r1) (r2 := r2) (imm := imm) (cs := cs) (ww := ww) (ln := ln) (gone := false) hn w D)
  have hx := hk.x r1 hr1
  have e1 : ((h.x r1 : Int) + (n : Int)) % 4294967296 = (((h.x r1 + n) % 4294967296 : Nat) : Int) := by omega
  obtain ⟨y, hy⟩ : ∃ y, y = (h.x r1 + n) % 4294967296 := ⟨_, rfl⟩
  have hyl : y < 4294967296 := by omega
  rw [← hy] at e1 ⊢
  have e2 : Go.bits .andNot .u32 (y : Int) 1 = ((clr y 1 : Nat) : Int) := u32c_andNot 1 hyl (by decide)
  have hzl : clr y 1 < 4294967296 := clr_lt hyl
  generalize clr y 1 = z at *
  have JU := Lib.hid (fun w H D => djump_any h hk b z hzl (op := 3) (rd := rd) (r1 := r1) (r2 := r2) (imm := imm) (cs := cs) (ww := ww) (ln := ln) (gone := false) hrd w H D)
  generalize jumpH h rd z = s at JU ⊢
  have hbl := H.2.2
  have RW := Lib.hid (heap_alloc_new w (.cells acc0 50))
  have hT := show w.heap.size ≠ b from by omega
  have HH := Lib.hid H
  have DD := Lib.hid D
  have c42 := D.op
  have c43 := D.rd
  have c0 := H.pc_
  clear H D hk
  clear hy hn
  generalize h.x r1 = x at *
  go_enter Tryd.func34, Tryd.ntmps34
  go_wp2_with (first | (go_at_call 53; refine (KI.out _).mono ?_; rintro e w' ⟨rfl, rfl⟩) | (go_at_call 54; refine (N.out _ (by repeat' (first | (with_reducible exact D1.out) | (with_reducible exact DD.out) | (with_reducible refine DI.setGone ?_ _) | (with_reducible refine DI.setOther ?_ (by omega) _ _) | (with_reducible refine DI.drewK ?_ _) | (with_reducible refine DI.drew1 ?_) | (with_reducible refine DI.allocK ?_ hbl _)))).mono ?_; rintro e w1 ⟨rfl, rfl⟩) | (go_at_call 58; refine (A.out _ (by repeat' (first | (with_reducible exact H1.out) | (with_reducible exact HH.out) | (with_reducible refine HAt.drew ?_ _) | (with_reducible refine HAt.drew1 ?_) | (with_reducible refine HAt.setTail ?_ (by decide) _) | (with_reducible refine HAt.setOther ?_ (by omega) _ _) | (with_reducible refine HAt.allocK ?_ _))) (by repeat' (first | (with_reducible exact D1.out) | (with_reducible exact DD.out) | (with_reducible refine DI.setGone ?_ _) | (with_reducible refine DI.setOther ?_ (by omega) _ _) | (with_reducible refine DI.drewK ?_ _) | (with_reducible refine DI.drew1 ?_) | (with_reducible refine DI.allocK ?_ hbl _)))).mono ?_; rintro e w1 ⟨rfl, ka, rfl⟩) | (go_at_call 55; refine (JU.out _ (by repeat' (first | (with_reducible exact H1.out) | (with_reducible exact HH.out) | (with_reducible refine HAt.drew ?_ _) | (with_reducible refine HAt.drew1 ?_) | (with_reducible refine HAt.setTail ?_ (by decide) _) | (with_reducible refine HAt.setOther ?_ (by omega) _ _) | (with_reducible refine HAt.allocK ?_ _))) (by repeat' (first | (with_reducible exact D1.out) | (with_reducible exact DD.out) | (with_reducible refine DI.setGone ?_ _) | (with_reducible refine DI.setOther ?_ (by omega) _ _) | (with_reducible refine DI.drewK ?_ _) | (with_reducible refine DI.drew1 ?_) | (with_reducible refine DI.allocK ?_ hbl _)))).mono ?_; rintro e w1 ⟨rfl, h1, d1, o1⟩; have q1 : OnlyD b w w1 := OnlyD.trans (w1 := _) (by repeat' (first | (with_reducible refine OnlyD.drewK ?_ _) | (with_reducible refine OnlyD.drew1 ?_) | (with_reducible exact OnlyD.refl _ _) | (with_reducible refine OnlyD.set ?_ 50 _) | (with_reducible refine OnlyD.setOther ?_ hbl (Nat.le_refl _) _ _) | (with_reducible refine OnlyD.allocK ?_ hbl _))) o1; have rw1 := (o1.over _ hbl (by simp)).trans RW.out; have H1 := Lib.hid h1; have D1 := Lib.hid d1; have O1 := Lib.hid q1; (obtain ⟨⟨t0, t1, t2, t3, t4, t5⟩, tf, tl⟩ := acc0_facts rw1); clear h1 d1 o1 q1 rw1))
  all_goals
    go_wp2
    refine bodyPost_ret (v := .agg acc0) ?_ rfl ⟨rfl, ?_, ?_, ?_⟩
    · simp [results, Tryd.results34, go_sem, acc0, t0, t1, t2, t3, t4, t5]
    · exact (by repeat' (first | (with_reducible exact H1.out) | (with_reducible exact HH.out) | (with_reducible refine HAt.drew ?_ _) | (with_reducible refine HAt.drew1 ?_) | (with_reducible refine HAt.setTail ?_ (by decide) _) | (with_reducible refine HAt.setOther ?_ (by omega) _ _) | (with_reducible refine HAt.allocK ?_ _)))
    · exact (by repeat' (first | (with_reducible exact D1.out) | (with_reducible exact DD.out) | (with_reducible refine DI.setGone ?_ _) | (with_reducible refine DI.setOther ?_ (by omega) _ _) | (with_reducible refine DI.drewK ?_ _) | (with_reducible refine DI.drew1 ?_) | (with_reducible refine DI.allocK ?_ hbl _)))
    · exact (by repeat' (first | (with_reducible exact O1.out) | (with_reducible exact OnlyD.refl _ _) | (with_reducible refine OnlyD.set ?_ 50 _) | (with_reducible refine OnlyD.setOther ?_ hbl (Nat.le_refl _) _ _) | (with_reducible refine OnlyD.allocK ?_ hbl _)))

end Go.Proofs.YtphlgaklfibciaaDoor
