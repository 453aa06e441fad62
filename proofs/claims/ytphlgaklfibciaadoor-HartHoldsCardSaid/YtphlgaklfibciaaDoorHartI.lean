import Derived.Test.YtphlgaklfibciaaDoorHartG
import Derived.Below
import Derived.Deep.Draws
import Derived.Deep.AppendLies
import Derived.Maps.AppendAt
import Derived.OwnWalk
import Derived.Laws.BytesArg
import Derived.Laws.MakeOwn
import Derived.Laws.OwnMore
import Derived.Deep.OwnRows
import Derived.Tactics
import Derived.Lib.ConvBytes
import Derived.Laws.Slices
import Derived.WalkKit
import Derived.KernelRfl
import Derived.RowKit3
import Derived.Deep.LoopGhost
import Derived.Deep.QuietTactic
import Derived.BigQuiet
import Derived.WideLaws
import Derived.Deep.DeepCutAuto
import Derived.Deep.CutBlock
import Derived.Deep.RegionHeld3
import Derived.Laws.Rows
import Derived.Lib.AppendStr
import Derived.ArgAppend
import Derived.Laws.IdiomCopy
import Derived.OrdersHeld
import Derived.Laws.BitsLemmas
import Derived.RowKit
import Derived.Lib.Hide
import Derived.Laws.BitsAllLaws
import Derived.WalkLawsBesides
import Derived.WalkSpells
import Derived.LaidEql
namespace Go.Proofs.YtphlgaklfibciaaDoor
open Go.RowKit
set_option maxRecDepth 100000
set_option linter.unusedVariables false
set_option linter.unusedSimpArgs false

set_option maxHeartbeats 4000000 in
theorem one_br (h : HS) (hk : h.ok) (b : Nat) (n k : Nat) (r : Bool) (hk6 : k < 6) {rd r1 r2 : Nat} {imm cs : Int} {ww ln : Nat} (hn : IntKind.u32.wrap imm = (n : Int)) (hnl : n < 4294967296) (HO : Hid (∀ w : World, Calls Tryd.prog 74 #[.int .i64 k, .int .u32 (h.x r1 : Nat), .int .u32 (h.x r2 : Nat)] w fun e w' => e = .returned (.tuple #[.bool r, .nilIface]) ∧ w = w')) {op : Nat} (hop : op = 4 + k) (hrd : rd < 32) (hr1 : r1 < 32) (hr2 : r2 < 32) (w : World) (H : HAt w b h) (D : DI w b op rd r1 r2 imm cs ww ln false) :
    Calls Tryd.prog 34 #[.pointer (some ⟨b, 0, none⟩)] w fun e w' => e = .returned (.agg acc0) ∧ HAt w' b (branchH h r n) ∧ DI w' b op rd r1 r2 imm cs ww ln r ∧ OnlyD b w w' := by
  have KI := Lib.hid (fun w => by have h := kind_at op (by omega) w; rw [show kN op = 66 from by subst hop; exact kN_br k hk6] at h; exact h)
  have e4 : (op : Int) - 4 = (k : Int) := by omega
  have hop1 : (op : Int) < 57 := by omega
  have hop2 : 4 ≤ (op : Int) := by omega
  have BR := Lib.hid (fun w H D => dbranch_any h hk b k n r (op := op) (rd := rd) (r1 := r1) (r2 := r2) (imm := imm) (cs := cs) (ww := ww) (ln := ln) hn hr1 hr2 HO w H D)
  generalize branchH h r n = s at BR ⊢
  have hbl := H.2.2
  have RW := Lib.hid (heap_alloc_new w (.cells acc0 50))
  have hT := show w.heap.size ≠ b from by omega
  have HH := Lib.hid H
  have DD := Lib.hid D
  have c42 := D.op
  have c43 := D.rd
  have c0 := H.pc_
  clear H D hk
  clear hop hn HO hk6
  go_enter Tryd.func34, Tryd.ntmps34
  go_wp2_with (first | (go_at_call 53; refine (KI.out _).mono ?_; rintro e w' ⟨rfl, rfl⟩) | (go_at_call 56; refine (BR.out _ (by repeat' (first | (with_reducible exact H1.out) | (with_reducible exact HH.out) | (with_reducible refine HAt.drew ?_ _) | (with_reducible refine HAt.drew1 ?_) | (with_reducible refine HAt.setTail ?_ (by decide) _) | (with_reducible refine HAt.setOther ?_ (by omega) _ _) | (with_reducible refine HAt.allocK ?_ _))) (by repeat' (first | (with_reducible exact D1.out) | (with_reducible exact DD.out) | (with_reducible refine DI.setGone ?_ _) | (with_reducible refine DI.setOther ?_ (by omega) _ _) | (with_reducible refine DI.drewK ?_ _) | (with_reducible refine DI.drew1 ?_) | (with_reducible refine DI.allocK ?_ hbl _)))).mono ?_; rintro e w1 ⟨rfl, h1, d1, o1⟩; have q1 : OnlyD b w w1 := OnlyD.trans (w1 := _) (by repeat' (first | (with_reducible refine OnlyD.drewK ?_ _) | (with_reducible refine OnlyD.drew1 ?_) | (with_reducible exact OnlyD.refl _ _) | (with_reducible refine OnlyD.set ?_ 50 _) | (with_reducible refine OnlyD.setOther ?_ hbl (Nat.le_refl _) _ _) | (with_reducible refine OnlyD.allocK ?_ hbl _))) o1; have rw1 := (o1.over _ hbl (by simp)).trans RW.out; have H1 := Lib.hid h1; have D1 := Lib.hid d1; have O1 := Lib.hid q1; (obtain ⟨⟨t0, t1, t2, t3, t4, t5⟩, tf, tl⟩ := acc0_facts rw1); clear h1 d1 o1 q1 rw1))
  all_goals
    go_wp2
    refine bodyPost_ret (v := .agg acc0) ?_ rfl ⟨rfl, ?_, ?_, ?_⟩
    · simp [results, Tryd.results34, go_sem, acc0, t0, t1, t2, t3, t4, t5]
    · exact (by repeat' (first | (with_reducible exact H1.out) | (with_reducible exact HH.out) | (with_reducible refine HAt.drew ?_ _) | (with_reducible refine HAt.drew1 ?_) | (with_reducible refine HAt.setTail ?_ (by decide) _) | (with_reducible refine HAt.setOther ?_ (by omega) _ _) | (with_reducible refine HAt.allocK ?_ _)))
    · exact (by repeat' (first | (with_reducible exact D1.out) | (with_reducible exact DD.out) | (with_reducible refine DI.setGone ?_ _) | (with_reducible refine DI.setOther ?_ (by omega) _ _) | (with_reducible refine DI.drewK ?_ _) | (with_reducible refine DI.drew1 ?_) | (with_reducible refine DI.allocK ?_ hbl _)))
    · exact (by repeat' (first | (with_reducible exact O1.out) | (with_reducible exact OnlyD.refl _ _) | (with_reducible refine OnlyD.set ?_ 50 _) | (with_reducible refine OnlyD.setOther ?_ hbl (Nat.le_refl _) _ _) | (with_reducible refine OnlyD.allocK ?_ hbl _)))
set_option maxHeartbeats 4000000 in
theorem one_imm (h : HS) (hk : h.ok) (b : Nat) (n k v : Nat) (hk9 : k < 6) {rd r1 r2 : Nat} {imm cs : Int} {ww ln : Nat} (hn : IntKind.u32.wrap imm = (n : Int)) (hnl : n < 4294967296) (AL : Hid (∀ w : World, Calls Tryd.prog 75 #[.int .i64 (numT.getD k 0 : Nat), .int .u32 (h.x r1 : Nat), .int .u32 n] w fun e w' => e = .returned (.tuple #[.int .u32 v, .nilIface]) ∧ Below w.heap.size w w')) {op : Nat} (hop : op = 18 + k) (hrd : rd < 32) (hr1 : r1 < 32) (hr2 : r2 < 32) (w : World) (H : HAt w b h) (D : DI w b op rd r1 r2 imm cs ww ln false) :
    Calls Tryd.prog 34 #[.pointer (some ⟨b, 0, none⟩)] w fun e w' => e = .returned (.agg acc0) ∧ HAt w' b (setH h rd v) ∧ DI w' b op rd r1 r2 imm cs ww ln false ∧ OnlyD b w w' := by
  have KI := Lib.hid (fun w => by have h := kind_at op (by omega) w; rw [show kN op = 73 from by subst hop; exact kN_im k hk9] at h; exact h)
  have h3 : ((op : Int) == 3) = false := by simp; omega
  have NU := Lib.hid (fun w => hnum_any k (by omega) (op : Int) (by omega) w)
  have hop1 : (op : Int) < 57 := by omega
  have hop2 : 4 ≤ (op : Int) := by omega
  have A := Lib.hid (fun w H D => da_any h b (op := op) (rd := rd) (r1 := r1) (r2 := r2) (imm := imm) (cs := cs) (ww := ww) (ln := ln) (gone := false) hr1 w H D)
  have N := Lib.hid (fun w D => dn_any b n (op := op) (rd := rd) (r1 := r1) (r2 := r2) (imm := imm) (cs := cs) (ww := ww) (ln := ln) (gone := false) hn w D)
  obtain ⟨m, hm⟩ : ∃ m, m = numT.getD k 0 := ⟨_, rfl⟩
  rw [← hm] at AL NU
  have MK := Lib.hid (fun w H D => dmake_any h b m (h.x r1) n v AL (op := op) (rd := rd) (r1 := r1) (r2 := r2) (imm := imm) (cs := cs) (ww := ww) (ln := ln) (gone := false) hrd w H D)
  generalize setH h rd v = s at MK ⊢
  generalize h.x r1 = x at *
  have hbl := H.2.2
  have RW := Lib.hid (heap_alloc_new w (.cells acc0 50))
  have hT := show w.heap.size ≠ b from by omega
  have HH := Lib.hid H
  have DD := Lib.hid D
  have c42 := D.op
  have c43 := D.rd
  have c0 := H.pc_
  clear H D hk
  clear hop hn AL hk9 hm
  go_enter Tryd.func34, Tryd.ntmps34
  go_wp2_with (first | (go_at_call 53; refine (KI.out _).mono ?_; rintro e w' ⟨rfl, rfl⟩) | (go_at_call 54; refine (N.out _ (by repeat' (first | (with_reducible exact D1.out) | (with_reducible exact DD.out) | (with_reducible refine DI.setGone ?_ _) | (with_reducible refine DI.setOther ?_ (by omega) _ _) | (with_reducible refine DI.drewK ?_ _) | (with_reducible refine DI.drew1 ?_) | (with_reducible refine DI.allocK ?_ hbl _)))).mono ?_; rintro e w1 ⟨rfl, rfl⟩) | (go_at_call 58; refine (A.out _ (by repeat' (first | (with_reducible exact H1.out) | (with_reducible exact HH.out) | (with_reducible refine HAt.drew ?_ _) | (with_reducible refine HAt.drew1 ?_) | (with_reducible refine HAt.setTail ?_ (by decide) _) | (with_reducible refine HAt.setOther ?_ (by omega) _ _) | (with_reducible refine HAt.allocK ?_ _))) (by repeat' (first | (with_reducible exact D1.out) | (with_reducible exact DD.out) | (with_reducible refine DI.setGone ?_ _) | (with_reducible refine DI.setOther ?_ (by omega) _ _) | (with_reducible refine DI.drewK ?_ _) | (with_reducible refine DI.drew1 ?_) | (with_reducible refine DI.allocK ?_ hbl _)))).mono ?_; rintro e w1 ⟨rfl, ka, rfl⟩) | (go_at_call 60; refine (NU.out _).mono ?_; rintro e w' ⟨rfl, rfl⟩) | (go_at_call 59; refine (MK.out _ (by repeat' (first | (with_reducible exact H1.out) | (with_reducible exact HH.out) | (with_reducible refine HAt.drew ?_ _) | (with_reducible refine HAt.drew1 ?_) | (with_reducible refine HAt.setTail ?_ (by decide) _) | (with_reducible refine HAt.setOther ?_ (by omega) _ _) | (with_reducible refine HAt.allocK ?_ _))) (by repeat' (first | (with_reducible exact D1.out) | (with_reducible exact DD.out) | (with_reducible refine DI.setGone ?_ _) | (with_reducible refine DI.setOther ?_ (by omega) _ _) | (with_reducible refine DI.drewK ?_ _) | (with_reducible refine DI.drew1 ?_) | (with_reducible refine DI.allocK ?_ hbl _)))).mono ?_; rintro e w1 ⟨rfl, h1, d1, o1⟩; have q1 : OnlyD b w w1 := OnlyD.trans (w1 := _) (by repeat' (first | (with_reducible refine OnlyD.drewK ?_ _) | (with_reducible refine OnlyD.drew1 ?_) | (with_reducible exact OnlyD.refl _ _) | (with_reducible refine OnlyD.set ?_ 50 _) | (with_reducible refine OnlyD.setOther ?_ hbl (Nat.le_refl _) _ _) | (with_reducible refine OnlyD.allocK ?_ hbl _))) o1; have rw1 := (o1.over _ hbl (by simp)).trans RW.out; have H1 := Lib.hid h1; have D1 := Lib.hid d1; have O1 := Lib.hid q1; (obtain ⟨⟨t0, t1, t2, t3, t4, t5⟩, tf, tl⟩ := acc0_facts rw1); clear h1 d1 o1 q1 rw1))
  all_goals
    go_wp2
    refine bodyPost_ret (v := .agg acc0) ?_ rfl ⟨rfl, ?_, ?_, ?_⟩
    · simp [results, Tryd.results34, go_sem, acc0, t0, t1, t2, t3, t4, t5]
    · exact (by repeat' (first | (with_reducible exact H1.out) | (with_reducible exact HH.out) | (with_reducible refine HAt.drew ?_ _) | (with_reducible refine HAt.drew1 ?_) | (with_reducible refine HAt.setTail ?_ (by decide) _) | (with_reducible refine HAt.setOther ?_ (by omega) _ _) | (with_reducible refine HAt.allocK ?_ _)))
    · exact (by repeat' (first | (with_reducible exact D1.out) | (with_reducible exact DD.out) | (with_reducible refine DI.setGone ?_ _) | (with_reducible refine DI.setOther ?_ (by omega) _ _) | (with_reducible refine DI.drewK ?_ _) | (with_reducible refine DI.drew1 ?_) | (with_reducible refine DI.allocK ?_ hbl _)))
    · exact (by repeat' (first | (with_reducible exact O1.out) | (with_reducible exact OnlyD.refl _ _) | (with_reducible refine OnlyD.set ?_ 50 _) | (with_reducible refine OnlyD.setOther ?_ hbl (Nat.le_refl _) _ _) | (with_reducible refine OnlyD.allocK ?_ hbl _)))
set_option maxHeartbeats 4000000 in
theorem one_imh (h : HS) (hk : h.ok) (b : Nat) (n k v : Nat) (hk9 : 6 ≤ k ∧ k < 9) {rd r1 r2 : Nat} {imm cs : Int} {ww ln : Nat} (hn : IntKind.u32.wrap imm = (n : Int)) (hnl : n < 4294967296) (AL : Hid (∀ w : World, Calls Tryd.prog 75 #[.int .i64 (numT.getD k 0 : Nat), .int .u32 (h.x r1 : Nat), .int .u32 n] w fun e w' => e = .returned (.tuple #[.int .u32 v, .nilIface]) ∧ Below w.heap.size w w')) {op : Nat} (hop : op = 18 + k) (hrd : rd < 32) (hr1 : r1 < 32) (hr2 : r2 < 32) (w : World) (H : HAt w b h) (D : DI w b op rd r1 r2 imm cs ww ln false) :
    Calls Tryd.prog 34 #[.pointer (some ⟨b, 0, none⟩)] w fun e w' => e = .returned (.agg acc0) ∧ HAt w' b (setH h rd v) ∧ DI w' b op rd r1 r2 imm cs ww ln false ∧ OnlyD b w w' := by
  have KI := Lib.hid (fun w => by have h := kind_at op (by omega) w; rw [show kN op = 72 from by subst hop; exact kN_ih k hk9.2 hk9.1] at h; exact h)
  have h3 : ((op : Int) == 3) = false := by simp; omega
  have NU := Lib.hid (fun w => hnum_any k (by omega) (op : Int) (by omega) w)
  have hop1 : (op : Int) < 57 := by omega
  have hop2 : 4 ≤ (op : Int) := by omega
  have A := Lib.hid (fun w H D => da_any h b (op := op) (rd := rd) (r1 := r1) (r2 := r2) (imm := imm) (cs := cs) (ww := ww) (ln := ln) (gone := false) hr1 w H D)
  have N := Lib.hid (fun w D => dn_any b n (op := op) (rd := rd) (r1 := r1) (r2 := r2) (imm := imm) (cs := cs) (ww := ww) (ln := ln) (gone := false) hn w D)
  obtain ⟨m, hm⟩ : ∃ m, m = numT.getD k 0 := ⟨_, rfl⟩
  rw [← hm] at AL NU
  have MK := Lib.hid (fun w H D => dmake_any h b m (h.x r1) n v AL (op := op) (rd := rd) (r1 := r1) (r2 := r2) (imm := imm) (cs := cs) (ww := ww) (ln := ln) (gone := false) hrd w H D)
  generalize setH h rd v = s at MK ⊢
  generalize h.x r1 = x at *
  have hbl := H.2.2
  have RW := Lib.hid (heap_alloc_new w (.cells acc0 50))
  have hT := show w.heap.size ≠ b from by omega
  have HH := Lib.hid H
  have DD := Lib.hid D
  have c42 := D.op
  have c43 := D.rd
  have c0 := H.pc_
  clear H D hk
  clear hop hn AL hk9 hm
  go_enter Tryd.func34, Tryd.ntmps34
  go_wp2_with (first | (go_at_call 53; refine (KI.out _).mono ?_; rintro e w' ⟨rfl, rfl⟩) | (go_at_call 54; refine (N.out _ (by repeat' (first | (with_reducible exact D1.out) | (with_reducible exact DD.out) | (with_reducible refine DI.setGone ?_ _) | (with_reducible refine DI.setOther ?_ (by omega) _ _) | (with_reducible refine DI.drewK ?_ _) | (with_reducible refine DI.drew1 ?_) | (with_reducible refine DI.allocK ?_ hbl _)))).mono ?_; rintro e w1 ⟨rfl, rfl⟩) | (go_at_call 58; refine (A.out _ (by repeat' (first | (with_reducible exact H1.out) | (with_reducible exact HH.out) | (with_reducible refine HAt.drew ?_ _) | (with_reducible refine HAt.drew1 ?_) | (with_reducible refine HAt.setTail ?_ (by decide) _) | (with_reducible refine HAt.setOther ?_ (by omega) _ _) | (with_reducible refine HAt.allocK ?_ _))) (by repeat' (first | (with_reducible exact D1.out) | (with_reducible exact DD.out) | (with_reducible refine DI.setGone ?_ _) | (with_reducible refine DI.setOther ?_ (by omega) _ _) | (with_reducible refine DI.drewK ?_ _) | (with_reducible refine DI.drew1 ?_) | (with_reducible refine DI.allocK ?_ hbl _)))).mono ?_; rintro e w1 ⟨rfl, ka, rfl⟩) | (go_at_call 60; refine (NU.out _).mono ?_; rintro e w' ⟨rfl, rfl⟩) | (go_at_call 59; refine (MK.out _ (by repeat' (first | (with_reducible exact H1.out) | (with_reducible exact HH.out) | (with_reducible refine HAt.drew ?_ _) | (with_reducible refine HAt.drew1 ?_) | (with_reducible refine HAt.setTail ?_ (by decide) _) | (with_reducible refine HAt.setOther ?_ (by omega) _ _) | (with_reducible refine HAt.allocK ?_ _))) (by repeat' (first | (with_reducible exact D1.out) | (with_reducible exact DD.out) | (with_reducible refine DI.setGone ?_ _) | (with_reducible refine DI.setOther ?_ (by omega) _ _) | (with_reducible refine DI.drewK ?_ _) | (with_reducible refine DI.drew1 ?_) | (with_reducible refine DI.allocK ?_ hbl _)))).mono ?_; rintro e w1 ⟨rfl, h1, d1, o1⟩; have q1 : OnlyD b w w1 := OnlyD.trans (w1 := _) (by repeat' (first | (with_reducible refine OnlyD.drewK ?_ _) | (with_reducible refine OnlyD.drew1 ?_) | (with_reducible exact OnlyD.refl _ _) | (with_reducible refine OnlyD.set ?_ 50 _) | (with_reducible refine OnlyD.setOther ?_ hbl (Nat.le_refl _) _ _) | (with_reducible refine OnlyD.allocK ?_ hbl _))) o1; have rw1 := (o1.over _ hbl (by simp)).trans RW.out; have H1 := Lib.hid h1; have D1 := Lib.hid d1; have O1 := Lib.hid q1; (obtain ⟨⟨t0, t1, t2, t3, t4, t5⟩, tf, tl⟩ := acc0_facts rw1); clear h1 d1 o1 q1 rw1))
  all_goals
    go_wp2
    refine bodyPost_ret (v := .agg acc0) ?_ rfl ⟨rfl, ?_, ?_, ?_⟩
    · simp [results, Tryd.results34, go_sem, acc0, t0, t1, t2, t3, t4, t5]
    · exact (by repeat' (first | (with_reducible exact H1.out) | (with_reducible exact HH.out) | (with_reducible refine HAt.drew ?_ _) | (with_reducible refine HAt.drew1 ?_) | (with_reducible refine HAt.setTail ?_ (by decide) _) | (with_reducible refine HAt.setOther ?_ (by omega) _ _) | (with_reducible refine HAt.allocK ?_ _)))
    · exact (by repeat' (first | (with_reducible exact D1.out) | (with_reducible exact DD.out) | (with_reducible refine DI.setGone ?_ _) | (with_reducible refine DI.setOther ?_ (by omega) _ _) | (with_reducible refine DI.drewK ?_ _) | (with_reducible refine DI.drew1 ?_) | (with_reducible refine DI.allocK ?_ hbl _)))
    · exact (by repeat' (first | (with_reducible exact O1.out) | (with_reducible exact OnlyD.refl _ _) | (with_reducible refine OnlyD.set ?_ 50 _) | (with_reducible refine OnlyD.setOther ?_ hbl (Nat.le_refl _) _ _) | (with_reducible refine OnlyD.allocK ?_ hbl _)))
set_option maxHeartbeats 4000000 in
theorem one_reg (h : HS) (hk : h.ok) (b : Nat) (k v : Nat) (hk18 : k < 18) {rd r1 r2 : Nat} {imm cs : Int} {ww ln : Nat} (AL : Hid (∀ w : World, Calls Tryd.prog 75 #[.int .i64 k, .int .u32 (h.x r1 : Nat), .int .u32 (h.x r2 : Nat)] w fun e w' => e = .returned (.tuple #[.int .u32 v, .nilIface]) ∧ Below w.heap.size w w')) {op : Nat} (hop : op = 27 + k) (hrd : rd < 32) (hr1 : r1 < 32) (hr2 : r2 < 32) (w : World) (H : HAt w b h) (D : DI w b op rd r1 r2 imm cs ww ln false) :
    Calls Tryd.prog 34 #[.pointer (some ⟨b, 0, none⟩)] w fun e w' => e = .returned (.agg acc0) ∧ HAt w' b (setH h rd v) ∧ DI w' b op rd r1 r2 imm cs ww ln false ∧ OnlyD b w w' := by
  have KI := Lib.hid (fun w => by have h := kind_at op (by omega) w; rw [show kN op = 82 from by subst hop; exact kN_rg k hk18] at h; exact h)
  have e4 : (op : Int) - 27 = (k : Int) := by omega
  have hop1 : (op : Int) < 57 := by omega
  have hop2 : 27 ≤ (op : Int) := by omega
  have A := Lib.hid (fun w H D => da_any h b (op := op) (rd := rd) (r1 := r1) (r2 := r2) (imm := imm) (cs := cs) (ww := ww) (ln := ln) (gone := false) hr1 w H D)
  have B := Lib.hid (fun w H D => db_any h b (op := op) (rd := rd) (r1 := r1) (r2 := r2) (imm := imm) (cs := cs) (ww := ww) (ln := ln) (gone := false) hr2 w H D)
  have MK := Lib.hid (fun w H D => dmake_any h b k (h.x r1) (h.x r2) v AL (op := op) (rd := rd) (r1 := r1) (r2 := r2) (imm := imm) (cs := cs) (ww := ww) (ln := ln) (gone := false) hrd w H D)
  generalize setH h rd v = s at MK ⊢
  generalize h.x r1 = x at *
  generalize h.x r2 = y at *
  have hbl := H.2.2
  have RW := Lib.hid (heap_alloc_new w (.cells acc0 50))
  have hT := show w.heap.size ≠ b from by omega
  have HH := Lib.hid H
  have DD := Lib.hid D
  have c42 := D.op
  have c43 := D.rd
  have c0 := H.pc_
  clear H D hk
  clear hop AL hk18
  go_enter Tryd.func34, Tryd.ntmps34
  go_wp2_with (first | (go_at_call 53; refine (KI.out _).mono ?_; rintro e w' ⟨rfl, rfl⟩) | (go_at_call 58; refine (A.out _ (by repeat' (first | (with_reducible exact H1.out) | (with_reducible exact HH.out) | (with_reducible refine HAt.drew ?_ _) | (with_reducible refine HAt.drew1 ?_) | (with_reducible refine HAt.setTail ?_ (by decide) _) | (with_reducible refine HAt.setOther ?_ (by omega) _ _) | (with_reducible refine HAt.allocK ?_ _))) (by repeat' (first | (with_reducible exact D1.out) | (with_reducible exact DD.out) | (with_reducible refine DI.setGone ?_ _) | (with_reducible refine DI.setOther ?_ (by omega) _ _) | (with_reducible refine DI.drewK ?_ _) | (with_reducible refine DI.drew1 ?_) | (with_reducible refine DI.allocK ?_ hbl _)))).mono ?_; rintro e w1 ⟨rfl, ka, rfl⟩) | (go_at_call 61; refine (B.out _ (by repeat' (first | (with_reducible exact H1.out) | (with_reducible exact HH.out) | (with_reducible refine HAt.drew ?_ _) | (with_reducible refine HAt.drew1 ?_) | (with_reducible refine HAt.setTail ?_ (by decide) _) | (with_reducible refine HAt.setOther ?_ (by omega) _ _) | (with_reducible refine HAt.allocK ?_ _))) (by repeat' (first | (with_reducible exact D1.out) | (with_reducible exact DD.out) | (with_reducible refine DI.setGone ?_ _) | (with_reducible refine DI.setOther ?_ (by omega) _ _) | (with_reducible refine DI.drewK ?_ _) | (with_reducible refine DI.drew1 ?_) | (with_reducible refine DI.allocK ?_ hbl _)))).mono ?_; rintro e w1 ⟨rfl, kb, rfl⟩) | (go_at_call 59; refine (MK.out _ (by repeat' (first | (with_reducible exact H1.out) | (with_reducible exact HH.out) | (with_reducible refine HAt.drew ?_ _) | (with_reducible refine HAt.drew1 ?_) | (with_reducible refine HAt.setTail ?_ (by decide) _) | (with_reducible refine HAt.setOther ?_ (by omega) _ _) | (with_reducible refine HAt.allocK ?_ _))) (by repeat' (first | (with_reducible exact D1.out) | (with_reducible exact DD.out) | (with_reducible refine DI.setGone ?_ _) | (with_reducible refine DI.setOther ?_ (by omega) _ _) | (with_reducible refine DI.drewK ?_ _) | (with_reducible refine DI.drew1 ?_) | (with_reducible refine DI.allocK ?_ hbl _)))).mono ?_; rintro e w1 ⟨rfl, h1, d1, o1⟩; have q1 : OnlyD b w w1 := OnlyD.trans (w1 := _) (by repeat' (first | (with_reducible refine OnlyD.drewK ?_ _) | (with_reducible refine OnlyD.drew1 ?_) | (with_reducible exact OnlyD.refl _ _) | (with_reducible refine OnlyD.set ?_ 50 _) | (with_reducible refine OnlyD.setOther ?_ hbl (Nat.le_refl _) _ _) | (with_reducible refine OnlyD.allocK ?_ hbl _))) o1; have rw1 := (o1.over _ hbl (by simp)).trans RW.out; have H1 := Lib.hid h1; have D1 := Lib.hid d1; have O1 := Lib.hid q1; (obtain ⟨⟨t0, t1, t2, t3, t4, t5⟩, tf, tl⟩ := acc0_facts rw1); clear h1 d1 o1 q1 rw1))
  all_goals
    go_wp2
    refine bodyPost_ret (v := .agg acc0) ?_ rfl ⟨rfl, ?_, ?_, ?_⟩
    · simp [results, Tryd.results34, go_sem, acc0, t0, t1, t2, t3, t4, t5]
    · exact (by repeat' (first | (with_reducible exact H1.out) | (with_reducible exact HH.out) | (with_reducible refine HAt.drew ?_ _) | (with_reducible refine HAt.drew1 ?_) | (with_reducible refine HAt.setTail ?_ (by decide) _) | (with_reducible refine HAt.setOther ?_ (by omega) _ _) | (with_reducible refine HAt.allocK ?_ _)))
    · exact (by repeat' (first | (with_reducible exact D1.out) | (with_reducible exact DD.out) | (with_reducible refine DI.setGone ?_ _) | (with_reducible refine DI.setOther ?_ (by omega) _ _) | (with_reducible refine DI.drewK ?_ _) | (with_reducible refine DI.drew1 ?_) | (with_reducible refine DI.allocK ?_ hbl _)))
    · exact (by repeat' (first | (with_reducible exact O1.out) | (with_reducible exact OnlyD.refl _ _) | (with_reducible refine OnlyD.set ?_ 50 _) | (with_reducible refine OnlyD.setOther ?_ hbl (Nat.le_refl _) _ _) | (with_reducible refine OnlyD.allocK ?_ hbl _)))
set_option maxHeartbeats 4000000 in
theorem one_mret (h : HS) (hk : h.ok) (b : Nat) {rd r1 r2 : Nat} {imm cs : Int} {ww ln : Nat} (hrd : rd < 32) (hr1 : r1 < 32) (hr2 : r2 < 32) (w : World) (H : HAt w b h) (D : DI w b 49 rd r1 r2 imm cs ww ln false) :
    Calls Tryd.prog 34 #[.pointer (some ⟨b, 0, none⟩)] w fun e w' => e = .returned (.agg acc0) ∧ HAt w' b (mretH h) ∧ DI w' b 49 rd r1 r2 imm cs ww ln true ∧ OnlyD b w w' := by
  have KI := Lib.hid (fun w => by have h := kind_at 49 (by decide) w; exact h)
  have SY := Lib.hid (fun w H D => dsys_mret h hk b (rd := rd) (r1 := r1) (r2 := r2) (imm := imm) (cs := cs) (ww := ww) (ln := ln) w H D)
  generalize mretH h = s at SY ⊢
  have hbl := H.2.2
  have RW := Lib.hid (heap_alloc_new w (.cells acc0 50))
  have hT := show w.heap.size ≠ b from by omega
  have HH := Lib.hid H
  have DD := Lib.hid D
  have c42 := D.op
  have c43 := D.rd
  have c0 := H.pc_
  clear H D hk
  go_enter Tryd.func34, Tryd.ntmps34
  go_wp2_with (first | (go_at_call 53; refine (KI.out _).mono ?_; rintro e w' ⟨rfl, rfl⟩) | (go_at_call 62; refine (SY.out _ (by repeat' (first | (with_reducible exact H1.out) | (with_reducible exact HH.out) | (with_reducible refine HAt.drew ?_ _) | (with_reducible refine HAt.drew1 ?_) | (with_reducible refine HAt.setTail ?_ (by decide) _) | (with_reducible refine HAt.setOther ?_ (by omega) _ _) | (with_reducible refine HAt.allocK ?_ _))) (by repeat' (first | (with_reducible exact D1.out) | (with_reducible exact DD.out) | (with_reducible refine DI.setGone ?_ _) | (with_reducible refine DI.setOther ?_ (by omega) _ _) | (with_reducible refine DI.drewK ?_ _) | (with_reducible refine DI.drew1 ?_) | (with_reducible refine DI.allocK ?_ hbl _)))).mono ?_; rintro e w1 ⟨rfl, h1, d1, o1⟩; have q1 : OnlyD b w w1 := OnlyD.trans (w1 := _) (by repeat' (first | (with_reducible refine OnlyD.drewK ?_ _) | (with_reducible refine OnlyD.drew1 ?_) | (with_reducible exact OnlyD.refl _ _) | (with_reducible refine OnlyD.set ?_ 50 _) | (with_reducible refine OnlyD.setOther ?_ hbl (Nat.le_refl _) _ _) | (with_reducible refine OnlyD.allocK ?_ hbl _))) o1; have rw1 := (o1.over _ hbl (by simp)).trans RW.out; have H1 := Lib.hid h1; have D1 := Lib.hid d1; have O1 := Lib.hid q1; (obtain ⟨⟨t0, t1, t2, t3, t4, t5⟩, tf, tl⟩ := acc0_facts rw1); clear h1 d1 o1 q1 rw1))
  all_goals
    go_wp2
    refine bodyPost_ret (v := .agg acc0) ?_ rfl ⟨rfl, ?_, ?_, ?_⟩
    · simp [results, Tryd.results34, go_sem, acc0, t0, t1, t2, t3, t4, t5]
    · exact (by repeat' (first | (with_reducible exact H1.out) | (with_reducible exact HH.out) | (with_reducible refine HAt.drew ?_ _) | (with_reducible refine HAt.drew1 ?_) | (with_reducible refine HAt.setTail ?_ (by decide) _) | (with_reducible refine HAt.setOther ?_ (by omega) _ _) | (with_reducible refine HAt.allocK ?_ _)))
    · exact (by repeat' (first | (with_reducible exact D1.out) | (with_reducible exact DD.out) | (with_reducible refine DI.setGone ?_ _) | (with_reducible refine DI.setOther ?_ (by omega) _ _) | (with_reducible refine DI.drewK ?_ _) | (with_reducible refine DI.drew1 ?_) | (with_reducible refine DI.allocK ?_ hbl _)))
    · exact (by repeat' (first | (with_reducible exact O1.out) | (with_reducible exact OnlyD.refl _ _) | (with_reducible refine OnlyD.set ?_ 50 _) | (with_reducible refine OnlyD.setOther ?_ hbl (Nat.le_refl _) _ _) | (with_reducible refine OnlyD.allocK ?_ hbl _)))
set_option maxHeartbeats 4000000 in
theorem one_wfi (h : HS) (hk : h.ok) (b : Nat) {rd r1 r2 : Nat} {imm cs : Int} {ww ln : Nat} (hrd : rd < 32) (hr1 : r1 < 32) (hr2 : r2 < 32) (w : World) (H : HAt w b h) (D : DI w b 50 rd r1 r2 imm cs ww ln false) :
    Calls Tryd.prog 34 #[.pointer (some ⟨b, 0, none⟩)] w fun e w' => e = .returned (.agg acc0) ∧ HAt w' b ({ h with wait := true }) ∧ DI w' b 50 rd r1 r2 imm cs ww ln false ∧ OnlyD b w w' := by
  have KI := Lib.hid (fun w => by have h := kind_at 50 (by decide) w; exact h)
  have SY := Lib.hid (fun w H D => dsys_wfi h b (rd := rd) (r1 := r1) (r2 := r2) (imm := imm) (cs := cs) (ww := ww) (ln := ln) w H D)
  have hbl := H.2.2
  have RW := Lib.hid (heap_alloc_new w (.cells acc0 50))
  have hT := show w.heap.size ≠ b from by omega
  have HH := Lib.hid H
  have DD := Lib.hid D
  have c42 := D.op
  have c43 := D.rd
  have c0 := H.pc_
  clear H D hk
  go_enter Tryd.func34, Tryd.ntmps34
  go_wp2_with (first | (go_at_call 53; refine (KI.out _).mono ?_; rintro e w' ⟨rfl, rfl⟩) | (go_at_call 62; refine (SY.out _ (by repeat' (first | (with_reducible exact H1.out) | (with_reducible exact HH.out) | (with_reducible refine HAt.drew ?_ _) | (with_reducible refine HAt.drew1 ?_) | (with_reducible refine HAt.setTail ?_ (by decide) _) | (with_reducible refine HAt.setOther ?_ (by omega) _ _) | (with_reducible refine HAt.allocK ?_ _))) (by repeat' (first | (with_reducible exact D1.out) | (with_reducible exact DD.out) | (with_reducible refine DI.setGone ?_ _) | (with_reducible refine DI.setOther ?_ (by omega) _ _) | (with_reducible refine DI.drewK ?_ _) | (with_reducible refine DI.drew1 ?_) | (with_reducible refine DI.allocK ?_ hbl _)))).mono ?_; rintro e w1 ⟨rfl, h1, d1, o1⟩; have q1 : OnlyD b w w1 := OnlyD.trans (w1 := _) (by repeat' (first | (with_reducible refine OnlyD.drewK ?_ _) | (with_reducible refine OnlyD.drew1 ?_) | (with_reducible exact OnlyD.refl _ _) | (with_reducible refine OnlyD.set ?_ 50 _) | (with_reducible refine OnlyD.setOther ?_ hbl (Nat.le_refl _) _ _) | (with_reducible refine OnlyD.allocK ?_ hbl _))) o1; have rw1 := (o1.over _ hbl (by simp)).trans RW.out; have H1 := Lib.hid h1; have D1 := Lib.hid d1; have O1 := Lib.hid q1; (obtain ⟨⟨t0, t1, t2, t3, t4, t5⟩, tf, tl⟩ := acc0_facts rw1); clear h1 d1 o1 q1 rw1))
  all_goals
    go_wp2
    refine bodyPost_ret (v := .agg acc0) ?_ rfl ⟨rfl, ?_, ?_, ?_⟩
    · simp [results, Tryd.results34, go_sem, acc0, t0, t1, t2, t3, t4, t5]
    · exact (by repeat' (first | (with_reducible exact H1.out) | (with_reducible exact HH.out) | (with_reducible refine HAt.drew ?_ _) | (with_reducible refine HAt.drew1 ?_) | (with_reducible refine HAt.setTail ?_ (by decide) _) | (with_reducible refine HAt.setOther ?_ (by omega) _ _) | (with_reducible refine HAt.allocK ?_ _)))
    · exact (by repeat' (first | (with_reducible exact D1.out) | (with_reducible exact DD.out) | (with_reducible refine DI.setGone ?_ _) | (with_reducible refine DI.setOther ?_ (by omega) _ _) | (with_reducible refine DI.drewK ?_ _) | (with_reducible refine DI.drew1 ?_) | (with_reducible refine DI.allocK ?_ hbl _)))
    · exact (by repeat' (first | (with_reducible exact O1.out) | (with_reducible exact OnlyD.refl _ _) | (with_reducible refine OnlyD.set ?_ 50 _) | (with_reducible refine OnlyD.setOther ?_ hbl (Nat.le_refl _) _ _) | (with_reducible refine OnlyD.allocK ?_ hbl _)))
set_option maxHeartbeats 4000000 in
theorem one_ecall (h : HS) (hk : h.ok) (b : Nat) {rd r1 r2 : Nat} {imm cs : Int} {ww ln : Nat} (hrd : rd < 32) (hr1 : r1 < 32) (hr2 : r2 < 32) (w : World) (H : HAt w b h) (D : DI w b 47 rd r1 r2 imm cs ww ln false) :
    Calls Tryd.prog 34 #[.pointer (some ⟨b, 0, none⟩)] w fun e w' => e = .returned (.agg acc0) ∧ HAt w' b (trapH h 11 0) ∧ DI w' b 47 rd r1 r2 imm cs ww ln true ∧ OnlyD b w w' := by
  have KI := Lib.hid (fun w => by have h := kind_at 47 (by decide) w; exact h)
  have SY := Lib.hid (fun w H D => dsys_ecall h hk b (rd := rd) (r1 := r1) (r2 := r2) (imm := imm) (cs := cs) (ww := ww) (ln := ln) w H D)
  generalize trapH h 11 0 = s at SY ⊢
  have hbl := H.2.2
  have RW := Lib.hid (heap_alloc_new w (.cells acc0 50))
  have hT := show w.heap.size ≠ b from by omega
  have HH := Lib.hid H
  have DD := Lib.hid D
  have c42 := D.op
  have c43 := D.rd
  have c0 := H.pc_
  clear H D hk
  go_enter Tryd.func34, Tryd.ntmps34
  go_wp2_with (first | (go_at_call 53; refine (KI.out _).mono ?_; rintro e w' ⟨rfl, rfl⟩) | (go_at_call 62; refine (SY.out _ (by repeat' (first | (with_reducible exact H1.out) | (with_reducible exact HH.out) | (with_reducible refine HAt.drew ?_ _) | (with_reducible refine HAt.drew1 ?_) | (with_reducible refine HAt.setTail ?_ (by decide) _) | (with_reducible refine HAt.setOther ?_ (by omega) _ _) | (with_reducible refine HAt.allocK ?_ _))) (by repeat' (first | (with_reducible exact D1.out) | (with_reducible exact DD.out) | (with_reducible refine DI.setGone ?_ _) | (with_reducible refine DI.setOther ?_ (by omega) _ _) | (with_reducible refine DI.drewK ?_ _) | (with_reducible refine DI.drew1 ?_) | (with_reducible refine DI.allocK ?_ hbl _)))).mono ?_; rintro e w1 ⟨rfl, h1, d1, o1⟩; have q1 : OnlyD b w w1 := OnlyD.trans (w1 := _) (by repeat' (first | (with_reducible refine OnlyD.drewK ?_ _) | (with_reducible refine OnlyD.drew1 ?_) | (with_reducible exact OnlyD.refl _ _) | (with_reducible refine OnlyD.set ?_ 50 _) | (with_reducible refine OnlyD.setOther ?_ hbl (Nat.le_refl _) _ _) | (with_reducible refine OnlyD.allocK ?_ hbl _))) o1; have rw1 := (o1.over _ hbl (by simp)).trans RW.out; have H1 := Lib.hid h1; have D1 := Lib.hid d1; have O1 := Lib.hid q1; (obtain ⟨⟨t0, t1, t2, t3, t4, t5⟩, tf, tl⟩ := acc0_facts rw1); clear h1 d1 o1 q1 rw1))
  all_goals
    go_wp2
    refine bodyPost_ret (v := .agg acc0) ?_ rfl ⟨rfl, ?_, ?_, ?_⟩
    · simp [results, Tryd.results34, go_sem, acc0, t0, t1, t2, t3, t4, t5]
    · exact (by repeat' (first | (with_reducible exact H1.out) | (with_reducible exact HH.out) | (with_reducible refine HAt.drew ?_ _) | (with_reducible refine HAt.drew1 ?_) | (with_reducible refine HAt.setTail ?_ (by decide) _) | (with_reducible refine HAt.setOther ?_ (by omega) _ _) | (with_reducible refine HAt.allocK ?_ _)))
    · exact (by repeat' (first | (with_reducible exact D1.out) | (with_reducible exact DD.out) | (with_reducible refine DI.setGone ?_ _) | (with_reducible refine DI.setOther ?_ (by omega) _ _) | (with_reducible refine DI.drewK ?_ _) | (with_reducible refine DI.drew1 ?_) | (with_reducible refine DI.allocK ?_ hbl _)))
    · exact (by repeat' (first | (with_reducible exact O1.out) | (with_reducible exact OnlyD.refl _ _) | (with_reducible refine OnlyD.set ?_ 50 _) | (with_reducible refine OnlyD.setOther ?_ hbl (Nat.le_refl _) _ _) | (with_reducible refine OnlyD.allocK ?_ hbl _)))
set_option maxHeartbeats 4000000 in
theorem one_ebreak (h : HS) (hk : h.ok) (b : Nat) {rd r1 r2 : Nat} {imm cs : Int} {ww ln : Nat} (hrd : rd < 32) (hr1 : r1 < 32) (hr2 : r2 < 32) (w : World) (H : HAt w b h) (D : DI w b 48 rd r1 r2 imm cs ww ln false) :
    Calls Tryd.prog 34 #[.pointer (some ⟨b, 0, none⟩)] w fun e w' => e = .returned (.agg acc0) ∧ HAt w' b (trapH h 3 h.pc) ∧ DI w' b 48 rd r1 r2 imm cs ww ln true ∧ OnlyD b w w' := by
  have KI := Lib.hid (fun w => by have h := kind_at 48 (by decide) w; exact h)
  have SY := Lib.hid (fun w H D => dsys_ebreak h hk b (rd := rd) (r1 := r1) (r2 := r2) (imm := imm) (cs := cs) (ww := ww) (ln := ln) w H D)
  generalize trapH h 3 h.pc = s at SY ⊢
  have hbl := H.2.2
  have RW := Lib.hid (heap_alloc_new w (.cells acc0 50))
  have hT := show w.heap.size ≠ b from by omega
  have HH := Lib.hid H
  have DD := Lib.hid D
  have c42 := D.op
  have c43 := D.rd
  have c0 := H.pc_
  clear H D hk
  go_enter Tryd.func34, Tryd.ntmps34
  go_wp2_with (first | (go_at_call 53; refine (KI.out _).mono ?_; rintro e w' ⟨rfl, rfl⟩) | (go_at_call 62; refine (SY.out _ (by repeat' (first | (with_reducible exact H1.out) | (with_reducible exact HH.out) | (with_reducible refine HAt.drew ?_ _) | (with_reducible refine HAt.drew1 ?_) | (with_reducible refine HAt.setTail ?_ (by decide) _) | (with_reducible refine HAt.setOther ?_ (by omega) _ _) | (with_reducible refine HAt.allocK ?_ _))) (by repeat' (first | (with_reducible exact D1.out) | (with_reducible exact DD.out) | (with_reducible refine DI.setGone ?_ _) | (with_reducible refine DI.setOther ?_ (by omega) _ _) | (with_reducible refine DI.drewK ?_ _) | (with_reducible refine DI.drew1 ?_) | (with_reducible refine DI.allocK ?_ hbl _)))).mono ?_; rintro e w1 ⟨rfl, h1, d1, o1⟩; have q1 : OnlyD b w w1 := OnlyD.trans (w1 := _) (by repeat' (first | (with_reducible refine OnlyD.drewK ?_ _) | (with_reducible refine OnlyD.drew1 ?_) | (with_reducible exact OnlyD.refl _ _) | (with_reducible refine OnlyD.set ?_ 50 _) | (with_reducible refine OnlyD.setOther ?_ hbl (Nat.le_refl _) _ _) | (with_reducible refine OnlyD.allocK ?_ hbl _))) o1; have rw1 := (o1.over _ hbl (by simp)).trans RW.out; have H1 := Lib.hid h1; have D1 := Lib.hid d1; have O1 := Lib.hid q1; (obtain ⟨⟨t0, t1, t2, t3, t4, t5⟩, tf, tl⟩ := acc0_facts rw1); clear h1 d1 o1 q1 rw1))
  all_goals
    go_wp2
    refine bodyPost_ret (v := .agg acc0) ?_ rfl ⟨rfl, ?_, ?_, ?_⟩
    · simp [results, Tryd.results34, go_sem, acc0, t0, t1, t2, t3, t4, t5]
    · exact (by repeat' (first | (with_reducible exact H1.out) | (with_reducible exact HH.out) | (with_reducible refine HAt.drew ?_ _) | (with_reducible refine HAt.drew1 ?_) | (with_reducible refine HAt.setTail ?_ (by decide) _) | (with_reducible refine HAt.setOther ?_ (by omega) _ _) | (with_reducible refine HAt.allocK ?_ _)))
    · exact (by repeat' (first | (with_reducible exact D1.out) | (with_reducible exact DD.out) | (with_reducible refine DI.setGone ?_ _) | (with_reducible refine DI.setOther ?_ (by omega) _ _) | (with_reducible refine DI.drewK ?_ _) | (with_reducible refine DI.drew1 ?_) | (with_reducible refine DI.allocK ?_ hbl _)))
    · exact (by repeat' (first | (with_reducible exact O1.out) | (with_reducible exact OnlyD.refl _ _) | (with_reducible refine OnlyD.set ?_ 50 _) | (with_reducible refine OnlyD.setOther ?_ hbl (Nat.le_refl _) _ _) | (with_reducible refine OnlyD.allocK ?_ hbl _)))
set_option maxHeartbeats 4000000 in
theorem one_fence (h : HS) (hk : h.ok) (b : Nat) {op : Nat} (hop : op = 45 ∨ op = 46) {rd r1 r2 : Nat} {imm cs : Int} {ww ln : Nat} (hrd : rd < 32) (hr1 : r1 < 32) (hr2 : r2 < 32) (w : World) (H : HAt w b h) (D : DI w b op rd r1 r2 imm cs ww ln false) :
    Calls Tryd.prog 34 #[.pointer (some ⟨b, 0, none⟩)] w fun e w' => e = .returned (.agg acc0) ∧ HAt w' b (h) ∧ DI w' b op rd r1 r2 imm cs ww ln false ∧ OnlyD b w w' := by
  have KI := Lib.hid (fun w => by have h := kind_at op (by omega) w; rw [show kN op = 70 from by rcases hop with rfl | rfl <;> decide] at h; exact h)
  have hbl := H.2.2
  have RW := Lib.hid (heap_alloc_new w (.cells acc0 50))
  have hT := show w.heap.size ≠ b from by omega
  have HH := Lib.hid H
  have DD := Lib.hid D
  have c42 := D.op
  have c43 := D.rd
  have c0 := H.pc_
  clear H D hk
  go_enter Tryd.func34, Tryd.ntmps34
  go_wp2_with (go_at_call 53; refine (KI.out _).mono ?_; rintro e w' ⟨rfl, rfl⟩)
  all_goals
    refine bodyPost_ret (v := .agg acc0) ?_ rfl ⟨rfl, ?_, ?_, ?_⟩
    · simp [results, Tryd.results34, go_sem, acc0]
    · exact (by repeat' (first | (with_reducible exact H1.out) | (with_reducible exact HH.out) | (with_reducible refine HAt.drew ?_ _) | (with_reducible refine HAt.drew1 ?_) | (with_reducible refine HAt.setTail ?_ (by decide) _) | (with_reducible refine HAt.setOther ?_ (by omega) _ _) | (with_reducible refine HAt.allocK ?_ _)))
    · exact (by repeat' (first | (with_reducible exact D1.out) | (with_reducible exact DD.out) | (with_reducible refine DI.setGone ?_ _) | (with_reducible refine DI.setOther ?_ (by omega) _ _) | (with_reducible refine DI.drewK ?_ _) | (with_reducible refine DI.drew1 ?_) | (with_reducible refine DI.allocK ?_ hbl _)))
    · exact (by repeat' (first | (with_reducible exact O1.out) | (with_reducible exact OnlyD.refl _ _) | (with_reducible refine OnlyD.set ?_ 50 _) | (with_reducible refine OnlyD.setOther ?_ hbl (Nat.le_refl _) _ _) | (with_reducible refine OnlyD.allocK ?_ hbl _)))

end Go.Proofs.YtphlgaklfibciaaDoor
