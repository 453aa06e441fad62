import Derived.Test.YtphlgaklfibciaaDoorHoA
import Derived.Test.YtphlgaklfibciaaDoorHoB
import Derived.Below
import Derived.Deep.Draws
import Derived.Deep.AppendLies
import Derived.Maps.AppendAt
import Derived.OwnWalk
import Derived.Laws.BytesArg
import Derived.Laws.MakeOwn
import Derived.Laws.OwnMore
import Derived.Deep.OwnRows
import Derived.Tactics
import Derived.Lib.ConvBytes
import Derived.Laws.Slices
import Derived.WalkKit
import Derived.KernelRfl
import Derived.RowKit3
import Derived.Deep.LoopGhost
import Derived.Deep.QuietTactic
import Derived.BigQuiet
import Derived.WideLaws
import Derived.Deep.DeepCutAuto
import Derived.Deep.CutBlock
import Derived.Deep.RegionHeld3
import Derived.Laws.Rows
import Derived.Lib.AppendStr
import Derived.ArgAppend
import Derived.Laws.IdiomCopy
import Derived.OrdersHeld
import Derived.Laws.BitsLemmas
import Derived.RowKit
import Derived.Lib.Hide
import Derived.Laws.BitsAllLaws
import Derived.WalkLawsBesides
import Derived.WalkSpells
import Derived.LaidEql
namespace Go.Proofs.YtphlgaklfibciaaDoor
open Go.RowKit
set_option maxRecDepth 100000
set_option linter.unusedVariables false
set_option linter.unusedSimpArgs false

theorem kN_load : ∀ op, 10 ≤ op → op < 15 → kN op = 76 := fun op h1 h2 => by
  have h : op = 10 ∨ op = 11 ∨ op = 12 ∨ op = 13 ∨ op = 14 := by omega
  rcases h with rfl | rfl | rfl | rfl | rfl <;> decide
theorem kN_store : ∀ op, 15 ≤ op → op < 18 → kN op = 83 := fun op h1 h2 => by
  have h : op = 15 ∨ op = 16 ∨ op = 17 := by omega
  rcases h with rfl | rfl | rfl <;> decide
set_option maxHeartbeats 4000000 in
theorem one_load_even (h : HS) (hk : h.ok) (b n at_ : Nat) {op rd r1 r2 : Nat} {imm cs : Int} {ww ln : Nat} (hop : 10 ≤ op ∧ op < 15) (hn : IntKind.u32.wrap imm = (n : Int)) (hr1 : r1 < 32) (hr2 : r2 < 32) (hat : at_ = (h.x r1 + n) % 4294967296) (ho : (at_ : Int) % accN op = 0) (w : World) (H : HAt w b h) (D : DI w b op rd r1 r2 imm cs ww ln false) : Calls Tryd.prog 34 #[.pointer (some ⟨b, 0, none⟩)] w fun e w' => e = .returned (.agg #[.int .i64 (accK op), .int .u32 at_, .int .i64 (accN op), .bool (accG op), .int .i64 (accR op rd), .int .u32 (accB op (h.x r2) : Nat)]) ∧ HAt w' b (h) ∧ DI w' b op rd r1 r2 imm cs ww ln true ∧ OnlyD b w w' := by
  have KI := Lib.hid (fun w => by have h := kind_at op (by omega) w; rw [show kN op = 76 from kN_load op hop.1 hop.2] at h; exact h)
  have AC : Hid (∀ w, HAt w b h → DI w b op rd r1 r2 imm cs ww ln false → Calls Tryd.prog 57 #[.pointer (some ⟨b, 0, none⟩)] w fun e w' => e = .returned (.agg #[.int .i64 (accK op), .int .u32 at_, .int .i64 (accN op), .bool (accG op), .int .i64 (accR op rd), .int .u32 (accB op (h.x r2) : Nat)]) ∧ HAt w' b h ∧ DI w' b op rd r1 r2 imm cs ww ln true ∧ OnlyD b w w') := Lib.hid (fun w H D => dacc_load_even_10 h hk b n at_ (by omega) hn hr1 hr2 hat ho w H D)
  generalize accB op (h.x r2) = a5 at AC ⊢
  generalize accK op = a0 at AC ⊢
  generalize accN op = a2 at AC ho ⊢
  generalize accG op = a3 at AC ⊢
  generalize accR op rd = a4 at AC ⊢
  have hop1 : (op : Int) < 57 := by omega
  have hop2 : 10 ≤ (op : Int) := by omega
  have hbl := H.2.2
  have RW := Lib.hid (heap_alloc_new w (.cells acc0 50))
  have hT := show w.heap.size ≠ b from by omega
  have HH := Lib.hid H
  have DD := Lib.hid D
  have c42 := D.op
  clear H D hk hn hat ho hop
  go_enter Tryd.func34, Tryd.ntmps34
  go_wp2_with (first | (go_at_call 53; refine (KI.out _).mono ?_; rintro e w' ⟨rfl, rfl⟩) | (go_at_call 57; refine (AC.out _ (by repeat' (first | (with_reducible exact H1.out) | (with_reducible exact HH.out) | (with_reducible refine HAt.drew ?_ _) | (with_reducible refine HAt.drew1 ?_) | (with_reducible refine HAt.setTail ?_ (by decide) _) | (with_reducible refine HAt.setOther ?_ (by omega) _ _) | (with_reducible refine HAt.allocK ?_ _))) (by repeat' (first | (with_reducible exact D1.out) | (with_reducible exact DD.out) | (with_reducible refine DI.setGone ?_ _) | (with_reducible refine DI.setOther ?_ (by omega) _ _) | (with_reducible refine DI.drewK ?_ _) | (with_reducible refine DI.drew1 ?_) | (with_reducible refine DI.allocK ?_ hbl _)))).mono ?_; rintro e w1 ⟨rfl, h1, d1, o1⟩; have q1 : OnlyD b w w1 := OnlyD.trans (w1 := _) (by repeat' (first | (with_reducible refine OnlyD.drewK ?_ _) | (with_reducible refine OnlyD.drew1 ?_) | (with_reducible exact OnlyD.refl _ _) | (with_reducible refine OnlyD.set ?_ 50 _) | (with_reducible refine OnlyD.setOther ?_ hbl (Nat.le_refl _) _ _) | (with_reducible refine OnlyD.allocK ?_ hbl _))) o1; have rw1 := (o1.over _ hbl (by simp)).trans RW.out; have H1 := Lib.hid h1; have D1 := Lib.hid d1; have O1 := Lib.hid q1; (obtain ⟨⟨t0, t1, t2, t3, t4, t5⟩, tf, tl⟩ := acc0_facts rw1); clear h1 d1 o1 q1 rw1))
  all_goals
    refine bodyPost_ret (v := .agg #[.int .i64 a0, .int .u32 at_, .int .i64 a2, .bool a3, .int .i64 a4, .int .u32 (a5 : Nat)]) ?_ rfl ⟨rfl, ?_, ?_, ?_⟩
    · simp [results, Tryd.results34, go_sem, acc0, t0, t1, t2, t3, t4, t5]
    · exact (by repeat' (first | (with_reducible exact H1.out) | (with_reducible exact HH.out) | (with_reducible refine HAt.drew ?_ _) | (with_reducible refine HAt.drew1 ?_) | (with_reducible refine HAt.setTail ?_ (by decide) _) | (with_reducible refine HAt.setOther ?_ (by omega) _ _) | (with_reducible refine HAt.allocK ?_ _)))
    · exact (by repeat' (first | (with_reducible exact D1.out) | (with_reducible exact DD.out) | (with_reducible refine DI.setGone ?_ _) | (with_reducible refine DI.setOther ?_ (by omega) _ _) | (with_reducible refine DI.drewK ?_ _) | (with_reducible refine DI.drew1 ?_) | (with_reducible refine DI.allocK ?_ hbl _)))
    · exact (by repeat' (first | (with_reducible exact O1.out) | (with_reducible exact OnlyD.refl _ _) | (with_reducible refine OnlyD.set ?_ 50 _) | (with_reducible refine OnlyD.setOther ?_ hbl (Nat.le_refl _) _ _) | (with_reducible refine OnlyD.allocK ?_ hbl _)))
set_option maxHeartbeats 4000000 in
theorem one_load_odd (h : HS) (hk : h.ok) (b n at_ : Nat) {op rd r1 r2 : Nat} {imm cs : Int} {ww ln : Nat} (hop : 10 ≤ op ∧ op < 15) (hn : IntKind.u32.wrap imm = (n : Int)) (hr1 : r1 < 32) (hr2 : r2 < 32) (hat : at_ = (h.x r1 + n) % 4294967296) (ho : ¬ (at_ : Int) % accN op = 0) (w : World) (H : HAt w b h) (D : DI w b op rd r1 r2 imm cs ww ln false) : Calls Tryd.prog 34 #[.pointer (some ⟨b, 0, none⟩)] w fun e w' => e = .returned (.agg acc0) ∧ HAt w' b (trapH h (if op < 15 then 4 else 6) at_) ∧ DI w' b op rd r1 r2 imm cs ww ln true ∧ OnlyD b w w' := by
  have KI := Lib.hid (fun w => by have h := kind_at op (by omega) w; rw [show kN op = 76 from kN_load op hop.1 hop.2] at h; exact h)
  have AC : Hid (∀ w, HAt w b h → DI w b op rd r1 r2 imm cs ww ln false → Calls Tryd.prog 57 #[.pointer (some ⟨b, 0, none⟩)] w fun e w' => e = .returned (.agg #[.int .i64 0, .int .u32 0, .int .i64 0, .bool false, .int .i64 0, .int .u32 0]) ∧ HAt w' b (trapH h (if op < 15 then 4 else 6) at_) ∧ DI w' b op rd r1 r2 imm cs ww ln true ∧ OnlyD b w w') := by
    refine Lib.hid (fun w H D => ?_)
    have hopc : op = 11 ∨ op = 12 ∨ op = 14 := by
      have h1 := ho
      unfold accN at h1
      have h2 : ¬ (op = 10 ∨ op = 13 ∨ op = 15) := fun q => by rw [if_pos q] at h1; omega
      omega
    have q := dacc_load_odd_11 h hk b n at_ hopc hn hr1 hr2 hat ho w H D
    rw [show (if op < 15 then 4 else 6) = 4 from if_pos (by omega)]
    exact q
  generalize trapH h (if op < 15 then 4 else 6) at_ = s at AC ⊢
  have hop1 : (op : Int) < 57 := by omega
  have hop2 : 10 ≤ (op : Int) := by omega
  have hbl := H.2.2
  have RW := Lib.hid (heap_alloc_new w (.cells acc0 50))
  have hT := show w.heap.size ≠ b from by omega
  have HH := Lib.hid H
  have DD := Lib.hid D
  have c42 := D.op
  clear H D hk hn hat ho hop
  go_enter Tryd.func34, Tryd.ntmps34
  go_wp2_with (first | (go_at_call 53; refine (KI.out _).mono ?_; rintro e w' ⟨rfl, rfl⟩) | (go_at_call 57; refine (AC.out _ (by repeat' (first | (with_reducible exact H1.out) | (with_reducible exact HH.out) | (with_reducible refine HAt.drew ?_ _) | (with_reducible refine HAt.drew1 ?_) | (with_reducible refine HAt.setTail ?_ (by decide) _) | (with_reducible refine HAt.setOther ?_ (by omega) _ _) | (with_reducible refine HAt.allocK ?_ _))) (by repeat' (first | (with_reducible exact D1.out) | (with_reducible exact DD.out) | (with_reducible refine DI.setGone ?_ _) | (with_reducible refine DI.setOther ?_ (by omega) _ _) | (with_reducible refine DI.drewK ?_ _) | (with_reducible refine DI.drew1 ?_) | (with_reducible refine DI.allocK ?_ hbl _)))).mono ?_; rintro e w1 ⟨rfl, h1, d1, o1⟩; have q1 : OnlyD b w w1 := OnlyD.trans (w1 := _) (by repeat' (first | (with_reducible refine OnlyD.drewK ?_ _) | (with_reducible refine OnlyD.drew1 ?_) | (with_reducible exact OnlyD.refl _ _) | (with_reducible refine OnlyD.set ?_ 50 _) | (with_reducible refine OnlyD.setOther ?_ hbl (Nat.le_refl _) _ _) | (with_reducible refine OnlyD.allocK ?_ hbl _))) o1; have rw1 := (o1.over _ hbl (by simp)).trans RW.out; have H1 := Lib.hid h1; have D1 := Lib.hid d1; have O1 := Lib.hid q1; (obtain ⟨⟨t0, t1, t2, t3, t4, t5⟩, tf, tl⟩ := acc0_facts rw1); clear h1 d1 o1 q1 rw1))
  all_goals
    refine bodyPost_ret (v := .agg acc0) ?_ rfl ⟨rfl, ?_, ?_, ?_⟩
    · simp [results, Tryd.results34, go_sem, acc0, t0, t1, t2, t3, t4, t5]
    · exact (by repeat' (first | (with_reducible exact H1.out) | (with_reducible exact HH.out) | (with_reducible refine HAt.drew ?_ _) | (with_reducible refine HAt.drew1 ?_) | (with_reducible refine HAt.setTail ?_ (by decide) _) | (with_reducible refine HAt.setOther ?_ (by omega) _ _) | (with_reducible refine HAt.allocK ?_ _)))
    · exact (by repeat' (first | (with_reducible exact D1.out) | (with_reducible exact DD.out) | (with_reducible refine DI.setGone ?_ _) | (with_reducible refine DI.setOther ?_ (by omega) _ _) | (with_reducible refine DI.drewK ?_ _) | (with_reducible refine DI.drew1 ?_) | (with_reducible refine DI.allocK ?_ hbl _)))
    · exact (by repeat' (first | (with_reducible exact O1.out) | (with_reducible exact OnlyD.refl _ _) | (with_reducible refine OnlyD.set ?_ 50 _) | (with_reducible refine OnlyD.setOther ?_ hbl (Nat.le_refl _) _ _) | (with_reducible refine OnlyD.allocK ?_ hbl _)))
set_option maxHeartbeats 4000000 in
theorem one_store_even (h : HS) (hk : h.ok) (b n at_ : Nat) {op rd r1 r2 : Nat} {imm cs : Int} {ww ln : Nat} (hop : 15 ≤ op ∧ op < 18) (hn : IntKind.u32.wrap imm = (n : Int)) (hr1 : r1 < 32) (hr2 : r2 < 32) (hat : at_ = (h.x r1 + n) % 4294967296) (ho : (at_ : Int) % accN op = 0) (w : World) (H : HAt w b h) (D : DI w b op rd r1 r2 imm cs ww ln false) : Calls Tryd.prog 34 #[.pointer (some ⟨b, 0, none⟩)] w fun e w' => e = .returned (.agg #[.int .i64 (accK op), .int .u32 at_, .int .i64 (accN op), .bool (accG op), .int .i64 (accR op rd), .int .u32 (accB op (h.x r2) : Nat)]) ∧ HAt w' b (h) ∧ DI w' b op rd r1 r2 imm cs ww ln true ∧ OnlyD b w w' := by
  have KI := Lib.hid (fun w => by have h := kind_at op (by omega) w; rw [show kN op = 83 from kN_store op hop.1 hop.2] at h; exact h)
  have AC : Hid (∀ w, HAt w b h → DI w b op rd r1 r2 imm cs ww ln false → Calls Tryd.prog 57 #[.pointer (some ⟨b, 0, none⟩)] w fun e w' => e = .returned (.agg #[.int .i64 (accK op), .int .u32 at_, .int .i64 (accN op), .bool (accG op), .int .i64 (accR op rd), .int .u32 (accB op (h.x r2) : Nat)]) ∧ HAt w' b h ∧ DI w' b op rd r1 r2 imm cs ww ln true ∧ OnlyD b w w') := Lib.hid (fun w H D => dacc_store_even_15 h hk b n at_ (by omega) hn hr1 hr2 hat ho w H D)
  generalize accB op (h.x r2) = a5 at AC ⊢
  generalize accK op = a0 at AC ⊢
  generalize accN op = a2 at AC ho ⊢
  generalize accG op = a3 at AC ⊢
  generalize accR op rd = a4 at AC ⊢
  have hop1 : (op : Int) < 57 := by omega
  have hop2 : 10 ≤ (op : Int) := by omega
  have hbl := H.2.2
  have RW := Lib.hid (heap_alloc_new w (.cells acc0 50))
  have hT := show w.heap.size ≠ b from by omega
  have HH := Lib.hid H
  have DD := Lib.hid D
  have c42 := D.op
  clear H D hk hn hat ho hop
  go_enter Tryd.func34, Tryd.ntmps34
  go_wp2_with (first | (go_at_call 53; refine (KI.out _).mono ?_; rintro e w' ⟨rfl, rfl⟩) | (go_at_call 57; refine (AC.out _ (by repeat' (first | (with_reducible exact H1.out) | (with_reducible exact HH.out) | (with_reducible refine HAt.drew ?_ _) | (with_reducible refine HAt.drew1 ?_) | (with_reducible refine HAt.setTail ?_ (by decide) _) | (with_reducible refine HAt.setOther ?_ (by omega) _ _) | (with_reducible refine HAt.allocK ?_ _))) (by repeat' (first | (with_reducible exact D1.out) | (with_reducible exact DD.out) | (with_reducible refine DI.setGone ?_ _) | (with_reducible refine DI.setOther ?_ (by omega) _ _) | (with_reducible refine DI.drewK ?_ _) | (with_reducible refine DI.drew1 ?_) | (with_reducible refine DI.allocK ?_ hbl _)))).mono ?_; rintro e w1 ⟨rfl, h1, d1, o1⟩; have q1 : OnlyD b w w1 := OnlyD.trans (w1 := _) (by repeat' (first | (with_reducible refine OnlyD.drewK ?_ _) | (with_reducible refine OnlyD.drew1 ?_) | (with_reducible exact OnlyD.refl _ _) | (with_reducible refine OnlyD.set ?_ 50 _) | (with_reducible refine OnlyD.setOther ?_ hbl (Nat.le_refl _) _ _) | (with_reducible refine OnlyD.allocK ?_ hbl _))) o1; have rw1 := (o1.over _ hbl (by simp)).trans RW.out; have H1 := Lib.hid h1; have D1 := Lib.hid d1; have O1 := Lib.hid q1; (obtain ⟨⟨t0, t1, t2, t3, t4, t5⟩, tf, tl⟩ := acc0_facts rw1); clear h1 d1 o1 q1 rw1))
  all_goals
    refine bodyPost_ret (v := .agg #[.int .i64 a0, .int .u32 at_, .int .i64 a2, .bool a3, .int .i64 a4, .int .u32 (a5 : Nat)]) ?_ rfl ⟨rfl, ?_, ?_, ?_⟩
    · simp [results, Tryd.results34, go_sem, acc0, t0, t1, t2, t3, t4, t5]
    · exact (by repeat' (first | (with_reducible exact H1.out) | (with_reducible exact HH.out) | (with_reducible refine HAt.drew ?_ _) | (with_reducible refine HAt.drew1 ?_) | (with_reducible refine HAt.setTail ?_ (by decide) _) | (with_reducible refine HAt.setOther ?_ (by omega) _ _) | (with_reducible refine HAt.allocK ?_ _)))
    · exact (by repeat' (first | (with_reducible exact D1.out) | (with_reducible exact DD.out) | (with_reducible refine DI.setGone ?_ _) | (with_reducible refine DI.setOther ?_ (by omega) _ _) | (with_reducible refine DI.drewK ?_ _) | (with_reducible refine DI.drew1 ?_) | (with_reducible refine DI.allocK ?_ hbl _)))
    · exact (by repeat' (first | (with_reducible exact O1.out) | (with_reducible exact OnlyD.refl _ _) | (with_reducible refine OnlyD.set ?_ 50 _) | (with_reducible refine OnlyD.setOther ?_ hbl (Nat.le_refl _) _ _) | (with_reducible refine OnlyD.allocK ?_ hbl _)))
set_option maxHeartbeats 4000000 in
theorem one_store_odd (h : HS) (hk : h.ok) (b n at_ : Nat) {op rd r1 r2 : Nat} {imm cs : Int} {ww ln : Nat} (hop : 15 ≤ op ∧ op < 18) (hn : IntKind.u32.wrap imm = (n : Int)) (hr1 : r1 < 32) (hr2 : r2 < 32) (hat : at_ = (h.x r1 + n) % 4294967296) (ho : ¬ (at_ : Int) % accN op = 0) (w : World) (H : HAt w b h) (D : DI w b op rd r1 r2 imm cs ww ln false) : Calls Tryd.prog 34 #[.pointer (some ⟨b, 0, none⟩)] w fun e w' => e = .returned (.agg acc0) ∧ HAt w' b (trapH h (if op < 15 then 4 else 6) at_) ∧ DI w' b op rd r1 r2 imm cs ww ln true ∧ OnlyD b w w' := by
  have KI := Lib.hid (fun w => by have h := kind_at op (by omega) w; rw [show kN op = 83 from kN_store op hop.1 hop.2] at h; exact h)
  have AC : Hid (∀ w, HAt w b h → DI w b op rd r1 r2 imm cs ww ln false → Calls Tryd.prog 57 #[.pointer (some ⟨b, 0, none⟩)] w fun e w' => e = .returned (.agg #[.int .i64 0, .int .u32 0, .int .i64 0, .bool false, .int .i64 0, .int .u32 0]) ∧ HAt w' b (trapH h (if op < 15 then 4 else 6) at_) ∧ DI w' b op rd r1 r2 imm cs ww ln true ∧ OnlyD b w w') := by
    refine Lib.hid (fun w H D => ?_)
    have hopc : op = 16 ∨ op = 17 := by
      have h1 := ho
      unfold accN at h1
      have h2 : ¬ (op = 10 ∨ op = 13 ∨ op = 15) := fun q => by rw [if_pos q] at h1; omega
      omega
    have q := dacc_store_odd_16 h hk b n at_ hopc hn hr1 hr2 hat ho w H D
    rw [show (if op < 15 then 4 else 6) = 6 from if_neg (by omega)]
    exact q
  generalize trapH h (if op < 15 then 4 else 6) at_ = s at AC ⊢
  have hop1 : (op : Int) < 57 := by omega
  have hop2 : 10 ≤ (op : Int) := by omega
  have hbl := H.2.2
  have RW := Lib.hid (heap_alloc_new w (.cells acc0 50))
  have hT := show w.heap.size ≠ b from by omega
  have HH := Lib.hid H
  have DD := Lib.hid D
  have c42 := D.op
  clear H D hk hn hat ho hop
  go_enter Tryd.func34, Tryd.ntmps34
  go_wp2_with (first | (go_at_call 53; refine (KI.out _).mono ?_; rintro e w' ⟨rfl, rfl⟩) | (go_at_call 57; refine (AC.out _ (by repeat' (first | (with_reducible exact H1.out) | (with_reducible exact HH.out) | (with_reducible refine HAt.drew ?_ _) | (with_reducible refine HAt.drew1 ?_) | (with_reducible refine HAt.setTail ?_ (by decide) _) | (with_reducible refine HAt.setOther ?_ (by omega) _ _) | (with_reducible refine HAt.allocK ?_ _))) (by repeat' (first | (with_reducible exact D1.out) | (with_reducible exact DD.out) | (with_reducible refine DI.setGone ?_ _) | (with_reducible refine DI.setOther ?_ (by omega) _ _) | (with_reducible refine DI.drewK ?_ _) | (with_reducible refine DI.drew1 ?_) | (with_reducible refine DI.allocK ?_ hbl _)))).mono ?_; rintro e w1 ⟨rfl, h1, d1, o1⟩; have q1 : OnlyD b w w1 := OnlyD.trans (w1 := _) (by repeat' (first | (with_reducible refine OnlyD.drewK ?_ _) | (with_reducible refine OnlyD.drew1 ?_) | (with_reducible exact OnlyD.refl _ _) | (with_reducible refine OnlyD.set ?_ 50 _) | (with_reducible refine OnlyD.setOther ?_ hbl (Nat.le_refl _) _ _) | (with_reducible refine OnlyD.allocK ?_ hbl _))) o1; have rw1 := (o1.over _ hbl (by simp)).trans RW.out; have H1 := Lib.hid h1; have D1 := Lib.hid d1; have O1 := Lib.hid q1; (obtain ⟨⟨t0, t1, t2, t3, t4, t5⟩, tf, tl⟩ := acc0_facts rw1); clear h1 d1 o1 q1 rw1))
  all_goals
    refine bodyPost_ret (v := .agg acc0) ?_ rfl ⟨rfl, ?_, ?_, ?_⟩
    · simp [results, Tryd.results34, go_sem, acc0, t0, t1, t2, t3, t4, t5]
    · exact (by repeat' (first | (with_reducible exact H1.out) | (with_reducible exact HH.out) | (with_reducible refine HAt.drew ?_ _) | (with_reducible refine HAt.drew1 ?_) | (with_reducible refine HAt.setTail ?_ (by decide) _) | (with_reducible refine HAt.setOther ?_ (by omega) _ _) | (with_reducible refine HAt.allocK ?_ _)))
    · exact (by repeat' (first | (with_reducible exact D1.out) | (with_reducible exact DD.out) | (with_reducible refine DI.setGone ?_ _) | (with_reducible refine DI.setOther ?_ (by omega) _ _) | (with_reducible refine DI.drewK ?_ _) | (with_reducible refine DI.drew1 ?_) | (with_reducible refine DI.allocK ?_ hbl _)))
    · exact (by repeat' (first | (with_reducible exact O1.out) | (with_reducible exact OnlyD.refl _ _) | (with_reducible refine OnlyD.set ?_ 50 _) | (with_reducible refine OnlyD.setOther ?_ hbl (Nat.le_refl _) _ _) | (with_reducible refine OnlyD.allocK ?_ hbl _)))
theorem one_acc_even (h : HS) (hk : h.ok) (b n at_ : Nat) {op rd r1 r2 : Nat} {imm cs : Int} {ww ln : Nat} (hop : 10 ≤ op ∧ op < 18) (hn : IntKind.u32.wrap imm = (n : Int)) (hr1 : r1 < 32) (hr2 : r2 < 32) (hat : at_ = (h.x r1 + n) % 4294967296) (ho : (at_ : Int) % accN op = 0) (w : World) (H : HAt w b h) (D : DI w b op rd r1 r2 imm cs ww ln false) : Calls Tryd.prog 34 #[.pointer (some ⟨b, 0, none⟩)] w fun e w' => e = .returned (.agg #[.int .i64 (accK op), .int .u32 at_, .int .i64 (accN op), .bool (accG op), .int .i64 (accR op rd), .int .u32 (accB op (h.x r2) : Nat)]) ∧ HAt w' b (h) ∧ DI w' b op rd r1 r2 imm cs ww ln true ∧ OnlyD b w w' := by
  by_cases h15 : op < 15
  · exact one_load_even h hk b n at_ ⟨hop.1, h15⟩ hn hr1 hr2 hat ho w H D
  · exact one_store_even h hk b n at_ ⟨by omega, hop.2⟩ hn hr1 hr2 hat ho w H D
theorem one_acc_odd (h : HS) (hk : h.ok) (b n at_ : Nat) {op rd r1 r2 : Nat} {imm cs : Int} {ww ln : Nat} (hop : 10 ≤ op ∧ op < 18) (hn : IntKind.u32.wrap imm = (n : Int)) (hr1 : r1 < 32) (hr2 : r2 < 32) (hat : at_ = (h.x r1 + n) % 4294967296) (ho : ¬ (at_ : Int) % accN op = 0) (w : World) (H : HAt w b h) (D : DI w b op rd r1 r2 imm cs ww ln false) : Calls Tryd.prog 34 #[.pointer (some ⟨b, 0, none⟩)] w fun e w' => e = .returned (.agg acc0) ∧ HAt w' b (trapH h (if op < 15 then 4 else 6) at_) ∧ DI w' b op rd r1 r2 imm cs ww ln true ∧ OnlyD b w w' := by
  by_cases h15 : op < 15
  · exact one_load_odd h hk b n at_ ⟨hop.1, h15⟩ hn hr1 hr2 hat ho w H D
  · exact one_store_odd h hk b n at_ ⟨by omega, hop.2⟩ hn hr1 hr2 hat ho w H D

end Go.Proofs.YtphlgaklfibciaaDoor
