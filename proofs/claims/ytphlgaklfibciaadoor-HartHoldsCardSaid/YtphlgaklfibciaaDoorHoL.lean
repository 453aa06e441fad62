import Derived.Test.YtphlgaklfibciaaDoorHoH
import Derived.Test.YtphlgaklfibciaaDoorHoI
import Derived.Test.YtphlgaklfibciaaDoorHoJ
import Derived.Test.YtphlgaklfibciaaDoorHoK
import Derived.Below
import Derived.Deep.Draws
import Derived.Deep.AppendLies
import Derived.Maps.AppendAt
import Derived.OwnWalk
import Derived.Laws.BytesArg
import Derived.Laws.MakeOwn
import Derived.Laws.OwnMore
import Derived.Deep.OwnRows
import Derived.Tactics
import Derived.Lib.ConvBytes
import Derived.Laws.Slices
import Derived.WalkKit
import Derived.KernelRfl
import Derived.RowKit3
import Derived.Deep.LoopGhost
import Derived.Deep.QuietTactic
import Derived.BigQuiet
import Derived.WideLaws
import Derived.Deep.DeepCutAuto
import Derived.Deep.CutBlock
import Derived.Deep.RegionHeld3
import Derived.Laws.Rows
import Derived.Lib.AppendStr
import Derived.ArgAppend
import Derived.Laws.IdiomCopy
import Derived.OrdersHeld
import Derived.Laws.BitsLemmas
import Derived.RowKit
import Derived.Lib.Hide
import Derived.Laws.BitsAllLaws
import Derived.WalkLawsBesides
import Derived.WalkSpells
import Derived.LaidEql
namespace Go.Proofs.YtphlgaklfibciaaDoor
open Go.RowKit
set_option maxRecDepth 100000
set_option linter.unusedVariables false
set_option linter.unusedSimpArgs false

theorem kN_ctl : ∀ op, 51 ≤ op → op < 57 → kN op = 67 := fun op h1 h2 => by
  have h : op = 51 ∨ op = 52 ∨ op = 53 ∨ op = 54 ∨ op = 55 ∨ op = 56 := by omega
  rcases h with rfl | rfl | rfl | rfl | rfl | rfl <;> decide
theorem dctl_any (h : HS) (hk : h.ok) (b : Nat) {op rd r1 r2 : Nat} {imm cs : Int} {ww ln : Nat} (hop : 51 ≤ op ∧ op < 57) (hl : ln < 4294967296) (hw : ww < 4294967296) (hrd : rd < 32) (hr1 : r1 < 32) (w : World) (H : HAt w b h) (D : DI w b op rd r1 r2 imm cs ww ln false) : Calls Tryd.prog 63 #[.pointer (some ⟨b, 0, none⟩)] w fun e w' => e = .returned (.tuple #[]) ∧ HAt w' b (ctlH h op rd r1 cs ww ln).1 ∧ DI w' b op rd r1 r2 imm cs ww ln (ctlH h op rd r1 cs ww ln).2 ∧ OnlyD b w w' := by
  have h6 : op = 51 ∨ op = 52 ∨ op = 53 ∨ op = 54 ∨ op = 55 ∨ op = 56 := by omega
  rcases h6 with rfl | rfl | rfl | rfl | rfl | rfl
  · exact dctl_51 h hk b hl hw hrd hr1 w H D
  · exact dctl_52 h hk b hl hw hrd hr1 w H D
  · exact dctl_53 h hk b hl hw hrd hr1 w H D
  · exact dctl_54 h hk b hl hw hrd hr1 w H D
  · exact dctl_55 h hk b hl hw hrd hr1 w H D
  · exact dctl_56 h hk b hl hw hrd hr1 w H D
set_option maxHeartbeats 4000000 in
theorem one_ctl (h : HS) (hk : h.ok) (b : Nat) {op rd r1 r2 : Nat} {imm cs : Int} {ww ln : Nat} (hop : 51 ≤ op ∧ op < 57) (hl : ln < 4294967296) (hw : ww < 4294967296) (hrd : rd < 32) (hr1 : r1 < 32) (hr2 : r2 < 32) (w : World) (H : HAt w b h) (D : DI w b op rd r1 r2 imm cs ww ln false) : Calls Tryd.prog 34 #[.pointer (some ⟨b, 0, none⟩)] w fun e w' => e = .returned (.agg acc0) ∧ HAt w' b (ctlH h op rd r1 cs ww ln).1 ∧ DI w' b op rd r1 r2 imm cs ww ln (ctlH h op rd r1 cs ww ln).2 ∧ OnlyD b w w' := by
  have KI := Lib.hid (fun w => by have h := kind_at op (by omega) w; rw [show kN op = 67 from kN_ctl op hop.1 hop.2] at h; exact h)
  have CT := Lib.hid (fun w H D => dctl_any h hk b (op := op) (rd := rd) (r1 := r1) (r2 := r2) (imm := imm) (cs := cs) (ww := ww) (ln := ln) hop hl hw hrd hr1 w H D)
  generalize (ctlH h op rd r1 cs ww ln).1 = s at CT ⊢
  generalize (ctlH h op rd r1 cs ww ln).2 = gg at CT ⊢
  have hop1 : (op : Int) < 57 := by omega
  have hop2 : 51 ≤ (op : Int) := by omega
  have hbl := H.2.2
  have RW := Lib.hid (heap_alloc_new w (.cells acc0 50))
  have hT := show w.heap.size ≠ b from by omega
  have HH := Lib.hid H
  have DD := Lib.hid D
  have c42 := D.op
  clear H D hk hl hw hop
  go_enter Tryd.func34, Tryd.ntmps34
  go_wp2_with (first | (go_at_call 53; refine (KI.out _).mono ?_; rintro e w' ⟨rfl, rfl⟩) | (go_at_call 63; refine (CT.out _ (by repeat' (first | (with_reducible exact H1.out) | (with_reducible exact HH.out) | (with_reducible refine HAt.drew ?_ _) | (with_reducible refine HAt.drew1 ?_) | (with_reducible refine HAt.setTail ?_ (by decide) _) | (with_reducible refine HAt.setOther ?_ (by omega) _ _) | (with_reducible refine HAt.allocK ?_ _))) (by repeat' (first | (with_reducible exact D1.out) | (with_reducible exact DD.out) | (with_reducible refine DI.setGone ?_ _) | (with_reducible refine DI.setOther ?_ (by omega) _ _) | (with_reducible refine DI.drewK ?_ _) | (with_reducible refine DI.drew1 ?_) | (with_reducible refine DI.allocK ?_ hbl _)))).mono ?_; rintro e w1 ⟨rfl, h1, d1, o1⟩; have q1 : OnlyD b w w1 := OnlyD.trans (w1 := _) (by repeat' (first | (with_reducible refine OnlyD.drewK ?_ _) | (with_reducible refine OnlyD.drew1 ?_) | (with_reducible exact OnlyD.refl _ _) | (with_reducible refine OnlyD.set ?_ 50 _) | (with_reducible refine OnlyD.setOther ?_ hbl (Nat.le_refl _) _ _) | (with_reducible refine OnlyD.allocK ?_ hbl _))) o1; have rw1 := (o1.over _ hbl (by simp)).trans RW.out; have H1 := Lib.hid h1; have D1 := Lib.hid d1; have O1 := Lib.hid q1; (obtain ⟨⟨t0, t1, t2, t3, t4, t5⟩, tf, tl⟩ := acc0_facts rw1); clear h1 d1 o1 q1 rw1))
  all_goals
    go_wp2
    refine bodyPost_ret (v := .agg acc0) ?_ rfl ⟨rfl, ?_, ?_, ?_⟩
    · simp [results, Tryd.results34, go_sem, acc0, t0, t1, t2, t3, t4, t5]
    · exact (by repeat' (first | (with_reducible exact H1.out) | (with_reducible exact HH.out) | (with_reducible refine HAt.drew ?_ _) | (with_reducible refine HAt.drew1 ?_) | (with_reducible refine HAt.setTail ?_ (by decide) _) | (with_reducible refine HAt.setOther ?_ (by omega) _ _) | (with_reducible refine HAt.allocK ?_ _)))
    · exact (by repeat' (first | (with_reducible exact D1.out) | (with_reducible exact DD.out) | (with_reducible refine DI.setGone ?_ _) | (with_reducible refine DI.setOther ?_ (by omega) _ _) | (with_reducible refine DI.drewK ?_ _) | (with_reducible refine DI.drew1 ?_) | (with_reducible refine DI.allocK ?_ hbl _)))
    · exact (by repeat' (first | (with_reducible exact O1.out) | (with_reducible exact OnlyD.refl _ _) | (with_reducible refine OnlyD.set ?_ 50 _) | (with_reducible refine OnlyD.setOther ?_ hbl (Nat.le_refl _) _ _) | (with_reducible refine OnlyD.allocK ?_ hbl _)))

end Go.Proofs.YtphlgaklfibciaaDoor
