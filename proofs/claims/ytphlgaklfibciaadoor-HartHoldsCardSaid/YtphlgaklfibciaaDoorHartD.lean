import Derived.Test.YtphlgaklfibciaaDoorHartC
import Derived.Below
import Derived.Deep.Draws
import Derived.Deep.AppendLies
import Derived.Maps.AppendAt
import Derived.OwnWalk
import Derived.Laws.BytesArg
import Derived.Laws.MakeOwn
import Derived.Laws.OwnMore
import Derived.Deep.OwnRows
import Derived.Tactics
import Derived.Lib.ConvBytes
import Derived.Laws.Slices
import Derived.WalkKit
import Derived.KernelRfl
import Derived.RowKit3
import Derived.Deep.LoopGhost
import Derived.Deep.QuietTactic
import Derived.BigQuiet
import Derived.WideLaws
import Derived.Deep.DeepCutAuto
import Derived.Deep.CutBlock
import Derived.Deep.RegionHeld3
import Derived.Laws.Rows
import Derived.Lib.AppendStr
import Derived.ArgAppend
import Derived.Laws.IdiomCopy
import Derived.OrdersHeld
import Derived.Laws.BitsLemmas
import Derived.RowKit
import Derived.Lib.Hide
import Derived.Laws.BitsAllLaws
import Derived.WalkLawsBesides
import Derived.WalkSpells
import Derived.LaidEql
namespace Go.Proofs.YtphlgaklfibciaaDoor
open Go.RowKit
set_option maxRecDepth 100000
set_option linter.unusedVariables false
set_option linter.unusedSimpArgs false

set_option maxHeartbeats 4000000 in
theorem dmake_any (h : HS) (b k x y v : Nat) (AL : Hid (∀ w : World, Calls Tryd.prog 75 #[.int .i64 k, .int .u32 x, .int .u32 y] w fun e w' => e = .returned (.tuple #[.int .u32 v, .nilIface]) ∧ Below w.heap.size w w')) {op rd r1 r2 : Nat} {imm cs : Int} {ww ln : Nat} {gone : Bool} (hr : rd < 32) (w : World) (H : HAt w b h) (D : DI w b op rd r1 r2 imm cs ww ln gone) :
    Calls Tryd.prog 59 #[.pointer (some ⟨b, 0, none⟩), .int .i64 k, .int .u32 x, .int .u32 y] w fun e w' => e = .returned (.tuple #[]) ∧ HAt w' b (setH h rd v) ∧ DI w' b op rd r1 r2 imm cs ww ln gone ∧ OnlyD b w w' := by
  have ST := Lib.hid (fun w H => hset_any h b rd v hr w H)
  have HH := Lib.hid H
  have DD := Lib.hid D
  clear H D
  generalize setH h rd v = r at ST ⊢
  go_enter Tryd.func59, Tryd.ntmps59
  go_upto_region 2 with (go_at_call 75; refine (AL.out _).mono ?_; rintro e w1 ⟨rfl, hb⟩; have o1 := Only.of_below HH.out.2.2 hb; have h1 := HH.out.below hb; have d1 := DD.out.only o1; have c43 := d1.rd; have H1 := Lib.hid h1; have D1 := Lib.hid d1; have O1 := Lib.hid o1; clear h1 d1 o1 hb)
  go_region_with (go_at_call 39; refine (ST.out _ (H1.out.drew 1)).mono ?_; rintro e w2 ⟨rfl, h2, o2⟩; have O2 := Lib.hid o2; have H2 := Lib.hid h2; clear o2 h2)
  all_goals
    have o3 := (O1.out.drew 1).trans O2.out
    exact post_none (by kernel_rfl) rfl ⟨rfl, H2.out, DD.out.only o3, o3.d⟩
/-- a jump -/
def jumpH (h : HS) (rd a : Nat) : HS := if a % 4 = 0 then toH (setH h rd ((h.pc + 4) % 4294967296)) a else toH h a
set_option maxHeartbeats 4000000 in
theorem djump_any (h : HS) (hk : h.ok) (b a : Nat) (ha : a < 4294967296) {op rd r1 r2 : Nat} {imm cs : Int} {ww ln : Nat} {gone : Bool} (hr : rd < 32) (w : World) (H : HAt w b h) (D : DI w b op rd r1 r2 imm cs ww ln gone) :
    Calls Tryd.prog 55 #[.pointer (some ⟨b, 0, none⟩), .int .u32 a] w fun e w' => e = .returned (.tuple #[]) ∧ HAt w' b (jumpH h rd a) ∧ DI w' b op rd r1 r2 imm cs ww ln true ∧ OnlyD b w w' := by
  have e3 := and3 ha
  have hpc := hk.pc
  have epc : ((h.pc : Int) + 4) % 4294967296 = (((h.pc + 4) % 4294967296 : Nat) : Int) := by omega
  obtain ⟨nx, hnx⟩ : ∃ nx, nx = (h.pc + 4) % 4294967296 := ⟨_, rfl⟩
  have hnl : nx < 4294967296 := by omega
  unfold jumpH
  rw [← hnx] at epc ⊢
  have c0 := H.pc_
  have HH := Lib.hid H
  have DD := Lib.hid D
  by_cases h0 : a % 4 = 0
  · rw [h0] at e3
    rw [if_pos h0]
    clear h0
    have ST := Lib.hid (fun w H => hset_any h b rd nx hr w H)
    have TO := Lib.hid (fun w H => hto_any (setH h rd nx) (setH_ok hk hnl) b a ha w H)
    generalize setH h rd nx = r at ST TO ⊢
    generalize toH r a = s at TO ⊢
    have EP := Lib.hid epc
    have c43 := D.rd
    clear H D hk hnx
    generalize h.pc = pc at *
    go_enter Tryd.func55, Tryd.ntmps55
    go_upto_region 2 with (fail)
    go_region_with (go_at_call 39; refine (ST.out _ (HH.out.drew 1)).mono ?_; rintro e w2 ⟨rfl, h2, o2⟩; have O2 := Lib.hid o2; have H2 := Lib.hid h2; clear o2 h2)
    all_goals
      go_wp2_with (go_at_call 35; refine (TO.out _ H2.out).mono ?_; rintro e w1 ⟨rfl, h1, o1⟩; have o1 := (((Only.refl b w).drew 1).trans O2.out).trans o1; have d1 := DD.out.only o1; have c50 := d1.gone; have cf := h1.fz; have H1 := Lib.hid h1; have D1 := Lib.hid d1; have O1 := Lib.hid o1; clear h1 d1 o1)
      exact post_none (by kernel_rfl) rfl ⟨rfl, H1.out.setTail (by decide) _, D1.out.setGone true, O1.out.d.set 50 _⟩
  · rw [if_neg h0]
    obtain ⟨q, hq⟩ : ∃ q, a % 4 = q := ⟨_, rfl⟩
    rw [hq] at e3 h0
    have h0' : ((q : Int) == 0) = false := by simpa using h0
    have TO := Lib.hid (fun w H => hto_any h hk b a ha w H)
    generalize toH h a = s at TO ⊢
    clear H D hk hnx hq
    generalize h.pc = pc at *
    go_enter Tryd.func55, Tryd.ntmps55
    go_wp2_with (go_at_call 35; refine (TO.out _ HH.out).mono ?_; rintro e w1 ⟨rfl, h1, o1⟩; have d1 := DD.out.only o1; have c50 := d1.gone; have cf := h1.fz; have H1 := Lib.hid h1; have D1 := Lib.hid d1; have O1 := Lib.hid o1; clear h1 d1 o1)
    exact post_none (by kernel_rfl) rfl ⟨rfl, H1.out.setTail (by decide) _, D1.out.setGone true, O1.out.d.set 50 _⟩
/-- a branch -/
def branchH (h : HS) (r : Bool) (n : Nat) : HS := if r = true then toH h ((h.pc + n) % 4294967296) else h
set_option maxHeartbeats 4000000 in
theorem dbranch_any (h : HS) (hk : h.ok) (b k n : Nat) (r : Bool) {op rd r1 r2 : Nat} {imm cs : Int} {ww ln : Nat} (hn : IntKind.u32.wrap imm = (n : Int)) (hr1 : r1 < 32) (hr2 : r2 < 32)
    (HO : Hid (∀ w : World, Calls Tryd.prog 74 #[.int .i64 k, .int .u32 (h.x r1 : Nat), .int .u32 (h.x r2 : Nat)] w fun e w' => e = .returned (.tuple #[.bool r, .nilIface]) ∧ w = w')) (w : World) (H : HAt w b h) (D : DI w b op rd r1 r2 imm cs ww ln false) :
    Calls Tryd.prog 56 #[.pointer (some ⟨b, 0, none⟩), .int .i64 k] w fun e w' => e = .returned (.tuple #[]) ∧ HAt w' b (branchH h r n) ∧ DI w' b op rd r1 r2 imm cs ww ln r ∧ OnlyD b w w' := by
  have A := Lib.hid (fun w H D => da_any h b (op := op) (rd := rd) (r1 := r1) (r2 := r2) (imm := imm) (cs := cs) (ww := ww) (ln := ln) (gone := false) hr1 w H D)
  have B := Lib.hid (fun w H D => db_any h b (op := op) (rd := rd) (r1 := r1) (r2 := r2) (imm := imm) (cs := cs) (ww := ww) (ln := ln) (gone := false) hr2 w H D)
  have N := Lib.hid (fun w D => dn_any b n (op := op) (rd := rd) (r1 := r1) (r2 := r2) (imm := imm) (cs := cs) (ww := ww) (ln := ln) (gone := false) hn w D)
  have HH := Lib.hid H
  have DD := Lib.hid D
  have c0 := H.pc_
  have hpc := hk.pc
  have e1 : IntKind.u32.wrap ((h.pc : Int) + (n : Int)) = (((h.pc + n) % 4294967296 : Nat) : Int) := by rw [Go.IntKind.wrap_u32]; omega
  obtain ⟨nx, hnx⟩ : ∃ nx, nx = (h.pc + n) % 4294967296 := ⟨_, rfl⟩
  have hnl : nx < 4294967296 := by omega
  have TO := Lib.hid (fun w H => hto_any h hk b nx hnl w H)
  unfold branchH
  rw [← hnx] at e1 ⊢
  clear H D hk hnx hn
  generalize h.x r1 = x at A HO
  generalize h.x r2 = y at B HO
  generalize h.pc = pc at *
  cases r
  · rw [if_neg (by decide)]
    clear TO
    go_enter Tryd.func56, Tryd.ntmps56
    go_wp2_with (first | (go_at_call 58; refine (A.out _ HH.out DD.out).mono ?_; rintro e w1 ⟨rfl, ka, rfl⟩) | (go_at_call 61; refine (B.out _ (HH.out.drew ka) (DD.out.only ((Only.refl b w).drew ka))).mono ?_; rintro e w2 ⟨rfl, kb, rfl⟩) | (go_at_call 74; refine (HO.out _).mono ?_; rintro e w3 ⟨rfl, rfl⟩))
    exact post_none (by kernel_rfl) rfl ⟨rfl, HH.out, DD.out.only ((Only.refl b w).drew (ka + kb)), ((Only.refl b w).drew (ka + kb)).d⟩
  · rw [if_pos rfl]
    generalize toH h nx = s at TO ⊢
    go_enter Tryd.func56, Tryd.ntmps56
    go_upto_region 2 with (first | (go_at_call 58; refine (A.out _ HH.out DD.out).mono ?_; rintro e w1 ⟨rfl, ka, rfl⟩) | (go_at_call 61; refine (B.out _ (HH.out.drew ka) (DD.out.only ((Only.refl b w).drew ka))).mono ?_; rintro e w2 ⟨rfl, kb, rfl⟩) | (go_at_call 74; refine (HO.out _).mono ?_; rintro e w3 ⟨rfl, rfl⟩))
    generalize hq : w.drewN (ka + kb) = q at *
    have OQ : Only b w q := by rw [← hq]; exact (Only.refl b w).drew (ka + kb)
    have HQ : HAt q b h := by rw [← hq]; exact HH.out
    have cq : q.cell? ⟨b, 0, none⟩ = some (.int .u32 pc) := by rw [← hq]; exact c0
    have DQ := DD.out.only OQ
    have O1q := Lib.hid OQ
    have H1q := Lib.hid HQ
    have D1q := Lib.hid DQ
    clear hq OQ HQ DQ c0
    go_region_with (first | (go_at_call 54; refine (N.out _ (D1q.out.only ((Only.refl b q).drew 1))).mono ?_; rintro e w4 ⟨rfl, rfl⟩) | (go_at_call 35; refine (TO.out _ (H1q.out.drew 1)).mono ?_; rintro e w1 ⟨rfl, h1, o1⟩; have o1 := (O1q.out.drew 1).trans o1; have d1 := DD.out.only o1; have c50 := d1.gone; have cf := h1.fz; have H1 := Lib.hid h1; have D1 := Lib.hid d1; have O1 := Lib.hid o1; clear h1 d1 o1))
    all_goals
      go_wp2
      exact post_none (by kernel_rfl) rfl ⟨rfl, H1.out.setTail (by decide) _, D1.out.setGone true, O1.out.d.set 50 _⟩

end Go.Proofs.YtphlgaklfibciaaDoor
