import Derived.Test.YtphlgaklfibciaaDoorHoZ
import Derived.Test.YtphlgaklfibciaaDoorHartK
import Derived.Test.YtphlgaklfibciaaDoorHartBz
import Derived.Below
import Derived.Deep.Draws
import Derived.Deep.AppendLies
import Derived.Maps.AppendAt
import Derived.OwnWalk
import Derived.Laws.BytesArg
import Derived.Laws.MakeOwn
import Derived.Laws.OwnMore
import Derived.Deep.OwnRows
import Derived.Tactics
import Derived.Lib.ConvBytes
import Derived.Laws.Slices
import Derived.WalkKit
import Derived.KernelRfl
import Derived.RowKit3
import Derived.Deep.LoopGhost
import Derived.Deep.QuietTactic
import Derived.BigQuiet
import Derived.WideLaws
import Derived.Deep.DeepCutAuto
import Derived.Deep.CutBlock
import Derived.Deep.RegionHeld3
import Derived.Laws.Rows
import Derived.Lib.AppendStr
import Derived.ArgAppend
import Derived.Laws.IdiomCopy
import Derived.OrdersHeld
import Derived.Laws.BitsLemmas
import Derived.RowKit
import Derived.Lib.Hide
import Derived.Laws.BitsAllLaws
import Derived.WalkLawsBesides
import Derived.WalkSpells
import Derived.LaidEql
namespace Go.Proofs.YtphlgaklfibciaaDoor
open Go.RowKit
set_option maxRecDepth 100000
set_option linter.unusedVariables false
set_option linter.unusedSimpArgs false

/-- a hart that may be -/
def GoodH (h : HS) : Prop := h.ok ∧ h.pc % 4 = 0 ∧ h.x 0 = 0 ∧ mayB h.c = true
theorem GoodH.may {h : HS} (g : GoodH h) : mayH h = true := by
  obtain ⟨_, a, b, c⟩ := g
  unfold mayH; rw [a, b, c]; rfl
theorem good_of {h : HS} (k : h.ok) (m : mayH h = true) : GoodH h := by
  unfold mayH at m
  simp only [Bool.and_eq_true, decide_eq_true_eq] at m
  exact ⟨k, m.1, m.2.1, m.2.2⟩
theorem clr3_mod {v : Nat} (hv : v < 4294967296) : clr v 3 % 4 = 0 := by
  have h := clr_and (m := 3) hv (by decide)
  rw [Nat.and_two_pow_sub_one_eq_mod _ 2] at h
  exact h
theorem trapTo_mod {v c : Nat} (hv : v < 4294967296) : trapTo v c % 4 = 0 := by
  have h := clr3_mod hv
  unfold trapTo; split
  · omega
  · exact h
theorem good_trap {h : HS} (g : GoodH h) {c v : Nat} (hc : c < 4294967296) (hv : v < 4294967296) : GoodH (trapH h c v) :=
  ⟨trapH_ok g.1 hc hv, trapTo_mod g.1.c.vector, g.2.2.1, mayB_trap g.1.c g.2.2.2 g.1.pc⟩
theorem good_to {h : HS} (g : GoodH h) {a : Nat} (ha : a < 4294967296) : GoodH (toH h a) := by
  refine ⟨toH_ok g.1 ha, ?_⟩
  unfold toH; split
  · next e => exact ⟨e, g.2.2.1, g.2.2.2⟩
  · exact (good_trap g (by decide) ha).2
theorem good_set {h : HS} (g : GoodH h) (rd : Nat) {v : Nat} (hv : v < 4294967296) : GoodH (setH h rd v) := by
  refine ⟨setH_ok g.1 hv, ?_⟩
  unfold setH; split
  · exact g.2
  · next e => exact ⟨g.2.1, by show (if 0 = rd then v else h.x 0) = 0; rw [if_neg (fun q => e q.symm)]; exact g.2.2.1, g.2.2.2⟩
theorem good_jump {h : HS} (g : GoodH h) (rd : Nat) {a : Nat} (ha : a < 4294967296) : GoodH (jumpH h rd a) := by
  unfold jumpH; split
  · exact good_to (good_set g rd (Nat.mod_lt _ (by decide))) ha
  · exact good_to g ha
theorem good_branch {h : HS} (g : GoodH h) (r : Bool) (n : Nat) : GoodH (branchH h r n) := by
  unfold branchH; split
  · exact good_to g (Nat.mod_lt _ (by decide))
  · exact g
theorem good_csr {h : HS} (g : GoodH h) {s : St} (hs : s.ok) (hm : mayB s = true) : GoodH { h with c := s } :=
  ⟨⟨g.1.pc, g.1.x, hs⟩, g.2.1, g.2.2.1, hm⟩
theorem good_wait {h : HS} (g : GoodH h) (b : Bool) : GoodH { h with wait := b } :=
  ⟨⟨g.1.pc, g.1.x, g.1.c⟩, g.2.1, g.2.2.1, g.2.2.2⟩
theorem good_mret {h : HS} (g : GoodH h) : GoodH (mretH h) :=
  good_to (good_csr g (retS_ok g.1.c) (mayB_ret g.1.c g.2.2.2)) g.1.c.epc
theorem good_begin {h : HS} (g : GoodH h) (ln : Nat) : GoodH (beginH h ln) := by
  unfold beginH; split
  · exact good_wait g false
  · exact good_trap (good_wait g false) (asksS_lt _ _) (by decide)
theorem stay_wait {h : HS} {ln : Nat} (e : stayB h ln = true) : h.wait = true := by
  unfold stayB at e
  simp only [Bool.and_eq_true] at e
  exact e.1

/-- what a control register's instruction writes with -/
def ctlV (h : HS) (op r1 : Nat) : Nat := if 54 ≤ op then r1 else h.x r1
def ctlW (h : HS) (op r1 old : Nat) : Nat := if (op - 51) % 3 = 0 then ctlV h op r1 else if (op - 51) % 3 = 1 then old ||| ctlV h op r1 else clr old (ctlV h op r1)
/-- a hart that reads and writes a control register, and whether it trapped -/
def ctlH (h : HS) (op rd r1 : Nat) (cs : Int) (ww ln : Nat) : HS × Bool :=
  if creadV h.c cs ln = none ∧ (¬ (op - 51) % 3 = 0 ∨ ¬ rd = 0) then (trapH h 2 ww, true)
  else if (op - 51) % 3 = 0 ∨ ¬ r1 = 0 then
    if (writeV h.c cs (ctlW h op r1 ((creadV h.c cs ln).getD 0))).2 = 0 then (setH { h with c := (writeV h.c cs (ctlW h op r1 ((creadV h.c cs ln).getD 0))).1 } rd ((creadV h.c cs ln).getD 0), false) else (trapH h 2 ww, true)
  else (setH h rd ((creadV h.c cs ln).getD 0), false)
def LtO (o : Option Nat) : Prop := ∀ v, o = some v → v < 4294967296
theorem LtO.ite {c : Prop} [Decidable c] {a b : Option Nat} (h1 : LtO a) (h2 : LtO b) : LtO (if c then a else b) := by split <;> assumption
theorem LtO.some {x : Nat} (h : x < 4294967296) : LtO (some x) := fun v e => by cases e; exact h
theorem LtO.none : LtO none := fun v e => by cases e
theorem cread_some {s : St} (hs : s.ok) (a : Int) {ln : Nat} (hl : ln < 4294967296) : LtO (creadV s a ln) := by
  have q : s.status ||| 6144 < 4294967296 := Nat.or_lt_two_pow (n := 32) hs.status (show (6144 : Nat) < 2 ^ 32 by decide)
  have q2 : ln &&& 2184 < 4294967296 := and_lt32 hl
  have q3 : s.count / 4294967296 < 4294967296 := by have := hs.count; omega
  unfold creadV
  exact .ite (.some hs.scratch) (.ite (.some hs.cause) (.ite (.some hs.value) (.ite (.some q) (.ite (.some hs.enable) (.ite (.some hs.vector) (.ite (.some hs.epc) (.ite (.some (Nat.mod_lt _ (by decide))) (.ite (.some q3) (.ite (.some (by decide)) (.ite (.some q2) (.ite (.some (by decide)) .none)))))))))))
theorem cread_lt {s : St} (hs : s.ok) (a : Int) {ln : Nat} (hl : ln < 4294967296) : (creadV s a ln).getD 0 < 4294967296 := by
  cases h : creadV s a ln with
  | none => decide
  | some v => exact cread_some hs a hl _ h
theorem ctlV_lt {h : HS} (k : h.ok) (op : Nat) {r1 : Nat} (hr : r1 < 32) : ctlV h op r1 < 4294967296 := by
  unfold ctlV; split
  · omega
  · exact k.x r1 hr
theorem ctlW_lt {h : HS} (k : h.ok) (op : Nat) {r1 old : Nat} (hr : r1 < 32) (ho : old < 4294967296) : ctlW h op r1 old < 4294967296 := by
  have hv := ctlV_lt k op hr
  unfold ctlW; repeat' split
  · exact hv
  · exact Nat.or_lt_two_pow (n := 32) ho hv
  · exact clr_lt ho
theorem good_ctl {h : HS} (g : GoodH h) (op rd : Nat) {r1 : Nat} (hr : r1 < 32) (cs : Int) {ww ln : Nat} (hw : ww < 4294967296) (hl : ln < 4294967296) : GoodH (ctlH h op rd r1 cs ww ln).1 := by
  have ho := cread_lt g.1.c cs hl
  have hv := ctlW_lt g.1 op hr ho
  unfold ctlH
  repeat' split
  · exact good_trap g (by decide) hw
  · next e => exact good_set (good_csr g (writeV_ok g.1.c cs hv) (writeV_may g.2.2.2 cs hv e)) rd ho
  · exact good_trap g (by decide) hw
  · exact good_set g rd ho

structure CtlS (w0 : World) (b : Nat) (h : HS) (op rd r1 r2 : Nat) (imm cs : Int) (ww ln : Nat) (w : World) : Prop where
  h : HAt w b h
  d : DI w b op rd r1 r2 imm cs ww ln false
  o : Only b w0 w
theorem CtlS.below {w0 : World} {b : Nat} {h : HS} {op rd r1 r2 : Nat} {imm cs : Int} {ww ln : Nat} {wa wb : World} (s : CtlS w0 b h op rd r1 r2 imm cs ww ln wa) (hb : Below wa.heap.size wa wb) : CtlS w0 b h op rd r1 r2 imm cs ww ln wb :=
  have o := Only.of_below s.h.2.2 hb
  ⟨s.h.below hb, s.d.only o, s.o.trans o⟩
theorem CtlS.drewK {w0 : World} {b : Nat} {h : HS} {op rd r1 r2 : Nat} {imm cs : Int} {ww ln : Nat} {wa : World} (s : CtlS w0 b h op rd r1 r2 imm cs ww ln wa) (k : Nat) : CtlS w0 b h op rd r1 r2 imm cs ww ln (wa.drewN k) := ⟨s.h.drew k, s.d.drewK k, s.o.drew k⟩
theorem CtlS.drew1 {w0 : World} {b : Nat} {h : HS} {op rd r1 r2 : Nat} {imm cs : Int} {ww ln : Nat} {wa : World} (s : CtlS w0 b h op rd r1 r2 imm cs ww ln wa) : CtlS w0 b h op rd r1 r2 imm cs ww ln wa.drew := s.drewK 1
theorem CtlS.setRow {w0 : World} {b : Nat} {h : HS} {op rd r1 r2 : Nat} {imm cs : Int} {ww ln : Nat} {wa : World} (s : CtlS w0 b h op rd r1 r2 imm cs ww ln wa) {N : Nat} (hT : w0.heap.size ≤ N) (hb : b < w0.heap.size) (c : Array Value) : CtlS w0 b h op rd r1 r2 imm cs ww ln (wa.setRow N c) :=
  have e := setRow_other wa N b c (by omega)
  have q : ∀ j, (wa.setRow N c).cell? ⟨b, j, none⟩ = wa.cell? ⟨b, j, none⟩ := fun j => World.cell?_of_block (a := ⟨b, j, none⟩) e
  ⟨s.h.setRow (by omega) c, ⟨(q _).trans s.d.op, (q _).trans s.d.rd, (q _).trans s.d.r1, (q _).trans s.d.r2, (q _).trans s.d.imm, (q _).trans s.d.cs, (q _).trans s.d.ww, (q _).trans s.d.ln, (q _).trans s.d.gone⟩, ⟨below_setRow s.o.below (by omega) c, fun k h1 h2 => (setRow_other _ _ _ _ (by omega)).trans (s.o.over k h1 h2), fun j hj => (q j).trans (s.o.tail j hj)⟩⟩
theorem cread_ex (s : St) (hs : s.ok) (a : Int) (ln : Nat) (hl : ln < 4294967296) : ∃ (old : Nat) (re : Value), old = (creadV s a ln).getD 0 ∧ ((¬ creadV s a ln = none ∧ re = .nilIface) ∨ (creadV s a ln = none ∧ re = .iface 64 (.int .i64 8))) ∧ Hid (∀ w : World, Calls Tryd.prog 77 #[.agg #[.int .u32 (s.status : Nat), .int .u32 (s.enable : Nat), .int .u32 (s.vector : Nat), .int .u32 (s.scratch : Nat), .int .u32 (s.epc : Nat), .int .u32 (s.cause : Nat), .int .u32 (s.value : Nat), .int .u64 (s.count : Nat)], .int .i64 a, .int .u32 ln] w fun e w' => e = .returned (.tuple #[.int .u32 old, re]) ∧ Below w.heap.size w w') := by
  cases h : creadV s a ln with
  | none => exact ⟨0, _, rfl, Or.inr ⟨rfl, rfl⟩, Lib.hid fun w => by have q := cread_any s hs a ln hl w; rw [h] at q; exact q⟩
  | some v => exact ⟨v, _, rfl, Or.inl ⟨by simp, rfl⟩, Lib.hid fun w => by have q := cread_any s hs a ln hl w; rw [h] at q; exact q⟩
theorem cwrite_ex (s : St) (hs : s.ok) (a : Int) (v : Nat) (hv : v < 4294967296) : ∃ (c : St) (we : Value), c = (writeV s a v).1 ∧ (((writeV s a v).2 = 0 ∧ we = .nilIface) ∨ (¬ (writeV s a v).2 = 0 ∧ ∃ z : Int, we = .iface 64 (.int .i64 z))) ∧ Hid (∀ w : World, Calls Tryd.prog 78 #[.agg #[.int .u32 (s.status : Nat), .int .u32 (s.enable : Nat), .int .u32 (s.vector : Nat), .int .u32 (s.scratch : Nat), .int .u32 (s.epc : Nat), .int .u32 (s.cause : Nat), .int .u32 (s.value : Nat), .int .u64 (s.count : Nat)], .int .i64 a, .int .u32 v] w fun e w' => e = .returned (.tuple #[.agg #[.int .u32 (c.status : Nat), .int .u32 (c.enable : Nat), .int .u32 (c.vector : Nat), .int .u32 (c.scratch : Nat), .int .u32 (c.epc : Nat), .int .u32 (c.cause : Nat), .int .u32 (c.value : Nat), .int .u64 (c.count : Nat)], we]) ∧ Below w.heap.size w w') := by
  by_cases h0 : (writeV s a v).2 = 0
  · exact ⟨_, _, rfl, Or.inl ⟨h0, rfl⟩, Lib.hid fun w => by have q := write_any s hs a v hv w; unfold writeR at q; rw [h0] at q; exact q⟩
  · exact ⟨_, _, rfl, Or.inr ⟨h0, _, rfl⟩, Lib.hid fun w => by have q := write_any s hs a v hv w; unfold writeR errV at q; rw [if_neg h0] at q; exact q⟩
theorem ctl_trap {h : HS} {op rd r1 : Nat} {cs : Int} {ww ln : Nat} (h1 : creadV h.c cs ln = none) (h2 : ¬ (op - 51) % 3 = 0 ∨ ¬ rd = 0) : ctlH h op rd r1 cs ww ln = (trapH h 2 ww, true) := by
  unfold ctlH; rw [if_pos ⟨h1, h2⟩]
theorem ctl_set {h : HS} {op rd r1 : Nat} {cs : Int} {ww ln old : Nat} (ho : old = (creadV h.c cs ln).getD 0) (h1 : ¬ (creadV h.c cs ln = none ∧ (¬ (op - 51) % 3 = 0 ∨ ¬ rd = 0))) (h2 : ¬ ((op - 51) % 3 = 0 ∨ ¬ r1 = 0)) : ctlH h op rd r1 cs ww ln = (setH h rd old, false) := by
  unfold ctlH; rw [if_neg h1, if_neg h2, ho]
theorem ctl_bad {h : HS} {op rd r1 : Nat} {cs : Int} {ww ln old : Nat} (ho : old = (creadV h.c cs ln).getD 0) (h1 : ¬ (creadV h.c cs ln = none ∧ (¬ (op - 51) % 3 = 0 ∨ ¬ rd = 0))) (h2 : (op - 51) % 3 = 0 ∨ ¬ r1 = 0) (h3 : ¬ (writeV h.c cs (ctlW h op r1 old)).2 = 0) : ctlH h op rd r1 cs ww ln = (trapH h 2 ww, true) := by
  subst ho; unfold ctlH; rw [if_neg h1, if_pos h2, if_neg h3]
theorem ctl_ok {h : HS} {op rd r1 : Nat} {cs : Int} {ww ln old : Nat} {c : St} (ho : old = (creadV h.c cs ln).getD 0) (h1 : ¬ (creadV h.c cs ln = none ∧ (¬ (op - 51) % 3 = 0 ∨ ¬ rd = 0))) (h2 : (op - 51) % 3 = 0 ∨ ¬ r1 = 0) (h3 : (writeV h.c cs (ctlW h op r1 old)).2 = 0) (hc : c = (writeV h.c cs (ctlW h op r1 old)).1) : ctlH h op rd r1 cs ww ln = (setH { h with c := c } rd old, false) := by
  subst ho hc; unfold ctlH; rw [if_neg h1, if_pos h2, if_pos h3]

end Go.Proofs.YtphlgaklfibciaaDoor
