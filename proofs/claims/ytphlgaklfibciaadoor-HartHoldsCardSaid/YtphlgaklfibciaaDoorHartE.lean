import Derived.Test.YtphlgaklfibciaaDoorHartD
import Derived.Below
import Derived.Deep.Draws
import Derived.Deep.AppendLies
import Derived.Maps.AppendAt
import Derived.OwnWalk
import Derived.Laws.BytesArg
import Derived.Laws.MakeOwn
import Derived.Laws.OwnMore
import Derived.Deep.OwnRows
import Derived.Tactics
import Derived.Lib.ConvBytes
import Derived.Laws.Slices
import Derived.WalkKit
import Derived.KernelRfl
import Derived.RowKit3
import Derived.Deep.LoopGhost
import Derived.Deep.QuietTactic
import Derived.BigQuiet
import Derived.WideLaws
import Derived.Deep.DeepCutAuto
import Derived.Deep.CutBlock
import Derived.Deep.RegionHeld3
import Derived.Laws.Rows
import Derived.Lib.AppendStr
import Derived.ArgAppend
import Derived.Laws.IdiomCopy
import Derived.OrdersHeld
import Derived.Laws.BitsLemmas
import Derived.RowKit
import Derived.Lib.Hide
import Derived.Laws.BitsAllLaws
import Derived.WalkLawsBesides
import Derived.WalkSpells
import Derived.LaidEql
import Derived.Test.YtphlgaklfibciaaDoorCsrHA
namespace Go.Proofs.YtphlgaklfibciaaDoor
open Go.RowKit
set_option maxRecDepth 100000
set_option linter.unusedVariables false
set_option linter.unusedSimpArgs false

def acc0 : Array Value := #[.int .i64 0, .int .u32 0, .int .i64 0, .bool false, .int .i64 0, .int .u32 0]
/-- what holds while an access is made -/
structure AccS (w0 : World) (b : Nat) (h : HS) (op rd r1 r2 : Nat) (imm cs : Int) (ww ln : Nat) (gone : Bool) (w : World) : Prop where
  h : HAt w b h
  d : DI w b op rd r1 r2 imm cs ww ln gone
  o : Only b w0 w
  box : w.heap[w0.heap.size]? = some (.cells acc0 50 (0, 0))
theorem AccS.keep {w0 : World} {b : Nat} {h : HS} {op rd r1 r2 : Nat} {imm cs : Int} {ww ln : Nat} {gone : Bool} {wa wb : World} (s : wa.cell? ⟨b, 43, none⟩ = some (.int .i64 rd) ∧ AccS w0 b h op rd r1 r2 imm cs ww ln gone wa) (hb : Below wa.heap.size wa wb) :
    wb.cell? ⟨b, 43, none⟩ = some (.int .i64 rd) ∧ AccS w0 b h op rd r1 r2 imm cs ww ln gone wb :=
  have o := Only.of_below s.2.h.2.2 hb
  ⟨(s.2.d.only o).rd, s.2.h.below hb, s.2.d.only o, s.2.o.trans o, (hb.block _ (heap_lt s.2.box)).trans s.2.box⟩
theorem AccS.first {w0 : World} {b : Nat} {h : HS} {op rd r1 r2 : Nat} {imm cs : Int} {ww ln : Nat} {gone : Bool} (H : HAt w0 b h) (D : DI w0 b op rd r1 r2 imm cs ww ln gone) :
    ((w0.alloc (.cells acc0 50)).drewN 1).cell? ⟨b, 43, none⟩ = some (.int .i64 rd) ∧ AccS w0 b h op rd r1 r2 imm cs ww ln gone ((w0.alloc (.cells acc0 50)).drewN 1) :=
  have hb : Below w0.heap.size w0 ((w0.alloc (.cells acc0 50)).drewN 1) := below_drewN ((Below.refl _ _).alloc (Nat.le_refl _) _) 1
  have o := Only.of_below H.2.2 hb
  ⟨(D.only o).rd, H.below hb, D.only o, o, heap_alloc_new w0 _⟩
theorem AccS.hh {w0 : World} {b : Nat} {h : HS} {op rd r1 r2 : Nat} {imm cs : Int} {ww ln : Nat} {gone : Bool} {wa : World} (s : wa.cell? ⟨b, 43, none⟩ = some (.int .i64 rd) ∧ AccS w0 b h op rd r1 r2 imm cs ww ln gone wa) : HAt wa b h := s.2.h
theorem AccS.dd {w0 : World} {b : Nat} {h : HS} {op rd r1 r2 : Nat} {imm cs : Int} {ww ln : Nat} {gone : Bool} {wa : World} (s : wa.cell? ⟨b, 43, none⟩ = some (.int .i64 rd) ∧ AccS w0 b h op rd r1 r2 imm cs ww ln gone wa) : DI wa b op rd r1 r2 imm cs ww ln gone := s.2.d
theorem _root_.Go.Calls.below {P : Program} {f : FuncId} {args : Array Value} {w : World} {v : Ending} (h : Calls P f args w fun e w' => e = v ∧ ∃ k, w.drewN k = w') : Calls P f args w fun e w' => e = v ∧ Below w.heap.size w w' :=
  h.mono fun _ _ ⟨h1, k, h2⟩ => ⟨h1, h2 ▸ below_drewN (Below.refl _ _) k⟩
theorem wpAnyH_mono {P : Program} {md : Region.Mode} {ops : Array Oper} {Q : Exit → Act → World → Prop} {S S' : World → Prop} (hS : ∀ w, S' w → S w) : ∀ (fuel : Nat) (listed : Array Bool) (a : Act) (w : World), wpAnyH P md ops Q S' fuel listed a w → wpAnyH P md ops Q S fuel listed a w
  | 0, _, _, _, h => h
  | fuel + 1, _, _, _, h => ⟨h.1, fun i hi => wpOp_mono (fun a' w' h' => ⟨hS _ h'.1, wpAnyH_mono hS fuel _ a' w' h'.2⟩) (h.2 i hi)⟩
theorem HAt.allocK {w : World} {b : Nat} {h : HS} (H : HAt w b h) (o : Obj) : HAt (w.alloc o) b h := H.below ((Below.refl _ _).alloc (Nat.le_refl _) _)
theorem HAt.setOther {w : World} {b : Nat} {h : HS} (H : HAt w b h) {c : Nat} (hc : c ≠ b) (k : Nat) (v : Value) : HAt (w.setCell ⟨c, k, none⟩ v) b h :=
  ⟨fun j hj => by rw [World.cell?_setCell_other _ _ _ _ (fun e => hc (by cases e; rfl))]; exact H.1 j hj, fun j => by rw [World.frozen?_setCell]; exact H.2.1 j, by rw [World.size_setCell]; exact H.2.2⟩
theorem DI.allocK {w : World} {b op rd r1 r2 : Nat} {imm cs : Int} {ww ln : Nat} {gone : Bool} (D : DI w b op rd r1 r2 imm cs ww ln gone) (hb : b < w.heap.size) (o : Obj) : DI (w.alloc o) b op rd r1 r2 imm cs ww ln gone :=
  D.only (Only.of_below hb ((Below.refl _ _).alloc (Nat.le_refl _) _))
theorem DI.setOther {w : World} {b op rd r1 r2 : Nat} {imm cs : Int} {ww ln : Nat} {gone : Bool} (D : DI w b op rd r1 r2 imm cs ww ln gone) {c : Nat} (hc : c ≠ b) (k : Nat) (v : Value) : DI (w.setCell ⟨c, k, none⟩ v) b op rd r1 r2 imm cs ww ln gone := by
  have q : ∀ j u, w.cell? ⟨b, j, none⟩ = some u → (w.setCell ⟨c, k, none⟩ v).cell? ⟨b, j, none⟩ = some u := fun j u h => by
    rw [World.cell?_setCell_other _ _ _ _ (fun e => hc (by cases e; rfl))]; exact h
  exact ⟨q _ _ D.op, q _ _ D.rd, q _ _ D.r1, q _ _ D.r2, q _ _ D.imm, q _ _ D.cs, q _ _ D.ww, q _ _ D.ln, q _ _ D.gone⟩
theorem OnlyD.setOther {b : Nat} {w w' : World} (h : OnlyD b w w') (hb : b < w.heap.size) {c : Nat} (hc : w.heap.size ≤ c) (k : Nat) (v : Value) : OnlyD b w (w'.setCell ⟨c, k, none⟩ v) :=
  ⟨h.below.setCell (p := ⟨c, k, none⟩) (by show b ≤ c; omega) v, fun i h1 h2 => (heap_setCell_other _ _ _ _ (by simp; omega)).trans (h.over i h1 h2)⟩
theorem OnlyD.allocK {b : Nat} {w w' : World} (h : OnlyD b w w') (hb : b < w.heap.size) (o : Obj) : OnlyD b w (w'.alloc o) :=
  ⟨h.below.alloc (by have := h.below.size; omega) o, fun i h1 h2 => (heap_alloc_old _ _ (by have := h.below.size; omega)).trans (h.over i h1 h2)⟩
theorem row_set {w : World} {c T k : Nat} {v : Value} {o : Obj} (h : w.heap[T]? = some o) (hc : T ≠ c) : (w.setCell ⟨c, k, none⟩ v).heap[T]? = some o := (heap_setCell_other _ _ _ _ hc).trans h
theorem row_alloc {w : World} {T : Nat} {o : Obj} (h : w.heap[T]? = some o) (q : Obj) : (w.alloc q).heap[T]? = some o := (heap_alloc_old _ _ (heap_lt h)).trans h
theorem acc0_facts {w : World} {T : Nat} (h : w.heap[T]? = some (.cells acc0 50 (0, 0))) : (w.cell? ⟨T, 0, none⟩ = some (.int .i64 0) ∧ w.cell? ⟨T, 1, none⟩ = some (.int .u32 0) ∧ w.cell? ⟨T, 2, none⟩ = some (.int .i64 0) ∧ w.cell? ⟨T, 3, none⟩ = some (.bool false) ∧ w.cell? ⟨T, 4, none⟩ = some (.int .i64 0) ∧ w.cell? ⟨T, 5, none⟩ = some (.int .u32 0)) ∧ (∀ j, w.frozen? ⟨T, j, none⟩ = false) ∧ T < w.heap.size := by
  refine ⟨⟨?_, ?_, ?_, ?_, ?_, ?_⟩, fun j => frozen_of_row _ _ _ _ _ h, heap_lt h⟩ <;> exact cell_of_row _ _ _ _ _ _ h

def numT : List Nat := [0, 3, 4, 5, 8, 9, 2, 6, 7]
theorem hnum_18 (w : World) : Calls Tryd.prog 60 #[.int .i64 18] w fun e w' => e = .returned (.int .i64 0) ∧ w = w' := by
  have i0 : ∀ w : World, (Instr.index 138 (.agg #[.int .i64 0, .int .i64 3, .int .i64 4, .int .i64 5, .int .i64 8, .int .i64 9, .int .i64 2, .int .i64 6, .int .i64 7]) (.int .i64 0)).run Tryd.prog w = .ok (.int .i64 0) w := fun _ => by kernel_rfl
  go_enter Tryd.func60, Tryd.ntmps60
  go_wp2
  go_ret
  exact ⟨rfl, rfl⟩
theorem hnum_19 (w : World) : Calls Tryd.prog 60 #[.int .i64 19] w fun e w' => e = .returned (.int .i64 3) ∧ w = w' := by
  have i0 : ∀ w : World, (Instr.index 138 (.agg #[.int .i64 0, .int .i64 3, .int .i64 4, .int .i64 5, .int .i64 8, .int .i64 9, .int .i64 2, .int .i64 6, .int .i64 7]) (.int .i64 1)).run Tryd.prog w = .ok (.int .i64 3) w := fun _ => by kernel_rfl
  go_enter Tryd.func60, Tryd.ntmps60
  go_wp2
  go_ret
  exact ⟨rfl, rfl⟩
theorem hnum_20 (w : World) : Calls Tryd.prog 60 #[.int .i64 20] w fun e w' => e = .returned (.int .i64 4) ∧ w = w' := by
  have i0 : ∀ w : World, (Instr.index 138 (.agg #[.int .i64 0, .int .i64 3, .int .i64 4, .int .i64 5, .int .i64 8, .int .i64 9, .int .i64 2, .int .i64 6, .int .i64 7]) (.int .i64 2)).run Tryd.prog w = .ok (.int .i64 4) w := fun _ => by kernel_rfl
  go_enter Tryd.func60, Tryd.ntmps60
  go_wp2
  go_ret
  exact ⟨rfl, rfl⟩
theorem hnum_21 (w : World) : Calls Tryd.prog 60 #[.int .i64 21] w fun e w' => e = .returned (.int .i64 5) ∧ w = w' := by
  have i0 : ∀ w : World, (Instr.index 138 (.agg #[.int .i64 0, .int .i64 3, .int .i64 4, .int .i64 5, .int .i64 8, .int .i64 9, .int .i64 2, .int .i64 6, .int .i64 7]) (.int .i64 3)).run Tryd.prog w = .ok (.int .i64 5) w := fun _ => by kernel_rfl
  go_enter Tryd.func60, Tryd.ntmps60
  go_wp2
  go_ret
  exact ⟨rfl, rfl⟩
theorem hnum_22 (w : World) : Calls Tryd.prog 60 #[.int .i64 22] w fun e w' => e = .returned (.int .i64 8) ∧ w = w' := by
  have i0 : ∀ w : World, (Instr.index 138 (.agg #[.int .i64 0, .int .i64 3, .int .i64 4, .int .i64 5, .int .i64 8, .int .i64 9, .int .i64 2, .int .i64 6, .int .i64 7]) (.int .i64 4)).run Tryd.prog w = .ok (.int .i64 8) w := fun _ => by kernel_rfl
  go_enter Tryd.func60, Tryd.ntmps60
  go_wp2
  go_ret
  exact ⟨rfl, rfl⟩
theorem hnum_23 (w : World) : Calls Tryd.prog 60 #[.int .i64 23] w fun e w' => e = .returned (.int .i64 9) ∧ w = w' := by
  have i0 : ∀ w : World, (Instr.index 138 (.agg #[.int .i64 0, .int .i64 3, .int .i64 4, .int .i64 5, .int .i64 8, .int .i64 9, .int .i64 2, .int .i64 6, .int .i64 7]) (.int .i64 5)).run Tryd.prog w = .ok (.int .i64 9) w := fun _ => by kernel_rfl
  go_enter Tryd.func60, Tryd.ntmps60
  go_wp2
  go_ret
  exact ⟨rfl, rfl⟩
theorem hnum_24 (w : World) : Calls Tryd.prog 60 #[.int .i64 24] w fun e w' => e = .returned (.int .i64 2) ∧ w = w' := by
  have i0 : ∀ w : World, (Instr.index 138 (.agg #[.int .i64 0, .int .i64 3, .int .i64 4, .int .i64 5, .int .i64 8, .int .i64 9, .int .i64 2, .int .i64 6, .int .i64 7]) (.int .i64 6)).run Tryd.prog w = .ok (.int .i64 2) w := fun _ => by kernel_rfl
  go_enter Tryd.func60, Tryd.ntmps60
  go_wp2
  go_ret
  exact ⟨rfl, rfl⟩
theorem hnum_25 (w : World) : Calls Tryd.prog 60 #[.int .i64 25] w fun e w' => e = .returned (.int .i64 6) ∧ w = w' := by
  have i0 : ∀ w : World, (Instr.index 138 (.agg #[.int .i64 0, .int .i64 3, .int .i64 4, .int .i64 5, .int .i64 8, .int .i64 9, .int .i64 2, .int .i64 6, .int .i64 7]) (.int .i64 7)).run Tryd.prog w = .ok (.int .i64 6) w := fun _ => by kernel_rfl
  go_enter Tryd.func60, Tryd.ntmps60
  go_wp2
  go_ret
  exact ⟨rfl, rfl⟩
theorem hnum_26 (w : World) : Calls Tryd.prog 60 #[.int .i64 26] w fun e w' => e = .returned (.int .i64 7) ∧ w = w' := by
  have i0 : ∀ w : World, (Instr.index 138 (.agg #[.int .i64 0, .int .i64 3, .int .i64 4, .int .i64 5, .int .i64 8, .int .i64 9, .int .i64 2, .int .i64 6, .int .i64 7]) (.int .i64 8)).run Tryd.prog w = .ok (.int .i64 7) w := fun _ => by kernel_rfl
  go_enter Tryd.func60, Tryd.ntmps60
  go_wp2
  go_ret
  exact ⟨rfl, rfl⟩
theorem hnum_any (k : Nat) (hk : k < 9) (o : Int) (ho : o = ((18 + k : Nat) : Int)) (w : World) : Calls Tryd.prog 60 #[.int .i64 o] w fun e w' => e = .returned (.int .i64 (numT.getD k 0 : Nat)) ∧ w = w' := by
  subst ho
  have h9 : k = 0 ∨ k = 1 ∨ k = 2 ∨ k = 3 ∨ k = 4 ∨ k = 5 ∨ k = 6 ∨ k = 7 ∨ k = 8 := by omega
  rcases h9 with rfl | rfl | rfl | rfl | rfl | rfl | rfl | rfl | rfl
  · exact hnum_18 w
  · exact hnum_19 w
  · exact hnum_20 w
  · exact hnum_21 w
  · exact hnum_22 w
  · exact hnum_23 w
  · exact hnum_24 w
  · exact hnum_25 w
  · exact hnum_26 w
def mretH (h : HS) : HS := toH { h with c := retS h.c } h.c.epc
set_option maxHeartbeats 4000000 in
theorem dsys_mret (h : HS) (hk : h.ok) (b : Nat) {rd r1 r2 : Nat} {imm cs : Int} {ww ln : Nat} (w : World) (H : HAt w b h) (D : DI w b 49 rd r1 r2 imm cs ww ln false) :
    Calls Tryd.prog 62 #[.pointer (some ⟨b, 0, none⟩)] w fun e w' => e = .returned (.tuple #[]) ∧ HAt w' b (mretH h) ∧ DI w' b 49 rd r1 r2 imm cs ww ln true ∧ OnlyD b w w' := by
  have RR := Lib.hid (fun w => return_any h.c hk.c w)
  have hk2 : HS.ok { h with c := retS h.c } := ⟨hk.pc, hk.x, retS_ok hk.c⟩
  have TO := Lib.hid (fun w H => hto_any { h with c := retS h.c } hk2 b h.c.epc hk.c.epc w H)
  unfold mretH
  generalize toH { h with c := retS h.c } h.c.epc = s at TO ⊢
  have HH := Lib.hid H
  have DD := Lib.hid D
  have c42 := D.op
  have hbl := H.2.2
  obtain ⟨pc, x, wt, c⟩ := h
  have c34 : w.cell? ⟨b, 34, none⟩ = some (.int .u32 c.status) := H.1 34 (by decide)
  have c35 : w.cell? ⟨b, 35, none⟩ = some (.int .u32 c.enable) := H.1 35 (by decide)
  have c36 : w.cell? ⟨b, 36, none⟩ = some (.int .u32 c.vector) := H.1 36 (by decide)
  have c37 : w.cell? ⟨b, 37, none⟩ = some (.int .u32 c.scratch) := H.1 37 (by decide)
  have c38 : w.cell? ⟨b, 38, none⟩ = some (.int .u32 c.epc) := H.1 38 (by decide)
  have c39 : w.cell? ⟨b, 39, none⟩ = some (.int .u32 c.cause) := H.1 39 (by decide)
  have c40 : w.cell? ⟨b, 40, none⟩ = some (.int .u32 c.value) := H.1 40 (by decide)
  have c41 : w.cell? ⟨b, 41, none⟩ = some (.int .u64 c.count) := H.1 41 (by decide)
  clear H D hk hk2
  simp only at RR TO
  generalize retS c = r at *
  obtain ⟨st, en, ve, sc, ep, ca, va, co⟩ := c
  obtain ⟨t0, t1, t2, t3, t4, t5, t6, t7⟩ := r
  unfold St.v St.cells at RR
  simp only at RR TO c34 c35 c36 c37 c38 c39 c40 c41
  go_enter Tryd.func62, Tryd.ntmps62
  go_upto_region 8 with (go_at_call 76; refine (RR.out _).mono ?_; rintro e w1 ⟨rfl, hb⟩; have B1 := Lib.hid hb; have hh := HH.out.below hb; have H1 := Lib.hid hh; have d34 : w1.cell? ⟨b, 34, none⟩ = some (.int .u32 st) := hh.1 34 (by decide); have d35 : w1.cell? ⟨b, 35, none⟩ = some (.int .u32 en) := hh.1 35 (by decide); have d36 : w1.cell? ⟨b, 36, none⟩ = some (.int .u32 ve) := hh.1 36 (by decide); have d37 : w1.cell? ⟨b, 37, none⟩ = some (.int .u32 sc) := hh.1 37 (by decide); have d38 : w1.cell? ⟨b, 38, none⟩ = some (.int .u32 ep) := hh.1 38 (by decide); have d39 : w1.cell? ⟨b, 39, none⟩ = some (.int .u32 ca) := hh.1 39 (by decide); have d40 : w1.cell? ⟨b, 40, none⟩ = some (.int .u32 va) := hh.1 40 (by decide); have d41 : w1.cell? ⟨b, 41, none⟩ = some (.int .u64 co) := hh.1 41 (by decide); have df := hh.2.1; have hb1 := hh.2.2; clear hb hh)
  generalize hq : World.alloc _ _ = q
  have HQ : HAt q b ⟨pc, x, wt, ⟨t0, t1, t2, t3, t4, t5, t6, t7⟩⟩ := by
    rw [← hq]
    refine HAt.allocK ?_ _
    exact GAt.ext (GAt.set (GAt.set (GAt.set (GAt.set (GAt.set (GAt.set (GAt.set (GAt.set H1.out (k := 34) (by decide) _) (k := 35) (by decide) _) (k := 36) (by decide) _) (k := 37) (by decide) _) (k := 38) (by decide) _) (k := 39) (by decide) _) (k := 40) (by decide) _) (k := 41) (by decide) _) (get_ext rfl (fun j h1 h2 => by simp [HS.get, show j ≠ 0 by omega, show j ≠ 34 by omega, show j ≠ 35 by omega, show j ≠ 36 by omega, show j ≠ 37 by omega, show j ≠ 38 by omega, show j ≠ 39 by omega, show j ≠ 40 by omega, show j ≠ 41 by omega, h2]) ⟨rfl, rfl, rfl, rfl, rfl, rfl, rfl, rfl, rfl⟩)
  have OQ : Only b w q := by
    rw [← hq]
    have o1 := (Only.of_below hbl B1.out)
    have o2 := ((((((((o1.set (k := 34) (by decide) (.int .u32 (t0 : Nat))).set (k := 35) (by decide) (.int .u32 (t1 : Nat))).set (k := 36) (by decide) (.int .u32 (t2 : Nat))).set (k := 37) (by decide) (.int .u32 (t3 : Nat))).set (k := 38) (by decide) (.int .u32 (t4 : Nat))).set (k := 39) (by decide) (.int .u32 (t5 : Nat))).set (k := 40) (by decide) (.int .u32 (t6 : Nat))).set (k := 41) (by decide) (.int .u64 (t7 : Nat)))
    exact o2.trans (Only.of_below (by simp; omega) ((Below.refl _ _).alloc (Nat.le_refl _) _))
  have OO := Lib.hid OQ
  have H2 := Lib.hid HQ
  clear hq OQ HQ d34 d35 d36 d37 d38 d39 d40 d41 df hb1 c34 c35 c36 c37 c38 c39 c40 c41 c42
  go_wp2_with (go_at_call 35; refine (TO.out _ H2.out).mono ?_; rintro e w2 ⟨rfl, h1, o1⟩; have o1 := OO.out.trans o1; have d1 := DD.out.only o1; have c50 := d1.gone; have cf := h1.fz; have H1 := Lib.hid h1; have D1 := Lib.hid d1; have O1 := Lib.hid o1; clear h1 d1 o1)
  exact post_none (by kernel_rfl) rfl ⟨rfl, H1.out.setTail (by decide) _, D1.out.setGone true, O1.out.d.set 50 _⟩
set_option maxHeartbeats 4000000 in
theorem dsys_wfi (h : HS) (b : Nat) {rd r1 r2 : Nat} {imm cs : Int} {ww ln : Nat} (w : World) (H : HAt w b h) (D : DI w b 50 rd r1 r2 imm cs ww ln false) :
    Calls Tryd.prog 62 #[.pointer (some ⟨b, 0, none⟩)] w fun e w' => e = .returned (.tuple #[]) ∧ HAt w' b { h with wait := true } ∧ DI w' b 50 rd r1 r2 imm cs ww ln false ∧ OnlyD b w w' := by
  have HH := Lib.hid H
  have DD := Lib.hid D
  have c42 := D.op
  have cf := H.fz
  have c33 : w.cell? ⟨b, 33, none⟩ = some (.bool h.wait) := H.1 33 (by decide)
  clear H D
  go_enter Tryd.func62, Tryd.ntmps62
  go_wp2
  have o1 := (Only.refl b w).set (k := 33) (by decide) (.bool true)
  exact post_none (by kernel_rfl) rfl ⟨rfl, GAt.ext (GAt.set HH.out (k := 33) (by decide) _) (get_ext rfl (fun j h1 h2 => by simp [HS.get, show j ≠ 0 by omega, show j ≠ 33 by omega, h2]) ⟨rfl, rfl, rfl, rfl, rfl, rfl, rfl, rfl, rfl⟩), DD.out.only o1, o1.d⟩
set_option maxHeartbeats 4000000 in
theorem dsys_ecall (h : HS) (hk : h.ok) (b : Nat) {rd r1 r2 : Nat} {imm cs : Int} {ww ln : Nat} (w : World) (H : HAt w b h) (D : DI w b 47 rd r1 r2 imm cs ww ln false) :
    Calls Tryd.prog 62 #[.pointer (some ⟨b, 0, none⟩)] w fun e w' => e = .returned (.tuple #[]) ∧ HAt w' b (trapH h 11 0) ∧ DI w' b 47 rd r1 r2 imm cs ww ln true ∧ OnlyD b w w' := by
  have TR := Lib.hid (fun w H D => dtrap_any h hk b 11 0 (by decide) (by decide) (op := 47) (rd := rd) (r1 := r1) (r2 := r2) (imm := imm) (cs := cs) (ww := ww) (ln := ln) (gone := false) w H D)
  have HH := Lib.hid H
  have DD := Lib.hid D
  have c42 := D.op
  clear H D
  go_enter Tryd.func62, Tryd.ntmps62
  go_wp2_with (go_at_call 33; refine (TR.out _ HH.out DD.out).mono ?_; rintro e w2 ⟨rfl, h1, d1, o1⟩)
  exact post_none (by kernel_rfl) rfl ⟨rfl, h1, d1, o1⟩
set_option maxHeartbeats 4000000 in
theorem dsys_ebreak (h : HS) (hk : h.ok) (b : Nat) {rd r1 r2 : Nat} {imm cs : Int} {ww ln : Nat} (w : World) (H : HAt w b h) (D : DI w b 48 rd r1 r2 imm cs ww ln false) :
    Calls Tryd.prog 62 #[.pointer (some ⟨b, 0, none⟩)] w fun e w' => e = .returned (.tuple #[]) ∧ HAt w' b (trapH h 3 h.pc) ∧ DI w' b 48 rd r1 r2 imm cs ww ln true ∧ OnlyD b w w' := by
  have TR := Lib.hid (fun w H D => dtrap_any h hk b 3 h.pc (by decide) hk.pc (op := 48) (rd := rd) (r1 := r1) (r2 := r2) (imm := imm) (cs := cs) (ww := ww) (ln := ln) (gone := false) w H D)
  have HH := Lib.hid H
  have DD := Lib.hid D
  have c42 := D.op
  have c0 := H.pc_
  clear H D
  go_enter Tryd.func62, Tryd.ntmps62
  go_wp2_with (go_at_call 33; refine (TR.out _ HH.out DD.out).mono ?_; rintro e w2 ⟨rfl, h1, d1, o1⟩)
  exact post_none (by kernel_rfl) rfl ⟨rfl, h1, d1, o1⟩

end Go.Proofs.YtphlgaklfibciaaDoor
