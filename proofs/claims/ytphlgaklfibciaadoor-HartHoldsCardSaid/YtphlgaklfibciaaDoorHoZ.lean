import Derived.Test.YtphlgaklfibciaaDoorHartJ
import Derived.Below
import Derived.Deep.Draws
import Derived.Deep.AppendLies
import Derived.Maps.AppendAt
import Derived.OwnWalk
import Derived.Laws.BytesArg
import Derived.Laws.MakeOwn
import Derived.Laws.OwnMore
import Derived.Deep.OwnRows
import Derived.Tactics
import Derived.Lib.ConvBytes
import Derived.Laws.Slices
import Derived.WalkKit
import Derived.KernelRfl
import Derived.RowKit3
import Derived.Deep.LoopGhost
import Derived.Deep.QuietTactic
import Derived.BigQuiet
import Derived.WideLaws
import Derived.Deep.DeepCutAuto
import Derived.Deep.CutBlock
import Derived.Deep.RegionHeld3
import Derived.Laws.Rows
import Derived.Lib.AppendStr
import Derived.ArgAppend
import Derived.Laws.IdiomCopy
import Derived.OrdersHeld
import Derived.Laws.BitsLemmas
import Derived.RowKit
import Derived.Lib.Hide
import Derived.Laws.BitsAllLaws
import Derived.WalkLawsBesides
import Derived.WalkSpells
import Derived.LaidEql
namespace Go.Proofs.YtphlgaklfibciaaDoor
open Go.RowKit
set_option maxRecDepth 100000
set_option linter.unusedVariables false
set_option linter.unusedSimpArgs false

theorem wp_runK2 {P : Program} {o : Oper} {a : Act} {w : World} {K : Act → World → Prop} {Q : Exit → Act → World → Prop} (v : Value) (w' : World) (hrun : (execOp a.eval o).run P w = .ok (.value v) w') (h : K (a.put o.dst v) w') : o.wp P a w K Q := by
  unfold Oper.wp
  rw [hrun]
  exact h
theorem AccS.keep1 {w0 : World} {b : Nat} {h : HS} {op rd r1 r2 : Nat} {imm cs : Int} {ww ln : Nat} {gone : Bool} {wa wb : World} (s : AccS w0 b h op rd r1 r2 imm cs ww ln gone wa) (hb : Below wa.heap.size wa wb) : AccS w0 b h op rd r1 r2 imm cs ww ln gone wb :=
  have o := Only.of_below s.h.2.2 hb
  ⟨s.h.below hb, s.d.only o, s.o.trans o, (hb.block _ (heap_lt s.box)).trans s.box⟩
theorem AccS.setRow1 {w0 : World} {b : Nat} {h : HS} {op rd r1 r2 : Nat} {imm cs : Int} {ww ln : Nat} {gone : Bool} {wa : World} (s : AccS w0 b h op rd r1 r2 imm cs ww ln gone wa) {N : Nat} (hT : w0.heap.size < N) (hb : b < w0.heap.size) (c : Array Value) : AccS w0 b h op rd r1 r2 imm cs ww ln gone (wa.setRow N c) :=
  have e := setRow_other wa N b c (by omega)
  have q : ∀ j, (wa.setRow N c).cell? ⟨b, j, none⟩ = wa.cell? ⟨b, j, none⟩ := fun j => World.cell?_of_block (a := ⟨b, j, none⟩) e
  ⟨s.h.setRow (by omega) c, ⟨(q _).trans s.d.op, (q _).trans s.d.rd, (q _).trans s.d.r1, (q _).trans s.d.r2, (q _).trans s.d.imm, (q _).trans s.d.cs, (q _).trans s.d.ww, (q _).trans s.d.ln, (q _).trans s.d.gone⟩, ⟨below_setRow s.o.below (by omega) c, fun k h1 h2 => (setRow_other _ _ _ _ (by omega)).trans (s.o.over k h1 h2), fun j hj => (q j).trans (s.o.tail j hj)⟩, setRow_row s.box (by omega)⟩
def accK (op : Nat) : Int := if op < 15 then 1 else 2
def accN (op : Nat) : Int := if op = 10 ∨ op = 13 ∨ op = 15 then 1 else if op = 12 ∨ op = 17 then 4 else 2
def accG (op : Nat) : Bool := decide (op < 13)
def accR (op rd : Nat) : Int := if op < 15 then (rd : Int) else 0
def accB (op v : Nat) : Nat := if op < 15 then 0 else v
theorem acc_and (a : Nat) (ha : a < 4294967296) : Go.bits .and .u32 (a : Int) 0 = 0 ∧ Go.bits .and .u32 (a : Int) 1 = ((a % 2 : Nat) : Int) ∧ Go.bits .and .u32 (a : Int) 3 = ((a % 4 : Nat) : Int) := by
  refine ⟨?_, ?_, ?_⟩
  · rw [show (0 : Int) = ((0 : Nat) : Int) from rfl, Go.u32_and_nat a 0 ha (by decide), Nat.and_zero]
  · rw [show (1 : Int) = ((1 : Nat) : Int) from rfl, Go.u32_and_nat a 1 ha (by decide), show (1 : Nat) = 2 ^ 1 - 1 from rfl, Nat.and_two_pow_sub_one_eq_mod]
  · rw [show (3 : Int) = ((3 : Nat) : Int) from rfl, Go.u32_and_nat a 3 ha (by decide), show (3 : Nat) = 2 ^ 2 - 1 from rfl, Nat.and_two_pow_sub_one_eq_mod]

end Go.Proofs.YtphlgaklfibciaaDoor
