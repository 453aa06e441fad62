import Derived.Test.YtkcdnhennnjneaaGreatDoorAsmS
import Derived.Below
import Derived.Deep.Draws
import Derived.Deep.AppendLies
import Derived.Maps.AppendAt
import Derived.OwnWalk
import Derived.Laws.BytesArg
import Derived.Laws.MakeOwn
import Derived.Laws.OwnMore
import Derived.Deep.OwnRows
import Derived.Tactics
import Derived.Lib.ConvBytes
import Derived.Laws.Slices
import Derived.WalkKit
import Derived.KernelRfl
import Derived.RowKit3
import Derived.Deep.LoopGhost
import Derived.Deep.QuietTactic
import Derived.BigQuiet
import Derived.WideLaws
import Derived.Deep.DeepCutAuto
import Derived.Deep.CutBlock
import Derived.Deep.RegionHeld3
import Derived.Laws.Rows
import Derived.Lib.AppendStr
import Derived.ArgAppend
import Derived.Laws.IdiomCopy
import Derived.OrdersHeld
import Derived.Laws.BitsLemmas
import Derived.RowKit
import Derived.Lib.Hide
import Derived.Laws.BitsAllLaws
import Derived.WalkLawsBesides
import Derived.WalkSpells
import Derived.LaidEql
namespace Go.Proofs.YtkcdnhennnjneaaGreatDoor
open Go.RowKit
set_option maxRecDepth 100000
set_option linter.unusedVariables false
set_option linter.unusedSimpArgs false

theorem next_len {K : Nat} {s : Scan} {w : World} (S : ScanAt K s w) : s.next.1.length ≤ 70000 := by
  unfold Scan.next
  cases e : s.l with
  | nil => exact Nat.zero_le _
  | cons x r => exact S.sm x (by rw [e]; exact List.mem_cons_self)
theorem ScanAt.other {K : Nat} {s : Scan} {w : World} (h : ScanAt K s w) {I : Nat} (hI : K < I) (j : Nat) (v : Value) : ScanAt K s (w.setCell ⟨I, j, none⟩ v) := by
  obtain ⟨A, c, h1, h2, h3⟩ := h.ex
  refine ⟨⟨A, c, ?_, h2, ?_⟩, ?_, fun j => by rw [World.frozen?_setCell]; exact h.fz j, h.sm, by rw [World.size_setCell]; exact h.lt⟩
  · rw [World.cell?_setCell_other _ _ _ _ (fun e => by have := congrArg Addr.block e; simp at this; omega)]; exact h1
  · rcases h3 with h4 | ⟨b, o, h5, h6, h7⟩
    · exact Or.inl h4
    · refine Or.inr ⟨b, o, h5, h6, fun j x hx => ?_⟩
      rw [World.cell?_setCell_other _ _ _ _ (fun e => by have := congrArg Addr.block e; simp at this; omega)]; exact h7 j x hx
  · rw [World.cell?_setCell_other _ _ _ _ (fun e => by have := congrArg Addr.block e; simp at this; omega)]; exact h.bad
theorem Env.other {B : Nat} {w : World} (h : Env B w) {I : Nat} (hI : B ≤ I) (j : Nat) (v : Value) : Env B (w.setCell ⟨I, j, none⟩ v) := h.low ((Below.refl _ _).setCell (p := ⟨I, j, none⟩) hI _)
theorem OnK.setOther {b : Nat} {w w' : World} (h : OnK b w w') (hb : b < w.heap.size) {c : Nat} (hc : w.heap.size ≤ c) (k : Nat) (v : Value) : OnK b w (w'.setCell ⟨c, k, none⟩ v) :=
  ⟨h.below.setCell (p := ⟨c, k, none⟩) (by show b ≤ c; omega) v, fun i h1 h2 => (heap_setCell_other _ _ _ _ (by simp; omega)).trans (h.over i h1 h2)⟩
theorem row_setA {w : World} {c T k : Nat} {v : Value} {o : Obj} (h : w.heap[T]? = some o) (hc : T ≠ c) : (w.setCell ⟨c, k, none⟩ v).heap[T]? = some o := (heap_setCell_other _ _ _ _ hc).trans h
theorem row_ownA {w : World} {b i : Nat} {cs : Array Value} {T : TypeId} {fr : Nat × Nat} (hb : w.heap[b]? = some (.cells cs T fr)) (v : Value) :
    (w.setCell ⟨b, i, none⟩ v).heap[b]? = some (.cells (cs.setIfInBounds i v) T fr) := by
  simp [World.setCell, Array.getElem?_modify, hb]

end Go.Proofs.YtkcdnhennnjneaaGreatDoor
