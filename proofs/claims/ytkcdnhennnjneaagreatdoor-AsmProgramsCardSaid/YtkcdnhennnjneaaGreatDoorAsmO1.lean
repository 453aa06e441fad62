import Derived.Test.YtkcdnhennnjneaaGreatDoorAsmP
import Derived.Below
import Derived.Deep.Draws
import Derived.Deep.AppendLies
import Derived.Maps.AppendAt
import Derived.OwnWalk
import Derived.Laws.BytesArg
import Derived.Laws.MakeOwn
import Derived.Laws.OwnMore
import Derived.Deep.OwnRows
import Derived.Tactics
import Derived.Lib.ConvBytes
import Derived.Laws.Slices
import Derived.WalkKit
import Derived.KernelRfl
import Derived.RowKit3
import Derived.Deep.LoopGhost
import Derived.Deep.QuietTactic
import Derived.BigQuiet
import Derived.WideLaws
import Derived.Deep.DeepCutAuto
import Derived.Deep.CutBlock
import Derived.Deep.RegionHeld3
import Derived.Laws.Rows
import Derived.Lib.AppendStr
import Derived.ArgAppend
import Derived.Laws.IdiomCopy
import Derived.OrdersHeld
import Derived.Laws.BitsLemmas
import Derived.RowKit
import Derived.Lib.Hide
import Derived.Laws.BitsAllLaws
import Derived.WalkLawsBesides
import Derived.WalkSpells
import Derived.LaidEql
import Derived.Maps.OwnSet
namespace Go.Proofs.YtkcdnhennnjneaaGreatDoor
open Go.RowKit
set_option maxRecDepth 100000
set_option linter.unusedVariables false
set_option linter.unusedSimpArgs false

/-- the place that a list of names tells -/
def lookT (N : List (List UInt8 × Nat)) (s : List UInt8) : Option Nat := (N.find? fun p => p.1 == s).map (·.2)
theorem look_snoc {N : List (List UInt8 × Nat)} {s : List UInt8} (k : Nat) (h : lookT N s = none) (t : List UInt8) : lookT (N ++ [(s, k)]) t = if t = s then some k else lookT N t := by
  unfold lookT at h ⊢
  rw [List.find?_append]
  by_cases e : t = s
  · subst e
    rw [if_pos rfl]
    have h0 : N.find? (fun p => p.1 == t) = none := by simpa using h
    rw [h0]
    simp
  · rw [if_neg e]
    have : (([(s, k)] : List (List UInt8 × Nat)).find? fun p => p.1 == t) = none := by
      simp only [List.find?_cons, List.find?_nil]
      rw [show ((s, k).1 == t) = false from beq_eq_false_iff_ne.2 (fun q => e q.symm)]
    rw [this, Option.or_none]
/-- block Bm is a map of at most n entries that tells what N tells -/
def MapS (w : World) (Bm n : Nat) (N : List (List UInt8 × Nat)) : Prop := ∃ D : DataW Unit, w.ownsMap Tryz.prog 9 (plainElem Tryz.prog 3) Bm n D ∧ ∀ s : List UInt8, Maps.has D (.string s) = (lookT N s).isSome ∧ D.atKey (.string s) (.lit (.int .i64 0)) = .lit (.int .i64 ((lookT N s).getD 0 : Nat))
theorem strKeyed : Maps.Keyed Tryz.prog 9 := Maps.string_keyed Tryz.underlying9
theorem zeroI64 (w : World) : (zeroValue 3).run Tryz.prog w = .ok (.int .i64 0) w := by kernel_rfl
theorem keyS (s : List UInt8) (hs : s.length ≤ 1000000) : keyOf Tryz.prog 9 (.string (bs s)) = some (.string s) :=
  Go.WideMaps.keyOf_string_mk Tryz.underlying9 (by rw [bs_size]; unfold maxLen; omega)
theorem MapS.made (w : World) : MapS (w.alloc (.map #[] 0)) w.heap.size 0 [] :=
  ⟨.map [], World.ownsMap_made _ _ _ _, fun s => ⟨rfl, rfl⟩⟩
theorem MapS.grown {w w' : World} {Bm n : Nat} {N : List (List UInt8 × Nat)} {row : Option Nat} (h : MapS w Bm n N) (hg : w.grownBy w' row) (hne : some Bm ≠ row) : MapS w' Bm n N := by
  obtain ⟨D, h1, h2⟩ := h
  exact ⟨D, h1.kept hg hne, h2⟩
theorem MapS.lt {w : World} {Bm n : Nat} {N : List (List UInt8 × Nat)} (h : MapS w Bm n N) : Bm < w.heap.size := by
  obtain ⟨D, h1, _⟩ := h
  exact h1.lt
theorem MapS.put {w : World} {Bm n : Nat} {N : List (List UInt8 × Nat)} {D : DataW Unit} (hD : Maps.IsMap D) (h : ∀ s : List UInt8, Maps.has D (.string s) = (lookT N s).isSome ∧ D.atKey (.string s) (.lit (.int .i64 0)) = .lit (.int .i64 ((lookT N s).getD 0 : Nat))) (s : List UInt8) (k : Nat) (hs : lookT N s = none) {w' : World} {m : Nat} (ho : w'.ownsMap Tryz.prog 9 (plainElem Tryz.prog 3) Bm m (D.put (.string s) (.lit (.int .i64 (k : Nat))))) : MapS w' Bm m (N ++ [(s, k)]) := by
  refine ⟨_, ho, fun t => ?_⟩
  rw [look_snoc k hs]
  by_cases e : t = s
  · subst e
    rw [if_pos rfl, Maps.has_put_same hD (by trivial), Maps.atKey_put_same hD (by trivial)]
    exact ⟨rfl, rfl⟩
  · have hne : (Lit.string t) ≠ .string s := fun q => e (by cases q; rfl)
    rw [if_neg e, Maps.has_put_other hne, Maps.atKey_put_other hne]
    exact h t

end Go.Proofs.YtkcdnhennnjneaaGreatDoor
