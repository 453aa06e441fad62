import Derived.Test.YtkcdnhennnjneaaGreatDoorRows
import Derived.WalkKit
import Derived.ProofKit
import Derived.OpenShut
import Derived.ShutString
import Derived.ChangeOld
import Derived.Below
import Derived.SizedLaws
namespace Go.Proofs.YtkcdnhennnjneaaGreatDoor
open Go.RowKit
set_option maxRecDepth 100000
set_option linter.unusedVariables false
set_option linter.unusedSimpArgs false

/-- a leaf of a plain value: a number of a kind, or a bool -/
inductive Lf where
  | i (k : IntKind)
  | b
def Lf.fits : Lf → Value → Prop
  | .i k, v => ∃ n, v = .int k n ∧ k.min ≤ n ∧ n ≤ k.max
  | .b, v => ∃ x, v = .bool x
def Lf.of (P : Program) (t : TypeId) : Option Lf :=
  match P.underlying t with
  | some (.int k) => some (.i k)
  | some .bool => some .b
  | _ => none
theorem Lf.of_fits {P : Program} {w : World} {r : Reach} {base : Nat} {t : TypeId} {v : Value} {l : Lf} (hl : Lf.of P t = some l) (h : Cell.okWide P w r base t v) : l.fits v := by
  unfold Lf.of at hl
  split at hl
  · rename_i k hk
    obtain rfl : Lf.i k = l := Option.some.inj hl
    simp only [Cell.okWide, hk] at h
    cases v <;> simp_all [Cell.ok]
    obtain ⟨rfl, h1, h2⟩ := h
    exact ⟨_, rfl, h1, h2⟩
  · rename_i hk
    obtain rfl : Lf.b = l := Option.some.inj hl
    simp only [Cell.okWide, hk] at h
    cases v <;> simp_all [Cell.ok]
    exact ⟨_, rfl⟩
  · cases hl
/-- the leaves of a type, in order -/
def leaves (P : Program) (t : TypeId) : Option (List Lf) := (P.cellTypes P.depth t).bind fun ts => ts.mapM (Lf.of P)
inductive FitsAll : List Lf → List Value → Prop where
  | nil : FitsAll [] []
  | cons {l : Lf} {ls : List Lf} {v : Value} {vs : List Value} : l.fits v → FitsAll ls vs → FitsAll (l :: ls) (v :: vs)
theorem fitsAll_of {P : Program} {w : World} {r : Reach} {base : Nat} : ∀ {ts : List TypeId} {ls : List Lf} {cs : List Value}, ts.mapM (Lf.of P) = some ls → cs.length = ts.length →
    (∀ (i : Nat) (v : Value) (u : TypeId), cs[i]? = some v → ts[i]? = some u → Cell.okWide P w r base u v) → FitsAll ls cs
  | [], ls, cs, h, hl, _ => by
    obtain rfl : [] = ls := by simpa using h
    obtain rfl := List.eq_nil_of_length_eq_zero (by simpa using hl)
    exact .nil
  | t :: ts, ls, cs, h, hl, hc => by
    rw [List.mapM_cons] at h
    cases h1 : Lf.of P t with
    | none => simp [h1] at h
    | some l =>
      cases h2 : ts.mapM (Lf.of P) with
      | none => simp [h1, h2] at h
      | some ls' =>
        obtain rfl : l :: ls' = ls := by simpa [h1, h2] using h
        cases cs with
        | nil => simp at hl
        | cons c cs =>
          exact .cons (Lf.of_fits h1 (hc 0 c t rfl rfl)) (fitsAll_of h2 (by simpa using hl) fun i v u hv hu => hc (i + 1) v u (by simpa using hv) (by simpa using hu))
/-- a struct or an array by value, of numbers and bools alone: its cells, leaf by leaf -/
theorem open_leaves {P : Program} {w : World} {r : Reach} {base : Nat} {t : TypeId} {v : Value} {d : TypeDesc} {ls : List Lf} (ht : P.underlying t = some d) (hd : (match d with | .struct _ | .array _ _ => true | _ => false) = true)
    (hl : leaves P t = some ls) (hn : P.cellsOf t = ls.length) (hpos : ls ≠ []) (h : Value.okWide P w r base t v) : ∃ cs : List Value, v = .agg cs.toArray ∧ FitsAll ls cs := by
  have key : ∃ cs, v = .agg cs ∧ cs.size = P.cellsOf t ∧ Row.okWide P w r base t cs := by
    unfold Value.okWide at h
    rw [ht] at h
    cases d <;> simp_all
  obtain ⟨cs, rfl, hs, ts, hts, ⟨m, hm⟩, hc⟩ := key
  unfold leaves at hl
  rw [hts, Option.bind_some] at hl
  have hlen : ts.length = ls.length := by
    have aux : ∀ (ts : List TypeId) (ls : List Lf), ts.mapM (Lf.of P) = some ls → ts.length = ls.length := by
      intro ts
      induction ts with
      | nil => intro ls h; obtain rfl : [] = ls := by simpa using h
               rfl
      | cons t ts ih =>
        intro ls h
        rw [List.mapM_cons] at h
        cases h1 : Lf.of P t with
        | none => simp [h1] at h
        | some l =>
          cases h2 : ts.mapM (Lf.of P) with
          | none => simp [h1, h2] at h
          | some ls' =>
            obtain rfl : l :: ls' = ls := by simpa [h1, h2] using h
            simp [ih _ h2]
    exact aux ts ls hl
  have hsz : cs.toList.length = ts.length := by rw [hlen, ← hn, ← hs]; simp
  refine ⟨cs.toList, by simp, fitsAll_of (P := P) (w := w) (r := r) (base := base) hl hsz fun i v u hv hu => ?_⟩
  obtain ⟨u', hu', hk⟩ := hc i v (by simpa using hv)
  have hi : i < ts.length := (List.getElem?_eq_some_iff.1 hu).1
  rw [Nat.mod_eq_of_lt hi, hu] at hu'
  obtain rfl := Option.some.inj hu'
  exact hk
theorem FitsAll.cons_inv {l : Lf} {ls : List Lf} {cs : List Value} (h : FitsAll (l :: ls) cs) : ∃ c cs', cs = c :: cs' ∧ l.fits c ∧ FitsAll ls cs' := by
  cases h with
  | cons h1 h2 => exact ⟨_, _, rfl, h1, h2⟩
theorem FitsAll.nil_inv {cs : List Value} (h : FitsAll [] cs) : cs = [] := by cases h; rfl
theorem openInt {P : Program} {w : World} {r : Reach} {base : Nat} {t : TypeId} {v : Value} {k : IntKind} (ht : P.underlying t = some (.int k)) (h : Value.okWide P w r base t v) : ∃ n, v = .int k n ∧ k.min ≤ n ∧ n ≤ k.max := by
  simp only [Value.okWide, ht, Cell.okWide] at h
  cases v <;> simp_all [Cell.ok]
  obtain ⟨rfl, h1, h2⟩ := h
  exact ⟨h1, h2⟩

end Go.Proofs.YtkcdnhennnjneaaGreatDoor
