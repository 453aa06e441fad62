import Derived.Test.YtkcdnhennnjneaaGreatDoorInstMM
import Derived.WalkKit
import Derived.ProofKit
import Derived.OpenShut
import Derived.ShutString
import Derived.ChangeOld
import Derived.Below
import Derived.SizedLaws
import Derived.ChangeSame
import Derived.ChangeVars
import Derived.JoinedOf
import Derived.RowKit
import Derived.RowKitTokens
import Derived.LaidLaws
import Derived.LaidHandle
import Derived.Stop.Joined
import Derived.SevenTiedAt
import Derived.Deep.Slices
namespace Go.Proofs.YtkcdnhennnjneaaGreatDoor
open Go.RowKit
set_option maxRecDepth 100000
set_option linter.unusedVariables false
set_option linter.unusedSimpArgs false

theorem add_none {b off k : Nat} : (⟨b, off, none⟩ : Addr).add k = ⟨b, off + k, none⟩ := by
  by_cases h : k = 0
  · subst h; simp [Addr.add]
  · simp [Addr.add, h]
/-- a slice of structs of six numbers, opened -/
theorem open_insts {H : Type} {enc : TypeId × Value → H} {P : Program} {W : World} {base : Nat} {sp : Nat → Bool} {held : Bool} {r : Reach} {b0 : Nat} {t e : TypeId} {fs : Array Field} {v : Value} {d : DataW H} {ps : List MemPlace}
    (ht : P.underlying t = some (.slice e)) (he : P.underlying e = some (.struct fs)) (hz : fs.size = 6) (hof : ∀ (j : Nat) f, fs[j]? = some f → f.offset = j ∧ P.cellsOf f.type = 1 ∧ P.underlying f.type = some (.int .i64)) (ce : P.cellsOf e = 6)
    (hval : Value.okWide P W r b0 t v) (hd : DataW.Trod enc P W base sp held t v d ps) :
    ∃ A len cap, v = .slice A len cap ∧ len ≤ maxLen ∧ len ≤ cap ∧ (len = 0 ∨ ∃ g o, A = some ⟨g, o, none⟩ ∧ ∀ i, i < len → ∃ F : Nat → Int, ∀ j, j < 6 → W.cell? ⟨g, o + i * 6 + j, none⟩ = some (.int .i64 (F j))) := by
  obtain ⟨a0, len, cap, rfl⟩ := Go.WideShapes.okWide_slice ht hval
  obtain ⟨fuel, hf⟩ := hd
  refine ⟨a0, len, cap, rfl, ?_⟩
  rcases Go.Deep.open_slice ht hf with ⟨hcs, _⟩ | ⟨a, len', cap', m, n, D, Pl, hcs, _, hl, hm, hmm, _, hx⟩
  · simp [Value.cells] at hcs
    obtain ⟨rfl, rfl, rfl⟩ := hcs
    exact ⟨Nat.zero_le _, Nat.le_refl _, Or.inl rfl⟩
  · simp [Value.cells] at hcs
    obtain ⟨rfl, rfl, rfl⟩ := hcs
    refine ⟨Nat.le_trans hl hm, hl, ?_⟩
    have hlm : len ≤ m := by rw [hmm]; split <;> omega
    have each : ∀ i, i < len → ∃ F : Nat → Int, ∀ j, j < 6 → W.cell? ((a.add (i * 6)).add j) = some (.int .i64 (F j)) := by
      intro i hi
      obtain ⟨cs', h1, h2⟩ := hx i (by omega)
      rw [ce] at h1
      obtain ⟨_, hlen, hcell⟩ := World.cells?_some h1
      obtain ⟨xs, k, hk, hxy, _, hxl, hfl⟩ := DataW.trod_struct he h2
      have key : ∀ j, j < 6 → ∃ z, cs'[j]? = some (.int .i64 z) := by
        intro j hj
        obtain ⟨f, hfj⟩ : ∃ f, fs[j]? = some f := ⟨fs[j]'(by omega), Array.getElem?_eq_getElem _⟩
        obtain ⟨o1, c1, u1⟩ := hof j f hfj
        have q := hfl j f hfj
        rw [o1, c1] at q
        have hj' : j < cs'.length := by omega
        have e1 : List.take 1 (List.drop j cs') = [cs'[j]] := by rw [List.drop_eq_getElem_cons hj']; rfl
        rw [e1] at q
        have hxj : j < xs.length := by omega
        rw [List.getElem?_eq_getElem hxj] at q
        obtain ⟨z, hz1, _⟩ := int_at u1 q
        exact ⟨z, by rw [List.getElem?_eq_getElem hj', hz1]⟩
      refine ⟨fun j => (match cs'[j]? with | some (.int _ z) => z | _ => 0), fun j hj => ?_⟩
      obtain ⟨z, hz1⟩ := key j hj
      have hj' : j < cs'.length := by omega
      have e2 := hcell j (by omega)
      rw [hz1] at e2
      simp only [hz1]
      exact e2
    by_cases h0 : len = 0
    · exact Or.inl h0
    · right
      obtain ⟨b, off, spot⟩ := a
      obtain ⟨F, hF⟩ := each 0 (by omega)
      have hspot : spot = none := by simpa [Addr.add] using World.cell?_spot (hF 0 (by decide))
      subst hspot
      refine ⟨b, off, rfl, fun i hi => ?_⟩
      obtain ⟨F, hF⟩ := each i hi
      refine ⟨F, fun j hj => ?_⟩
      have q := hF j hj
      rw [add_none, add_none] at q
      exact q
/-- a slice of numbers, opened -/
theorem open_nums {H : Type} {enc : TypeId × Value → H} {P : Program} {W : World} {base : Nat} {sp : Nat → Bool} {held : Bool} {r : Reach} {b0 : Nat} {t e : TypeId} {v : Value} {d : DataW H} {ps : List MemPlace}
    (ht : P.underlying t = some (.slice e)) (he : P.underlying e = some (.int .i64)) (hc : P.cellsOf e = 1) (hval : Value.okWide P W r b0 t v) (hd : DataW.Trod enc P W base sp held t v d ps) :
    ∃ A len cap, v = .slice A len cap ∧ len ≤ maxLen ∧ len ≤ cap ∧ (len = 0 ∨ ∃ g o, A = some ⟨g, o, none⟩ ∧ ∀ i, i < len → ∃ z : Int, W.cell? ⟨g, o + i, none⟩ = some (.int .i64 z)) := by
  obtain ⟨a0, len, cap, rfl⟩ := Go.WideShapes.okWide_slice ht hval
  obtain ⟨fuel, hf⟩ := hd
  refine ⟨a0, len, cap, rfl, ?_⟩
  rcases Go.Deep.open_slice1 ht hc hf with ⟨hcs, _⟩ | ⟨a, len', cap', m, n, V, D, Pl, hcs, _, hl, hm, hmm, _, hx⟩
  · simp [Value.cells] at hcs
    obtain ⟨rfl, rfl, rfl⟩ := hcs
    exact ⟨Nat.zero_le _, Nat.le_refl _, Or.inl rfl⟩
  · simp [Value.cells] at hcs
    obtain ⟨rfl, rfl, rfl⟩ := hcs
    refine ⟨Nat.le_trans hl hm, hl, ?_⟩
    have hlm : len ≤ m := by rw [hmm]; split <;> omega
    by_cases h0 : len = 0
    · exact Or.inl h0
    · right
      obtain ⟨b, off, spot⟩ := a
      obtain ⟨h1, _⟩ := hx 0 (by omega)
      have hspot : spot = none := by simpa [Addr.add] using World.cell?_spot h1
      subst hspot
      refine ⟨b, off, rfl, fun i hi => ?_⟩
      obtain ⟨h2, h3⟩ := hx i (by omega)
      obtain ⟨z, hz, _⟩ := int_at he h3
      rw [hz, add_none] at h2
      exact ⟨z, h2⟩

end Go.Proofs.YtkcdnhennnjneaaGreatDoor
