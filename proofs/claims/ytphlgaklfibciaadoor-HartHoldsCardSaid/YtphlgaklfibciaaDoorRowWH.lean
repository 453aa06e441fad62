import Derived.Test.YtphlgaklfibciaaDoorHoN
import Derived.Test.YtphlgaklfibciaaDoorRows
import Derived.Test.YtphlgaklfibciaaDoorRowK
import Derived.WalkKit
import Derived.ProofKit
import Derived.OpenShut
import Derived.ShutString
import Derived.ChangeOld
import Derived.Below
import Derived.SizedLaws
import Derived.Deep.Draws
import Derived.Deep.AppendLies
import Derived.Maps.AppendAt
import Derived.OwnWalk
import Derived.Laws.BytesArg
import Derived.Laws.MakeOwn
import Derived.Laws.OwnMore
import Derived.Deep.OwnRows
import Derived.Tactics
import Derived.Lib.ConvBytes
import Derived.Laws.Slices
import Derived.KernelRfl
import Derived.RowKit3
import Derived.Deep.LoopGhost
import Derived.Deep.QuietTactic
import Derived.BigQuiet
import Derived.WideLaws
import Derived.Deep.DeepCutAuto
import Derived.Deep.CutBlock
import Derived.Deep.RegionHeld3
import Derived.Laws.Rows
import Derived.Lib.AppendStr
import Derived.ArgAppend
import Derived.Laws.IdiomCopy
import Derived.OrdersHeld
import Derived.Laws.BitsLemmas
import Derived.RowKit
import Derived.Lib.Hide
import Derived.Laws.BitsAllLaws
import Derived.WalkLawsBesides
import Derived.WalkSpells
import Derived.LaidEql
namespace Go.Proofs.YtphlgaklfibciaaDoor
open Go.RowKit
set_option maxRecDepth 100000
set_option linter.unusedVariables false
set_option linter.unusedSimpArgs false

theorem open_words {H : Type} {enc : TypeId × Value → H} {P : Program} {W : World} {base : Nat} {sp : Nat → Bool} {held : Bool} {r : Reach} {b0 : Nat} {t e : TypeId} {v : Value} {d : DataW H} {ps : List MemPlace}
    (ht : P.underlying t = some (.slice e)) (he : P.underlying e = some (.int .u32)) (hc : P.cellsOf e = 1) (hval : Value.okWide P W r b0 t v) (hd : DataW.Trod enc P W base sp held t v d ps)
    (hs : ∀ x y, d = .slice x y → x.length + y.length ≤ 140737488351232) : ∃ A len cap f, v = .slice A len cap ∧ WordsAt W A len cap f := by
  obtain ⟨a0, len, cap, rfl⟩ := Go.WideShapes.okWide_slice ht hval
  obtain ⟨fuel, hf⟩ := hd
  rcases Go.ChangeShapes.open_ints ht he hc hf with ⟨hcs, hx⟩ | ⟨a, len', cap', zs, hcs, _, hle, hmax, hlen, hx, hcell, hwf⟩
  · simp [Value.cells] at hcs
    obtain ⟨rfl, rfl, rfl⟩ := hcs
    exact ⟨none, 0, 0, fun _ => 0, rfl, Nat.le_refl _, by omega, (fun _ => show (0 : Nat) < 4294967296 by decide), .inl rfl⟩
  · simp [Value.cells] at hcs
    obtain ⟨rfl, rfl, rfl⟩ := hcs
    simp only [Prod.mk.injEq] at hx
    obtain ⟨rfl, rfl⟩ := hx
    have hb := hs _ _ rfl
    have hzl : len ≤ zs.length := by rw [hlen]; split <;> omega
    have hz : zs.length ≤ 140737488351232 := by
      simp only [Go.ChangeShapes.lits, List.length_map, List.length_take, List.length_drop] at hb
      omega
    obtain ⟨b, off, spot⟩ := a
    refine ⟨some ⟨b, off, spot⟩, len, cap, fun j => (zs.getD j 0).toNat % 4294967296, rfl, hle, by omega, fun _ => Nat.mod_lt _ (by decide), ?_⟩
    by_cases h0 : len = 0
    · exact .inl h0
    · right
      have hspot : spot = none := by simpa [Addr.add] using World.cell?_spot (hcell 0 (by omega))
      subst hspot
      have hc' : ∀ j, j < len → W.cell? ⟨b, off + j, none⟩ = some (.int .u32 (((zs.getD j 0).toNat % 4294967296 : Nat) : Int)) := fun j hj => by
        have h1 := hcell j (by omega)
        have h2 := hwf (zs.getD j 0) (by
          have : zs.getD j 0 = zs[j]'(by omega) := by simp [List.getD, List.getElem?_eq_getElem (show j < zs.length by omega)]
          rw [this]; exact List.getElem_mem _)
        show W.cell? ⟨b, off + j, none⟩ = some (.int .u32 (((zs.getD j 0).toNat % 4294967296 : Nat) : Int))
        generalize zs.getD j 0 = z at h1 h2 ⊢
        simp [Lit.wf, IntKind.min, IntKind.max, IntKind.signed, IntKind.bits] at h2
        have h3 : ((z.toNat % 4294967296 : Nat) : Int) = z := by omega
        rw [h3]
        have ha : (⟨b, off, none⟩ : Addr).add j = ⟨b, off + j, none⟩ := by
          by_cases hj0 : j = 0
          · subst hj0; simp [Addr.add]
          · simp [Addr.add, hj0]
        rw [← ha]; exact h1
      exact ⟨b, off, rfl, block_lt_of_cell (hc' 0 (by omega)), hc'⟩

end Go.Proofs.YtphlgaklfibciaaDoor
