import Derived.Test.YtoincdfijeipjaaDoorHbU
import Derived.Test.YtoincdfijeipjaaDoorHbV
import Derived.Test.YtoincdfijeipjaaDoorHbX
import Derived.Below
import Derived.Deep.Draws
import Derived.Deep.AppendLies
import Derived.Maps.AppendAt
import Derived.OwnWalk
import Derived.Laws.BytesArg
import Derived.Laws.MakeOwn
import Derived.Laws.OwnMore
import Derived.Deep.OwnRows
import Derived.Tactics
import Derived.Lib.ConvBytes
import Derived.Laws.Slices
import Derived.WalkKit
import Derived.KernelRfl
import Derived.RowKit3
import Derived.Deep.LoopGhost
import Derived.Deep.QuietTactic
import Derived.BigQuiet
import Derived.WideLaws
import Derived.Deep.DeepCutAuto
import Derived.Deep.CutBlock
import Derived.Deep.RegionHeld3
import Derived.Laws.Rows
import Derived.Lib.AppendStr
import Derived.ArgAppend
import Derived.Laws.IdiomCopy
import Derived.OrdersHeld
import Derived.Laws.BitsLemmas
import Derived.RowKit
import Derived.Lib.Hide
import Derived.Laws.BitsAllLaws
import Derived.WalkLawsBesides
import Derived.WalkSpells
import Derived.LaidEql
namespace Go.Proofs.YtoincdfijeipjaaDoor
open Go.RowKit
set_option maxRecDepth 100000
set_option linter.unusedVariables false
set_option linter.unusedSimpArgs false

theorem rcheck_any (s : St) (hs : s.ok) (w : World) : Calls Tryd.prog 63 #[s.v] w fun e w' => e = .returned (.int .i64 (if mayB s = true then 0 else 1)) ∧ Below w.heap.size w w' := by
  obtain ⟨st, en, ve, sc, ep, ca, va, co⟩ := s
  obtain ⟨g1, g2, g3, g4, g5, g6, g7, g8⟩ := hs
  simp only at g1 g2 g3 g4 g5 g6 g7 g8
  have O1 := fun (B : Nat) (w : World) h0 h1 => only37_at st g1 B w h0 h1
  have O2 := fun (B : Nat) (w : World) h0 h1 h2 => only3711_at en g2 B w h0 h1 h2
  have O3 := fun (B : Nat) (w : World) h0 => but1_at ve g3 B w h0
  have O4 := fun (B : Nat) (w : World) h0 h1 => but01_at ep g5 B w h0 h1
  have i1 := keep_iff (v := st) (m := 136) g1 (by omega)
  have i2 := keep_iff (v := en) (m := 2184) g2 (by omega)
  have i3 := but_iff (v := ve) (m := 2) g3 (by omega)
  have i4 := but_iff (v := ep) (m := 3) g5 (by omega)
  have hm : mayB ⟨st, en, ve, sc, ep, ca, va, co⟩ = (decide (clr st 136 = 0) && decide (clr en 2184 = 0) && decide (ve &&& 2 = 0) && decide (ep &&& 3 = 0)) := rfl
  rw [hm]
  simp only [i1, i2, i3, i4]
  clear hm i1 i2 i3 i4
  unfold St.v St.cells
  simp only
  generalize st &&& 136 = x1 at *
  generalize en &&& 2184 = x2 at *
  generalize clr ve 2 = x3 at *
  generalize clr ep 3 = x4 at *
  by_cases c1 : x1 = st
  · subst c1
    by_cases c2 : x2 = en
    · subst c2
      by_cases c3 : x3 = ve
      · subst c3
        by_cases c4 : x4 = ep
        · subst c4
          have h := rcheck_4 x1 x2 x3 sc x4 ca va co x1 x2 x3 x4 (Lib.hid O1) (Lib.hid O2) (Lib.hid O3) (Lib.hid O4) w
          simpa using h
        · have h := rcheck_3 x1 x2 x3 sc ep ca va co x1 x2 x3 x4 (Lib.hid O1) (Lib.hid O2) (Lib.hid O3) (Lib.hid O4) (by simp; omega) w
          simpa [c4] using h
      · have h := rcheck_2 x1 x2 ve sc ep ca va co x1 x2 x3 x4 (Lib.hid O1) (Lib.hid O2) (Lib.hid O3) (by simp; omega) w
        simpa [c3] using h
    · have h := rcheck_1 x1 en ve sc ep ca va co x1 x2 x3 x4 (Lib.hid O1) (Lib.hid O2) (by simp; omega) w
      simpa [c2] using h
  · have h := rcheck_0 st en ve sc ep ca va co x1 x2 x3 x4 (Lib.hid O1) (by simp; omega) w
    simpa [c1] using h

end Go.Proofs.YtoincdfijeipjaaDoor
