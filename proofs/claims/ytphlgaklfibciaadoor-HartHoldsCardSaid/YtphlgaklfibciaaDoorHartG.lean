import Derived.Test.YtphlgaklfibciaaDoorHartE
import Derived.Test.YtphlgaklfibciaaDoorLawIAl0
import Derived.Below
import Derived.Deep.Draws
import Derived.Deep.AppendLies
import Derived.Maps.AppendAt
import Derived.OwnWalk
import Derived.Laws.BytesArg
import Derived.Laws.MakeOwn
import Derived.Laws.OwnMore
import Derived.Deep.OwnRows
import Derived.Tactics
import Derived.Lib.ConvBytes
import Derived.Laws.Slices
import Derived.WalkKit
import Derived.KernelRfl
import Derived.RowKit3
import Derived.Deep.LoopGhost
import Derived.Deep.QuietTactic
import Derived.BigQuiet
import Derived.WideLaws
import Derived.Deep.DeepCutAuto
import Derived.Deep.CutBlock
import Derived.Deep.RegionHeld3
import Derived.Laws.Rows
import Derived.Lib.AppendStr
import Derived.ArgAppend
import Derived.Laws.IdiomCopy
import Derived.OrdersHeld
import Derived.Laws.BitsLemmas
import Derived.RowKit
import Derived.Lib.Hide
import Derived.Laws.BitsAllLaws
import Derived.WalkLawsBesides
import Derived.WalkSpells
import Derived.LaidEql
namespace Go.Proofs.YtphlgaklfibciaaDoor
open Go.RowKit
set_option maxRecDepth 100000
set_option linter.unusedVariables false
set_option linter.unusedSimpArgs false

theorem DI.drewK {w : World} {b op rd r1 r2 : Nat} {imm cs : Int} {ww ln : Nat} {gone : Bool} (D : DI w b op rd r1 r2 imm cs ww ln gone) (n : Nat) : DI (w.drewN n) b op rd r1 r2 imm cs ww ln gone := D.only ((Only.refl b w).drew n)
theorem OnlyD.drewK {b : Nat} {w w' : World} (h : OnlyD b w w') (n : Nat) : OnlyD b w (w'.drewN n) := ⟨below_drewN h.below n, h.over⟩
theorem HAt.drew1 {w : World} {b : Nat} {h : HS} (H : HAt w b h) : HAt w.drew b h := H.drew 1
theorem DI.drew1 {w : World} {b op rd r1 r2 : Nat} {imm cs : Int} {ww ln : Nat} {gone : Bool} (D : DI w b op rd r1 r2 imm cs ww ln gone) : DI w.drew b op rd r1 r2 imm cs ww ln gone := D.drewK 1
theorem OnlyD.drew1 {b : Nat} {w w' : World} (h : OnlyD b w w') : OnlyD b w w'.drew := h.drewK 1
theorem kN_br : ∀ k, k < 6 → kN (4 + k) = 66 := by decide
theorem kN_im : ∀ k, k < 6 → kN (18 + k) = 73 := by decide
theorem kN_ih : ∀ k, k < 9 → 6 ≤ k → kN (18 + k) = 72 := by decide
theorem kN_rg : ∀ k, k < 18 → kN (27 + k) = 82 := by decide

end Go.Proofs.YtphlgaklfibciaaDoor
