import Derived.Test.YtphlgaklfibciaaDoorLaidI
import Derived.Below
import Derived.Deep.Draws
import Derived.Deep.AppendLies
import Derived.Maps.AppendAt
import Derived.OwnWalk
import Derived.Laws.BytesArg
import Derived.Laws.MakeOwn
import Derived.Laws.OwnMore
import Derived.Deep.OwnRows
import Derived.Tactics
import Derived.Lib.ConvBytes
import Derived.Laws.Slices
import Derived.WalkKit
import Derived.KernelRfl
import Derived.RowKit3
import Derived.Deep.LoopGhost
import Derived.Deep.QuietTactic
import Derived.BigQuiet
import Derived.WideLaws
import Derived.Deep.DeepCutAuto
import Derived.Deep.CutBlock
import Derived.Deep.RegionHeld3
import Derived.Laws.Rows
import Derived.Lib.AppendStr
import Derived.ArgAppend
import Derived.Laws.IdiomCopy
import Derived.OrdersHeld
import Derived.Laws.BitsLemmas
import Derived.RowKit
import Derived.Lib.Hide
import Derived.Laws.BitsAllLaws
import Derived.WalkLawsBesides
import Derived.WalkSpells
import Derived.LaidEql
namespace Go.Proofs.YtphlgaklfibciaaDoor
open Go.RowKit
set_option maxRecDepth 100000
set_option linter.unusedVariables false
set_option linter.unusedSimpArgs false

theorem nm_inj : ∀ i, i < 57 → ∀ j, j < 57 → nmTab.getD i [] = nmTab.getD j [] → i = j := by decide +kernel
theorem nm_some : ∀ i, i < 57 → nmTab.getD i [] ≠ [] := by decide +kernel
theorem str_ne {s t : ByteArray} (h : s ≠ t) : (s.toList == t.toList) = false := by
  rw [ByteArray.toList_eq, ByteArray.toList_eq, beq_eq_false_iff_ne]
  intro e
  exact h ((bytes_ext e).trans (bytes_ext rfl).symm)
set_option maxHeartbeats 2000000 in
theorem kind_at (op : Nat) (hop : op < 57) (w : World) : Calls Tryd.prog 53 #[.int .i64 op] w fun e w' => e = .returned (.int .u8 (kN op : Nat)) ∧ w = w' := by
  have I := Lib.hid (fun w => by have h' := is_any op w; rw [decide_eq_true (And.intro (by omega) (by omega))] at h'; exact h')
  have hopI : (op : Int) < 57 := by omega
  have hK := kByte op hop
  generalize kN op = k at *
  go_enter Tryd.func53, Tryd.ntmps53
  go_wp2_with (go_at_call 51; refine (I.out _).mono ?_; rintro e w' ⟨rfl, rfl⟩)
  go_ret
  exact ⟨rfl, rfl⟩

end Go.Proofs.YtphlgaklfibciaaDoor
