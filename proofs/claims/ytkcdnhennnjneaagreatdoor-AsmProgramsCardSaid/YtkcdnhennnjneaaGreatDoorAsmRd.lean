import Derived.Test.YtkcdnhennnjneaaGreatDoorAsmRb
import Derived.Test.YtkcdnhennnjneaaGreatDoorAsmRc
import Derived.Below
import Derived.Deep.Draws
import Derived.Deep.AppendLies
import Derived.Maps.AppendAt
import Derived.OwnWalk
import Derived.Laws.BytesArg
import Derived.Laws.MakeOwn
import Derived.Laws.OwnMore
import Derived.Deep.OwnRows
import Derived.Tactics
import Derived.Lib.ConvBytes
import Derived.Laws.Slices
import Derived.WalkKit
import Derived.KernelRfl
import Derived.RowKit3
import Derived.Deep.LoopGhost
import Derived.Deep.QuietTactic
import Derived.BigQuiet
import Derived.WideLaws
import Derived.Deep.DeepCutAuto
import Derived.Deep.CutBlock
import Derived.Deep.RegionHeld3
import Derived.Laws.Rows
import Derived.Lib.AppendStr
import Derived.ArgAppend
import Derived.Laws.IdiomCopy
import Derived.OrdersHeld
import Derived.Laws.BitsLemmas
import Derived.RowKit
import Derived.Lib.Hide
import Derived.Laws.BitsAllLaws
import Derived.WalkLawsBesides
import Derived.WalkSpells
import Derived.LaidEql
namespace Go.Proofs.YtkcdnhennnjneaaGreatDoor
open Go.RowKit
set_option maxRecDepth 100000
set_option linter.unusedVariables false
set_option linter.unusedSimpArgs false

theorem wrap_64 (z : Int) : wrap64 z = IntKind.i64.wrap z := by
  rw [Go.IntKind.wrap_i64]
  first | rfl | (unfold wrap64; omega) | (unfold wrap64; split <;> omega) | (simp only [wrap64]; omega)
theorem sread_any {B K : Nat} (hBK : B ≤ K) (op : Nat) (hop : op < 57) (s : Scan) (w : World) (S : ScanAt K s w) (E : Env B w) : Calls Tryz.prog 46 #[.pointer (some ⟨K, 0, none⟩), .int .i64 op] w fun e w' => e = .returned (s.read op).1.v ∧ ScanAt K (s.read op).2 w' ∧ OnK K w w' := by
  unfold Scan.read
  rcases k_cases op hop with k | k | k | k | k | k | k | k | k
  · rw [if_pos k]
    have h := sread_U hBK op hop k s w S E
    rw [wrap_64] at h
    exact h
  · rw [if_neg (by omega), if_pos k]; exact sread_J hBK op hop k s w S E
  · rw [if_neg (by omega), if_neg (by omega), if_pos k]
    rcases k with k | k | k
    · exact sread_I hBK op hop k s w S E
    · exact sread_F hBK op hop k s w S E
    · exact sread_H hBK op hop k s w S E
  · rw [if_neg (by omega), if_neg (by omega), if_neg (by omega), if_pos k]; exact sread_L hBK op hop k s w S E
  · rw [if_neg (by omega), if_neg (by omega), if_neg (by omega), if_neg (by omega), if_pos k]; exact sread_B hBK op hop k s w S E
  · rw [if_neg (by omega), if_neg (by omega), if_neg (by omega), if_neg (by omega), if_neg (by omega), if_pos k]; exact sread_S hBK op hop k s w S E
  · rw [if_neg (by omega), if_neg (by omega), if_neg (by omega), if_neg (by omega), if_neg (by omega), if_neg (by omega), if_pos k]; exact sread_R hBK op hop k s w S E
  · rw [if_neg (by omega), if_neg (by omega), if_neg (by omega), if_neg (by omega), if_neg (by omega), if_neg (by omega), if_neg (by omega), if_pos k]
    by_cases h54 : 54 ≤ op
    · rw [if_pos h54]; exact sread_C hBK op hop k h54 s w S E
    · rw [if_neg h54]; exact sread_D hBK op hop k h54 s w S E
  · rw [if_neg (by omega), if_neg (by omega), if_neg (by omega), if_neg (by omega), if_neg (by omega), if_neg (by omega), if_neg (by omega), if_neg (by omega)]; exact sread_N hBK op hop k s w S E

end Go.Proofs.YtkcdnhennnjneaaGreatDoor
