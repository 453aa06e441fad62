import Derived.Test.YtoincdfijeipjaaDoorLaidI
import Derived.Below
import Derived.Deep.Draws
import Derived.Deep.AppendLies
import Derived.Maps.AppendAt
import Derived.OwnWalk
import Derived.Laws.BytesArg
import Derived.Laws.MakeOwn
import Derived.Laws.OwnMore
import Derived.Deep.OwnRows
import Derived.Tactics
import Derived.Lib.ConvBytes
import Derived.Laws.Slices
import Derived.WalkKit
import Derived.KernelRfl
import Derived.RowKit3
import Derived.Deep.LoopGhost
import Derived.Deep.QuietTactic
import Derived.BigQuiet
import Derived.WideLaws
import Derived.Deep.DeepCutAuto
import Derived.Deep.CutBlock
import Derived.Deep.RegionHeld3
import Derived.Laws.Rows
import Derived.Lib.AppendStr
import Derived.ArgAppend
import Derived.Laws.IdiomCopy
import Derived.OrdersHeld
import Derived.Laws.BitsLemmas
import Derived.RowKit
import Derived.Lib.Hide
import Derived.Laws.BitsAllLaws
import Derived.WalkLawsBesides
import Derived.WalkSpells
import Derived.LaidEql
namespace Go.Proofs.YtoincdfijeipjaaDoor
open Go.RowKit
set_option maxRecDepth 100000
set_option linter.unusedVariables false
set_option linter.unusedSimpArgs false

theorem nm_inj : ∀ i, i < 57 → ∀ j, j < 57 → nmTab.getD i [] = nmTab.getD j [] → i = j := by decide +kernel
theorem nm_some : ∀ i, i < 57 → nmTab.getD i [] ≠ [] := by decide +kernel
theorem str_ne {s t : ByteArray} (h : s ≠ t) : (s.toList == t.toList) = false := by
  rw [ByteArray.toList_eq, ByteArray.toList_eq, beq_eq_false_iff_ne]
  intro e
  exact h ((bytes_ext e).trans (bytes_ext rfl).symm)
set_option maxHeartbeats 2000000 in
theorem kind_at (op : Nat) (hop : op < 57) (w : World) : Calls Tryd.prog 23 #[.int .i64 op] w fun e w' => e = .returned (.int .u8 (kN op : Nat)) ∧ w = w' := by
  have I := Lib.hid (fun w => by have h' := is_any op w; rw [decide_eq_true (And.intro (by omega) (by omega))] at h'; exact h')
  have hopI : (op : Int) < 57 := by omega
  have hK := kByte op hop
  generalize kN op = k at *
  go_enter Tryd.func23, Tryd.ntmps23
  go_wp2_with (go_at_call 47; refine (I.out _).mono ?_; rintro e w' ⟨rfl, rfl⟩)
  go_ret
  exact ⟨rfl, rfl⟩
set_option maxHeartbeats 2000000 in
theorem find_hit (s : ByteArray) (op : Nat) (hop : op < 57) (hs : s.data.toList = nmTab.getD op []) (w : World) (hN : TabS w) : Calls Tryd.prog 19 #[.string s] w fun e w' => e = .returned (.tuple #[.int .i64 op, .nilIface]) ∧ w = w' := by
  have HN := Lib.hid hN
  have HS := Lib.hid hs
  clear hN hs
  go_enter Tryd.func19, Tryd.ntmps19
  go_upto_region 2 with (fail)
  go_loopw [5] (fun i wr => ∃ j : Nat, j ≤ op ∧ i = .int .i64 j ∧ wr = w) (fun i _ => 57 - (intOf i).toNat)
  case atStart => exact ⟨0, by omega, rfl, rfl⟩
  case round =>
    obtain ⟨j, hj, rfl, rfl⟩ := hrel
    have hj57 : j < 57 := by omega
    have hjI : (j : Int) < 57 := by omega
    obtain ⟨t, ht1, ht2⟩ := HN.out j hj57
    have hlt := block_lt_of_cell ht1
    by_cases hje : j < op
    · have hne : t ≠ s := fun h => by
        rw [h, HS.out] at ht2
        have := nm_inj _ hop _ hj57 ht2
        omega
      have hne2 : (t.toList == s.toList) = false := str_ne hne
      clear ht2
      go_wp2
      exact ⟨⟨j + 1, by omega, by simp, trivial⟩, by simp [intOf]; omega⟩
    · obtain rfl : j = op := by omega
      have hts : t = s := (bytes_ext ht2).trans (bytes_ext HS.out).symm
      subst hts
      clear ht2
      go_wp2
      go_ret2
      exact ⟨rfl, rfl⟩

end Go.Proofs.YtoincdfijeipjaaDoor
