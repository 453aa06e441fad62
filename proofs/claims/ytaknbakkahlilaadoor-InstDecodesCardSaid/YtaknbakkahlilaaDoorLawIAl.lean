import Derived.Test.YtaknbakkahlilaaDoorLaidI
import Derived.Below
import Derived.Deep.Draws
import Derived.Deep.AppendLies
import Derived.Maps.AppendAt
import Derived.OwnWalk
import Derived.Laws.BytesArg
import Derived.Laws.MakeOwn
import Derived.Laws.OwnMore
import Derived.Deep.OwnRows
import Derived.Tactics
import Derived.Lib.ConvBytes
import Derived.Laws.Slices
import Derived.WalkKit
import Derived.KernelRfl
import Derived.RowKit3
import Derived.Deep.LoopGhost
import Derived.Deep.QuietTactic
import Derived.BigQuiet
import Derived.WideLaws
import Derived.Deep.DeepCutAuto
import Derived.Deep.CutBlock
import Derived.Deep.RegionHeld3
import Derived.Laws.Rows
import Derived.Lib.AppendStr
import Derived.ArgAppend
import Derived.Laws.IdiomCopy
import Derived.OrdersHeld
import Derived.Laws.BitsLemmas
import Derived.RowKit
import Derived.Lib.Hide
import Derived.Laws.BitsAllLaws
import Derived.WalkLawsBesides
import Derived.WalkSpells
import Derived.LaidEql
namespace Go.Proofs.YtaknbakkahlilaaDoor
open Go.RowKit
set_option maxRecDepth 100000
set_option linter.unusedVariables false
set_option linter.unusedSimpArgs false

theorem nm_inj : ∀ i, i < 57 → ∀ j, j < 57 → nmTab.getD i [] = nmTab.getD j [] → i = j := by decide +kernel
theorem nm_some : ∀ i, i < 57 → nmTab.getD i [] ≠ [] := by decide +kernel
theorem str_ne {s t : ByteArray} (h : s ≠ t) : (s.toList == t.toList) = false := by
  rw [ByteArray.toList_eq, ByteArray.toList_eq, beq_eq_false_iff_ne]
  intro e
  exact h ((bytes_ext e).trans (bytes_ext rfl).symm)
set_option maxHeartbeats 2000000 in
theorem kind_at (op : Nat) (hop : op < 57) (w : World) : Calls Tryd.prog 32 #[.int .i64 op] w fun e w' => e = .returned (.int .u8 (kN op : Nat)) ∧ w = w' := by
  have I := Lib.hid (fun w => by have h' := is_any op w; rw [decide_eq_true (And.intro (by omega) (by omega))] at h'; exact h')
  have hopI : (op : Int) < 57 := by omega
  have hK := kByte op hop
  generalize kN op = k at *
  go_enter Tryd.func32, Tryd.ntmps32
  go_wp2_with (go_at_call 51; refine (I.out _).mono ?_; rintro e w' ⟨rfl, rfl⟩)
  go_ret
  exact ⟨rfl, rfl⟩
set_option maxHeartbeats 2000000 in
theorem find_hit (s : ByteArray) (op : Nat) (hop : op < 57) (hs : s.data.toList = nmTab.getD op []) (w : World) (hN : TabS w) : Calls Tryd.prog 31 #[.string s] w fun e w' => e = .returned (.tuple #[.int .i64 op, .nilIface]) ∧ w = w' := by
  have HN := Lib.hid hN
  have HS := Lib.hid hs
  clear hN hs
  go_enter Tryd.func31, Tryd.ntmps31
  go_upto_region 2 with (fail)
  go_loopw [5] (fun i wr => ∃ j : Nat, j ≤ op ∧ i = .int .i64 j ∧ wr = w) (fun i _ => 57 - (intOf i).toNat)
  case atStart => exact ⟨0, by omega, rfl, rfl⟩
  case round =>
    obtain ⟨j, hj, rfl, rfl⟩ := hrel
    have hj57 : j < 57 := by omega
    have hjI : (j : Int) < 57 := by omega
    obtain ⟨t, ht1, ht2⟩ := HN.out j hj57
    have hlt := block_lt_of_cell ht1
    by_cases hje : j < op
    · have hne : t ≠ s := fun h => by
        rw [h, HS.out] at ht2
        have := nm_inj _ hop _ hj57 ht2
        omega
      have hne2 : (t.toList == s.toList) = false := str_ne hne
      clear ht2
      go_wp2
      exact ⟨⟨j + 1, by omega, by simp, trivial⟩, by simp [intOf]; omega⟩
    · obtain rfl : j = op := by omega
      have hts : t = s := (bytes_ext ht2).trans (bytes_ext HS.out).symm
      subst hts
      clear ht2
      go_wp2
      go_ret2
      exact ⟨rfl, rfl⟩
set_option maxHeartbeats 4000000 in
theorem instAll_core (a A : Int) (k : Nat) (hA : IntKind.u64.wrap a = A) (hk : k < 57) (e : wrap64 (A.tmod 57) = (k : Int)) (w : World) (hT : TabW w) (hN : TabS w) :
    Calls Tryd.prog 9 #[.int .i64 a] w fun e w' => e = .returned (.bool true) ∧ Below w.heap.size w w' := by
  obtain ⟨s, hs1, hs2⟩ := hN k hk
  have N := Lib.hid (name_at k hk s w hs1)
  have F := Lib.hid (find_hit s k hk hs2 w hN)
  have K := Lib.hid (fun w => kind_at k hk w)
  have S := Lib.hid (isure_any w hT hN)
  have hk0 : kN k ≠ 0 := by rcases kinds11 k hk with h | h | h | h | h | h | h | h | h | h | h <;> omega
  obtain ⟨c, hc⟩ : ∃ c, c = kN k := ⟨_, rfl⟩
  rw [← hc] at K hk0
  have hc1 : ((c : Int) == 0) = false := by simp; omega
  have hc2 : ¬ (c : Int) = 0 := by omega
  have hsn : s ≠ ⟨#[]⟩ := fun h => by subst h; exact nm_some k hk hs2.symm
  have hs3 : ¬ s.toList = [] := fun h => hsn (bytes_ext (by rw [← ByteArray.toList_eq]; exact h))
  have hs4 : s.toList.isEmpty = false := by simp [hs3]
  have hc3 : ((c : Int) != 0) = true := by simp; omega
  have hc4 : ¬ c = 0 := hk0
  clear hc hs1 hs2 hT hN hk0
  go_enter Tryd.func9, Tryd.ntmps9
  go_upto_region 2 with (fail)
  simp only [e]
  clear e hA
  go_wp2_with (first | (go_at_call 30; refine N.out.mono ?_; rintro e w' ⟨rfl, rfl⟩) | (go_at_call 31; refine F.out.mono ?_; rintro e w' ⟨rfl, rfl⟩) | (go_at_call 32; refine (K.out _).mono ?_; rintro e w' ⟨rfl, rfl⟩) | (go_at_call 29; refine S.out.mono ?_; rintro e w' ⟨rfl, hb⟩))
  go_ret
  exact ⟨rfl, hb⟩
theorem wrapq (a : Int) (q : Nat) (hq : 0 < q) (hq2 : q ≤ 4294967296) : ∃ (A : Int) (i : Nat), IntKind.u64.wrap a = A ∧ i < q ∧ wrap64 (A.tmod q) = (i : Int) := by
  have h0 : 0 ≤ a % 18446744073709551616 := Int.emod_nonneg _ (by decide)
  have h1 := Int.emod_nonneg (a % 18446744073709551616) (show (q : Int) ≠ 0 by omega)
  have h2 := Int.emod_lt_of_pos (a % 18446744073709551616) (show (0 : Int) < q by omega)
  refine ⟨_, (a % 18446744073709551616 % q).toNat, rfl, by omega, ?_⟩
  rw [Go.IntKind.wrap_u64, Int.tmod_eq_emod_of_nonneg h0]
  unfold wrap64
  omega
theorem instAll_walk (a : Int) (l0 : -9223372036854775808 ≤ a) (u0 : a < 9223372036854775808) (w : World) (hT : TabW w) (hN : TabS w) :
    Calls Tryd.prog 9 #[.int .i64 a] w fun e w' => e = .returned (.bool true) ∧ Below w.heap.size w w' := by
  obtain ⟨A, k, hA, hk, e⟩ := wrapq a 57 (by decide) (by decide)
  exact instAll_core a A k hA hk e w hT hN

end Go.Proofs.YtaknbakkahlilaaDoor
