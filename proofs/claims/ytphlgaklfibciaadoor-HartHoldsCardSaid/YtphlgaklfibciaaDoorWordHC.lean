import Derived.Test.YtphlgaklfibciaaDoorWordDB
import Derived.Below
import Derived.Deep.Draws
import Derived.Deep.AppendLies
import Derived.Maps.AppendAt
import Derived.OwnWalk
import Derived.Laws.BytesArg
import Derived.Laws.MakeOwn
import Derived.Laws.OwnMore
import Derived.Deep.OwnRows
import Derived.Tactics
import Derived.Lib.ConvBytes
import Derived.Laws.Slices
import Derived.WalkKit
import Derived.KernelRfl
import Derived.RowKit3
import Derived.Deep.LoopGhost
import Derived.Deep.QuietTactic
import Derived.BigQuiet
import Derived.WideLaws
import Derived.Deep.DeepCutAuto
import Derived.Deep.CutBlock
import Derived.Deep.RegionHeld3
import Derived.Laws.Rows
import Derived.Lib.AppendStr
import Derived.ArgAppend
import Derived.Laws.IdiomCopy
import Derived.OrdersHeld
import Derived.Laws.BitsLemmas
import Derived.RowKit
import Derived.Lib.Hide
import Derived.Laws.BitsAllLaws
import Derived.WalkLawsBesides
import Derived.WalkSpells
import Derived.LaidEql
namespace Go.Proofs.YtphlgaklfibciaaDoor
open Go.RowKit
set_option maxRecDepth 100000
set_option linter.unusedVariables false
set_option linter.unusedSimpArgs false

theorem field_any (v : Nat) (hv : v < 4294967296) (lo n : Int) (w : World) : Calls Tryd.prog 80 #[.int .u32 v, .int .i64 lo, .int .i64 n] w fun e w' => e = .returned (.int .u32 (fromN (fieldB v lo n) 32 : Nat)) ∧ Below w.heap.size w w' := by
  have key : ∀ (wr : World) (k : Nat) (g : Nat → Bool), wr.heap[w.heap.size]? = some (.cells (bitArr (cutB k g)) 154 (0, 0)) → k < 32 → wr.cell? ⟨w.heap.size, k, none⟩ = some (.int .i64 ((cutB k g k).toNat : Int)) ∧ wr.frozen? ⟨w.heap.size, k, none⟩ = false :=
    fun wr k g hrow hlt => ⟨by rw [cell_of_row _ _ _ _ _ _ hrow]; exact bitArr_get _ k hlt, frozen_of_row _ _ _ _ _ hrow⟩
  by_cases hin : -31 ≤ lo ∧ lo ≤ 31
  · obtain ⟨hin1, hin2⟩ := hin
    have hg : ∀ k : Nat, (k : Int) < n → bitI v (lo + k) = fieldB v lo n k := fun k hk => fieldB_in hk
    have he : ∀ k : Nat, 32 ≤ k ∨ n ≤ k → bitArr (cutB k (fieldB v lo n)) = bitArr (fieldB v lo n) := fun k hk => cut_end hk
    generalize fieldB v lo n = g at hg he ⊢
    have HG := Lib.hid hg
    have HE := Lib.hid he
    have KEY := Lib.hid key
    clear hg he key
    go_enter Tryd.func80, Tryd.ntmps80
    go_wp2
    go_loopw [8] (fun i wr => ∃ k : Nat, k ≤ 32 ∧ i = .int .i64 k ∧ wr.heap[w.heap.size]? = some (.cells (bitArr (cutB k g)) 154 (0, 0)) ∧ Below w.heap.size w wr) (fun i _ => 32 - (intOf i).toNat)
    case atStart => exact ⟨0, by omega, rfl, by rw [cut_zero, ← bitArr_zero]; exact heap_alloc_new w _, (Below.refl _ _).alloc (Nat.le_refl _) _⟩
    case round =>
      rename_i wr
      obtain ⟨k, hk, rfl, hrow, hbel⟩ := hrel
      have hsz : w.heap.size < wr.heap.size := heap_lt hrow
      by_cases hlt : k < 32
      · by_cases hkn : (k : Int) < n
        · obtain ⟨hcell, hfr⟩ := KEY.out wr k g hrow hlt
          have HR := Lib.hid hrow
          clear hrow
          go_wp2_with (go_at_call 40; refine (bit_any v hv _ _).mono ?_; rintro e w' ⟨rfl, rfl⟩)
          go_roundw
          case rel =>
            exact ⟨k + 1, by omega, by go_num, by rw [heap_setCell_same _ _ _ _ _ _ HR.out, HG.out k hkn, bitArr_set _ _ _ hlt, cut_succ], hbel.setCell (Nat.le_refl _) _⟩
          case measure => simp [intOf]; omega
        · rw [HE.out k (by omega)] at hrow
          have HR := Lib.hid hrow
          clear hrow
          go_wp2_with (first | (refine wpList_load_row rfl 154 _ rfl _ rfl 154 _ (0, 0) _ HR.out Tryd.underlying154 rfl (by kernel_rfl) ?_) | (go_at_call 88; refine (from_any g _).mono ?_; rintro e w' ⟨rfl, hb⟩))
          go_ret
          exact ⟨rfl, hbel.trans (hb.mono (by omega))⟩
      · rw [HE.out k (by omega)] at hrow
        have HR := Lib.hid hrow
        clear hrow
        go_wp2_with (first | (refine wpList_load_row rfl 154 _ rfl _ rfl 154 _ (0, 0) _ HR.out Tryd.underlying154 rfl (by kernel_rfl) ?_) | (go_at_call 88; refine (from_any g _).mono ?_; rintro e w' ⟨rfl, hb⟩))
        go_ret
        exact ⟨rfl, hbel.trans (hb.mono (by omega))⟩
  · have hg : ∀ k : Nat, k < 32 → fieldB v lo n k = false := fun k hk => fieldB_out hk (by omega)
    have he : ∀ k : Nat, 32 ≤ k ∨ n ≤ k → bitArr (cutB k (fieldB v lo n)) = bitArr (fieldB v lo n) := fun k hk => cut_end hk
    have hout : lo < -31 ∨ 31 < lo := by omega
    clear hin
    generalize fieldB v lo n = g at hg he ⊢
    have HG := Lib.hid hg
    have HE := Lib.hid he
    have KEY := Lib.hid key
    clear hg he key
    rcases hout with hout | hout
    all_goals
      go_enter Tryd.func80, Tryd.ntmps80
      go_wp2
      go_loopw [8] (fun i wr => ∃ k : Nat, k ≤ 32 ∧ i = .int .i64 k ∧ wr.heap[w.heap.size]? = some (.cells (bitArr (cutB k g)) 154 (0, 0)) ∧ Below w.heap.size w wr) (fun i _ => 32 - (intOf i).toNat)
      case atStart => exact ⟨0, by omega, rfl, by rw [cut_zero, ← bitArr_zero]; exact heap_alloc_new w _, (Below.refl _ _).alloc (Nat.le_refl _) _⟩
      case round =>
        rename_i wr
        obtain ⟨k, hk, rfl, hrow, hbel⟩ := hrel
        have hsz : w.heap.size < wr.heap.size := heap_lt hrow
        by_cases hlt : k < 32
        · by_cases hkn : (k : Int) < n
          · have HR := Lib.hid hrow
            clear hrow
            go_wp2
            go_roundw
            case rel =>
              exact ⟨k + 1, by omega, by go_num, by rw [HR.out, cut_same (HG.out k hlt)], hbel⟩
            case measure => simp [intOf]; omega
          · rw [HE.out k (by omega)] at hrow
            have HR := Lib.hid hrow
            clear hrow
            go_wp2_with (first | (refine wpList_load_row rfl 154 _ rfl _ rfl 154 _ (0, 0) _ HR.out Tryd.underlying154 rfl (by kernel_rfl) ?_) | (go_at_call 88; refine (from_any g _).mono ?_; rintro e w' ⟨rfl, hb⟩))
            go_ret
            exact ⟨rfl, hbel.trans (hb.mono (by omega))⟩
        · rw [HE.out k (by omega)] at hrow
          have HR := Lib.hid hrow
          clear hrow
          go_wp2_with (first | (refine wpList_load_row rfl 154 _ rfl _ rfl 154 _ (0, 0) _ HR.out Tryd.underlying154 rfl (by kernel_rfl) ?_) | (go_at_call 88; refine (from_any g _).mono ?_; rintro e w' ⟨rfl, hb⟩))
          go_ret
          exact ⟨rfl, hbel.trans (hb.mono (by omega))⟩

end Go.Proofs.YtphlgaklfibciaaDoor
