import Derived.Test.YtgbpalclapcfeaaCsrB
import Derived.Below
import Derived.Deep.Draws
import Derived.Deep.AppendLies
import Derived.Maps.AppendAt
import Derived.OwnWalk
import Derived.Laws.BytesArg
import Derived.Laws.MakeOwn
import Derived.Laws.OwnMore
import Derived.Deep.OwnRows
import Derived.Tactics
import Derived.Lib.ConvBytes
import Derived.Laws.Slices
import Derived.WalkKit
import Derived.KernelRfl
import Derived.RowKit3
import Derived.Deep.LoopGhost
import Derived.Deep.QuietTactic
import Derived.BigQuiet
import Derived.WideLaws
import Derived.Deep.DeepCutAuto
import Derived.Deep.CutBlock
import Derived.Deep.RegionHeld3
import Derived.Laws.Rows
import Derived.Lib.AppendStr
import Derived.ArgAppend
import Derived.Laws.IdiomCopy
import Derived.OrdersHeld
import Derived.Laws.BitsLemmas
import Derived.RowKit
import Derived.Lib.Hide
import Derived.Laws.BitsAllLaws
import Derived.WalkLawsBesides
import Derived.WalkSpells
import Derived.LaidEql
namespace Go.Proofs.Ytgbpalclapcfeaa
open Go.RowKit
set_option maxRecDepth 100000
set_option linter.unusedVariables false
set_option linter.unusedSimpArgs false

theorem butN_snoc (v : Nat) (l : List Nat) (i : Nat) : butN v (l ++ [i]) = setBit1 (butN v l) i 0 := by simp [butN]
theorem butN_lt (l : List Nat) : ∀ v : Nat, v < 4294967296 → butN v l < 4294967296 := by
  induction l with
  | nil => intro v h; simpa [butN] using h
  | cons i l ih =>
    intro v _
    have := ih (setBit1 v i 0) (setBit1_lt _ _ _)
    simpa only [butN, List.foldl_cons] using this
theorem take_snoc' (l : List Nat) (k : Nat) (h : k < l.length) : l.take (k + 1) = l.take k ++ [l[k]] := by rw [List.take_succ_eq_append_getElem h]
set_option maxHeartbeats 1000000 in
theorem but_any (v : Nat) (hv : v < 4294967296) (B n : Nat) (l : List Nat) (hn : l.length = n) (hn2 : n ≤ 32) (hl : ∀ i ∈ l, i < 32) (w : World) (hc : ∀ (j : Nat) (i : Nat), l[j]? = some i → w.cell? ⟨B, j, none⟩ = some (.int .i64 (i : Int))) (hB : B < w.heap.size) :
    Calls Try.prog 29 #[.int .u32 v, .slice (some ⟨B, 0, none⟩) n n] w fun e w' => e = .returned (.int .u32 (butN v l)) ∧ Below w.heap.size w w' := by
  have HC := Lib.hid hc
  have HL := Lib.hid hl
  have HN := Lib.hid hn
  clear hc hl hn
  go_enter Try.func29, Try.ntmps29
  go_wp2
  go_loopw [0, 5] (fun x i wr => ∃ k y : Nat, k ≤ n ∧ i = .int .i64 k ∧ x = .int .u32 y ∧ y = butN v (l.take k) ∧ Below w.heap.size w wr) (fun _ i _ => n - (intOf i).toNat)
  case atStart => exact ⟨0, v, by omega, rfl, rfl, rfl, Below.refl _ _⟩
  case round =>
    rename_i wr
    obtain ⟨k, y, hk, rfl, rfl, hy, hbel⟩ := hrel
    have hy2 : y < 4294967296 := by rw [hy]; exact butN_lt _ _ hv
    have HY := Lib.hid hy
    clear hy
    by_cases hlt : k < n
    · have hkl : k < l.length := by rw [HN.out]; exact hlt
      obtain ⟨i, hi⟩ : ∃ i, l[k] = i := ⟨_, rfl⟩
      have hi32 : i < 32 := HL.out i (by rw [← hi]; exact List.getElem_mem hkl)
      have hcell : wr.cell? ⟨B, k, none⟩ = some (.int .i64 (i : Int)) := (hbel.cell (p := ⟨B, k, none⟩) hB).trans (HC.out k i (by rw [List.getElem?_eq_getElem hkl, hi]))
      have ST : Hid (∀ w : World, Calls Try.prog 27 #[.int .u32 y, .int .i64 i, .int .i64 1, .int .u32 0] w fun e w' => e = .returned (.int .u32 (setBit1 y i 0)) ∧ Below w.heap.size w w') := Lib.hid (fun w => set_ref y hy2 i hi32 0 (by omega) w)
      have HI := Lib.hid hi
      clear hi
      go_wp2_with (go_at_call 27; refine (ST.out _).mono ?_; rintro e w' ⟨rfl, hb⟩)
      go_roundw
      case rel => exact ⟨k + 1, setBit1 y i 0, by omega, by go_num, rfl, by rw [take_snoc' l k (by rw [HN.out]; exact hlt), butN_snoc, HI.out, ← HY.out], hbel.trans (hb.mono hbel.size)⟩
      case measure => simp [intOf]; omega
    · go_wp2
      go_ret
      exact ⟨ret_int (by rw [HY.out, List.take_of_length_le (by rw [HN.out]; omega)]), hbel⟩

end Go.Proofs.Ytgbpalclapcfeaa
