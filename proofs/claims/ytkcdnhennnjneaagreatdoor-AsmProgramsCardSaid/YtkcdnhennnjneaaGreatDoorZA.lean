import Derived.Test.YtkcdnhennnjneaaGreatDoorInstDM
import Derived.Below
import Derived.Deep.Draws
import Derived.Deep.AppendLies
import Derived.Maps.AppendAt
import Derived.OwnWalk
import Derived.Laws.BytesArg
import Derived.Laws.MakeOwn
import Derived.Laws.OwnMore
import Derived.Deep.OwnRows
import Derived.Tactics
import Derived.Lib.ConvBytes
import Derived.Laws.Slices
import Derived.WalkKit
import Derived.KernelRfl
import Derived.RowKit3
import Derived.Deep.LoopGhost
import Derived.Deep.QuietTactic
import Derived.BigQuiet
import Derived.WideLaws
import Derived.Deep.DeepCutAuto
import Derived.Deep.CutBlock
import Derived.Deep.RegionHeld3
import Derived.Laws.Rows
import Derived.Lib.AppendStr
import Derived.ArgAppend
import Derived.Laws.IdiomCopy
import Derived.OrdersHeld
import Derived.Laws.BitsLemmas
import Derived.RowKit
import Derived.Lib.Hide
import Derived.Laws.BitsAllLaws
import Derived.WalkLawsBesides
import Derived.WalkSpells
import Derived.LaidEql
namespace Go.Proofs.YtkcdnhennnjneaaGreatDoor
open Go.RowKit
set_option maxRecDepth 100000
set_option linter.unusedVariables false
set_option linter.unusedSimpArgs false

/-- the operations' names, as the row lists them -/
def nmTab : List (List UInt8) := match (Rows.laid_pinnace_inst_names : DataW Unit) with | .agg l => l.map (fun d => match d with | .lit (.string s) => s | _ => []) | _ => []
def TabS (w : World) : Prop := ∀ j, j < 57 → ∃ s, w.cell? ⟨1, j, none⟩ = some (.string s) ∧ s.data.toList = nmTab.getD j []
theorem TabS.below {w w' : World} (h : TabS w) (hb : Below w.heap.size w w') : TabS w' := fun j hj => by
  obtain ⟨s, h1, h2⟩ := h j hj
  exact ⟨s, (World.cell?_of_block (hb.block _ (block_lt_of_cell h1))).trans h1, h2⟩
set_option maxHeartbeats 1000000 in
theorem name_at (op : Nat) (hop : op < 57) (s : ByteArray) (w : World) (hs : w.cell? ⟨1, op, none⟩ = some (.string s)) : Calls Tryz.prog 37 #[.int .i64 op] w fun e w' => e = .returned (.string s) ∧ w = w' := by
  have I := Lib.hid (fun w => by have h' := is_any op w; rw [decide_eq_true (And.intro (by omega) (by omega))] at h'; exact h')
  have hopI : (op : Int) < 57 := by omega
  have hlt := block_lt_of_cell hs
  go_enter Tryz.func37, Tryz.ntmps37
  go_wp2_with (go_at_call 68; refine (I.out _).mono ?_; rintro e w' ⟨rfl, rfl⟩)
  go_ret
  exact ⟨rfl, rfl⟩
theorem bytes_ext {s : ByteArray} {l : List UInt8} (h : s.data.toList = l) : s = ⟨l.toArray⟩ := by
  cases s with
  | mk a => cases a with
    | mk l' => simp only at h; subst h; rfl
theorem sure_fit : Fit (kN 18) (wN 18) 5243027 := by unfold Fit; decide +kernel

theorem nm_inj : ∀ i, i < 57 → ∀ j, j < 57 → nmTab.getD i [] = nmTab.getD j [] → i = j := by decide +kernel
theorem nm_some : ∀ i, i < 57 → nmTab.getD i [] ≠ [] := by decide +kernel
theorem str_ne {s t : ByteArray} (h : s ≠ t) : (s.toList == t.toList) = false := by
  rw [ByteArray.toList_eq, ByteArray.toList_eq, beq_eq_false_iff_ne]
  intro e
  exact h ((bytes_ext e).trans (bytes_ext rfl).symm)
set_option maxHeartbeats 2000000 in
theorem kind_at (op : Nat) (hop : op < 57) (w : World) : Calls Tryz.prog 58 #[.int .i64 op] w fun e w' => e = .returned (.int .u8 (kN op : Nat)) ∧ w = w' := by
  have I := Lib.hid (fun w => by have h' := is_any op w; rw [decide_eq_true (And.intro (by omega) (by omega))] at h'; exact h')
  have hopI : (op : Int) < 57 := by omega
  have hK := kByte op hop
  generalize kN op = k at *
  go_enter Tryz.func58, Tryz.ntmps58
  go_wp2_with (go_at_call 68; refine (I.out _).mono ?_; rintro e w' ⟨rfl, rfl⟩)
  go_ret
  exact ⟨rfl, rfl⟩
set_option maxHeartbeats 2000000 in
theorem find_hit (s : ByteArray) (op : Nat) (hop : op < 57) (hs : s.data.toList = nmTab.getD op []) (w : World) (hN : TabS w) : Calls Tryz.prog 45 #[.string s] w fun e w' => e = .returned (.tuple #[.int .i64 op, .nilIface]) ∧ w = w' := by
  have HN := Lib.hid hN
  have HS := Lib.hid hs
  clear hN hs
  go_enter Tryz.func45, Tryz.ntmps45
  go_upto_region 2 with (fail)
  go_loopw [5] (fun i wr => ∃ j : Nat, j ≤ op ∧ i = .int .i64 j ∧ wr = w) (fun i _ => 57 - (intOf i).toNat)
  case atStart => exact ⟨0, by omega, rfl, rfl⟩
  case round =>
    obtain ⟨j, hj, rfl, rfl⟩ := hrel
    have hj57 : j < 57 := by omega
    have hjI : (j : Int) < 57 := by omega
    obtain ⟨t, ht1, ht2⟩ := HN.out j hj57
    have hlt := block_lt_of_cell ht1
    by_cases hje : j < op
    · have hne : t ≠ s := fun h => by
        rw [h, HS.out] at ht2
        have := nm_inj _ hop _ hj57 ht2
        omega
      have hne2 : (t.toList == s.toList) = false := str_ne hne
      clear ht2
      go_wp2
      exact ⟨⟨j + 1, by omega, by simp, trivial⟩, by simp [intOf]; omega⟩
    · obtain rfl : j = op := by omega
      have hts : t = s := (bytes_ext ht2).trans (bytes_ext HS.out).symm
      subst hts
      clear ht2
      go_wp2
      go_ret2
      exact ⟨rfl, rfl⟩

def nmCells : Array Value := (nmTab.map fun l => Value.string ⟨l.toArray⟩).toArray

/-- an operation's name, as bytes -/
def nmB (op : Nat) : ByteArray := ⟨(nmTab.getD op []).toArray⟩
theorem nm_lit : ((#[.string ⟨#[108, 117, 105]⟩, .string ⟨#[97, 117, 105, 112, 99]⟩, .string ⟨#[106, 97, 108]⟩, .string ⟨#[106, 97, 108, 114]⟩, .string ⟨#[98, 101, 113]⟩, .string ⟨#[98, 110, 101]⟩, .string ⟨#[98, 108, 116]⟩, .string ⟨#[98, 103, 101]⟩, .string ⟨#[98, 108, 116, 117]⟩, .string ⟨#[98, 103, 101, 117]⟩, .string ⟨#[108, 98]⟩, .string ⟨#[108, 104]⟩, .string ⟨#[108, 119]⟩, .string ⟨#[108, 98, 117]⟩, .string ⟨#[108, 104, 117]⟩, .string ⟨#[115, 98]⟩, .string ⟨#[115, 104]⟩, .string ⟨#[115, 119]⟩, .string ⟨#[97, 100, 100, 105]⟩, .string ⟨#[115, 108, 116, 105]⟩, .string ⟨#[115, 108, 116, 105, 117]⟩, .string ⟨#[120, 111, 114, 105]⟩, .string ⟨#[111, 114, 105]⟩, .string ⟨#[97, 110, 100, 105]⟩, .string ⟨#[115, 108, 108, 105]⟩, .string ⟨#[115, 114, 108, 105]⟩, .string ⟨#[115, 114, 97, 105]⟩, .string ⟨#[97, 100, 100]⟩, .string ⟨#[115, 117, 98]⟩, .string ⟨#[115, 108, 108]⟩, .string ⟨#[115, 108, 116]⟩, .string ⟨#[115, 108, 116, 117]⟩, .string ⟨#[120, 111, 114]⟩, .string ⟨#[115, 114, 108]⟩, .string ⟨#[115, 114, 97]⟩, .string ⟨#[111, 114]⟩, .string ⟨#[97, 110, 100]⟩, .string ⟨#[109, 117, 108]⟩, .string ⟨#[109, 117, 108, 104]⟩, .string ⟨#[109, 117, 108, 104, 115, 117]⟩, .string ⟨#[109, 117, 108, 104, 117]⟩, .string ⟨#[100, 105, 118]⟩, .string ⟨#[100, 105, 118, 117]⟩, .string ⟨#[114, 101, 109]⟩, .string ⟨#[114, 101, 109, 117]⟩, .string ⟨#[102, 101, 110, 99, 101]⟩, .string ⟨#[102, 101, 110, 99, 101, 46, 105]⟩, .string ⟨#[101, 99, 97, 108, 108]⟩, .string ⟨#[101, 98, 114, 101, 97, 107]⟩, .string ⟨#[109, 114, 101, 116]⟩, .string ⟨#[119, 102, 105]⟩, .string ⟨#[99, 115, 114, 114, 119]⟩, .string ⟨#[99, 115, 114, 114, 115]⟩, .string ⟨#[99, 115, 114, 114, 99]⟩, .string ⟨#[99, 115, 114, 114, 119, 105]⟩, .string ⟨#[99, 115, 114, 114, 115, 105]⟩, .string ⟨#[99, 115, 114, 114, 99, 105]⟩]) : Array Value) = nmCells := by kernel_rfl
theorem nm_len : nmTab.length = 57 := by decide +kernel
theorem nm_cell (op : Nat) (h : op < 57) : ((#[.string ⟨#[108, 117, 105]⟩, .string ⟨#[97, 117, 105, 112, 99]⟩, .string ⟨#[106, 97, 108]⟩, .string ⟨#[106, 97, 108, 114]⟩, .string ⟨#[98, 101, 113]⟩, .string ⟨#[98, 110, 101]⟩, .string ⟨#[98, 108, 116]⟩, .string ⟨#[98, 103, 101]⟩, .string ⟨#[98, 108, 116, 117]⟩, .string ⟨#[98, 103, 101, 117]⟩, .string ⟨#[108, 98]⟩, .string ⟨#[108, 104]⟩, .string ⟨#[108, 119]⟩, .string ⟨#[108, 98, 117]⟩, .string ⟨#[108, 104, 117]⟩, .string ⟨#[115, 98]⟩, .string ⟨#[115, 104]⟩, .string ⟨#[115, 119]⟩, .string ⟨#[97, 100, 100, 105]⟩, .string ⟨#[115, 108, 116, 105]⟩, .string ⟨#[115, 108, 116, 105, 117]⟩, .string ⟨#[120, 111, 114, 105]⟩, .string ⟨#[111, 114, 105]⟩, .string ⟨#[97, 110, 100, 105]⟩, .string ⟨#[115, 108, 108, 105]⟩, .string ⟨#[115, 114, 108, 105]⟩, .string ⟨#[115, 114, 97, 105]⟩, .string ⟨#[97, 100, 100]⟩, .string ⟨#[115, 117, 98]⟩, .string ⟨#[115, 108, 108]⟩, .string ⟨#[115, 108, 116]⟩, .string ⟨#[115, 108, 116, 117]⟩, .string ⟨#[120, 111, 114]⟩, .string ⟨#[115, 114, 108]⟩, .string ⟨#[115, 114, 97]⟩, .string ⟨#[111, 114]⟩, .string ⟨#[97, 110, 100]⟩, .string ⟨#[109, 117, 108]⟩, .string ⟨#[109, 117, 108, 104]⟩, .string ⟨#[109, 117, 108, 104, 115, 117]⟩, .string ⟨#[109, 117, 108, 104, 117]⟩, .string ⟨#[100, 105, 118]⟩, .string ⟨#[100, 105, 118, 117]⟩, .string ⟨#[114, 101, 109]⟩, .string ⟨#[114, 101, 109, 117]⟩, .string ⟨#[102, 101, 110, 99, 101]⟩, .string ⟨#[102, 101, 110, 99, 101, 46, 105]⟩, .string ⟨#[101, 99, 97, 108, 108]⟩, .string ⟨#[101, 98, 114, 101, 97, 107]⟩, .string ⟨#[109, 114, 101, 116]⟩, .string ⟨#[119, 102, 105]⟩, .string ⟨#[99, 115, 114, 114, 119]⟩, .string ⟨#[99, 115, 114, 114, 115]⟩, .string ⟨#[99, 115, 114, 114, 99]⟩, .string ⟨#[99, 115, 114, 114, 119, 105]⟩, .string ⟨#[99, 115, 114, 114, 115, 105]⟩, .string ⟨#[99, 115, 114, 114, 99, 105]⟩]) : Array Value)[op]? = some (.string (nmB op)) := by
  rw [nm_lit]
  unfold nmCells nmB
  have hl := nm_len
  simp [List.getElem?_map, List.getD, List.getElem?_eq_getElem (show op < nmTab.length by omega)]
set_option maxHeartbeats 4000000 in
theorem rname_in (op : Nat) (h : op < 57) (w : World) : Calls Tryz.prog 40 #[.int .i64 op] w fun e w' => e = .returned (.string (nmB op)) ∧ Below w.heap.size w w' := by
  have hopI : (op : Int) < 57 := by omega
  have hc : (w.alloc (.cells (#[.string ⟨#[108, 117, 105]⟩, .string ⟨#[97, 117, 105, 112, 99]⟩, .string ⟨#[106, 97, 108]⟩, .string ⟨#[106, 97, 108, 114]⟩, .string ⟨#[98, 101, 113]⟩, .string ⟨#[98, 110, 101]⟩, .string ⟨#[98, 108, 116]⟩, .string ⟨#[98, 103, 101]⟩, .string ⟨#[98, 108, 116, 117]⟩, .string ⟨#[98, 103, 101, 117]⟩, .string ⟨#[108, 98]⟩, .string ⟨#[108, 104]⟩, .string ⟨#[108, 119]⟩, .string ⟨#[108, 98, 117]⟩, .string ⟨#[108, 104, 117]⟩, .string ⟨#[115, 98]⟩, .string ⟨#[115, 104]⟩, .string ⟨#[115, 119]⟩, .string ⟨#[97, 100, 100, 105]⟩, .string ⟨#[115, 108, 116, 105]⟩, .string ⟨#[115, 108, 116, 105, 117]⟩, .string ⟨#[120, 111, 114, 105]⟩, .string ⟨#[111, 114, 105]⟩, .string ⟨#[97, 110, 100, 105]⟩, .string ⟨#[115, 108, 108, 105]⟩, .string ⟨#[115, 114, 108, 105]⟩, .string ⟨#[115, 114, 97, 105]⟩, .string ⟨#[97, 100, 100]⟩, .string ⟨#[115, 117, 98]⟩, .string ⟨#[115, 108, 108]⟩, .string ⟨#[115, 108, 116]⟩, .string ⟨#[115, 108, 116, 117]⟩, .string ⟨#[120, 111, 114]⟩, .string ⟨#[115, 114, 108]⟩, .string ⟨#[115, 114, 97]⟩, .string ⟨#[111, 114]⟩, .string ⟨#[97, 110, 100]⟩, .string ⟨#[109, 117, 108]⟩, .string ⟨#[109, 117, 108, 104]⟩, .string ⟨#[109, 117, 108, 104, 115, 117]⟩, .string ⟨#[109, 117, 108, 104, 117]⟩, .string ⟨#[100, 105, 118]⟩, .string ⟨#[100, 105, 118, 117]⟩, .string ⟨#[114, 101, 109]⟩, .string ⟨#[114, 101, 109, 117]⟩, .string ⟨#[102, 101, 110, 99, 101]⟩, .string ⟨#[102, 101, 110, 99, 101, 46, 105]⟩, .string ⟨#[101, 99, 97, 108, 108]⟩, .string ⟨#[101, 98, 114, 101, 97, 107]⟩, .string ⟨#[109, 114, 101, 116]⟩, .string ⟨#[119, 102, 105]⟩, .string ⟨#[99, 115, 114, 114, 119]⟩, .string ⟨#[99, 115, 114, 114, 115]⟩, .string ⟨#[99, 115, 114, 114, 99]⟩, .string ⟨#[99, 115, 114, 114, 119, 105]⟩, .string ⟨#[99, 115, 114, 114, 115, 105]⟩, .string ⟨#[99, 115, 114, 114, 99, 105]⟩]) 9)).cell? ⟨w.heap.size, op, none⟩ = some (.string (nmB op)) := (cell_of_row _ _ _ _ _ _ (heap_alloc_new w _)).trans (nm_cell op h)
  have hb := (Below.refl w.heap.size w).alloc (Nat.le_refl _) (.cells (#[.string ⟨#[108, 117, 105]⟩, .string ⟨#[97, 117, 105, 112, 99]⟩, .string ⟨#[106, 97, 108]⟩, .string ⟨#[106, 97, 108, 114]⟩, .string ⟨#[98, 101, 113]⟩, .string ⟨#[98, 110, 101]⟩, .string ⟨#[98, 108, 116]⟩, .string ⟨#[98, 103, 101]⟩, .string ⟨#[98, 108, 116, 117]⟩, .string ⟨#[98, 103, 101, 117]⟩, .string ⟨#[108, 98]⟩, .string ⟨#[108, 104]⟩, .string ⟨#[108, 119]⟩, .string ⟨#[108, 98, 117]⟩, .string ⟨#[108, 104, 117]⟩, .string ⟨#[115, 98]⟩, .string ⟨#[115, 104]⟩, .string ⟨#[115, 119]⟩, .string ⟨#[97, 100, 100, 105]⟩, .string ⟨#[115, 108, 116, 105]⟩, .string ⟨#[115, 108, 116, 105, 117]⟩, .string ⟨#[120, 111, 114, 105]⟩, .string ⟨#[111, 114, 105]⟩, .string ⟨#[97, 110, 100, 105]⟩, .string ⟨#[115, 108, 108, 105]⟩, .string ⟨#[115, 114, 108, 105]⟩, .string ⟨#[115, 114, 97, 105]⟩, .string ⟨#[97, 100, 100]⟩, .string ⟨#[115, 117, 98]⟩, .string ⟨#[115, 108, 108]⟩, .string ⟨#[115, 108, 116]⟩, .string ⟨#[115, 108, 116, 117]⟩, .string ⟨#[120, 111, 114]⟩, .string ⟨#[115, 114, 108]⟩, .string ⟨#[115, 114, 97]⟩, .string ⟨#[111, 114]⟩, .string ⟨#[97, 110, 100]⟩, .string ⟨#[109, 117, 108]⟩, .string ⟨#[109, 117, 108, 104]⟩, .string ⟨#[109, 117, 108, 104, 115, 117]⟩, .string ⟨#[109, 117, 108, 104, 117]⟩, .string ⟨#[100, 105, 118]⟩, .string ⟨#[100, 105, 118, 117]⟩, .string ⟨#[114, 101, 109]⟩, .string ⟨#[114, 101, 109, 117]⟩, .string ⟨#[102, 101, 110, 99, 101]⟩, .string ⟨#[102, 101, 110, 99, 101, 46, 105]⟩, .string ⟨#[101, 99, 97, 108, 108]⟩, .string ⟨#[101, 98, 114, 101, 97, 107]⟩, .string ⟨#[109, 114, 101, 116]⟩, .string ⟨#[119, 102, 105]⟩, .string ⟨#[99, 115, 114, 114, 119]⟩, .string ⟨#[99, 115, 114, 114, 115]⟩, .string ⟨#[99, 115, 114, 114, 99]⟩, .string ⟨#[99, 115, 114, 114, 119, 105]⟩, .string ⟨#[99, 115, 114, 114, 115, 105]⟩, .string ⟨#[99, 115, 114, 114, 99, 105]⟩]) 9)
  have HB := Lib.hid hb
  have HC := Lib.hid hc
  clear hb hc
  generalize nmB op = s at *
  go_enter Tryz.func40, Tryz.ntmps40
  go_upto_region 4 with (fail)
  have hc := HC.out
  have hb := HB
  generalize w.alloc (.cells (#[.string ⟨#[108, 117, 105]⟩, .string ⟨#[97, 117, 105, 112, 99]⟩, .string ⟨#[106, 97, 108]⟩, .string ⟨#[106, 97, 108, 114]⟩, .string ⟨#[98, 101, 113]⟩, .string ⟨#[98, 110, 101]⟩, .string ⟨#[98, 108, 116]⟩, .string ⟨#[98, 103, 101]⟩, .string ⟨#[98, 108, 116, 117]⟩, .string ⟨#[98, 103, 101, 117]⟩, .string ⟨#[108, 98]⟩, .string ⟨#[108, 104]⟩, .string ⟨#[108, 119]⟩, .string ⟨#[108, 98, 117]⟩, .string ⟨#[108, 104, 117]⟩, .string ⟨#[115, 98]⟩, .string ⟨#[115, 104]⟩, .string ⟨#[115, 119]⟩, .string ⟨#[97, 100, 100, 105]⟩, .string ⟨#[115, 108, 116, 105]⟩, .string ⟨#[115, 108, 116, 105, 117]⟩, .string ⟨#[120, 111, 114, 105]⟩, .string ⟨#[111, 114, 105]⟩, .string ⟨#[97, 110, 100, 105]⟩, .string ⟨#[115, 108, 108, 105]⟩, .string ⟨#[115, 114, 108, 105]⟩, .string ⟨#[115, 114, 97, 105]⟩, .string ⟨#[97, 100, 100]⟩, .string ⟨#[115, 117, 98]⟩, .string ⟨#[115, 108, 108]⟩, .string ⟨#[115, 108, 116]⟩, .string ⟨#[115, 108, 116, 117]⟩, .string ⟨#[120, 111, 114]⟩, .string ⟨#[115, 114, 108]⟩, .string ⟨#[115, 114, 97]⟩, .string ⟨#[111, 114]⟩, .string ⟨#[97, 110, 100]⟩, .string ⟨#[109, 117, 108]⟩, .string ⟨#[109, 117, 108, 104]⟩, .string ⟨#[109, 117, 108, 104, 115, 117]⟩, .string ⟨#[109, 117, 108, 104, 117]⟩, .string ⟨#[100, 105, 118]⟩, .string ⟨#[100, 105, 118, 117]⟩, .string ⟨#[114, 101, 109]⟩, .string ⟨#[114, 101, 109, 117]⟩, .string ⟨#[102, 101, 110, 99, 101]⟩, .string ⟨#[102, 101, 110, 99, 101, 46, 105]⟩, .string ⟨#[101, 99, 97, 108, 108]⟩, .string ⟨#[101, 98, 114, 101, 97, 107]⟩, .string ⟨#[109, 114, 101, 116]⟩, .string ⟨#[119, 102, 105]⟩, .string ⟨#[99, 115, 114, 114, 119]⟩, .string ⟨#[99, 115, 114, 114, 115]⟩, .string ⟨#[99, 115, 114, 114, 99]⟩, .string ⟨#[99, 115, 114, 114, 119, 105]⟩, .string ⟨#[99, 115, 114, 114, 115, 105]⟩, .string ⟨#[99, 115, 114, 114, 99, 105]⟩]) 9) = W at *
  go_wp2
  go_ret
  exact ⟨rfl, hb.out⟩
set_option maxHeartbeats 1000000 in
theorem rname_out (op : Int) (h : ¬ (0 ≤ op ∧ op < 57)) (w : World) : Calls Tryz.prog 40 #[.int .i64 op] w fun e w' => e = .returned (.string ⟨#[]⟩) ∧ Below w.heap.size w w' := by
  by_cases h0 : op < 0
  · go_enter Tryz.func40, Tryz.ntmps40
    go_wp2
    go_ret
    exact ⟨rfl, Below.refl _ _⟩
  · have h1 : 57 ≤ op := by omega
    go_enter Tryz.func40, Tryz.ntmps40
    go_wp2
    go_ret
    exact ⟨rfl, Below.refl _ _⟩
set_option maxHeartbeats 1000000 in
theorem name_out (op : Int) (h : ¬ (0 ≤ op ∧ op < 57)) (w : World) : Calls Tryz.prog 37 #[.int .i64 op] w fun e w' => e = .returned (.string ⟨#[]⟩) ∧ w = w' := by
  have I := Lib.hid (fun w => by have h' := is_any op w; rw [decide_eq_false h] at h'; exact h')
  clear h
  go_enter Tryz.func37, Tryz.ntmps37
  go_wp2_with (go_at_call 68; refine (I.out _).mono ?_; rintro e w' ⟨rfl, rfl⟩)
  go_ret
  exact ⟨rfl, rfl⟩
set_option maxHeartbeats 1000000 in
theorem kind_out (op : Int) (h : ¬ (0 ≤ op ∧ op < 57)) (w : World) : Calls Tryz.prog 58 #[.int .i64 op] w fun e w' => e = .returned (.int .u8 0) ∧ w = w' := by
  have I := Lib.hid (fun w => by have h' := is_any op w; rw [decide_eq_false h] at h'; exact h')
  clear h
  go_enter Tryz.func58, Tryz.ntmps58
  go_wp2_with (go_at_call 68; refine (I.out _).mono ?_; rintro e w' ⟨rfl, rfl⟩)
  go_ret
  exact ⟨rfl, rfl⟩
set_option maxHeartbeats 1000000 in
theorem rkind_in (op : Nat) (h : op < 57) (w : World) : Calls Tryz.prog 30 #[.int .i64 op] w fun e w' => e = .returned (.int .u8 (kN op : Nat)) ∧ w = w' := by
  have hopI : (op : Int) < 57 := by omega
  have hK := kByte op h
  generalize kN op = k at *
  go_enter Tryz.func30, Tryz.ntmps30
  go_wp2
  go_ret
  exact ⟨rfl, rfl⟩
set_option maxHeartbeats 1000000 in
theorem rkind_out (op : Int) (h : ¬ (0 ≤ op ∧ op < 57)) (w : World) : Calls Tryz.prog 30 #[.int .i64 op] w fun e w' => e = .returned (.int .u8 0) ∧ w = w' := by
  by_cases h0 : op < 0
  · go_enter Tryz.func30, Tryz.ntmps30
    go_wp2
    go_ret
    exact ⟨rfl, rfl⟩
  · have h1 : 57 ≤ op := by omega
    go_enter Tryz.func30, Tryz.ntmps30
    go_wp2
    go_ret
    exact ⟨rfl, rfl⟩

set_option maxHeartbeats 2000000 in
theorem find_miss (s : ByteArray) (hs : ∀ j, j < 57 → nmTab.getD j [] ≠ s.data.toList) (w : World) (hN : TabS w) : Calls Tryz.prog 45 #[.string s] w fun e w' => e = .returned (.tuple #[.int .i64 0, errV 6]) ∧ w = w' := by
  have HN := Lib.hid hN
  have HS := Lib.hid hs
  clear hN hs
  have hE : errV 6 = .iface 56 (.int .i64 6) := rfl
  rw [hE]
  clear hE
  go_enter Tryz.func45, Tryz.ntmps45
  go_upto_region 2 with (fail)
  go_loopw [5] (fun i wr => ∃ j : Nat, j ≤ 57 ∧ i = .int .i64 j ∧ wr = w) (fun i _ => 57 - (intOf i).toNat)
  case atStart => exact ⟨0, by omega, rfl, rfl⟩
  case round =>
    obtain ⟨j, hj, rfl, rfl⟩ := hrel
    by_cases hj57 : j < 57
    · have hjI : (j : Int) < 57 := by omega
      obtain ⟨t, ht1, ht2⟩ := HN.out j hj57
      have hlt := block_lt_of_cell ht1
      have hne : t ≠ s := fun h => by
        rw [h] at ht2
        exact HS.out j hj57 ht2.symm
      have hne2 : (t.toList == s.toList) = false := str_ne hne
      clear ht2
      go_wp2
      exact ⟨⟨j + 1, by omega, by simp, trivial⟩, by simp [intOf]; omega⟩
    · obtain rfl : j = 57 := by omega
      go_wp2
      go_ret2
      exact ⟨rfl, rfl⟩
theorem nmB_toList (j : Nat) : (nmB j).data.toList = nmTab.getD j [] := rfl
set_option maxHeartbeats 2000000 in
theorem rfind_hit (s : ByteArray) (op : Nat) (hop : op < 57) (hs : s.data.toList = nmTab.getD op []) (w : World) : Calls Tryz.prog 29 #[.string s] w fun e w' => e = .returned (.tuple #[.int .i64 op, .int .i64 0]) ∧ Below w.heap.size w w' := by
  have HS := Lib.hid hs
  clear hs
  go_enter Tryz.func29, Tryz.ntmps29
  go_upto_region 2 with (fail)
  go_loopw [4] (fun i wr => ∃ j : Nat, j ≤ op ∧ i = .int .i64 j ∧ Below w.heap.size w wr) (fun i _ => 57 - (intOf i).toNat)
  case atStart => exact ⟨0, by omega, rfl, Below.refl _ _⟩
  case round =>
    rename_i wr
    obtain ⟨j, hj, rfl, hbel⟩ := hrel
    have hj57 : j < 57 := by omega
    have hjI : (j : Int) < 57 := by omega
    have N := Lib.hid (fun w => rname_in j hj57 w)
    have HB := Lib.hid hbel
    clear hbel
    by_cases hje : j < op
    · have hne : nmB j ≠ s := fun h => by
        have e := HS.out
        rw [← h, nmB_toList] at e
        have := nm_inj _ hj57 _ hop e
        omega
      have hne2 : ((nmB j).toList == s.toList) = false := str_ne hne
      generalize nmB j = t at *
      go_wp2_with (go_at_call 40; refine (N.out _).mono ?_; rintro e w1 ⟨rfl, hb⟩)
      exact ⟨⟨j + 1, by omega, by simp, HB.out.trans (hb.mono HB.out.size)⟩, by simp [intOf]; omega⟩
    · obtain rfl : j = op := by omega
      have hts : nmB j = s := (bytes_ext (nmB_toList j)).trans (bytes_ext HS.out).symm
      rw [hts] at N
      clear hts
      go_wp2_with (go_at_call 40; refine (N.out _).mono ?_; rintro e w1 ⟨rfl, hb⟩)
      go_ret2
      exact ⟨rfl, HB.out.trans (hb.mono HB.out.size)⟩
set_option maxHeartbeats 2000000 in
theorem rfind_miss (s : ByteArray) (hs : ∀ j, j < 57 → nmTab.getD j [] ≠ s.data.toList) (w : World) : Calls Tryz.prog 29 #[.string s] w fun e w' => e = .returned (.tuple #[.int .i64 0, .int .i64 6]) ∧ Below w.heap.size w w' := by
  have HS := Lib.hid hs
  clear hs
  go_enter Tryz.func29, Tryz.ntmps29
  go_upto_region 2 with (fail)
  go_loopw [4] (fun i wr => ∃ j : Nat, j ≤ 57 ∧ i = .int .i64 j ∧ Below w.heap.size w wr) (fun i _ => 57 - (intOf i).toNat)
  case atStart => exact ⟨0, by omega, rfl, Below.refl _ _⟩
  case round =>
    rename_i wr
    obtain ⟨j, hj, rfl, hbel⟩ := hrel
    have HB := Lib.hid hbel
    clear hbel
    by_cases hj57 : j < 57
    · have hjI : (j : Int) < 57 := by omega
      have N := Lib.hid (fun w => rname_in j hj57 w)
      have hne : nmB j ≠ s := fun h => by
        have e := HS.out j hj57
        rw [← h, nmB_toList] at e
        exact e rfl
      have hne2 : ((nmB j).toList == s.toList) = false := str_ne hne
      generalize nmB j = t at *
      go_wp2_with (go_at_call 40; refine (N.out _).mono ?_; rintro e w1 ⟨rfl, hb⟩)
      exact ⟨⟨j + 1, by omega, by simp, HB.out.trans (hb.mono HB.out.size)⟩, by simp [intOf]; omega⟩
    · obtain rfl : j = 57 := by omega
      go_wp2
      go_ret2
      exact ⟨rfl, HB.out⟩

end Go.Proofs.YtkcdnhennnjneaaGreatDoor
