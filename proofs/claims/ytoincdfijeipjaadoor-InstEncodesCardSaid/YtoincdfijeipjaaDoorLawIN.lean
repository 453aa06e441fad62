import Derived.Test.YtoincdfijeipjaaDoorLawIAl0
import Derived.Below
import Derived.Deep.Draws
import Derived.Deep.AppendLies
import Derived.Maps.AppendAt
import Derived.OwnWalk
import Derived.Laws.BytesArg
import Derived.Laws.MakeOwn
import Derived.Laws.OwnMore
import Derived.Deep.OwnRows
import Derived.Tactics
import Derived.Lib.ConvBytes
import Derived.Laws.Slices
import Derived.WalkKit
import Derived.KernelRfl
import Derived.RowKit3
import Derived.Deep.LoopGhost
import Derived.Deep.QuietTactic
import Derived.BigQuiet
import Derived.WideLaws
import Derived.Deep.DeepCutAuto
import Derived.Deep.CutBlock
import Derived.Deep.RegionHeld3
import Derived.Laws.Rows
import Derived.Lib.AppendStr
import Derived.ArgAppend
import Derived.Laws.IdiomCopy
import Derived.OrdersHeld
import Derived.Laws.BitsLemmas
import Derived.RowKit
import Derived.Lib.Hide
import Derived.Laws.BitsAllLaws
import Derived.WalkLawsBesides
import Derived.WalkSpells
import Derived.LaidEql
namespace Go.Proofs.YtoincdfijeipjaaDoor
open Go.RowKit
set_option maxRecDepth 100000
set_option linter.unusedVariables false
set_option linter.unusedSimpArgs false

/-- an operation's name, as bytes -/
def nmB (op : Nat) : ByteArray := ⟨(nmTab.getD op []).toArray⟩
theorem nm_lit : ((#[.string ⟨#[108, 117, 105]⟩, .string ⟨#[97, 117, 105, 112, 99]⟩, .string ⟨#[106, 97, 108]⟩, .string ⟨#[106, 97, 108, 114]⟩, .string ⟨#[98, 101, 113]⟩, .string ⟨#[98, 110, 101]⟩, .string ⟨#[98, 108, 116]⟩, .string ⟨#[98, 103, 101]⟩, .string ⟨#[98, 108, 116, 117]⟩, .string ⟨#[98, 103, 101, 117]⟩, .string ⟨#[108, 98]⟩, .string ⟨#[108, 104]⟩, .string ⟨#[108, 119]⟩, .string ⟨#[108, 98, 117]⟩, .string ⟨#[108, 104, 117]⟩, .string ⟨#[115, 98]⟩, .string ⟨#[115, 104]⟩, .string ⟨#[115, 119]⟩, .string ⟨#[97, 100, 100, 105]⟩, .string ⟨#[115, 108, 116, 105]⟩, .string ⟨#[115, 108, 116, 105, 117]⟩, .string ⟨#[120, 111, 114, 105]⟩, .string ⟨#[111, 114, 105]⟩, .string ⟨#[97, 110, 100, 105]⟩, .string ⟨#[115, 108, 108, 105]⟩, .string ⟨#[115, 114, 108, 105]⟩, .string ⟨#[115, 114, 97, 105]⟩, .string ⟨#[97, 100, 100]⟩, .string ⟨#[115, 117, 98]⟩, .string ⟨#[115, 108, 108]⟩, .string ⟨#[115, 108, 116]⟩, .string ⟨#[115, 108, 116, 117]⟩, .string ⟨#[120, 111, 114]⟩, .string ⟨#[115, 114, 108]⟩, .string ⟨#[115, 114, 97]⟩, .string ⟨#[111, 114]⟩, .string ⟨#[97, 110, 100]⟩, .string ⟨#[109, 117, 108]⟩, .string ⟨#[109, 117, 108, 104]⟩, .string ⟨#[109, 117, 108, 104, 115, 117]⟩, .string ⟨#[109, 117, 108, 104, 117]⟩, .string ⟨#[100, 105, 118]⟩, .string ⟨#[100, 105, 118, 117]⟩, .string ⟨#[114, 101, 109]⟩, .string ⟨#[114, 101, 109, 117]⟩, .string ⟨#[102, 101, 110, 99, 101]⟩, .string ⟨#[102, 101, 110, 99, 101, 46, 105]⟩, .string ⟨#[101, 99, 97, 108, 108]⟩, .string ⟨#[101, 98, 114, 101, 97, 107]⟩, .string ⟨#[109, 114, 101, 116]⟩, .string ⟨#[119, 102, 105]⟩, .string ⟨#[99, 115, 114, 114, 119]⟩, .string ⟨#[99, 115, 114, 114, 115]⟩, .string ⟨#[99, 115, 114, 114, 99]⟩, .string ⟨#[99, 115, 114, 114, 119, 105]⟩, .string ⟨#[99, 115, 114, 114, 115, 105]⟩, .string ⟨#[99, 115, 114, 114, 99, 105]⟩]) : Array Value) = nmCells := by kernel_rfl
theorem nm_len : nmTab.length = 57 := by decide +kernel
theorem nm_cell (op : Nat) (h : op < 57) : ((#[.string ⟨#[108, 117, 105]⟩, .string ⟨#[97, 117, 105, 112, 99]⟩, .string ⟨#[106, 97, 108]⟩, .string ⟨#[106, 97, 108, 114]⟩, .string ⟨#[98, 101, 113]⟩, .string ⟨#[98, 110, 101]⟩, .string ⟨#[98, 108, 116]⟩, .string ⟨#[98, 103, 101]⟩, .string ⟨#[98, 108, 116, 117]⟩, .string ⟨#[98, 103, 101, 117]⟩, .string ⟨#[108, 98]⟩, .string ⟨#[108, 104]⟩, .string ⟨#[108, 119]⟩, .string ⟨#[108, 98, 117]⟩, .string ⟨#[108, 104, 117]⟩, .string ⟨#[115, 98]⟩, .string ⟨#[115, 104]⟩, .string ⟨#[115, 119]⟩, .string ⟨#[97, 100, 100, 105]⟩, .string ⟨#[115, 108, 116, 105]⟩, .string ⟨#[115, 108, 116, 105, 117]⟩, .string ⟨#[120, 111, 114, 105]⟩, .string ⟨#[111, 114, 105]⟩, .string ⟨#[97, 110, 100, 105]⟩, .string ⟨#[115, 108, 108, 105]⟩, .string ⟨#[115, 114, 108, 105]⟩, .string ⟨#[115, 114, 97, 105]⟩, .string ⟨#[97, 100, 100]⟩, .string ⟨#[115, 117, 98]⟩, .string ⟨#[115, 108, 108]⟩, .string ⟨#[115, 108, 116]⟩, .string ⟨#[115, 108, 116, 117]⟩, .string ⟨#[120, 111, 114]⟩, .string ⟨#[115, 114, 108]⟩, .string ⟨#[115, 114, 97]⟩, .string ⟨#[111, 114]⟩, .string ⟨#[97, 110, 100]⟩, .string ⟨#[109, 117, 108]⟩, .string ⟨#[109, 117, 108, 104]⟩, .string ⟨#[109, 117, 108, 104, 115, 117]⟩, .string ⟨#[109, 117, 108, 104, 117]⟩, .string ⟨#[100, 105, 118]⟩, .string ⟨#[100, 105, 118, 117]⟩, .string ⟨#[114, 101, 109]⟩, .string ⟨#[114, 101, 109, 117]⟩, .string ⟨#[102, 101, 110, 99, 101]⟩, .string ⟨#[102, 101, 110, 99, 101, 46, 105]⟩, .string ⟨#[101, 99, 97, 108, 108]⟩, .string ⟨#[101, 98, 114, 101, 97, 107]⟩, .string ⟨#[109, 114, 101, 116]⟩, .string ⟨#[119, 102, 105]⟩, .string ⟨#[99, 115, 114, 114, 119]⟩, .string ⟨#[99, 115, 114, 114, 115]⟩, .string ⟨#[99, 115, 114, 114, 99]⟩, .string ⟨#[99, 115, 114, 114, 119, 105]⟩, .string ⟨#[99, 115, 114, 114, 115, 105]⟩, .string ⟨#[99, 115, 114, 114, 99, 105]⟩]) : Array Value)[op]? = some (.string (nmB op)) := by
  rw [nm_lit]
  unfold nmCells nmB
  have hl := nm_len
  simp [List.getElem?_map, List.getD, List.getElem?_eq_getElem (show op < nmTab.length by omega)]
set_option maxHeartbeats 4000000 in
theorem rname_in (op : Nat) (h : op < 57) (w : World) : Calls Tryd.prog 22 #[.int .i64 op] w fun e w' => e = .returned (.string (nmB op)) ∧ Below w.heap.size w w' := by
  have hopI : (op : Int) < 57 := by omega
  have hc : (w.alloc (.cells (#[.string ⟨#[108, 117, 105]⟩, .string ⟨#[97, 117, 105, 112, 99]⟩, .string ⟨#[106, 97, 108]⟩, .string ⟨#[106, 97, 108, 114]⟩, .string ⟨#[98, 101, 113]⟩, .string ⟨#[98, 110, 101]⟩, .string ⟨#[98, 108, 116]⟩, .string ⟨#[98, 103, 101]⟩, .string ⟨#[98, 108, 116, 117]⟩, .string ⟨#[98, 103, 101, 117]⟩, .string ⟨#[108, 98]⟩, .string ⟨#[108, 104]⟩, .string ⟨#[108, 119]⟩, .string ⟨#[108, 98, 117]⟩, .string ⟨#[108, 104, 117]⟩, .string ⟨#[115, 98]⟩, .string ⟨#[115, 104]⟩, .string ⟨#[115, 119]⟩, .string ⟨#[97, 100, 100, 105]⟩, .string ⟨#[115, 108, 116, 105]⟩, .string ⟨#[115, 108, 116, 105, 117]⟩, .string ⟨#[120, 111, 114, 105]⟩, .string ⟨#[111, 114, 105]⟩, .string ⟨#[97, 110, 100, 105]⟩, .string ⟨#[115, 108, 108, 105]⟩, .string ⟨#[115, 114, 108, 105]⟩, .string ⟨#[115, 114, 97, 105]⟩, .string ⟨#[97, 100, 100]⟩, .string ⟨#[115, 117, 98]⟩, .string ⟨#[115, 108, 108]⟩, .string ⟨#[115, 108, 116]⟩, .string ⟨#[115, 108, 116, 117]⟩, .string ⟨#[120, 111, 114]⟩, .string ⟨#[115, 114, 108]⟩, .string ⟨#[115, 114, 97]⟩, .string ⟨#[111, 114]⟩, .string ⟨#[97, 110, 100]⟩, .string ⟨#[109, 117, 108]⟩, .string ⟨#[109, 117, 108, 104]⟩, .string ⟨#[109, 117, 108, 104, 115, 117]⟩, .string ⟨#[109, 117, 108, 104, 117]⟩, .string ⟨#[100, 105, 118]⟩, .string ⟨#[100, 105, 118, 117]⟩, .string ⟨#[114, 101, 109]⟩, .string ⟨#[114, 101, 109, 117]⟩, .string ⟨#[102, 101, 110, 99, 101]⟩, .string ⟨#[102, 101, 110, 99, 101, 46, 105]⟩, .string ⟨#[101, 99, 97, 108, 108]⟩, .string ⟨#[101, 98, 114, 101, 97, 107]⟩, .string ⟨#[109, 114, 101, 116]⟩, .string ⟨#[119, 102, 105]⟩, .string ⟨#[99, 115, 114, 114, 119]⟩, .string ⟨#[99, 115, 114, 114, 115]⟩, .string ⟨#[99, 115, 114, 114, 99]⟩, .string ⟨#[99, 115, 114, 114, 119, 105]⟩, .string ⟨#[99, 115, 114, 114, 115, 105]⟩, .string ⟨#[99, 115, 114, 114, 99, 105]⟩]) 9)).cell? ⟨w.heap.size, op, none⟩ = some (.string (nmB op)) := (cell_of_row _ _ _ _ _ _ (heap_alloc_new w _)).trans (nm_cell op h)
  have hb := (Below.refl w.heap.size w).alloc (Nat.le_refl _) (.cells (#[.string ⟨#[108, 117, 105]⟩, .string ⟨#[97, 117, 105, 112, 99]⟩, .string ⟨#[106, 97, 108]⟩, .string ⟨#[106, 97, 108, 114]⟩, .string ⟨#[98, 101, 113]⟩, .string ⟨#[98, 110, 101]⟩, .string ⟨#[98, 108, 116]⟩, .string ⟨#[98, 103, 101]⟩, .string ⟨#[98, 108, 116, 117]⟩, .string ⟨#[98, 103, 101, 117]⟩, .string ⟨#[108, 98]⟩, .string ⟨#[108, 104]⟩, .string ⟨#[108, 119]⟩, .string ⟨#[108, 98, 117]⟩, .string ⟨#[108, 104, 117]⟩, .string ⟨#[115, 98]⟩, .string ⟨#[115, 104]⟩, .string ⟨#[115, 119]⟩, .string ⟨#[97, 100, 100, 105]⟩, .string ⟨#[115, 108, 116, 105]⟩, .string ⟨#[115, 108, 116, 105, 117]⟩, .string ⟨#[120, 111, 114, 105]⟩, .string ⟨#[111, 114, 105]⟩, .string ⟨#[97, 110, 100, 105]⟩, .string ⟨#[115, 108, 108, 105]⟩, .string ⟨#[115, 114, 108, 105]⟩, .string ⟨#[115, 114, 97, 105]⟩, .string ⟨#[97, 100, 100]⟩, .string ⟨#[115, 117, 98]⟩, .string ⟨#[115, 108, 108]⟩, .string ⟨#[115, 108, 116]⟩, .string ⟨#[115, 108, 116, 117]⟩, .string ⟨#[120, 111, 114]⟩, .string ⟨#[115, 114, 108]⟩, .string ⟨#[115, 114, 97]⟩, .string ⟨#[111, 114]⟩, .string ⟨#[97, 110, 100]⟩, .string ⟨#[109, 117, 108]⟩, .string ⟨#[109, 117, 108, 104]⟩, .string ⟨#[109, 117, 108, 104, 115, 117]⟩, .string ⟨#[109, 117, 108, 104, 117]⟩, .string ⟨#[100, 105, 118]⟩, .string ⟨#[100, 105, 118, 117]⟩, .string ⟨#[114, 101, 109]⟩, .string ⟨#[114, 101, 109, 117]⟩, .string ⟨#[102, 101, 110, 99, 101]⟩, .string ⟨#[102, 101, 110, 99, 101, 46, 105]⟩, .string ⟨#[101, 99, 97, 108, 108]⟩, .string ⟨#[101, 98, 114, 101, 97, 107]⟩, .string ⟨#[109, 114, 101, 116]⟩, .string ⟨#[119, 102, 105]⟩, .string ⟨#[99, 115, 114, 114, 119]⟩, .string ⟨#[99, 115, 114, 114, 115]⟩, .string ⟨#[99, 115, 114, 114, 99]⟩, .string ⟨#[99, 115, 114, 114, 119, 105]⟩, .string ⟨#[99, 115, 114, 114, 115, 105]⟩, .string ⟨#[99, 115, 114, 114, 99, 105]⟩]) 9)
  have HB := Lib.hid hb
  have HC := Lib.hid hc
  clear hb hc
  generalize nmB op = s at *
  go_enter Tryd.func22, Tryd.ntmps22
  go_upto_region 4 with (fail)
  have hc := HC.out
  have hb := HB
  generalize w.alloc (.cells (#[.string ⟨#[108, 117, 105]⟩, .string ⟨#[97, 117, 105, 112, 99]⟩, .string ⟨#[106, 97, 108]⟩, .string ⟨#[106, 97, 108, 114]⟩, .string ⟨#[98, 101, 113]⟩, .string ⟨#[98, 110, 101]⟩, .string ⟨#[98, 108, 116]⟩, .string ⟨#[98, 103, 101]⟩, .string ⟨#[98, 108, 116, 117]⟩, .string ⟨#[98, 103, 101, 117]⟩, .string ⟨#[108, 98]⟩, .string ⟨#[108, 104]⟩, .string ⟨#[108, 119]⟩, .string ⟨#[108, 98, 117]⟩, .string ⟨#[108, 104, 117]⟩, .string ⟨#[115, 98]⟩, .string ⟨#[115, 104]⟩, .string ⟨#[115, 119]⟩, .string ⟨#[97, 100, 100, 105]⟩, .string ⟨#[115, 108, 116, 105]⟩, .string ⟨#[115, 108, 116, 105, 117]⟩, .string ⟨#[120, 111, 114, 105]⟩, .string ⟨#[111, 114, 105]⟩, .string ⟨#[97, 110, 100, 105]⟩, .string ⟨#[115, 108, 108, 105]⟩, .string ⟨#[115, 114, 108, 105]⟩, .string ⟨#[115, 114, 97, 105]⟩, .string ⟨#[97, 100, 100]⟩, .string ⟨#[115, 117, 98]⟩, .string ⟨#[115, 108, 108]⟩, .string ⟨#[115, 108, 116]⟩, .string ⟨#[115, 108, 116, 117]⟩, .string ⟨#[120, 111, 114]⟩, .string ⟨#[115, 114, 108]⟩, .string ⟨#[115, 114, 97]⟩, .string ⟨#[111, 114]⟩, .string ⟨#[97, 110, 100]⟩, .string ⟨#[109, 117, 108]⟩, .string ⟨#[109, 117, 108, 104]⟩, .string ⟨#[109, 117, 108, 104, 115, 117]⟩, .string ⟨#[109, 117, 108, 104, 117]⟩, .string ⟨#[100, 105, 118]⟩, .string ⟨#[100, 105, 118, 117]⟩, .string ⟨#[114, 101, 109]⟩, .string ⟨#[114, 101, 109, 117]⟩, .string ⟨#[102, 101, 110, 99, 101]⟩, .string ⟨#[102, 101, 110, 99, 101, 46, 105]⟩, .string ⟨#[101, 99, 97, 108, 108]⟩, .string ⟨#[101, 98, 114, 101, 97, 107]⟩, .string ⟨#[109, 114, 101, 116]⟩, .string ⟨#[119, 102, 105]⟩, .string ⟨#[99, 115, 114, 114, 119]⟩, .string ⟨#[99, 115, 114, 114, 115]⟩, .string ⟨#[99, 115, 114, 114, 99]⟩, .string ⟨#[99, 115, 114, 114, 119, 105]⟩, .string ⟨#[99, 115, 114, 114, 115, 105]⟩, .string ⟨#[99, 115, 114, 114, 99, 105]⟩]) 9) = W at *
  go_wp2
  go_ret
  exact ⟨rfl, hb.out⟩
set_option maxHeartbeats 1000000 in
theorem rname_out (op : Int) (h : ¬ (0 ≤ op ∧ op < 57)) (w : World) : Calls Tryd.prog 22 #[.int .i64 op] w fun e w' => e = .returned (.string ⟨#[]⟩) ∧ Below w.heap.size w w' := by
  by_cases h0 : op < 0
  · go_enter Tryd.func22, Tryd.ntmps22
    go_wp2
    go_ret
    exact ⟨rfl, Below.refl _ _⟩
  · have h1 : 57 ≤ op := by omega
    go_enter Tryd.func22, Tryd.ntmps22
    go_wp2
    go_ret
    exact ⟨rfl, Below.refl _ _⟩
set_option maxHeartbeats 1000000 in
theorem name_out (op : Int) (h : ¬ (0 ≤ op ∧ op < 57)) (w : World) : Calls Tryd.prog 21 #[.int .i64 op] w fun e w' => e = .returned (.string ⟨#[]⟩) ∧ w = w' := by
  have I := Lib.hid (fun w => by have h' := is_any op w; rw [decide_eq_false h] at h'; exact h')
  clear h
  go_enter Tryd.func21, Tryd.ntmps21
  go_wp2_with (go_at_call 47; refine (I.out _).mono ?_; rintro e w' ⟨rfl, rfl⟩)
  go_ret
  exact ⟨rfl, rfl⟩
set_option maxHeartbeats 1000000 in
theorem kind_out (op : Int) (h : ¬ (0 ≤ op ∧ op < 57)) (w : World) : Calls Tryd.prog 23 #[.int .i64 op] w fun e w' => e = .returned (.int .u8 0) ∧ w = w' := by
  have I := Lib.hid (fun w => by have h' := is_any op w; rw [decide_eq_false h] at h'; exact h')
  clear h
  go_enter Tryd.func23, Tryd.ntmps23
  go_wp2_with (go_at_call 47; refine (I.out _).mono ?_; rintro e w' ⟨rfl, rfl⟩)
  go_ret
  exact ⟨rfl, rfl⟩
set_option maxHeartbeats 1000000 in
theorem rkind_in (op : Nat) (h : op < 57) (w : World) : Calls Tryd.prog 24 #[.int .i64 op] w fun e w' => e = .returned (.int .u8 (kN op : Nat)) ∧ w = w' := by
  have hopI : (op : Int) < 57 := by omega
  have hK := kByte op h
  generalize kN op = k at *
  go_enter Tryd.func24, Tryd.ntmps24
  go_wp2
  go_ret
  exact ⟨rfl, rfl⟩
set_option maxHeartbeats 1000000 in
theorem rkind_out (op : Int) (h : ¬ (0 ≤ op ∧ op < 57)) (w : World) : Calls Tryd.prog 24 #[.int .i64 op] w fun e w' => e = .returned (.int .u8 0) ∧ w = w' := by
  by_cases h0 : op < 0
  · go_enter Tryd.func24, Tryd.ntmps24
    go_wp2
    go_ret
    exact ⟨rfl, rfl⟩
  · have h1 : 57 ≤ op := by omega
    go_enter Tryd.func24, Tryd.ntmps24
    go_wp2
    go_ret
    exact ⟨rfl, rfl⟩

set_option maxHeartbeats 2000000 in
theorem find_miss (s : ByteArray) (hs : ∀ j, j < 57 → nmTab.getD j [] ≠ s.data.toList) (w : World) (hN : TabS w) : Calls Tryd.prog 19 #[.string s] w fun e w' => e = .returned (.tuple #[.int .i64 0, errV 6]) ∧ w = w' := by
  have HN := Lib.hid hN
  have HS := Lib.hid hs
  clear hN hs
  have hE : errV 6 = .iface 84 (.int .i64 6) := rfl
  rw [hE]
  clear hE
  go_enter Tryd.func19, Tryd.ntmps19
  go_upto_region 2 with (fail)
  go_loopw [5] (fun i wr => ∃ j : Nat, j ≤ 57 ∧ i = .int .i64 j ∧ wr = w) (fun i _ => 57 - (intOf i).toNat)
  case atStart => exact ⟨0, by omega, rfl, rfl⟩
  case round =>
    obtain ⟨j, hj, rfl, rfl⟩ := hrel
    by_cases hj57 : j < 57
    · have hjI : (j : Int) < 57 := by omega
      obtain ⟨t, ht1, ht2⟩ := HN.out j hj57
      have hlt := block_lt_of_cell ht1
      have hne : t ≠ s := fun h => by
        rw [h] at ht2
        exact HS.out j hj57 ht2.symm
      have hne2 : (t.toList == s.toList) = false := str_ne hne
      clear ht2
      go_wp2
      exact ⟨⟨j + 1, by omega, by simp, trivial⟩, by simp [intOf]; omega⟩
    · obtain rfl : j = 57 := by omega
      go_wp2
      go_ret2
      exact ⟨rfl, rfl⟩
theorem nmB_toList (j : Nat) : (nmB j).data.toList = nmTab.getD j [] := rfl
set_option maxHeartbeats 2000000 in
theorem rfind_hit (s : ByteArray) (op : Nat) (hop : op < 57) (hs : s.data.toList = nmTab.getD op []) (w : World) : Calls Tryd.prog 20 #[.string s] w fun e w' => e = .returned (.tuple #[.int .i64 op, .int .i64 0]) ∧ Below w.heap.size w w' := by
  have HS := Lib.hid hs
  clear hs
  go_enter Tryd.func20, Tryd.ntmps20
  go_upto_region 2 with (fail)
  go_loopw [4] (fun i wr => ∃ j : Nat, j ≤ op ∧ i = .int .i64 j ∧ Below w.heap.size w wr) (fun i _ => 57 - (intOf i).toNat)
  case atStart => exact ⟨0, by omega, rfl, Below.refl _ _⟩
  case round =>
    rename_i wr
    obtain ⟨j, hj, rfl, hbel⟩ := hrel
    have hj57 : j < 57 := by omega
    have hjI : (j : Int) < 57 := by omega
    have N := Lib.hid (fun w => rname_in j hj57 w)
    have HB := Lib.hid hbel
    clear hbel
    by_cases hje : j < op
    · have hne : nmB j ≠ s := fun h => by
        have e := HS.out
        rw [← h, nmB_toList] at e
        have := nm_inj _ hj57 _ hop e
        omega
      have hne2 : ((nmB j).toList == s.toList) = false := str_ne hne
      generalize nmB j = t at *
      go_wp2_with (go_at_call 22; refine (N.out _).mono ?_; rintro e w1 ⟨rfl, hb⟩)
      exact ⟨⟨j + 1, by omega, by simp, HB.out.trans (hb.mono HB.out.size)⟩, by simp [intOf]; omega⟩
    · obtain rfl : j = op := by omega
      have hts : nmB j = s := (bytes_ext (nmB_toList j)).trans (bytes_ext HS.out).symm
      rw [hts] at N
      clear hts
      go_wp2_with (go_at_call 22; refine (N.out _).mono ?_; rintro e w1 ⟨rfl, hb⟩)
      go_ret2
      exact ⟨rfl, HB.out.trans (hb.mono HB.out.size)⟩
set_option maxHeartbeats 2000000 in
theorem rfind_miss (s : ByteArray) (hs : ∀ j, j < 57 → nmTab.getD j [] ≠ s.data.toList) (w : World) : Calls Tryd.prog 20 #[.string s] w fun e w' => e = .returned (.tuple #[.int .i64 0, .int .i64 6]) ∧ Below w.heap.size w w' := by
  have HS := Lib.hid hs
  clear hs
  go_enter Tryd.func20, Tryd.ntmps20
  go_upto_region 2 with (fail)
  go_loopw [4] (fun i wr => ∃ j : Nat, j ≤ 57 ∧ i = .int .i64 j ∧ Below w.heap.size w wr) (fun i _ => 57 - (intOf i).toNat)
  case atStart => exact ⟨0, by omega, rfl, Below.refl _ _⟩
  case round =>
    rename_i wr
    obtain ⟨j, hj, rfl, hbel⟩ := hrel
    have HB := Lib.hid hbel
    clear hbel
    by_cases hj57 : j < 57
    · have hjI : (j : Int) < 57 := by omega
      have N := Lib.hid (fun w => rname_in j hj57 w)
      have hne : nmB j ≠ s := fun h => by
        have e := HS.out j hj57
        rw [← h, nmB_toList] at e
        exact e rfl
      have hne2 : ((nmB j).toList == s.toList) = false := str_ne hne
      generalize nmB j = t at *
      go_wp2_with (go_at_call 22; refine (N.out _).mono ?_; rintro e w1 ⟨rfl, hb⟩)
      exact ⟨⟨j + 1, by omega, by simp, HB.out.trans (hb.mono HB.out.size)⟩, by simp [intOf]; omega⟩
    · obtain rfl : j = 57 := by omega
      go_wp2
      go_ret2
      exact ⟨rfl, HB.out⟩

theorem num_nil (w : World) : Calls Tryd.prog 13 #[.nilIface] w fun e w' => e = .returned (.int .i64 0) ∧ Below w.heap.size w w' := by
  go_enter Tryd.func13, Tryd.ntmps13
  go_wp2
  go_ret
  exact ⟨rfl, (Below.refl _ _).alloc (Nat.le_refl _) _⟩
set_option maxHeartbeats 1000000 in
theorem num_err (n : Int) (w : World) (hg : w.cell? ⟨2, 0, none⟩ = some errTy) : Calls Tryd.prog 13 #[.iface 84 (.int .i64 n)] w fun e w' => e = .returned (.int .i64 n) ∧ Below w.heap.size w w' := by
  have hgA : (w.alloc (.cells #[.int .i64 0] 84)).cell? ⟨2, 0, none⟩ = some errTy := by
    rw [World.cell?_alloc_lt _ _ ⟨2, 0, none⟩ (block_lt_of_cell hg)]; exact hg
  have htA : (w.alloc (.cells #[.int .i64 0] 84)).cell? ⟨w.heap.size, 0, none⟩ = some (.int .i64 0) := by simp
  have hfA : (w.alloc (.cells #[.int .i64 0] 84)).frozen? ⟨w.heap.size, 0, none⟩ = false := by simp
  have A := Lib.hid (as_hit n ⟨w.heap.size, 0, none⟩ (.int .i64 0) _ hgA htA hfA)
  clear hgA htA hfA hg
  go_enter Tryd.func13, Tryd.ntmps13
  go_wp2_with (go_at_call 43; refine A.out.mono ?_; rintro e w' ⟨rfl, rfl⟩)
  go_ret
  refine ⟨rfl, ?_⟩
  repeat' (first | (with_reducible exact Below.refl _ _) | (with_reducible refine Below.setCell ?_ ?_ _) | (with_reducible refine Below.alloc ?_ ?_ _) | (simp; done) | (simp; omega))
/-- an error's number, whatever the error -/
theorem num_any (n : Int) (w : World) (hg : w.cell? ⟨2, 0, none⟩ = some errTy) : Calls Tryd.prog 13 #[errV n] w fun e w' => e = .returned (.int .i64 n) ∧ Below w.heap.size w w' := by
  by_cases h : n = 0
  · subst h; exact num_nil w
  · have hE : errV n = .iface 84 (.int .i64 n) := by unfold errV; rw [if_neg h]
    rw [hE]; exact num_err n w hg

set_option maxHeartbeats 4000000 in
theorem instNames_core (op : Int) (s : ByteArray) (t t2 : ByteArray) (ht : (t.toList == t2.toList) = true) (ht2 : t.toList = t2.toList) (k : Nat) (n e : Int) (N1 : Hid (∀ w : World, TabS w → Calls Tryd.prog 21 #[.int .i64 op] w fun e w' => e = .returned (.string t) ∧ w = w')) (N2 : Hid (∀ w : World, Calls Tryd.prog 22 #[.int .i64 op] w fun e w' => e = .returned (.string t2) ∧ Below w.heap.size w w'))
    (K1 : Hid (∀ w : World, Calls Tryd.prog 23 #[.int .i64 op] w fun e w' => e = .returned (.int .u8 k) ∧ w = w')) (K2 : Hid (∀ w : World, Calls Tryd.prog 24 #[.int .i64 op] w fun e w' => e = .returned (.int .u8 k) ∧ w = w'))
    (F1 : Hid (∀ w : World, TabS w → Calls Tryd.prog 19 #[.string s] w fun e' w' => e' = .returned (.tuple #[.int .i64 n, errV e]) ∧ w = w')) (F2 : Hid (∀ w : World, Calls Tryd.prog 20 #[.string s] w fun e' w' => e' = .returned (.tuple #[.int .i64 n, .int .i64 e]) ∧ Below w.heap.size w w'))
    (w : World) (hT : TabW w) (hN : TabS w) (hg : w.cell? ⟨2, 0, none⟩ = some errTy) : Calls Tryd.prog 5 #[.int .i64 op, .string s] w fun e w' => e = .returned (.bool true) ∧ Below w.heap.size w w' := by
  have HS := Lib.hid (And.intro hT (And.intro hN hg))
  have NU := Lib.hid (fun w' (hb : Below w.heap.size w w') => num_any e w' ((World.cell?_of_block (a := ⟨2, 0, none⟩) (hb.block _ (block_lt_of_cell hg))).trans hg))
  have S := Lib.hid (fun w' (hb : Below w.heap.size w w') => isure_any w' (hT.below hb) (hN.below hb))
  generalize errV e = ev at *
  clear hT hN hg
  go_enter Tryd.func5, Tryd.ntmps5
  go_wp2_with (first | (go_at_call 19; refine (F1.out _ HS.out.2.1).mono ?_; rintro e w' ⟨rfl, rfl⟩) | (go_at_call 20; refine (F2.out _).mono ?_; rintro e w1 ⟨rfl, hb⟩; have G1 := Lib.hid hb; clear hb) | (go_at_call 21; refine (N1.out _ (HS.out.2.1.below G1.out)).mono ?_; rintro e w' ⟨rfl, rfl⟩) | (go_at_call 22; refine (N2.out _).mono ?_; rintro e w2 ⟨rfl, hb⟩; have G2 := Lib.hid (G1.out.trans (hb.mono G1.out.size)); clear hb) | (go_at_call 23; refine (K1.out _).mono ?_; rintro e w' ⟨rfl, rfl⟩) | (go_at_call 24; refine (K2.out _).mono ?_; rintro e w' ⟨rfl, rfl⟩) | (go_at_call 13; refine (NU.out _ G2.out).mono ?_; rintro e w3 ⟨rfl, hb⟩; have G3 := Lib.hid (G2.out.trans (hb.mono G2.out.size)); clear hb) | (go_at_call 14; refine (S.out _ G3.out).mono ?_; rintro e w4 ⟨rfl, hb⟩; have G4 := Lib.hid (G3.out.trans (hb.mono G3.out.size)); clear hb))
  go_ret
  exact ⟨rfl, G4.out⟩
theorem instNames_walk (op : Int) (l0 : -9223372036854775808 ≤ op) (u0 : op < 9223372036854775808) (s : ByteArray) (w : World) (hT : TabW w) (hN : TabS w) (hg : w.cell? ⟨2, 0, none⟩ = some errTy) : Calls Tryd.prog 5 #[.int .i64 op, .string s] w fun e w' => e = .returned (.bool true) ∧ Below w.heap.size w w' := by
  by_cases hf : ∃ j, j < 57 ∧ nmTab.getD j [] = s.data.toList
  · obtain ⟨j, hj, hf⟩ := hf
    have F1 := Lib.hid (fun w hN => find_hit s j hj hf.symm w hN)
    have F2 := Lib.hid (fun w => rfind_hit s j hj hf.symm w)
    by_cases h : 0 ≤ op ∧ op < 57
    · obtain ⟨o, rfl⟩ := Int.eq_ofNat_of_zero_le h.1
      have ho : o < 57 := by omega
      exact instNames_core o s (nmB o) (nmB o) (by simp) rfl (kN o) j 0 (Lib.hid fun w hN => by
        obtain ⟨t, h1, h2⟩ := hN o ho
        have e : t = nmB o := (bytes_ext h2).trans (bytes_ext (nmB_toList o)).symm
        subst e
        exact name_at o ho _ w h1) (Lib.hid fun w => rname_in o ho w) (Lib.hid fun w => kind_at o ho w) (Lib.hid fun w => rkind_in o ho w) F1 F2 w hT hN hg
    · exact instNames_core op s ⟨#[]⟩ ⟨#[]⟩ (by simp) rfl 0 j 0 (Lib.hid fun w _ => name_out op h w) (Lib.hid fun w => rname_out op h w) (Lib.hid fun w => kind_out op h w) (Lib.hid fun w => rkind_out op h w) F1 F2 w hT hN hg
  · have hf' : ∀ j, j < 57 → nmTab.getD j [] ≠ s.data.toList := fun j hj h => hf ⟨j, hj, h⟩
    have F1 := Lib.hid (fun w hN => find_miss s hf' w hN)
    have F2 := Lib.hid (fun w => rfind_miss s hf' w)
    by_cases h : 0 ≤ op ∧ op < 57
    · obtain ⟨o, rfl⟩ := Int.eq_ofNat_of_zero_le h.1
      have ho : o < 57 := by omega
      exact instNames_core o s (nmB o) (nmB o) (by simp) rfl (kN o) 0 6 (Lib.hid fun w hN => by
        obtain ⟨t, h1, h2⟩ := hN o ho
        have e : t = nmB o := (bytes_ext h2).trans (bytes_ext (nmB_toList o)).symm
        subst e
        exact name_at o ho _ w h1) (Lib.hid fun w => rname_in o ho w) (Lib.hid fun w => kind_at o ho w) (Lib.hid fun w => rkind_in o ho w) F1 F2 w hT hN hg
    · exact instNames_core op s ⟨#[]⟩ ⟨#[]⟩ (by simp) rfl 0 0 6 (Lib.hid fun w _ => name_out op h w) (Lib.hid fun w => rname_out op h w) (Lib.hid fun w => kind_out op h w) (Lib.hid fun w => rkind_out op h w) F1 F2 w hT hN hg

end Go.Proofs.YtoincdfijeipjaaDoor
