import Derived.Test.YtaknbakkahlilaaWordG
import Derived.Below
import Derived.Deep.Draws
import Derived.Deep.AppendLies
import Derived.Maps.AppendAt
import Derived.OwnWalk
import Derived.Laws.BytesArg
import Derived.Laws.MakeOwn
import Derived.Laws.OwnMore
import Derived.Deep.OwnRows
import Derived.Tactics
import Derived.Lib.ConvBytes
import Derived.Laws.Slices
import Derived.WalkKit
import Derived.KernelRfl
import Derived.RowKit3
import Derived.Deep.LoopGhost
import Derived.Deep.QuietTactic
import Derived.BigQuiet
import Derived.WideLaws
import Derived.Deep.DeepCutAuto
import Derived.Deep.CutBlock
import Derived.Deep.RegionHeld3
import Derived.Laws.Rows
import Derived.Lib.AppendStr
import Derived.ArgAppend
import Derived.Laws.IdiomCopy
import Derived.OrdersHeld
import Derived.Laws.BitsLemmas
import Derived.RowKit
import Derived.Lib.Hide
import Derived.Laws.BitsAllLaws
import Derived.WalkLawsBesides
import Derived.WalkSpells
import Derived.LaidEql
namespace Go.Proofs.Ytaknbakkahlilaa
open Go.RowKit
set_option maxRecDepth 100000
set_option linter.unusedVariables false
set_option linter.unusedSimpArgs false

def four : Nat → UInt8 | 0 => 1 | 1 => 2 | 2 => 3 | _ => 4
theorem sureW_get (w : World) : Calls Try.prog 9 #[.slice (some ⟨w.heap.size, 0, none⟩) 4 4, .int .i64 0, .int .i64 4] (w.alloc (.cells #[.int .u8 1, .int .u8 2, .int .u8 3, .int .u8 4] 5))
    fun e w' => e = .returned (.tuple #[.int .u32 67305985, .nilIface]) ∧ Below w.heap.size w w' := by
  refine (get_any w.heap.size 0 4 4 four 0 4 (by omega) (by omega) _ (by omega) (by omega) (by decide +kernel) (by simp) ?_).mono ?_
  · intro j hj
    rw [cell_of_row _ _ _ _ _ _ (heap_alloc_new w _)]
    rcases j with _ | _ | _ | _ | j <;> simp [four] <;> omega
  · rintro e w' ⟨rfl, hb⟩
    exact ⟨rfl, ((Below.refl _ w).alloc (Nat.le_refl _) _).trans (hb.mono (by simp))⟩
theorem sureW_sign (w : World) : Calls Try.prog 18 #[.int .u32 128, .int .i64 8] w fun e w' => e = .returned (.int .u32 4294967168) ∧ w = w' :=
  (psign_any 128 (by omega) 8 w).mono fun e w' ⟨h1, h2⟩ => ⟨by rw [h1]; exact ret_int (by decide +kernel), h2⟩
theorem sureW_any (w : World) : Calls Try.prog 10 #[] w fun e w' => e = .returned (.bool true) ∧ Below w.heap.size w w' := by
  have G := Lib.hid (sureW_get w)
  go_enter Try.func10, Try.ntmps10
  go_wp2_with (first | (go_at_call 9; refine G.out.mono ?_; rintro e w' ⟨rfl, hb⟩) | (go_at_call 18; refine (sureW_sign _).mono ?_; rintro e w' ⟨rfl, rfl⟩))
  go_ret
  exact ⟨rfl, hb⟩

theorem wordFields_walk (v : Nat) (hv : v < 4294967296) (lo : Int) (l1 : -9223372036854775808 ≤ lo) (l2 : lo < 9223372036854775808) (n : Int) (n1 : -9223372036854775808 ≤ n) (n2 : n < 9223372036854775808) (w : World) :
    Calls Try.prog 5 #[.int .u32 v, .int .i64 lo, .int .i64 n] w fun e w' => e = .returned (.bool true) ∧ Below w.heap.size w w' := by
  have P := Lib.hid (fun w => pfield_any v hv lo n l1 l2 n2 w)
  have R := Lib.hid (fun w => field_any v hv lo n w)
  clear l1 l2 n1 n2
  go_enter Try.func5, Try.ntmps5
  go_wp2_with (first | (go_at_call 7; refine (P.out _).mono ?_; rintro e w' ⟨rfl, k, rfl⟩) | (go_at_call 12; refine (R.out _).mono ?_; rintro e w' ⟨rfl, hb⟩) | (go_at_call 10; refine (sureW_any _).mono ?_; rintro e w' ⟨rfl, hb2⟩))
  go_ret
  exact ⟨rfl, ((below_drewN (Below.refl _ _) _).trans hb).trans (hb2.mono hb.size)⟩
/-- a box of two cells, kept while what lay below stays -/
def Box2 (w0 : World) (B : Nat) (c0 c1 : Value) (w' : World) : Prop := w'.cell? ⟨B, 0, none⟩ = some c0 ∧ w'.cell? ⟨B, 1, none⟩ = some c1 ∧ Below w0.heap.size w0 w' ∧ B < w'.heap.size
theorem Box2.start (w : World) (t : TypeId) (c0 c1 : Value) : Box2 w w.heap.size c0 c1 (w.alloc (.cells #[c0, c1] t)).drew :=
  ⟨by simp, by simp, below_drewN ((Below.refl _ _).alloc (Nat.le_refl _) _) 1, by simp⟩
theorem Box2.below {w0 wa wb : World} {B : Nat} {c0 c1 : Value} (h : wa.cell? ⟨B, 0, none⟩ = some c0 ∧ wa.cell? ⟨B, 1, none⟩ = some c1 ∧ Below w0.heap.size w0 wa ∧ B < wa.heap.size) (hb : Below wa.heap.size wa wb) : Box2 w0 B c0 c1 wb :=
  ⟨(hb.cell (p := ⟨B, 0, none⟩) h.2.2.2).trans h.1, (hb.cell (p := ⟨B, 1, none⟩) h.2.2.2).trans h.2.1, h.2.2.1.trans (hb.mono h.2.2.1.size), Nat.lt_of_lt_of_le h.2.2.2 hb.size⟩
theorem Box2.out {w0 wa : World} {B : Nat} {c0 c1 : Value} (h : wa.cell? ⟨B, 0, none⟩ = some c0 ∧ wa.cell? ⟨B, 1, none⟩ = some c1 ∧ Below w0.heap.size w0 wa ∧ B < wa.heap.size) : Below w0.heap.size w0 wa := h.2.2.1
theorem below_of_drew {w w' : World} (h : ∃ k, w.drewN k = w') : Below w.heap.size w w' := by obtain ⟨k, rfl⟩ := h; exact below_drewN (Below.refl _ _) k
theorem wordSets_walk (v : Nat) (hv : v < 4294967296) (lo n : Int) (l1 : -9223372036854775808 ≤ lo) (l2 : lo < 9223372036854775808) (n1 : -9223372036854775808 ≤ n) (n2 : n < 9223372036854775808) (x : Nat) (hx : x < 4294967296) (w : World) :
    Calls Try.prog 4 #[.int .u32 v, .agg #[.int .i64 lo, .int .i64 n], .int .u32 x] w fun e w' => e = .returned (.bool true) ∧ Below w.heap.size w w' := by
  have P := Lib.hid (fun w => (pset_any v hv lo n x hx l1 n2 w).mono fun e w' h => (⟨h.1, below_of_drew h.2⟩ : e = .returned (.int .u32 (fromN (setB v lo n x) 32 : Nat)) ∧ Below w.heap.size w w'))
  have R := Lib.hid (fun w => set_any v hv lo n x hx l1 l2 n2 w)
  clear l1 l2 n1 n2
  go_enter Try.func4, Try.ntmps4
  go_wp2
  go_region_held3 (fun w' => w'.cell? ⟨w.heap.size, 0, none⟩ = some (.int .i64 lo) ∧ w'.cell? ⟨w.heap.size, 1, none⟩ = some (.int .i64 n) ∧ Below w.heap.size w w' ∧ w.heap.size < w'.heap.size)
    (first | exact Box2.start _ _ _ _ | exact Box2.below ‹_› hb)
    (first | (go_at_call 6; refine (P.out _).mono ?_; rintro e w' ⟨rfl, hb⟩) | (go_at_call 11; refine (R.out _).mono ?_; rintro e w' ⟨rfl, hb⟩) | (go_at_call 10; refine (sureW_any _).mono ?_; rintro e w' ⟨rfl, hb⟩))
  all_goals (go_wp2; go_ret; exact ⟨rfl, Box2.out ‹_›⟩)

end Go.Proofs.Ytaknbakkahlilaa
