import Derived.Test.YtaknbakkahlilaaDoorWordDH
import Derived.Below
import Derived.Deep.Draws
import Derived.Deep.AppendLies
import Derived.Maps.AppendAt
import Derived.OwnWalk
import Derived.Laws.BytesArg
import Derived.Laws.MakeOwn
import Derived.Laws.OwnMore
import Derived.Deep.OwnRows
import Derived.Tactics
import Derived.Lib.ConvBytes
import Derived.Laws.Slices
import Derived.WalkKit
import Derived.KernelRfl
import Derived.RowKit3
import Derived.Deep.LoopGhost
import Derived.Deep.QuietTactic
import Derived.BigQuiet
import Derived.WideLaws
import Derived.Deep.DeepCutAuto
import Derived.Deep.CutBlock
import Derived.Deep.RegionHeld3
import Derived.Laws.Rows
import Derived.Lib.AppendStr
import Derived.ArgAppend
import Derived.Laws.IdiomCopy
import Derived.OrdersHeld
import Derived.Laws.BitsLemmas
import Derived.RowKit
import Derived.Lib.Hide
import Derived.Laws.BitsAllLaws
import Derived.WalkLawsBesides
import Derived.WalkSpells
import Derived.LaidEql
namespace Go.Proofs.YtaknbakkahlilaaDoor
open Go.RowKit
set_option maxRecDepth 100000
set_option linter.unusedVariables false
set_option linter.unusedSimpArgs false

/-- a slice of bytes that came in -/
def BytesAt (W : World) (A : Option Addr) (len cap : Nat) (f : Nat → UInt8) : Prop :=
  len ≤ cap ∧ len ≤ 140737488351232 ∧ (len = 0 ∨ ∃ b off, A = some ⟨b, off, none⟩ ∧ b < W.heap.size ∧ ∀ j, j < len → W.cell? ⟨b, off + j, none⟩ = some (.int .u8 ((f j).toNat : Int)))

theorem rcheck_any (A : Option Addr) (len cap : Nat) (at_ n : Int) (hlen : len ≤ 140737488351232) (w : World) :
    Calls Tryd.prog 45 #[.slice A len cap, .int .i64 at_, .int .i64 n] w fun e w' => e = .returned (.int .i64 (chk len at_ n)) ∧ w = w' := by
  by_cases h1 : n = 1 ∨ n = 2 ∨ n = 4
  · by_cases h2 : at_ < 0
    · have e : chk len at_ n = 4 := by unfold chk; rw [if_neg (by omega), if_pos (.inl h2)]
      rw [e]
      clear e
      rcases h1 with rfl | rfl | rfl
      all_goals
        go_enter Tryd.func45, Tryd.ntmps45
        go_wp2
        go_ret
        exact ⟨rfl, rfl⟩
    · obtain ⟨k, rfl⟩ := Int.eq_ofNat_of_zero_le (show 0 ≤ at_ by omega)
      clear h2
      by_cases h3 : (len : Int) - n < k
      · have e : chk len k n = 4 := by unfold chk; rw [if_neg (by omega), if_pos (.inr h3)]
        rw [e]
        clear e
        by_cases h4 : (len : Int) < n
        all_goals
          rcases h1 with rfl | rfl | rfl
          all_goals
            go_enter Tryd.func45, Tryd.ntmps45
            go_wp2
            go_ret
            exact ⟨rfl, rfl⟩
      · have h3' : (k : Int) ≤ (len : Int) - n := by omega
        have h4' : n ≤ (len : Int) := by omega
        clear h3
        by_cases h4 : (k : Int) % n = 0
        · have e : chk len k n = 0 := by unfold chk; rw [if_neg (by omega), if_neg (by omega), if_neg (by omega)]
          rw [e]
          clear e
          rcases h1 with rfl | rfl | rfl
          all_goals
            go_enter Tryd.func45, Tryd.ntmps45
            go_wp2
            go_ret
            exact ⟨rfl, rfl⟩
        · have e : chk len k n = 5 := by unfold chk; rw [if_neg (by omega), if_neg (by omega), if_pos h4]
          rw [e]
          clear e
          rcases h1 with rfl | rfl | rfl
          · omega
          all_goals
            go_enter Tryd.func45, Tryd.ntmps45
            go_wp2
            go_ret
            exact ⟨rfl, rfl⟩
  · have e : chk len at_ n = 21 := by unfold chk; rw [if_pos (by omega)]
    rw [e]
    clear e
    have n1 : (n != 1) = true := by simp; omega
    have n2 : (n != 2) = true := by simp; omega
    have n4 : (n != 4) = true := by simp; omega
    clear h1
    go_enter Tryd.func45, Tryd.ntmps45
    go_wp2
    go_ret
    exact ⟨rfl, rfl⟩
theorem rget_err (A : Option Addr) (len cap : Nat) (at_ n : Int) (hlen : len ≤ 140737488351232) (w : World) (h : chk len at_ n ≠ 0) :
    Calls Tryd.prog 18 #[.slice A len cap, .int .i64 at_, .int .i64 n] w fun e w' => e = .returned (.tuple #[.int .u32 0, .int .i64 (chk len at_ n)]) ∧ w = w' := by
  have C := Lib.hid (fun w => rcheck_any A len cap at_ n hlen w)
  generalize chk len at_ n = c at C h ⊢
  have n0 : (c != 0) = true := by simp [h]
  clear h
  go_enter Tryd.func18, Tryd.ntmps18
  go_wp2_with (go_at_call 45; refine (C.out _).mono ?_; rintro e w' ⟨rfl, rfl⟩)
  go_ret2
  exact ⟨rfl, rfl⟩
theorem getN_1 (f : Nat → UInt8) (k : Nat) : getN f k 1 = (f k).toNat := by simp [getN]
theorem getN_2 (f : Nat → UInt8) (k : Nat) : getN f k 2 = (f k).toNat + 256 * (f (k + 1)).toNat := by simp [getN]
theorem getN_4 (f : Nat → UInt8) (k : Nat) : getN f k 4 = (f k).toNat + 256 * (f (k + 1)).toNat + 65536 * (f (k + 2)).toNat + 16777216 * (f (k + 3)).toNat := by
  simp only [getN, show k + 1 + 1 = k + 2 from rfl, show k + 2 + 1 = k + 3 from rfl]
  omega
set_option maxHeartbeats 2000000 in
theorem rget_any (b off len cap : Nat) (f : Nat → UInt8) (k n : Nat) (hlen : len ≤ 140737488351232) (w : World) (hn : n = 1 ∨ n = 2 ∨ n = 4) (hk : k + n ≤ len) (hc0 : chk len k n = 0)
    (hc : ∀ j, j < len → w.cell? ⟨b, off + j, none⟩ = some (.int .u8 ((f j).toNat : Int))) :
    Calls Tryd.prog 18 #[.slice (some ⟨b, off, none⟩) len cap, .int .i64 k, .int .i64 n] w fun e w' => e = .returned (.tuple #[.int .u32 (getN f k n), .int .i64 0]) ∧ w = w' := by
  have C := Lib.hid (fun w => rcheck_any (some ⟨b, off, none⟩) len cap k n hlen w)
  rw [hc0] at C
  clear hc0
  rcases hn with rfl | rfl | rfl
  · have c0 := hc k (by omega)
    have b0 := (f k).toNat_lt
    have hI : (k : Int) + 1 ≤ len := by omega
    obtain ⟨x0, hx0⟩ : ∃ x, x = (f k).toNat := ⟨_, rfl⟩
    rw [getN_1]
    rw [← hx0] at c0 b0 ⊢
    clear hc hx0
    go_enter Tryd.func18, Tryd.ntmps18
    go_wp2_with (go_at_call 45; refine (C.out _).mono ?_; rintro e w' ⟨rfl, rfl⟩)
    refine wp_loop_rounds 2 ?_
    rw [rounds_succ]
    go_wp2
    rw [rounds_succ]
    go_wp2
    go_ret2
    exact ⟨congrArg Ending.returned (congrArg Value.tuple (congrArg (fun x => #[Value.int .u32 x, .int .i64 0]) (by first | rfl | omega))), rfl⟩
  · have c0 := hc k (by omega)
    have c1 := hc (k + 1) (by omega)
    have b0 := (f k).toNat_lt
    have b1 := (f (k + 1)).toNat_lt
    have hI : (k : Int) + 2 ≤ len := by omega
    rw [getN_2]
    obtain ⟨x0, hx0⟩ : ∃ x, x = (f k).toNat := ⟨_, rfl⟩
    obtain ⟨x1, hx1⟩ : ∃ x, x = (f (k + 1)).toNat := ⟨_, rfl⟩
    rw [← hx0, ← hx1]
    rw [← hx0] at c0 b0
    rw [← hx1] at c1 b1
    clear hc hx0 hx1
    go_enter Tryd.func18, Tryd.ntmps18
    go_wp2_with (go_at_call 45; refine (C.out _).mono ?_; rintro e w' ⟨rfl, rfl⟩)
    refine wp_loop_rounds 3 ?_
    rw [rounds_succ]
    go_wp2
    rw [rounds_succ]
    go_wp2
    rw [rounds_succ]
    go_wp2
    go_ret2
    exact ⟨congrArg Ending.returned (congrArg Value.tuple (congrArg (fun x => #[Value.int .u32 x, .int .i64 0]) (by first | rfl | omega))), rfl⟩
  · have c0 := hc k (by omega)
    have c1 := hc (k + 1) (by omega)
    have c2 := hc (k + 2) (by omega)
    have c3 := hc (k + 3) (by omega)
    have b0 := (f k).toNat_lt
    have b1 := (f (k + 1)).toNat_lt
    have b2 := (f (k + 2)).toNat_lt
    have b3 := (f (k + 3)).toNat_lt
    have hI : (k : Int) + 4 ≤ len := by omega
    rw [getN_4]
    obtain ⟨x0, hx0⟩ : ∃ x, x = (f k).toNat := ⟨_, rfl⟩
    obtain ⟨x1, hx1⟩ : ∃ x, x = (f (k + 1)).toNat := ⟨_, rfl⟩
    obtain ⟨x2, hx2⟩ : ∃ x, x = (f (k + 2)).toNat := ⟨_, rfl⟩
    obtain ⟨x3, hx3⟩ : ∃ x, x = (f (k + 3)).toNat := ⟨_, rfl⟩
    rw [← hx0, ← hx1, ← hx2, ← hx3]
    rw [← hx0] at c0 b0
    rw [← hx1] at c1 b1
    rw [← hx2] at c2 b2
    rw [← hx3] at c3 b3
    clear hc hx0 hx1 hx2 hx3
    go_enter Tryd.func18, Tryd.ntmps18
    go_wp2_with (go_at_call 45; refine (C.out _).mono ?_; rintro e w' ⟨rfl, rfl⟩)
    refine wp_loop_rounds 5 ?_
    rw [rounds_succ]
    go_wp2
    rw [rounds_succ]
    go_wp2
    rw [rounds_succ]
    go_wp2
    rw [rounds_succ]
    go_wp2
    rw [rounds_succ]
    go_wp2
    go_ret2
    exact ⟨congrArg Ending.returned (congrArg Value.tuple (congrArg (fun x => #[Value.int .u32 x, .int .i64 0]) (by first | rfl | omega))), rfl⟩

def four : Nat → UInt8 | 0 => 1 | 1 => 2 | 2 => 3 | _ => 4
theorem sureW_get (w : World) : Calls Tryd.prog 17 #[.slice (some ⟨w.heap.size, 0, none⟩) 4 4, .int .i64 0, .int .i64 4] (w.alloc (.cells #[.int .u8 1, .int .u8 2, .int .u8 3, .int .u8 4] 5))
    fun e w' => e = .returned (.tuple #[.int .u32 67305985, .nilIface]) ∧ Below w.heap.size w w' := by
  refine (get_any w.heap.size 0 4 4 four 0 4 (by omega) (by omega) _ (by omega) (by omega) (by decide +kernel) (by simp) ?_).mono ?_
  · intro j hj
    rw [cell_of_row _ _ _ _ _ _ (heap_alloc_new w _)]
    rcases j with _ | _ | _ | _ | j <;> simp [four] <;> omega
  · rintro e w' ⟨rfl, hb⟩
    exact ⟨rfl, ((Below.refl _ w).alloc (Nat.le_refl _) _).trans (hb.mono (by simp))⟩
theorem sureW_sign (w : World) : Calls Tryd.prog 42 #[.int .u32 128, .int .i64 8] w fun e w' => e = .returned (.int .u32 4294967168) ∧ w = w' :=
  (psign_any 128 (by omega) 8 w).mono fun e w' ⟨h1, h2⟩ => ⟨by rw [h1]; exact ret_int (by decide +kernel), h2⟩
theorem sureW_any (w : World) : Calls Tryd.prog 16 #[] w fun e w' => e = .returned (.bool true) ∧ Below w.heap.size w w' := by
  have G := Lib.hid (sureW_get w)
  go_enter Tryd.func16, Tryd.ntmps16
  go_wp2_with (first | (go_at_call 17; refine G.out.mono ?_; rintro e w' ⟨rfl, hb⟩) | (go_at_call 42; refine (sureW_sign _).mono ?_; rintro e w' ⟨rfl, rfl⟩))
  go_ret
  exact ⟨rfl, hb⟩

theorem num_nil (w : World) : Calls Tryd.prog 19 #[.nilIface] w fun e w' => e = .returned (.int .i64 0) ∧ Below w.heap.size w w' := by
  go_enter Tryd.func19, Tryd.ntmps19
  go_wp2
  go_ret
  exact ⟨rfl, (Below.refl _ _).alloc (Nat.le_refl _) _⟩
set_option maxHeartbeats 1000000 in
theorem num_err (n : Int) (w : World) (hg : w.cell? ⟨2, 0, none⟩ = some errTy) : Calls Tryd.prog 19 #[.iface 78 (.int .i64 n)] w fun e w' => e = .returned (.int .i64 n) ∧ Below w.heap.size w w' := by
  have hgA : (w.alloc (.cells #[.int .i64 0] 78)).cell? ⟨2, 0, none⟩ = some errTy := by
    rw [World.cell?_alloc_lt _ _ ⟨2, 0, none⟩ (block_lt_of_cell hg)]; exact hg
  have htA : (w.alloc (.cells #[.int .i64 0] 78)).cell? ⟨w.heap.size, 0, none⟩ = some (.int .i64 0) := by simp
  have hfA : (w.alloc (.cells #[.int .i64 0] 78)).frozen? ⟨w.heap.size, 0, none⟩ = false := by simp
  have A := Lib.hid (as_hit n ⟨w.heap.size, 0, none⟩ (.int .i64 0) _ hgA htA hfA)
  clear hgA htA hfA hg
  go_enter Tryd.func19, Tryd.ntmps19
  go_wp2_with (go_at_call 46; refine A.out.mono ?_; rintro e w' ⟨rfl, rfl⟩)
  go_ret
  refine ⟨rfl, ?_⟩
  repeat' (first | (with_reducible exact Below.refl _ _) | (with_reducible refine Below.setCell ?_ ?_ _) | (with_reducible refine Below.alloc ?_ ?_ _) | (simp; done) | (simp; omega))
/-- an error's number, whatever the error -/
theorem num_any (n : Int) (w : World) (hg : w.cell? ⟨2, 0, none⟩ = some errTy) : Calls Tryd.prog 19 #[errV n] w fun e w' => e = .returned (.int .i64 n) ∧ Below w.heap.size w w' := by
  by_cases h : n = 0
  · subst h; exact num_nil w
  · have hE : errV n = .iface 78 (.int .i64 n) := by unfold errV; rw [if_neg h]
    rw [hE]; exact num_err n w hg

end Go.Proofs.YtaknbakkahlilaaDoor
