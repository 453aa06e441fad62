import Derived.Test.YtkcdnhennnjneaaGreatDoorREncHZ
import Derived.Test.YtkcdnhennnjneaaGreatDoorRChkZ
import Derived.Below
import Derived.Deep.Draws
import Derived.Deep.AppendLies
import Derived.Maps.AppendAt
import Derived.OwnWalk
import Derived.Laws.BytesArg
import Derived.Laws.MakeOwn
import Derived.Laws.OwnMore
import Derived.Deep.OwnRows
import Derived.Tactics
import Derived.Lib.ConvBytes
import Derived.Laws.Slices
import Derived.WalkKit
import Derived.KernelRfl
import Derived.RowKit3
import Derived.Deep.LoopGhost
import Derived.Deep.QuietTactic
import Derived.BigQuiet
import Derived.WideLaws
import Derived.Deep.DeepCutAuto
import Derived.Deep.CutBlock
import Derived.Deep.RegionHeld3
import Derived.Laws.Rows
import Derived.Lib.AppendStr
import Derived.ArgAppend
import Derived.Laws.IdiomCopy
import Derived.OrdersHeld
import Derived.Laws.BitsLemmas
import Derived.RowKit
import Derived.Lib.Hide
import Derived.Laws.BitsAllLaws
import Derived.WalkLawsBesides
import Derived.WalkSpells
import Derived.LaidEql
namespace Go.Proofs.YtkcdnhennnjneaaGreatDoor
open Go.RowKit
set_option maxRecDepth 100000
set_option linter.unusedVariables false
set_option linter.unusedSimpArgs false

set_option maxHeartbeats 4000000 in
theorem renc_k82 (op : Nat) (hop : op < 57) (hk : kN op = 82) (b : Nat) (hb : wN op = b) (r s q : Nat) (hr : r < 32) (hs : s < 32) (hq : q < 32) (y : Nat) (hy : y = b + r * 128 + s * 32768 + q * 1048576) (hyl : y < 4294967296) (K0 : Hid (∀ w : World, Calls Tryz.prog 39 #[.agg #[.int .i64 op, .int .i64 r, .int .i64 s, .int .i64 q, .int .i64 0, .int .i64 0]] w fun e w' => e = .returned (.int .i64 0) ∧ Below w.heap.size w w')) (w : World) :
    Calls Tryz.prog 33 #[.agg #[.int .i64 op, .int .i64 r, .int .i64 s, .int .i64 q, .int .i64 0, .int .i64 0]] w fun e w' => e = .returned (.tuple #[.int .u32 y, .int .i64 0]) ∧ Below w.heap.size w w' := by
  have KI := Lib.hid (fun w => by have h := rkind_in op hop w; rw [hk] at h; exact h)
  have PL := Lib.hid (fun w => by have h := plain_any op hop w; rw [hb] at h; exact h)
  have hbl : b < 4294967296 := by omega
  have HY := Lib.hid hy
  have s1 : (b : Int) + (r : Int) * 128 < 4294967296 := by omega
  have s2 : (b : Int) + (r : Int) * 128 + (s : Int) * 32768 < 4294967296 := by omega
  have s3 : (b : Int) + (r : Int) * 128 + (s : Int) * 32768 + (q : Int) * 1048576 < 4294967296 := by omega
  have HH := Lib.hid (fun (wb : World) h => held6r_keep (wb := wb) (w := w) (wa := w.alloc (.cells #[.int .i64 op, .int .i64 r, .int .i64 s, .int .i64 q, .int .i64 0, .int .i64 0] 34)) (op := op) (rd := r) (r1 := s) (r2 := q) (imm := 0) (csr := 0) (by
    refine ⟨?_, ?_, ?_, ?_, ?_, ?_, (Below.refl _ _).alloc (Nat.le_refl _) _⟩ <;> exact cell_of_row _ _ _ _ _ _ (heap_alloc_new w _)) h)
  clear hy hb hk
  go_enter Tryz.func33, Tryz.ntmps33
  go_upto_region 4 with (first | (go_at_call 39; refine (K0.out _).mono ?_; rintro e w1 ⟨rfl, hb1⟩; have h6 := HH.out w1 hb1; have H6 := Lib.hid h6; (obtain ⟨c0, c1, c2, c3, c4, c5, _⟩ := h6); clear hb1) | (go_at_call 30; refine (KI.out _).mono ?_; rintro e w' ⟨rfl, rfl⟩))
  go_region_held3 (fun w' => w'.cell? ⟨w.heap.size, 0, none⟩ = some (.int .i64 (op : Nat)) ∧ w'.cell? ⟨w.heap.size, 1, none⟩ = some (.int .i64 (r : Nat)) ∧ w'.cell? ⟨w.heap.size, 2, none⟩ = some (.int .i64 (s : Nat)) ∧ w'.cell? ⟨w.heap.size, 3, none⟩ = some (.int .i64 (q : Nat)) ∧ w'.cell? ⟨w.heap.size, 4, none⟩ = some (.int .i64 0) ∧ w'.cell? ⟨w.heap.size, 5, none⟩ = some (.int .i64 0) ∧ Below w.heap.size w w')
    (first | exact ⟨H6.out.1, H6.out.2.1, H6.out.2.2.1, H6.out.2.2.2.1, H6.out.2.2.2.2.1, H6.out.2.2.2.2.2.1, below_drewN H6.out.2.2.2.2.2.2 _⟩ | exact held6r_keep (by assumption) hb)
    (first | (go_at_call 60; refine (PL.out _).mono ?_; rintro e w' ⟨rfl, hb⟩))
  all_goals
    rw [show IntKind.u32.wrap (IntKind.u32.wrap (IntKind.u32.wrap (IntKind.u32.wrap ((b : Int) + IntKind.u32.wrap (IntKind.u32.wrap (r : Int) * 128)) + IntKind.u32.wrap (IntKind.u32.wrap (s : Int) * 32768)) + IntKind.u32.wrap (IntKind.u32.wrap (q : Int) * 1048576)) + IntKind.u32.wrap (IntKind.u32.wrap 0 * 1048576)) = (y : Int) from by simp only [Go.IntKind.wrap_u32]; have := HY.out; omega]
    rename_i hS
    obtain ⟨c0', c1', c2', c3', c4', c5', hB'⟩ := hS
    have HB' := Lib.hid hB'
    clear hB' s1 s2 s3
    go_upto_region 24 with (fail)
    refine wp_loop_rounds 1 ?_
    rw [rounds_succ]
    go_wp2
    go_ret2
    exact ⟨rfl, HB'.out⟩

set_option maxHeartbeats 4000000 in
theorem renc_k85 (op : Nat) (hop : op < 57) (hk : kN op = 85) (b : Nat) (hb : wN op = b) (r : Nat) (hr : r < 32) (imm : Int) (n : Nat) (e4 : IntKind.u32.wrap imm = (n : Int)) (hn : n < 4294967296) (y : Nat) (hy : y = b + r * 128 + n) (hyl : y < 4294967296) (K0 : Hid (∀ w : World, Calls Tryz.prog 39 #[.agg #[.int .i64 (op : Nat), .int .i64 (r : Int), .int .i64 0, .int .i64 0, .int .i64 imm, .int .i64 0]] w fun e w' => e = .returned (.int .i64 0) ∧ Below w.heap.size w w')) (w : World) :
    Calls Tryz.prog 33 #[.agg #[.int .i64 (op : Nat), .int .i64 (r : Int), .int .i64 0, .int .i64 0, .int .i64 imm, .int .i64 0]] w fun e w' => e = .returned (.tuple #[.int .u32 y, .int .i64 0]) ∧ Below w.heap.size w w' := by
  have KI := Lib.hid (fun w => by have h := rkind_in op hop w; rw [hk] at h; exact h)
  have PL := Lib.hid (fun w => by have h := plain_any op hop w; rw [hb] at h; exact h)
  obtain ⟨y0, hy0⟩ : ∃ y0, y0 = b + r * 128 := ⟨_, rfl⟩
  have hbl : b < 4294967296 := by omega
  have hy0l : y0 < 4294967296 := by omega
  have ey : (y0 : Int) + (n : Int) = (y : Int) := by omega
  have HY := Lib.hid (And.intro hy0 (And.intro hbl hy0l))
  have HH := Lib.hid (fun (wb : World) h => held6r_keep (wb := wb) (w := w) (wa := w.alloc (.cells #[.int .i64 (op : Nat), .int .i64 (r : Int), .int .i64 0, .int .i64 0, .int .i64 imm, .int .i64 0] 34)) (op := op) (rd := (r : Int)) (r1 := 0) (r2 := 0) (imm := imm) (csr := 0) (by
    refine ⟨?_, ?_, ?_, ?_, ?_, ?_, (Below.refl _ _).alloc (Nat.le_refl _) _⟩ <;> exact cell_of_row _ _ _ _ _ _ (heap_alloc_new w _)) h)
  clear hy hb hk hy0
  go_enter Tryz.func33, Tryz.ntmps33
  go_upto_region 4 with (first | (go_at_call 39; refine (K0.out _).mono ?_; rintro e w1 ⟨rfl, hb1⟩; have h6 := HH.out w1 hb1; have H6 := Lib.hid h6; (obtain ⟨c0, c1, c2, c3, c4, c5, _⟩ := h6); clear hb1) | (go_at_call 30; refine (KI.out _).mono ?_; rintro e w' ⟨rfl, rfl⟩))
  go_region_held3 (fun w' => w'.cell? ⟨w.heap.size, 0, none⟩ = some (.int .i64 (op : Nat)) ∧ w'.cell? ⟨w.heap.size, 1, none⟩ = some (.int .i64 (r : Int)) ∧ w'.cell? ⟨w.heap.size, 2, none⟩ = some (.int .i64 0) ∧ w'.cell? ⟨w.heap.size, 3, none⟩ = some (.int .i64 0) ∧ w'.cell? ⟨w.heap.size, 4, none⟩ = some (.int .i64 imm) ∧ w'.cell? ⟨w.heap.size, 5, none⟩ = some (.int .i64 0) ∧ Below w.heap.size w w')
    (first | exact ⟨H6.out.1, H6.out.2.1, H6.out.2.2.1, H6.out.2.2.2.1, H6.out.2.2.2.2.1, H6.out.2.2.2.2.2.1, below_drewN H6.out.2.2.2.2.2.2 _⟩ | exact held6r_keep (by assumption) hb)
    (first | (go_at_call 60; refine (PL.out _).mono ?_; rintro e w' ⟨rfl, hb⟩))
  all_goals
    rw [show IntKind.u32.wrap (IntKind.u32.wrap (IntKind.u32.wrap (IntKind.u32.wrap ((b : Int) + IntKind.u32.wrap (IntKind.u32.wrap (r : Int) * 128)) + IntKind.u32.wrap (IntKind.u32.wrap 0 * 32768)) + IntKind.u32.wrap (IntKind.u32.wrap 0 * 1048576)) + IntKind.u32.wrap (IntKind.u32.wrap 0 * 1048576)) = (y0 : Int) from by simp only [Go.IntKind.wrap_u32]; have := HY.out; omega]
    rename_i hS
    obtain ⟨c0', c1', c2', c3', c4', c5', hB'⟩ := hS
    have HB' := Lib.hid hB'
    clear hB'
    go_wp2
    go_ret2
    exact ⟨rfl, HB'.out⟩
set_option maxHeartbeats 4000000 in
theorem renc_k73 (op : Nat) (hop : op < 57) (hk : kN op = 73) (b : Nat) (hb : wN op = b) (r : Nat) (hr : r < 32) (s : Nat) (hs : s < 32) (imm : Int) (n : Nat) (e4 : IntKind.u32.wrap imm = (n : Int)) (hn : n < 4294967296) (y : Nat) (hy : y = b + r * 128 + s * 32768 + n % 4096 * 1048576) (hyl : y < 4294967296) (K0 : Hid (∀ w : World, Calls Tryz.prog 39 #[.agg #[.int .i64 (op : Nat), .int .i64 (r : Int), .int .i64 (s : Int), .int .i64 0, .int .i64 imm, .int .i64 0]] w fun e w' => e = .returned (.int .i64 0) ∧ Below w.heap.size w w')) (w : World) :
    Calls Tryz.prog 33 #[.agg #[.int .i64 (op : Nat), .int .i64 (r : Int), .int .i64 (s : Int), .int .i64 0, .int .i64 imm, .int .i64 0]] w fun e w' => e = .returned (.tuple #[.int .u32 y, .int .i64 0]) ∧ Below w.heap.size w w' := by
  have KI := Lib.hid (fun w => by have h := rkind_in op hop w; rw [hk] at h; exact h)
  have PL := Lib.hid (fun w => by have h := plain_any op hop w; rw [hb] at h; exact h)
  obtain ⟨y0, hy0⟩ : ∃ y0, y0 = b + r * 128 + s * 32768 := ⟨_, rfl⟩
  have hbl : b < 4294967296 := by omega
  have hy0l : y0 < 4294967296 := by omega
  obtain ⟨m, hm⟩ : ∃ m, m = n % 4096 := ⟨_, rfl⟩
  have em : (n : Int) % 4096 = (m : Int) := by omega
  have hml : m < 4096 := by omega
  have ey : (y0 : Int) + (m : Int) * 1048576 = (y : Int) := by omega
  have HY := Lib.hid (And.intro hy0 (And.intro hbl hy0l))
  have HH := Lib.hid (fun (wb : World) h => held6r_keep (wb := wb) (w := w) (wa := w.alloc (.cells #[.int .i64 (op : Nat), .int .i64 (r : Int), .int .i64 (s : Int), .int .i64 0, .int .i64 imm, .int .i64 0] 34)) (op := op) (rd := (r : Int)) (r1 := (s : Int)) (r2 := 0) (imm := imm) (csr := 0) (by
    refine ⟨?_, ?_, ?_, ?_, ?_, ?_, (Below.refl _ _).alloc (Nat.le_refl _) _⟩ <;> exact cell_of_row _ _ _ _ _ _ (heap_alloc_new w _)) h)
  clear hy hb hk hy0 hm
  go_enter Tryz.func33, Tryz.ntmps33
  go_upto_region 4 with (first | (go_at_call 39; refine (K0.out _).mono ?_; rintro e w1 ⟨rfl, hb1⟩; have h6 := HH.out w1 hb1; have H6 := Lib.hid h6; (obtain ⟨c0, c1, c2, c3, c4, c5, _⟩ := h6); clear hb1) | (go_at_call 30; refine (KI.out _).mono ?_; rintro e w' ⟨rfl, rfl⟩))
  go_region_held3 (fun w' => w'.cell? ⟨w.heap.size, 0, none⟩ = some (.int .i64 (op : Nat)) ∧ w'.cell? ⟨w.heap.size, 1, none⟩ = some (.int .i64 (r : Int)) ∧ w'.cell? ⟨w.heap.size, 2, none⟩ = some (.int .i64 (s : Int)) ∧ w'.cell? ⟨w.heap.size, 3, none⟩ = some (.int .i64 0) ∧ w'.cell? ⟨w.heap.size, 4, none⟩ = some (.int .i64 imm) ∧ w'.cell? ⟨w.heap.size, 5, none⟩ = some (.int .i64 0) ∧ Below w.heap.size w w')
    (first | exact ⟨H6.out.1, H6.out.2.1, H6.out.2.2.1, H6.out.2.2.2.1, H6.out.2.2.2.2.1, H6.out.2.2.2.2.2.1, below_drewN H6.out.2.2.2.2.2.2 _⟩ | exact held6r_keep (by assumption) hb)
    (first | (go_at_call 60; refine (PL.out _).mono ?_; rintro e w' ⟨rfl, hb⟩))
  all_goals
    rw [show IntKind.u32.wrap (IntKind.u32.wrap (IntKind.u32.wrap (IntKind.u32.wrap ((b : Int) + IntKind.u32.wrap (IntKind.u32.wrap (r : Int) * 128)) + IntKind.u32.wrap (IntKind.u32.wrap (s : Int) * 32768)) + IntKind.u32.wrap (IntKind.u32.wrap 0 * 1048576)) + IntKind.u32.wrap (IntKind.u32.wrap 0 * 1048576)) = (y0 : Int) from by simp only [Go.IntKind.wrap_u32]; have := HY.out; omega]
    rename_i hS
    obtain ⟨c0', c1', c2', c3', c4', c5', hB'⟩ := hS
    have HB' := Lib.hid hB'
    clear hB'
    go_wp2
    go_ret2
    exact ⟨rfl, HB'.out⟩
set_option maxHeartbeats 4000000 in
theorem renc_k76 (op : Nat) (hop : op < 57) (hk : kN op = 76) (b : Nat) (hb : wN op = b) (r : Nat) (hr : r < 32) (s : Nat) (hs : s < 32) (imm : Int) (n : Nat) (e4 : IntKind.u32.wrap imm = (n : Int)) (hn : n < 4294967296) (y : Nat) (hy : y = b + r * 128 + s * 32768 + n % 4096 * 1048576) (hyl : y < 4294967296) (K0 : Hid (∀ w : World, Calls Tryz.prog 39 #[.agg #[.int .i64 (op : Nat), .int .i64 (r : Int), .int .i64 (s : Int), .int .i64 0, .int .i64 imm, .int .i64 0]] w fun e w' => e = .returned (.int .i64 0) ∧ Below w.heap.size w w')) (w : World) :
    Calls Tryz.prog 33 #[.agg #[.int .i64 (op : Nat), .int .i64 (r : Int), .int .i64 (s : Int), .int .i64 0, .int .i64 imm, .int .i64 0]] w fun e w' => e = .returned (.tuple #[.int .u32 y, .int .i64 0]) ∧ Below w.heap.size w w' := by
  have KI := Lib.hid (fun w => by have h := rkind_in op hop w; rw [hk] at h; exact h)
  have PL := Lib.hid (fun w => by have h := plain_any op hop w; rw [hb] at h; exact h)
  obtain ⟨y0, hy0⟩ : ∃ y0, y0 = b + r * 128 + s * 32768 := ⟨_, rfl⟩
  have hbl : b < 4294967296 := by omega
  have hy0l : y0 < 4294967296 := by omega
  obtain ⟨m, hm⟩ : ∃ m, m = n % 4096 := ⟨_, rfl⟩
  have em : (n : Int) % 4096 = (m : Int) := by omega
  have hml : m < 4096 := by omega
  have ey : (y0 : Int) + (m : Int) * 1048576 = (y : Int) := by omega
  have HY := Lib.hid (And.intro hy0 (And.intro hbl hy0l))
  have HH := Lib.hid (fun (wb : World) h => held6r_keep (wb := wb) (w := w) (wa := w.alloc (.cells #[.int .i64 (op : Nat), .int .i64 (r : Int), .int .i64 (s : Int), .int .i64 0, .int .i64 imm, .int .i64 0] 34)) (op := op) (rd := (r : Int)) (r1 := (s : Int)) (r2 := 0) (imm := imm) (csr := 0) (by
    refine ⟨?_, ?_, ?_, ?_, ?_, ?_, (Below.refl _ _).alloc (Nat.le_refl _) _⟩ <;> exact cell_of_row _ _ _ _ _ _ (heap_alloc_new w _)) h)
  clear hy hb hk hy0 hm
  go_enter Tryz.func33, Tryz.ntmps33
  go_upto_region 4 with (first | (go_at_call 39; refine (K0.out _).mono ?_; rintro e w1 ⟨rfl, hb1⟩; have h6 := HH.out w1 hb1; have H6 := Lib.hid h6; (obtain ⟨c0, c1, c2, c3, c4, c5, _⟩ := h6); clear hb1) | (go_at_call 30; refine (KI.out _).mono ?_; rintro e w' ⟨rfl, rfl⟩))
  go_region_held3 (fun w' => w'.cell? ⟨w.heap.size, 0, none⟩ = some (.int .i64 (op : Nat)) ∧ w'.cell? ⟨w.heap.size, 1, none⟩ = some (.int .i64 (r : Int)) ∧ w'.cell? ⟨w.heap.size, 2, none⟩ = some (.int .i64 (s : Int)) ∧ w'.cell? ⟨w.heap.size, 3, none⟩ = some (.int .i64 0) ∧ w'.cell? ⟨w.heap.size, 4, none⟩ = some (.int .i64 imm) ∧ w'.cell? ⟨w.heap.size, 5, none⟩ = some (.int .i64 0) ∧ Below w.heap.size w w')
    (first | exact ⟨H6.out.1, H6.out.2.1, H6.out.2.2.1, H6.out.2.2.2.1, H6.out.2.2.2.2.1, H6.out.2.2.2.2.2.1, below_drewN H6.out.2.2.2.2.2.2 _⟩ | exact held6r_keep (by assumption) hb)
    (first | (go_at_call 60; refine (PL.out _).mono ?_; rintro e w' ⟨rfl, hb⟩))
  all_goals
    rw [show IntKind.u32.wrap (IntKind.u32.wrap (IntKind.u32.wrap (IntKind.u32.wrap ((b : Int) + IntKind.u32.wrap (IntKind.u32.wrap (r : Int) * 128)) + IntKind.u32.wrap (IntKind.u32.wrap (s : Int) * 32768)) + IntKind.u32.wrap (IntKind.u32.wrap 0 * 1048576)) + IntKind.u32.wrap (IntKind.u32.wrap 0 * 1048576)) = (y0 : Int) from by simp only [Go.IntKind.wrap_u32]; have := HY.out; omega]
    rename_i hS
    obtain ⟨c0', c1', c2', c3', c4', c5', hB'⟩ := hS
    have HB' := Lib.hid hB'
    clear hB'
    go_wp2
    go_ret2
    exact ⟨rfl, HB'.out⟩

set_option maxHeartbeats 4000000 in
theorem renc_k70 (op : Nat) (hop : op < 57) (hk : kN op = 70) (b : Nat) (hb : wN op = b) (r : Nat) (hr : r < 32) (s : Nat) (hs : s < 32) (imm : Int) (n : Nat) (e4 : IntKind.u32.wrap imm = (n : Int)) (hn : n < 4294967296) (y : Nat) (hy : y = b + r * 128 + s * 32768 + n % 4096 * 1048576) (hyl : y < 4294967296) (K0 : Hid (∀ w : World, Calls Tryz.prog 39 #[.agg #[.int .i64 (op : Nat), .int .i64 (r : Int), .int .i64 (s : Int), .int .i64 0, .int .i64 imm, .int .i64 0]] w fun e w' => e = .returned (.int .i64 0) ∧ Below w.heap.size w w')) (w : World) :
    Calls Tryz.prog 33 #[.agg #[.int .i64 (op : Nat), .int .i64 (r : Int), .int .i64 (s : Int), .int .i64 0, .int .i64 imm, .int .i64 0]] w fun e w' => e = .returned (.tuple #[.int .u32 y, .int .i64 0]) ∧ Below w.heap.size w w' := by
  have KI := Lib.hid (fun w => by have h := rkind_in op hop w; rw [hk] at h; exact h)
  have PL := Lib.hid (fun w => by have h := plain_any op hop w; rw [hb] at h; exact h)
  obtain ⟨y0, hy0⟩ : ∃ y0, y0 = b + r * 128 + s * 32768 := ⟨_, rfl⟩
  have hbl : b < 4294967296 := by omega
  have hy0l : y0 < 4294967296 := by omega
  obtain ⟨m, hm⟩ : ∃ m, m = n % 4096 := ⟨_, rfl⟩
  have em : (n : Int) % 4096 = (m : Int) := by omega
  have hml : m < 4096 := by omega
  have ey : (y0 : Int) + (m : Int) * 1048576 = (y : Int) := by omega
  have HY := Lib.hid (And.intro hy0 (And.intro hbl hy0l))
  have HH := Lib.hid (fun (wb : World) h => held6r_keep (wb := wb) (w := w) (wa := w.alloc (.cells #[.int .i64 (op : Nat), .int .i64 (r : Int), .int .i64 (s : Int), .int .i64 0, .int .i64 imm, .int .i64 0] 34)) (op := op) (rd := (r : Int)) (r1 := (s : Int)) (r2 := 0) (imm := imm) (csr := 0) (by
    refine ⟨?_, ?_, ?_, ?_, ?_, ?_, (Below.refl _ _).alloc (Nat.le_refl _) _⟩ <;> exact cell_of_row _ _ _ _ _ _ (heap_alloc_new w _)) h)
  clear hy hb hk hy0 hm
  go_enter Tryz.func33, Tryz.ntmps33
  go_upto_region 4 with (first | (go_at_call 39; refine (K0.out _).mono ?_; rintro e w1 ⟨rfl, hb1⟩; have h6 := HH.out w1 hb1; have H6 := Lib.hid h6; (obtain ⟨c0, c1, c2, c3, c4, c5, _⟩ := h6); clear hb1) | (go_at_call 30; refine (KI.out _).mono ?_; rintro e w' ⟨rfl, rfl⟩))
  go_region_held3 (fun w' => w'.cell? ⟨w.heap.size, 0, none⟩ = some (.int .i64 (op : Nat)) ∧ w'.cell? ⟨w.heap.size, 1, none⟩ = some (.int .i64 (r : Int)) ∧ w'.cell? ⟨w.heap.size, 2, none⟩ = some (.int .i64 (s : Int)) ∧ w'.cell? ⟨w.heap.size, 3, none⟩ = some (.int .i64 0) ∧ w'.cell? ⟨w.heap.size, 4, none⟩ = some (.int .i64 imm) ∧ w'.cell? ⟨w.heap.size, 5, none⟩ = some (.int .i64 0) ∧ Below w.heap.size w w')
    (first | exact ⟨H6.out.1, H6.out.2.1, H6.out.2.2.1, H6.out.2.2.2.1, H6.out.2.2.2.2.1, H6.out.2.2.2.2.2.1, below_drewN H6.out.2.2.2.2.2.2 _⟩ | exact held6r_keep (by assumption) hb)
    (first | (go_at_call 60; refine (PL.out _).mono ?_; rintro e w' ⟨rfl, hb⟩))
  all_goals
    rw [show IntKind.u32.wrap (IntKind.u32.wrap (IntKind.u32.wrap (IntKind.u32.wrap ((b : Int) + IntKind.u32.wrap (IntKind.u32.wrap (r : Int) * 128)) + IntKind.u32.wrap (IntKind.u32.wrap (s : Int) * 32768)) + IntKind.u32.wrap (IntKind.u32.wrap 0 * 1048576)) + IntKind.u32.wrap (IntKind.u32.wrap 0 * 1048576)) = (y0 : Int) from by simp only [Go.IntKind.wrap_u32]; have := HY.out; omega]
    rename_i hS
    obtain ⟨c0', c1', c2', c3', c4', c5', hB'⟩ := hS
    have HB' := Lib.hid hB'
    clear hB'
    go_wp2
    go_ret2
    exact ⟨rfl, HB'.out⟩
set_option maxHeartbeats 4000000 in
theorem renc_k72 (op : Nat) (hop : op < 57) (hk : kN op = 72) (b : Nat) (hb : wN op = b) (r : Nat) (hr : r < 32) (s : Nat) (hs : s < 32) (m : Nat) (hm : m < 32) (y : Nat) (hy : y = b + r * 128 + s * 32768 + m * 1048576) (hyl : y < 4294967296) (K0 : Hid (∀ w : World, Calls Tryz.prog 39 #[.agg #[.int .i64 (op : Nat), .int .i64 (r : Int), .int .i64 (s : Int), .int .i64 0, .int .i64 (m : Int), .int .i64 0]] w fun e w' => e = .returned (.int .i64 0) ∧ Below w.heap.size w w')) (w : World) :
    Calls Tryz.prog 33 #[.agg #[.int .i64 (op : Nat), .int .i64 (r : Int), .int .i64 (s : Int), .int .i64 0, .int .i64 (m : Int), .int .i64 0]] w fun e w' => e = .returned (.tuple #[.int .u32 y, .int .i64 0]) ∧ Below w.heap.size w w' := by
  have KI := Lib.hid (fun w => by have h := rkind_in op hop w; rw [hk] at h; exact h)
  have PL := Lib.hid (fun w => by have h := plain_any op hop w; rw [hb] at h; exact h)
  obtain ⟨y0, hy0⟩ : ∃ y0, y0 = b + r * 128 + s * 32768 := ⟨_, rfl⟩
  have hbl : b < 4294967296 := by omega
  have hy0l : y0 < 4294967296 := by omega
  have ey : (y0 : Int) + (m : Int) * 1048576 = (y : Int) := by omega
  have HY := Lib.hid (And.intro hy0 (And.intro hbl hy0l))
  have HH := Lib.hid (fun (wb : World) h => held6r_keep (wb := wb) (w := w) (wa := w.alloc (.cells #[.int .i64 (op : Nat), .int .i64 (r : Int), .int .i64 (s : Int), .int .i64 0, .int .i64 (m : Int), .int .i64 0] 34)) (op := op) (rd := (r : Int)) (r1 := (s : Int)) (r2 := 0) (imm := (m : Int)) (csr := 0) (by
    refine ⟨?_, ?_, ?_, ?_, ?_, ?_, (Below.refl _ _).alloc (Nat.le_refl _) _⟩ <;> exact cell_of_row _ _ _ _ _ _ (heap_alloc_new w _)) h)
  clear hy hb hk hy0
  go_enter Tryz.func33, Tryz.ntmps33
  go_upto_region 4 with (first | (go_at_call 39; refine (K0.out _).mono ?_; rintro e w1 ⟨rfl, hb1⟩; have h6 := HH.out w1 hb1; have H6 := Lib.hid h6; (obtain ⟨c0, c1, c2, c3, c4, c5, _⟩ := h6); clear hb1) | (go_at_call 30; refine (KI.out _).mono ?_; rintro e w' ⟨rfl, rfl⟩))
  go_region_held3 (fun w' => w'.cell? ⟨w.heap.size, 0, none⟩ = some (.int .i64 (op : Nat)) ∧ w'.cell? ⟨w.heap.size, 1, none⟩ = some (.int .i64 (r : Int)) ∧ w'.cell? ⟨w.heap.size, 2, none⟩ = some (.int .i64 (s : Int)) ∧ w'.cell? ⟨w.heap.size, 3, none⟩ = some (.int .i64 0) ∧ w'.cell? ⟨w.heap.size, 4, none⟩ = some (.int .i64 (m : Int)) ∧ w'.cell? ⟨w.heap.size, 5, none⟩ = some (.int .i64 0) ∧ Below w.heap.size w w')
    (first | exact ⟨H6.out.1, H6.out.2.1, H6.out.2.2.1, H6.out.2.2.2.1, H6.out.2.2.2.2.1, H6.out.2.2.2.2.2.1, below_drewN H6.out.2.2.2.2.2.2 _⟩ | exact held6r_keep (by assumption) hb)
    (first | (go_at_call 60; refine (PL.out _).mono ?_; rintro e w' ⟨rfl, hb⟩))
  all_goals
    rw [show IntKind.u32.wrap (IntKind.u32.wrap (IntKind.u32.wrap (IntKind.u32.wrap ((b : Int) + IntKind.u32.wrap (IntKind.u32.wrap (r : Int) * 128)) + IntKind.u32.wrap (IntKind.u32.wrap (s : Int) * 32768)) + IntKind.u32.wrap (IntKind.u32.wrap 0 * 1048576)) + IntKind.u32.wrap (IntKind.u32.wrap 0 * 1048576)) = (y0 : Int) from by simp only [Go.IntKind.wrap_u32]; have := HY.out; omega]
    rename_i hS
    obtain ⟨c0', c1', c2', c3', c4', c5', hB'⟩ := hS
    have HB' := Lib.hid hB'
    clear hB'
    go_wp2
    go_ret2
    exact ⟨rfl, HB'.out⟩
set_option maxHeartbeats 4000000 in
theorem renc_k67 (op : Nat) (hop : op < 57) (hk : kN op = 67) (b : Nat) (hb : wN op = b) (r : Nat) (hr : r < 32) (s : Nat) (hs : s < 32) (c : Nat) (hc : c < 4096) (y : Nat) (hy : y = b + r * 128 + s * 32768 + c * 1048576) (hyl : y < 4294967296) (K0 : Hid (∀ w : World, Calls Tryz.prog 39 #[.agg #[.int .i64 (op : Nat), .int .i64 (r : Int), .int .i64 (s : Int), .int .i64 0, .int .i64 0, .int .i64 (c : Int)]] w fun e w' => e = .returned (.int .i64 0) ∧ Below w.heap.size w w')) (w : World) :
    Calls Tryz.prog 33 #[.agg #[.int .i64 (op : Nat), .int .i64 (r : Int), .int .i64 (s : Int), .int .i64 0, .int .i64 0, .int .i64 (c : Int)]] w fun e w' => e = .returned (.tuple #[.int .u32 y, .int .i64 0]) ∧ Below w.heap.size w w' := by
  have KI := Lib.hid (fun w => by have h := rkind_in op hop w; rw [hk] at h; exact h)
  have PL := Lib.hid (fun w => by have h := plain_any op hop w; rw [hb] at h; exact h)
  obtain ⟨y0, hy0⟩ : ∃ y0, y0 = b + r * 128 + s * 32768 + c * 1048576 := ⟨_, rfl⟩
  have hbl : b < 4294967296 := by omega
  have hy0l : y0 < 4294967296 := by omega
  have eyy : y0 = y := by omega
  have HY := Lib.hid (And.intro hy0 (And.intro hbl hy0l))
  have HH := Lib.hid (fun (wb : World) h => held6r_keep (wb := wb) (w := w) (wa := w.alloc (.cells #[.int .i64 (op : Nat), .int .i64 (r : Int), .int .i64 (s : Int), .int .i64 0, .int .i64 0, .int .i64 (c : Int)] 34)) (op := op) (rd := (r : Int)) (r1 := (s : Int)) (r2 := 0) (imm := 0) (csr := (c : Int)) (by
    refine ⟨?_, ?_, ?_, ?_, ?_, ?_, (Below.refl _ _).alloc (Nat.le_refl _) _⟩ <;> exact cell_of_row _ _ _ _ _ _ (heap_alloc_new w _)) h)
  clear hy hb hk hy0
  go_enter Tryz.func33, Tryz.ntmps33
  go_upto_region 4 with (first | (go_at_call 39; refine (K0.out _).mono ?_; rintro e w1 ⟨rfl, hb1⟩; have h6 := HH.out w1 hb1; have H6 := Lib.hid h6; (obtain ⟨c0, c1, c2, c3, c4, c5, _⟩ := h6); clear hb1) | (go_at_call 30; refine (KI.out _).mono ?_; rintro e w' ⟨rfl, rfl⟩))
  go_region_held3 (fun w' => w'.cell? ⟨w.heap.size, 0, none⟩ = some (.int .i64 (op : Nat)) ∧ w'.cell? ⟨w.heap.size, 1, none⟩ = some (.int .i64 (r : Int)) ∧ w'.cell? ⟨w.heap.size, 2, none⟩ = some (.int .i64 (s : Int)) ∧ w'.cell? ⟨w.heap.size, 3, none⟩ = some (.int .i64 0) ∧ w'.cell? ⟨w.heap.size, 4, none⟩ = some (.int .i64 0) ∧ w'.cell? ⟨w.heap.size, 5, none⟩ = some (.int .i64 (c : Int)) ∧ Below w.heap.size w w')
    (first | exact ⟨H6.out.1, H6.out.2.1, H6.out.2.2.1, H6.out.2.2.2.1, H6.out.2.2.2.2.1, H6.out.2.2.2.2.2.1, below_drewN H6.out.2.2.2.2.2.2 _⟩ | exact held6r_keep (by assumption) hb)
    (first | (go_at_call 60; refine (PL.out _).mono ?_; rintro e w' ⟨rfl, hb⟩))
  all_goals
    rw [show IntKind.u32.wrap (IntKind.u32.wrap (IntKind.u32.wrap (IntKind.u32.wrap ((b : Int) + IntKind.u32.wrap (IntKind.u32.wrap (r : Int) * 128)) + IntKind.u32.wrap (IntKind.u32.wrap (s : Int) * 32768)) + IntKind.u32.wrap (IntKind.u32.wrap 0 * 1048576)) + IntKind.u32.wrap (IntKind.u32.wrap (c : Int) * 1048576)) = (y0 : Int) from by simp only [Go.IntKind.wrap_u32]; have := HY.out; omega]
    rename_i hS
    obtain ⟨c0', c1', c2', c3', c4', c5', hB'⟩ := hS
    have HB' := Lib.hid hB'
    clear hB'
    go_upto_region 24 with (fail)
    refine wp_loop_rounds 1 ?_
    rw [rounds_succ]
    go_wp2
    go_ret2
    exact ⟨by first | rfl | (rw [eyy]; rfl) | (simp [eyy]), HB'.out⟩
set_option maxHeartbeats 4000000 in
theorem renc_k78 (op : Nat) (hop : op < 57) (hk : kN op = 78) (b : Nat) (hb : wN op = b) (y : Nat) (hy : y = b) (hyl : y < 4294967296) (K0 : Hid (∀ w : World, Calls Tryz.prog 39 #[.agg #[.int .i64 (op : Nat), .int .i64 0, .int .i64 0, .int .i64 0, .int .i64 0, .int .i64 0]] w fun e w' => e = .returned (.int .i64 0) ∧ Below w.heap.size w w')) (w : World) :
    Calls Tryz.prog 33 #[.agg #[.int .i64 (op : Nat), .int .i64 0, .int .i64 0, .int .i64 0, .int .i64 0, .int .i64 0]] w fun e w' => e = .returned (.tuple #[.int .u32 y, .int .i64 0]) ∧ Below w.heap.size w w' := by
  have KI := Lib.hid (fun w => by have h := rkind_in op hop w; rw [hk] at h; exact h)
  have PL := Lib.hid (fun w => by have h := plain_any op hop w; rw [hb] at h; exact h)
  obtain ⟨y0, hy0⟩ : ∃ y0, y0 = b := ⟨_, rfl⟩
  have hbl : b < 4294967296 := by omega
  have hy0l : y0 < 4294967296 := by omega
  have eyy : y0 = y := by omega
  have HY := Lib.hid (And.intro hy0 (And.intro hbl hy0l))
  have HH := Lib.hid (fun (wb : World) h => held6r_keep (wb := wb) (w := w) (wa := w.alloc (.cells #[.int .i64 (op : Nat), .int .i64 0, .int .i64 0, .int .i64 0, .int .i64 0, .int .i64 0] 34)) (op := op) (rd := 0) (r1 := 0) (r2 := 0) (imm := 0) (csr := 0) (by
    refine ⟨?_, ?_, ?_, ?_, ?_, ?_, (Below.refl _ _).alloc (Nat.le_refl _) _⟩ <;> exact cell_of_row _ _ _ _ _ _ (heap_alloc_new w _)) h)
  clear hy hb hk hy0
  go_enter Tryz.func33, Tryz.ntmps33
  go_upto_region 4 with (first | (go_at_call 39; refine (K0.out _).mono ?_; rintro e w1 ⟨rfl, hb1⟩; have h6 := HH.out w1 hb1; have H6 := Lib.hid h6; (obtain ⟨c0, c1, c2, c3, c4, c5, _⟩ := h6); clear hb1) | (go_at_call 30; refine (KI.out _).mono ?_; rintro e w' ⟨rfl, rfl⟩))
  go_region_held3 (fun w' => w'.cell? ⟨w.heap.size, 0, none⟩ = some (.int .i64 (op : Nat)) ∧ w'.cell? ⟨w.heap.size, 1, none⟩ = some (.int .i64 0) ∧ w'.cell? ⟨w.heap.size, 2, none⟩ = some (.int .i64 0) ∧ w'.cell? ⟨w.heap.size, 3, none⟩ = some (.int .i64 0) ∧ w'.cell? ⟨w.heap.size, 4, none⟩ = some (.int .i64 0) ∧ w'.cell? ⟨w.heap.size, 5, none⟩ = some (.int .i64 0) ∧ Below w.heap.size w w')
    (first | exact ⟨H6.out.1, H6.out.2.1, H6.out.2.2.1, H6.out.2.2.2.1, H6.out.2.2.2.2.1, H6.out.2.2.2.2.2.1, below_drewN H6.out.2.2.2.2.2.2 _⟩ | exact held6r_keep (by assumption) hb)
    (first | (go_at_call 60; refine (PL.out _).mono ?_; rintro e w' ⟨rfl, hb⟩))
  all_goals
    rw [show IntKind.u32.wrap (IntKind.u32.wrap (IntKind.u32.wrap (IntKind.u32.wrap ((b : Int) + IntKind.u32.wrap (IntKind.u32.wrap 0 * 128)) + IntKind.u32.wrap (IntKind.u32.wrap 0 * 32768)) + IntKind.u32.wrap (IntKind.u32.wrap 0 * 1048576)) + IntKind.u32.wrap (IntKind.u32.wrap 0 * 1048576)) = (y0 : Int) from by simp only [Go.IntKind.wrap_u32]; have := HY.out; omega]
    rename_i hS
    obtain ⟨c0', c1', c2', c3', c4', c5', hB'⟩ := hS
    have HB' := Lib.hid hB'
    clear hB'
    go_upto_region 24 with (fail)
    refine wp_loop_rounds 1 ?_
    rw [rounds_succ]
    go_wp2
    go_ret2
    exact ⟨by first | rfl | (rw [eyy]; rfl) | (simp [eyy]), HB'.out⟩

set_option maxHeartbeats 8000000 in
theorem renc_k74 (op : Nat) (hop : op < 57) (hk : kN op = 74) (b : Nat) (hb : wN op = b) (r : Nat) (hr : r < 32) (imm : Int) (n : Nat) (e4 : IntKind.u32.wrap imm = (n : Int)) (hn : n < 4294967296) (y : Nat) (hy : y = putAll n (fromJ.zip toJ) (b + r * 128)) (hyl : b + r * 128 < 4294967296) (K0 : Hid (∀ w : World, Calls Tryz.prog 39 #[.agg #[.int .i64 (op : Nat), .int .i64 (r : Int), .int .i64 0, .int .i64 0, .int .i64 imm, .int .i64 0]] w fun e w' => e = .returned (.int .i64 0) ∧ Below w.heap.size w w')) (w : World) :
    Calls Tryz.prog 33 #[.agg #[.int .i64 (op : Nat), .int .i64 (r : Int), .int .i64 0, .int .i64 0, .int .i64 imm, .int .i64 0]] w fun e w' => e = .returned (.tuple #[.int .u32 y, .int .i64 0]) ∧ Below w.heap.size w w' := by
  have HI : Hid (∃ i, Tryz.prog.info? 3 = some i ∧ i.zero = some (.int .i64 0) ∧ i.size = 1 ∧ i.bytes = 8) := Lib.hid ⟨_, rfl, rfl, rfl, rfl⟩
  have KI := Lib.hid (fun w => by have h := rkind_in op hop w; rw [hk] at h; exact h)
  have PL := Lib.hid (fun w => by have h := plain_any op hop w; rw [hb] at h; exact h)
  obtain ⟨y0, hy0⟩ : ∃ y0, y0 = b + r * 128 := ⟨_, rfl⟩
  rw [← hy0] at hy hyl
  have hbl : b < 4294967296 := by omega
  have HY := Lib.hid (And.intro hy0 (And.intro hbl hyl))
  have HH := Lib.hid (fun (wb : World) h => held6r_keep (wb := wb) (w := w) (wa := w.alloc (.cells #[.int .i64 (op : Nat), .int .i64 (r : Int), .int .i64 0, .int .i64 0, .int .i64 imm, .int .i64 0] 34)) (op := op) (rd := (r : Int)) (r1 := 0) (r2 := 0) (imm := imm) (csr := 0) (by
    refine ⟨?_, ?_, ?_, ?_, ?_, ?_, (Below.refl _ _).alloc (Nat.le_refl _) _⟩ <;> exact cell_of_row _ _ _ _ _ _ (heap_alloc_new w _)) h)
  have HYY := Lib.hid hy
  obtain ⟨F, hF⟩ : ∃ F, F = fromJ := ⟨_, rfl⟩
  have hFl : F.length = 20 := by rw [hF]; decide
  have DF := Lib.hid (fun w => down_at 20 1 20 1 rfl rfl (by decide) (by decide) (.slice none 0 0) [] w.heap.size (by decide) w (Nat.le_refl _) (World.ownsRow_nil _ _ _ _))
  rw [List.nil_append, show dn 20 1 = F from hF.symm] at DF
  obtain ⟨M0, hM0⟩ : ∃ M, M = dn 19 12 := ⟨_, rfl⟩
  have hMl0 : M0.length = 8 := by rw [hM0]; decide
  have D0 := Lib.hid (fun w => down_at 19 12 19 12 rfl rfl (by decide) (by decide) (.slice none 0 0) [] w.heap.size (by decide) w (Nat.le_refl _) (World.ownsRow_nil _ _ _ _))
  rw [List.nil_append, ← hM0] at D0
  obtain ⟨M1, hM1⟩ : ∃ M, M = dn 30 25 := ⟨_, rfl⟩
  have hMl1 : M1.length = 6 := by rw [hM1]; decide
  have D1 := Lib.hid (fun w => down_at 30 25 30 25 rfl rfl (by decide) (by decide) (.slice none 0 0) [] w.heap.size (by decide) w (Nat.le_refl _) (World.ownsRow_nil _ _ _ _))
  rw [List.nil_append, ← hM1] at D1
  obtain ⟨M2, hM2⟩ : ∃ M, M = dn 24 21 := ⟨_, rfl⟩
  have hMl2 : M2.length = 4 := by rw [hM2]; decide
  have D2 := Lib.hid (fun w => down_at 24 21 24 21 rfl rfl (by decide) (by decide) (.slice none 0 0) [] w.heap.size (by decide) w (Nat.le_refl _) (World.ownsRow_nil _ _ _ _))
  rw [List.nil_append, ← hM2] at D2
  have HL := Lib.hid (show F = fromJ ∧ ([31] ++ M0 ++ [20] ++ M1 ++ M2) = toJ from ⟨hF, by rw [hM0, hM1, hM2]; rfl⟩)
  have HN := Lib.hid (And.intro hFl (And.intro hMl0 (And.intro hMl1 hMl2)))
  clear hy hb hk hy0 hyl hF hFl hM0 hMl0 hM1 hMl1 hM2 hMl2
  go_enter Tryz.func33, Tryz.ntmps33
  go_upto_region 4 with (first | (go_at_call 39; refine (K0.out _).mono ?_; rintro e w1 ⟨rfl, hb1⟩; have h6 := HH.out w1 hb1; have H6 := Lib.hid h6; (obtain ⟨c0, c1, c2, c3, c4, c5, _⟩ := h6); clear hb1) | (go_at_call 30; refine (KI.out _).mono ?_; rintro e w' ⟨rfl, rfl⟩))
  go_region_held3 (fun w' => w'.cell? ⟨w.heap.size, 0, none⟩ = some (.int .i64 (op : Nat)) ∧ w'.cell? ⟨w.heap.size, 1, none⟩ = some (.int .i64 (r : Int)) ∧ w'.cell? ⟨w.heap.size, 2, none⟩ = some (.int .i64 0) ∧ w'.cell? ⟨w.heap.size, 3, none⟩ = some (.int .i64 0) ∧ w'.cell? ⟨w.heap.size, 4, none⟩ = some (.int .i64 imm) ∧ w'.cell? ⟨w.heap.size, 5, none⟩ = some (.int .i64 0) ∧ Below w.heap.size w w')
    (first | exact ⟨H6.out.1, H6.out.2.1, H6.out.2.2.1, H6.out.2.2.2.1, H6.out.2.2.2.2.1, H6.out.2.2.2.2.2.1, below_drewN H6.out.2.2.2.2.2.2 _⟩ | exact held6r_keep (by assumption) hb)
    (first | (go_at_call 60; refine (PL.out _).mono ?_; rintro e w' ⟨rfl, hb⟩))
  all_goals
    rw [show IntKind.u32.wrap (IntKind.u32.wrap (IntKind.u32.wrap (IntKind.u32.wrap ((b : Int) + IntKind.u32.wrap (IntKind.u32.wrap (r : Int) * 128)) + IntKind.u32.wrap (IntKind.u32.wrap 0 * 32768)) + IntKind.u32.wrap (IntKind.u32.wrap 0 * 1048576)) + IntKind.u32.wrap (IntKind.u32.wrap 0 * 1048576)) = (y0 : Int) from by simp only [Go.IntKind.wrap_u32]; have := HY.out; omega]
    rename_i wq _ hS
    obtain ⟨c0', c1', c2', c3', c4', c5', hB'⟩ := hS
    have HB' := Lib.hid hB'
    clear hB'
    go_upto_region 24 with (first | (go_at_call 61; (with_reducible refine (DF.out _).mono ?_); rintro e w1 ⟨r1, rfl, hr, hb⟩; have HR1 := Lib.hid hr; have HB1 := Lib.hid (HB'.out.trans (hb.mono HB'.out.size)); clear hr hb) | (go_at_call 61; (with_reducible refine (D0.out _).mono ?_); rintro e w2 ⟨r2, rfl, hr, hb⟩; have HR2 := Lib.hid hr; have HC2 := Lib.hid ((rowN_lit w1 w1.heap.size [31] (Nat.le_refl _) (by decide)).below hb); have HB2 := Lib.hid (((Below.refl _ w1).alloc (Nat.le_refl _) _).trans (hb.mono (by simp))); clear hr hb) | (at_builtin; (obtain ⟨i0, hi, hz0, hz1, hz2⟩ := HI.out); (obtain ⟨ap, cp, hv, hcell⟩ := HR2.out.form); (obtain ⟨gp, hgp, hgl, hcp, hcc⟩ := hcell (by rw [HN.out.2.1]; decide)); have hll : ([31]).length = 1 := (by have := HN.out; first | (simp; done) | (simp; omega) | omega); refine wpList_append_own _ rfl _ _ 49 rfl w1.heap.size 3 i0 (.int .i64 0) 1 8 Tryz.underlying49 hi hz0 hz1 hz2 rfl (by decide) _ _ _ rfl HC2.out ⟨gp, 0, none⟩ M0.length cp (M0.map fun i => Value.int .i64 (i : Nat)) (by rw [hv, hgp]; rfl) (by simp) (row_news hcc) (row_one _) (by rw [hll, HN.out.2.1]; decide) (by rw [hll, HN.out.2.1]; decide) HB2.out.size ?_; intro v3 w3 hown hgrow hnil; have HC3 := Lib.hid (rowN_app rfl hown); have HB3 := Lib.hid (HB2.out.grown hgrow HB2.out.size (fun k hk => (HC2.out.lt k hk).1)); clear hown hgrow hnil hi hz0 hz1 hz2 hll hv hcell hgp hgl hcp hcc) | (at_builtin; (obtain ⟨i0, hi, hz0, hz1, hz2⟩ := HI.out); have hll : ([31] ++ M0).length = 9 := (by have := HN.out; first | (simp; done) | (simp; omega) | omega); refine wpList_append_own _ rfl _ _ 49 rfl w1.heap.size 3 i0 (.int .i64 0) 1 8 Tryz.underlying49 hi hz0 hz1 hz2 rfl (by decide) _ _ _ rfl (HC3.out.alloc _) ⟨w3.heap.size, 0, none⟩ 1 1 [.int .i64 20] rfl rfl (news_i w3 _ _) (by intro u hu; simp at hu; subst hu; rfl) (by rw [hll]; decide) (by rw [hll]; decide) (by have := HB3.out.size; simp; omega) ?_; intro v5 w5 hown hgrow hnil; have HC5 := Lib.hid (rowN_snoc rfl hown); have HB5 := Lib.hid ((HB3.out.alloc HB3.out.size _).grown hgrow (by have := HB3.out.size; simp; omega) (fun k hk => (HC3.out.lt k hk).1)); clear hown hgrow hnil hi hz0 hz1 hz2 hll) | (go_at_call 61; (with_reducible refine (D1.out _).mono ?_); rintro e w6 ⟨r6, rfl, hr, hb⟩; have HR6 := Lib.hid hr; have HC6 := Lib.hid (HC5.out.below hb); have HB6 := Lib.hid (HB5.out.trans (hb.mono HB5.out.size)); clear hr hb) | (at_builtin; (obtain ⟨i0, hi, hz0, hz1, hz2⟩ := HI.out); (obtain ⟨ap, cp, hv, hcell⟩ := HR6.out.form); (obtain ⟨gp, hgp, hgl, hcp, hcc⟩ := hcell (by rw [HN.out.2.2.1]; decide)); have hll : ([31] ++ M0 ++ [20]).length = 10 := (by have := HN.out; first | (simp; done) | (simp; omega) | omega); refine wpList_append_own _ rfl _ _ 49 rfl w1.heap.size 3 i0 (.int .i64 0) 1 8 Tryz.underlying49 hi hz0 hz1 hz2 rfl (by decide) _ _ _ rfl HC6.out ⟨gp, 0, none⟩ M1.length cp (M1.map fun i => Value.int .i64 (i : Nat)) (by rw [hv, hgp]; rfl) (by simp) (row_news hcc) (row_one _) (by rw [hll, HN.out.2.2.1]; decide) (by rw [hll, HN.out.2.2.1]; decide) HB6.out.size ?_; intro v7 w7 hown hgrow hnil; have HC7 := Lib.hid (rowN_app rfl hown); have HB7 := Lib.hid (HB6.out.grown hgrow HB6.out.size (fun k hk => (HC6.out.lt k hk).1)); clear hown hgrow hnil hi hz0 hz1 hz2 hll hv hcell hgp hgl hcp hcc) | (go_at_call 61; (with_reducible refine (D2.out _).mono ?_); rintro e w8 ⟨r8, rfl, hr, hb⟩; have HR8 := Lib.hid hr; have HC8 := Lib.hid (HC7.out.below hb); have HB8 := Lib.hid (HB7.out.trans (hb.mono HB7.out.size)); clear hr hb) | (at_builtin; (obtain ⟨i0, hi, hz0, hz1, hz2⟩ := HI.out); (obtain ⟨ap, cp, hv, hcell⟩ := HR8.out.form); (obtain ⟨gp, hgp, hgl, hcp, hcc⟩ := hcell (by rw [HN.out.2.2.2]; decide)); have hll : ([31] ++ M0 ++ [20] ++ M1).length = 16 := (by have := HN.out; first | (simp; done) | (simp; omega) | omega); refine wpList_append_own _ rfl _ _ 49 rfl w1.heap.size 3 i0 (.int .i64 0) 1 8 Tryz.underlying49 hi hz0 hz1 hz2 rfl (by decide) _ _ _ rfl HC8.out ⟨gp, 0, none⟩ M2.length cp (M2.map fun i => Value.int .i64 (i : Nat)) (by rw [hv, hgp]; rfl) (by simp) (row_news hcc) (row_one _) (by rw [hll, HN.out.2.2.2]; decide) (by rw [hll, HN.out.2.2.2]; decide) HB8.out.size ?_; intro v9 w9 hown hgrow hnil; have HC9 := Lib.hid (rowN_app rfl hown); have HB9 := Lib.hid (HB8.out.grown hgrow HB8.out.size (fun k hk => (HC8.out.lt k hk).1)); clear hown hgrow hnil hi hz0 hz1 hz2 hll hv hcell hgp hgl hcp hcc))
    clear e4
    have hrow1 := HR1.out.below (HB9.out.mono (Nat.le_refl _))
    have hrow2 := HC9.out
    rw [HL.out.2] at hrow2
    obtain ⟨a1, k1, hv1, hc1⟩ := hrow1.form
    obtain ⟨a2, k2, hv2, hc2⟩ := hrow2.form
    have hlen1 : F.length = 20 := HN.out.1
    have hlen2 : toJ.length = 20 := by decide
    obtain ⟨g1, hg1, hgl1, hk1, hcc1⟩ := hc1 (by omega)
    obtain ⟨g2, hg2, hgl2, hk2, hcc2⟩ := hc2 (by omega)
    rw [hlen1] at hcc1 hk1 hv1
    rw [hlen2] at hcc2 hk2 hv2
    subst hg1 hg2 hv1 hv2
    rw [HL.out.1] at hcc1
    have HC1 := Lib.hid hcc1
    have HC2x := Lib.hid hcc2
    have HBB := Lib.hid (HB1.out.trans (HB9.out.mono HB1.out.size))
    clear hcc1 hcc2 hc1 hc2 hrow1 hrow2 hlen1 hlen2
    go_loopw [5, 9] (fun y j wr => ∃ j' y' : Nat, j' ≤ 20 ∧ j = .int .i64 j' ∧ y = .int .u32 y' ∧ y' < 4294967296 ∧ y' = putAll n ((fromJ.zip toJ).take j') y0 ∧ Below w9.heap.size w9 wr) (fun _ j _ => 20 - (intOf j).toNat)
    case atStart => exact ⟨0, y0, by omega, rfl, rfl, HY.out.2.2, rfl, Below.refl _ _⟩
    case round =>
      rename_i wr
      obtain ⟨j', y', hj, rfl, rfl, hyl', hyy, hbel⟩ := hrel
      have HYJ := Lib.hid hyy
      clear hyy
      by_cases hlt : j' < 20
      · obtain ⟨f, hf⟩ : ∃ f, f = fromJ.getD j' 0 := ⟨_, rfl⟩
        obtain ⟨t, ht⟩ : ∃ t, t = toJ.getD j' 0 := ⟨_, rfl⟩
        have hfl : f < 32 := by rw [hf]; exact fromJ_lt j' hlt
        have htl : t < 32 := by rw [ht]; exact toJ_lt j' hlt
        have hcf : wr.cell? ⟨g1, j', none⟩ = some (.int .i64 (f : Nat)) := (hbel.cell (p := ⟨g1, j', none⟩) hgl1).trans (by rw [HC1.out j' hlt, hf])
        have hct : wr.cell? ⟨g2, j', none⟩ = some (.int .i64 (t : Nat)) := (hbel.cell (p := ⟨g2, j', none⟩) hgl2).trans (by rw [HC2x.out j' hlt, ht])
        obtain ⟨x, hx⟩ : ∃ x, x = (n.testBit f).toNat := ⟨_, rfl⟩
        have hx2 : x < 2 := by rw [hx]; cases n.testBit f <;> decide
        have BT : Hid (∀ w : World, Calls Tryz.prog 63 #[.int .u32 n, .int .i64 f] w fun e w' => e = .returned (.int .i64 (x : Nat)) ∧ w = w') := Lib.hid (fun w => by rw [hx, ← bit_val n hn f hfl]; exact bit_any n hn f w)
        have ST : Hid (∀ w : World, Calls Tryz.prog 62 #[.int .u32 y', .int .i64 t, .int .i64 1, .int .u32 x] w fun e w' => e = .returned (.int .u32 (put1 y' t (n.testBit f))) ∧ Below w.heap.size w w') := Lib.hid (fun w => by unfold put1; rw [← hx]; exact set_any y' hyl' t 1 x (by omega) (by omega) (by omega) (by omega) w)
        have ST2 : Hid (∀ w : World, Calls Tryz.prog 62 #[.int .u32 y', .int .i64 t, .int .i64 1, .int .u32 (IntKind.u32.wrap (x : Int))] w fun e w' => e = .returned (.int .u32 (put1 y' t (n.testBit f))) ∧ Below w.heap.size w w') := Lib.hid (fun w => by rw [show IntKind.u32.wrap (x : Int) = (x : Int) from by rw [Go.IntKind.wrap_u32]; omega]; exact ST.out w)
        have hnext : put1 y' t (n.testBit f) = putAll n ((fromJ.zip toJ).take (j' + 1)) y0 := by rw [take_snoc' _ j' (by rw [show (fromJ.zip toJ).length = 20 from by decide]; exact hlt), putAll_snoc, ← HYJ.out, zipJ j' hlt, hf, ht]
        have hz : put1 y' t (n.testBit f) < 4294967296 := put1_lt _ _ _
        obtain ⟨zz, hzz⟩ : ∃ zz, zz = put1 y' t (n.testBit f) := ⟨_, rfl⟩
        rw [← hzz] at hnext hz ST ST2
        have HN2 := Lib.hid hnext
        have HS0 := Lib.hid (show wr.cell? ⟨g1, j', none⟩ = some (.int .i64 (f : Nat)) ∧ wr.cell? ⟨g2, j', none⟩ = some (.int .i64 (t : Nat)) ∧ g1 < wr.heap.size ∧ g2 < wr.heap.size ∧ Below w9.heap.size w9 wr from ⟨hcf, hct, Nat.lt_of_lt_of_le hgl1 hbel.size, Nat.lt_of_lt_of_le hgl2 hbel.size, hbel⟩)
        clear hx hnext hzz hf ht hbel
        go_wp2_with fail
        go_region_held3 (fun w' => w'.cell? ⟨g1, j', none⟩ = some (.int .i64 (f : Nat)) ∧ w'.cell? ⟨g2, j', none⟩ = some (.int .i64 (t : Nat)) ∧ g1 < w'.heap.size ∧ g2 < w'.heap.size ∧ Below w9.heap.size w9 w')
          (first | exact two_drew HS0.out _ | exact two_keep (by assumption) hb)
          (first | (go_at_call 63; (with_reducible refine (BT.out _).mono ?_); rintro e w' ⟨rfl, rfl⟩) | (go_at_call 62; (with_reducible refine (ST.out _).mono ?_); rintro e w' ⟨rfl, hb⟩) | (go_at_call 62; (with_reducible refine (ST2.out _).mono ?_); rintro e w' ⟨rfl, hb⟩))
        all_goals
          go_wp2
          go_roundw
          case rel => exact ⟨j' + 1, zz, by omega, by go_num, rfl, hz, HN2.out, two_below (by assumption)⟩
          case measure => simp [intOf]; omega
      · have hjj : j' = 20 := by omega
        have hyfin : y' = y := by rw [HYJ.out, HYY.out, hjj, List.take_of_length_le (by decide)]
        have HBW := Lib.hid (HBB.out.trans (hbel.mono HBB.out.size))
        clear hbel
        subst hyfin
        go_wp2
        go_ret2
        exact ⟨rfl, HBW.out⟩
set_option maxHeartbeats 8000000 in
theorem renc_k66 (op : Nat) (hop : op < 57) (hk : kN op = 66) (b : Nat) (hb : wN op = b) (s : Nat) (hs : s < 32) (q : Nat) (hq : q < 32) (imm : Int) (n : Nat) (e4 : IntKind.u32.wrap imm = (n : Int)) (hn : n < 4294967296) (y : Nat) (hy : y = putAll n (fromB.zip toB) (b + s * 32768 + q * 1048576)) (hyl : b + s * 32768 + q * 1048576 < 4294967296) (K0 : Hid (∀ w : World, Calls Tryz.prog 39 #[.agg #[.int .i64 (op : Nat), .int .i64 0, .int .i64 (s : Int), .int .i64 (q : Int), .int .i64 imm, .int .i64 0]] w fun e w' => e = .returned (.int .i64 0) ∧ Below w.heap.size w w')) (w : World) :
    Calls Tryz.prog 33 #[.agg #[.int .i64 (op : Nat), .int .i64 0, .int .i64 (s : Int), .int .i64 (q : Int), .int .i64 imm, .int .i64 0]] w fun e w' => e = .returned (.tuple #[.int .u32 y, .int .i64 0]) ∧ Below w.heap.size w w' := by
  have HI : Hid (∃ i, Tryz.prog.info? 3 = some i ∧ i.zero = some (.int .i64 0) ∧ i.size = 1 ∧ i.bytes = 8) := Lib.hid ⟨_, rfl, rfl, rfl, rfl⟩
  have KI := Lib.hid (fun w => by have h := rkind_in op hop w; rw [hk] at h; exact h)
  have PL := Lib.hid (fun w => by have h := plain_any op hop w; rw [hb] at h; exact h)
  obtain ⟨y0, hy0⟩ : ∃ y0, y0 = b + s * 32768 + q * 1048576 := ⟨_, rfl⟩
  rw [← hy0] at hy hyl
  have hbl : b < 4294967296 := by omega
  have HY := Lib.hid (And.intro hy0 (And.intro hbl hyl))
  have HH := Lib.hid (fun (wb : World) h => held6r_keep (wb := wb) (w := w) (wa := w.alloc (.cells #[.int .i64 (op : Nat), .int .i64 0, .int .i64 (s : Int), .int .i64 (q : Int), .int .i64 imm, .int .i64 0] 34)) (op := op) (rd := 0) (r1 := (s : Int)) (r2 := (q : Int)) (imm := imm) (csr := 0) (by
    refine ⟨?_, ?_, ?_, ?_, ?_, ?_, (Below.refl _ _).alloc (Nat.le_refl _) _⟩ <;> exact cell_of_row _ _ _ _ _ _ (heap_alloc_new w _)) h)
  have HYY := Lib.hid hy
  obtain ⟨F, hF⟩ : ∃ F, F = fromB := ⟨_, rfl⟩
  have hFl : F.length = 12 := by rw [hF]; decide
  have DF := Lib.hid (fun w => down_at 12 1 12 1 rfl rfl (by decide) (by decide) (.slice none 0 0) [] w.heap.size (by decide) w (Nat.le_refl _) (World.ownsRow_nil _ _ _ _))
  rw [List.nil_append, show dn 12 1 = F from hF.symm] at DF
  obtain ⟨M0, hM0⟩ : ∃ M, M = dn 30 25 := ⟨_, rfl⟩
  have hMl0 : M0.length = 6 := by rw [hM0]; decide
  have D0 := Lib.hid (fun w => down_at 30 25 30 25 rfl rfl (by decide) (by decide) (.slice none 0 0) [] w.heap.size (by decide) w (Nat.le_refl _) (World.ownsRow_nil _ _ _ _))
  rw [List.nil_append, ← hM0] at D0
  obtain ⟨M1, hM1⟩ : ∃ M, M = dn 11 8 := ⟨_, rfl⟩
  have hMl1 : M1.length = 4 := by rw [hM1]; decide
  have D1 := Lib.hid (fun w => down_at 11 8 11 8 rfl rfl (by decide) (by decide) (.slice none 0 0) [] w.heap.size (by decide) w (Nat.le_refl _) (World.ownsRow_nil _ _ _ _))
  rw [List.nil_append, ← hM1] at D1
  have HL := Lib.hid (show F = fromB ∧ ([31, 7] ++ M0 ++ M1) = toB from ⟨hF, by rw [hM0, hM1]; rfl⟩)
  have HN := Lib.hid (And.intro hFl (And.intro hMl0 hMl1))
  clear hy hb hk hy0 hyl hF hFl hM0 hMl0 hM1 hMl1
  go_enter Tryz.func33, Tryz.ntmps33
  go_upto_region 4 with (first | (go_at_call 39; refine (K0.out _).mono ?_; rintro e w1 ⟨rfl, hb1⟩; have h6 := HH.out w1 hb1; have H6 := Lib.hid h6; (obtain ⟨c0, c1, c2, c3, c4, c5, _⟩ := h6); clear hb1) | (go_at_call 30; refine (KI.out _).mono ?_; rintro e w' ⟨rfl, rfl⟩))
  go_region_held3 (fun w' => w'.cell? ⟨w.heap.size, 0, none⟩ = some (.int .i64 (op : Nat)) ∧ w'.cell? ⟨w.heap.size, 1, none⟩ = some (.int .i64 0) ∧ w'.cell? ⟨w.heap.size, 2, none⟩ = some (.int .i64 (s : Int)) ∧ w'.cell? ⟨w.heap.size, 3, none⟩ = some (.int .i64 (q : Int)) ∧ w'.cell? ⟨w.heap.size, 4, none⟩ = some (.int .i64 imm) ∧ w'.cell? ⟨w.heap.size, 5, none⟩ = some (.int .i64 0) ∧ Below w.heap.size w w')
    (first | exact ⟨H6.out.1, H6.out.2.1, H6.out.2.2.1, H6.out.2.2.2.1, H6.out.2.2.2.2.1, H6.out.2.2.2.2.2.1, below_drewN H6.out.2.2.2.2.2.2 _⟩ | exact held6r_keep (by assumption) hb)
    (first | (go_at_call 60; refine (PL.out _).mono ?_; rintro e w' ⟨rfl, hb⟩))
  all_goals
    rw [show IntKind.u32.wrap (IntKind.u32.wrap (IntKind.u32.wrap (IntKind.u32.wrap ((b : Int) + IntKind.u32.wrap (IntKind.u32.wrap 0 * 128)) + IntKind.u32.wrap (IntKind.u32.wrap (s : Int) * 32768)) + IntKind.u32.wrap (IntKind.u32.wrap (q : Int) * 1048576)) + IntKind.u32.wrap (IntKind.u32.wrap 0 * 1048576)) = (y0 : Int) from by simp only [Go.IntKind.wrap_u32]; have := HY.out; omega]
    rename_i wq _ hS
    obtain ⟨c0', c1', c2', c3', c4', c5', hB'⟩ := hS
    have HB' := Lib.hid hB'
    clear hB'
    go_upto_region 24 with (first | (go_at_call 61; (with_reducible refine (DF.out _).mono ?_); rintro e w1 ⟨r1, rfl, hr, hb⟩; have HR1 := Lib.hid hr; have HB1 := Lib.hid (HB'.out.trans (hb.mono HB'.out.size)); clear hr hb) | (go_at_call 61; (with_reducible refine (D0.out _).mono ?_); rintro e w2 ⟨r2, rfl, hr, hb⟩; have HR2 := Lib.hid hr; have HC2 := Lib.hid ((rowN_lit w1 w1.heap.size [31, 7] (Nat.le_refl _) (by decide)).below hb); have HB2 := Lib.hid (((Below.refl _ w1).alloc (Nat.le_refl _) _).trans (hb.mono (by simp))); clear hr hb) | (at_builtin; (obtain ⟨i0, hi, hz0, hz1, hz2⟩ := HI.out); (obtain ⟨ap, cp, hv, hcell⟩ := HR2.out.form); (obtain ⟨gp, hgp, hgl, hcp, hcc⟩ := hcell (by rw [HN.out.2.1]; decide)); have hll : ([31, 7]).length = 2 := (by have := HN.out; first | (simp; done) | (simp; omega) | omega); refine wpList_append_own _ rfl _ _ 49 rfl w1.heap.size 3 i0 (.int .i64 0) 1 8 Tryz.underlying49 hi hz0 hz1 hz2 rfl (by decide) _ _ _ rfl HC2.out ⟨gp, 0, none⟩ M0.length cp (M0.map fun i => Value.int .i64 (i : Nat)) (by rw [hv, hgp]; rfl) (by simp) (row_news hcc) (row_one _) (by rw [hll, HN.out.2.1]; decide) (by rw [hll, HN.out.2.1]; decide) HB2.out.size ?_; intro v3 w3 hown hgrow hnil; have HC3 := Lib.hid (rowN_app rfl hown); have HB3 := Lib.hid (HB2.out.grown hgrow HB2.out.size (fun k hk => (HC2.out.lt k hk).1)); clear hown hgrow hnil hi hz0 hz1 hz2 hll hv hcell hgp hgl hcp hcc) | (go_at_call 61; (with_reducible refine (D1.out _).mono ?_); rintro e w4 ⟨r4, rfl, hr, hb⟩; have HR4 := Lib.hid hr; have HC4 := Lib.hid (HC3.out.below hb); have HB4 := Lib.hid (HB3.out.trans (hb.mono HB3.out.size)); clear hr hb) | (at_builtin; (obtain ⟨i0, hi, hz0, hz1, hz2⟩ := HI.out); (obtain ⟨ap, cp, hv, hcell⟩ := HR4.out.form); (obtain ⟨gp, hgp, hgl, hcp, hcc⟩ := hcell (by rw [HN.out.2.2]; decide)); have hll : ([31, 7] ++ M0).length = 8 := (by have := HN.out; first | (simp; done) | (simp; omega) | omega); refine wpList_append_own _ rfl _ _ 49 rfl w1.heap.size 3 i0 (.int .i64 0) 1 8 Tryz.underlying49 hi hz0 hz1 hz2 rfl (by decide) _ _ _ rfl HC4.out ⟨gp, 0, none⟩ M1.length cp (M1.map fun i => Value.int .i64 (i : Nat)) (by rw [hv, hgp]; rfl) (by simp) (row_news hcc) (row_one _) (by rw [hll, HN.out.2.2]; decide) (by rw [hll, HN.out.2.2]; decide) HB4.out.size ?_; intro v5 w5 hown hgrow hnil; have HC5 := Lib.hid (rowN_app rfl hown); have HB5 := Lib.hid (HB4.out.grown hgrow HB4.out.size (fun k hk => (HC4.out.lt k hk).1)); clear hown hgrow hnil hi hz0 hz1 hz2 hll hv hcell hgp hgl hcp hcc))
    clear e4
    have hrow1 := HR1.out.below (HB5.out.mono (Nat.le_refl _))
    have hrow2 := HC5.out
    rw [HL.out.2] at hrow2
    obtain ⟨a1, k1, hv1, hc1⟩ := hrow1.form
    obtain ⟨a2, k2, hv2, hc2⟩ := hrow2.form
    have hlen1 : F.length = 12 := HN.out.1
    have hlen2 : toB.length = 12 := by decide
    obtain ⟨g1, hg1, hgl1, hk1, hcc1⟩ := hc1 (by omega)
    obtain ⟨g2, hg2, hgl2, hk2, hcc2⟩ := hc2 (by omega)
    rw [hlen1] at hcc1 hk1 hv1
    rw [hlen2] at hcc2 hk2 hv2
    subst hg1 hg2 hv1 hv2
    rw [HL.out.1] at hcc1
    have HC1 := Lib.hid hcc1
    have HC2x := Lib.hid hcc2
    have HBB := Lib.hid (HB1.out.trans (HB5.out.mono HB1.out.size))
    clear hcc1 hcc2 hc1 hc2 hrow1 hrow2 hlen1 hlen2
    go_loopw [5, 9] (fun y j wr => ∃ j' y' : Nat, j' ≤ 12 ∧ j = .int .i64 j' ∧ y = .int .u32 y' ∧ y' < 4294967296 ∧ y' = putAll n ((fromB.zip toB).take j') y0 ∧ Below w5.heap.size w5 wr) (fun _ j _ => 12 - (intOf j).toNat)
    case atStart => exact ⟨0, y0, by omega, rfl, rfl, HY.out.2.2, rfl, Below.refl _ _⟩
    case round =>
      rename_i wr
      obtain ⟨j', y', hj, rfl, rfl, hyl', hyy, hbel⟩ := hrel
      have HYJ := Lib.hid hyy
      clear hyy
      by_cases hlt : j' < 12
      · obtain ⟨f, hf⟩ : ∃ f, f = fromB.getD j' 0 := ⟨_, rfl⟩
        obtain ⟨t, ht⟩ : ∃ t, t = toB.getD j' 0 := ⟨_, rfl⟩
        have hfl : f < 32 := by rw [hf]; exact fromB_lt j' hlt
        have htl : t < 32 := by rw [ht]; exact toB_lt j' hlt
        have hcf : wr.cell? ⟨g1, j', none⟩ = some (.int .i64 (f : Nat)) := (hbel.cell (p := ⟨g1, j', none⟩) hgl1).trans (by rw [HC1.out j' hlt, hf])
        have hct : wr.cell? ⟨g2, j', none⟩ = some (.int .i64 (t : Nat)) := (hbel.cell (p := ⟨g2, j', none⟩) hgl2).trans (by rw [HC2x.out j' hlt, ht])
        obtain ⟨x, hx⟩ : ∃ x, x = (n.testBit f).toNat := ⟨_, rfl⟩
        have hx2 : x < 2 := by rw [hx]; cases n.testBit f <;> decide
        have BT : Hid (∀ w : World, Calls Tryz.prog 63 #[.int .u32 n, .int .i64 f] w fun e w' => e = .returned (.int .i64 (x : Nat)) ∧ w = w') := Lib.hid (fun w => by rw [hx, ← bit_val n hn f hfl]; exact bit_any n hn f w)
        have ST : Hid (∀ w : World, Calls Tryz.prog 62 #[.int .u32 y', .int .i64 t, .int .i64 1, .int .u32 x] w fun e w' => e = .returned (.int .u32 (put1 y' t (n.testBit f))) ∧ Below w.heap.size w w') := Lib.hid (fun w => by unfold put1; rw [← hx]; exact set_any y' hyl' t 1 x (by omega) (by omega) (by omega) (by omega) w)
        have ST2 : Hid (∀ w : World, Calls Tryz.prog 62 #[.int .u32 y', .int .i64 t, .int .i64 1, .int .u32 (IntKind.u32.wrap (x : Int))] w fun e w' => e = .returned (.int .u32 (put1 y' t (n.testBit f))) ∧ Below w.heap.size w w') := Lib.hid (fun w => by rw [show IntKind.u32.wrap (x : Int) = (x : Int) from by rw [Go.IntKind.wrap_u32]; omega]; exact ST.out w)
        have hnext : put1 y' t (n.testBit f) = putAll n ((fromB.zip toB).take (j' + 1)) y0 := by rw [take_snoc' _ j' (by rw [show (fromB.zip toB).length = 12 from by decide]; exact hlt), putAll_snoc, ← HYJ.out, zipB j' hlt, hf, ht]
        have hz : put1 y' t (n.testBit f) < 4294967296 := put1_lt _ _ _
        obtain ⟨zz, hzz⟩ : ∃ zz, zz = put1 y' t (n.testBit f) := ⟨_, rfl⟩
        rw [← hzz] at hnext hz ST ST2
        have HN2 := Lib.hid hnext
        have HS0 := Lib.hid (show wr.cell? ⟨g1, j', none⟩ = some (.int .i64 (f : Nat)) ∧ wr.cell? ⟨g2, j', none⟩ = some (.int .i64 (t : Nat)) ∧ g1 < wr.heap.size ∧ g2 < wr.heap.size ∧ Below w5.heap.size w5 wr from ⟨hcf, hct, Nat.lt_of_lt_of_le hgl1 hbel.size, Nat.lt_of_lt_of_le hgl2 hbel.size, hbel⟩)
        clear hx hnext hzz hf ht hbel
        go_wp2_with fail
        go_region_held3 (fun w' => w'.cell? ⟨g1, j', none⟩ = some (.int .i64 (f : Nat)) ∧ w'.cell? ⟨g2, j', none⟩ = some (.int .i64 (t : Nat)) ∧ g1 < w'.heap.size ∧ g2 < w'.heap.size ∧ Below w5.heap.size w5 w')
          (first | exact two_drew HS0.out _ | exact two_keep (by assumption) hb)
          (first | (go_at_call 63; (with_reducible refine (BT.out _).mono ?_); rintro e w' ⟨rfl, rfl⟩) | (go_at_call 62; (with_reducible refine (ST.out _).mono ?_); rintro e w' ⟨rfl, hb⟩) | (go_at_call 62; (with_reducible refine (ST2.out _).mono ?_); rintro e w' ⟨rfl, hb⟩))
        all_goals
          go_wp2
          go_roundw
          case rel => exact ⟨j' + 1, zz, by omega, by go_num, rfl, hz, HN2.out, two_below (by assumption)⟩
          case measure => simp [intOf]; omega
      · have hjj : j' = 12 := by omega
        have hyfin : y' = y := by rw [HYJ.out, HYY.out, hjj, List.take_of_length_le (by decide)]
        have HBW := Lib.hid (HBB.out.trans (hbel.mono HBB.out.size))
        clear hbel
        subst hyfin
        go_wp2
        go_ret2
        exact ⟨rfl, HBW.out⟩
set_option maxHeartbeats 8000000 in
theorem renc_k83 (op : Nat) (hop : op < 57) (hk : kN op = 83) (b : Nat) (hb : wN op = b) (s : Nat) (hs : s < 32) (q : Nat) (hq : q < 32) (imm : Int) (n : Nat) (e4 : IntKind.u32.wrap imm = (n : Int)) (hn : n < 4294967296) (y : Nat) (hy : y = putAll n (fromS.zip toS) (b + s * 32768 + q * 1048576)) (hyl : b + s * 32768 + q * 1048576 < 4294967296) (K0 : Hid (∀ w : World, Calls Tryz.prog 39 #[.agg #[.int .i64 (op : Nat), .int .i64 0, .int .i64 (s : Int), .int .i64 (q : Int), .int .i64 imm, .int .i64 0]] w fun e w' => e = .returned (.int .i64 0) ∧ Below w.heap.size w w')) (w : World) :
    Calls Tryz.prog 33 #[.agg #[.int .i64 (op : Nat), .int .i64 0, .int .i64 (s : Int), .int .i64 (q : Int), .int .i64 imm, .int .i64 0]] w fun e w' => e = .returned (.tuple #[.int .u32 y, .int .i64 0]) ∧ Below w.heap.size w w' := by
  have HI : Hid (∃ i, Tryz.prog.info? 3 = some i ∧ i.zero = some (.int .i64 0) ∧ i.size = 1 ∧ i.bytes = 8) := Lib.hid ⟨_, rfl, rfl, rfl, rfl⟩
  have KI := Lib.hid (fun w => by have h := rkind_in op hop w; rw [hk] at h; exact h)
  have PL := Lib.hid (fun w => by have h := plain_any op hop w; rw [hb] at h; exact h)
  obtain ⟨y0, hy0⟩ : ∃ y0, y0 = b + s * 32768 + q * 1048576 := ⟨_, rfl⟩
  rw [← hy0] at hy hyl
  have hbl : b < 4294967296 := by omega
  have HY := Lib.hid (And.intro hy0 (And.intro hbl hyl))
  have HH := Lib.hid (fun (wb : World) h => held6r_keep (wb := wb) (w := w) (wa := w.alloc (.cells #[.int .i64 (op : Nat), .int .i64 0, .int .i64 (s : Int), .int .i64 (q : Int), .int .i64 imm, .int .i64 0] 34)) (op := op) (rd := 0) (r1 := (s : Int)) (r2 := (q : Int)) (imm := imm) (csr := 0) (by
    refine ⟨?_, ?_, ?_, ?_, ?_, ?_, (Below.refl _ _).alloc (Nat.le_refl _) _⟩ <;> exact cell_of_row _ _ _ _ _ _ (heap_alloc_new w _)) h)
  have HYY := Lib.hid hy
  obtain ⟨F, hF⟩ : ∃ F, F = fromS := ⟨_, rfl⟩
  have hFl : F.length = 12 := by rw [hF]; decide
  have DF := Lib.hid (fun w => down_at 11 0 11 0 rfl rfl (by decide) (by decide) (.slice none 0 0) [] w.heap.size (by decide) w (Nat.le_refl _) (World.ownsRow_nil _ _ _ _))
  rw [List.nil_append, show dn 11 0 = F from hF.symm] at DF
  obtain ⟨M0, hM0⟩ : ∃ M, M = dn 31 25 := ⟨_, rfl⟩
  have hMl0 : M0.length = 7 := by rw [hM0]; decide
  have D0 := Lib.hid (fun w => down_at 31 25 31 25 rfl rfl (by decide) (by decide) (.slice none 0 0) [] w.heap.size (by decide) w (Nat.le_refl _) (World.ownsRow_nil _ _ _ _))
  rw [List.nil_append, ← hM0] at D0
  obtain ⟨M1, hM1⟩ : ∃ M, M = dn 11 7 := ⟨_, rfl⟩
  have hMl1 : M1.length = 5 := by rw [hM1]; decide
  have D1 := Lib.hid (fun w => down_at 11 7 11 7 rfl rfl (by decide) (by decide) (.slice none 0 0) [] w.heap.size (by decide) w (Nat.le_refl _) (World.ownsRow_nil _ _ _ _))
  rw [List.nil_append, ← hM1] at D1
  have HL := Lib.hid (show F = fromS ∧ (M0 ++ M1) = toS from ⟨hF, by rw [hM0, hM1]; rfl⟩)
  have HN := Lib.hid (And.intro hFl (And.intro hMl0 hMl1))
  clear hy hb hk hy0 hyl hF hFl hM0 hMl0 hM1 hMl1
  go_enter Tryz.func33, Tryz.ntmps33
  go_upto_region 4 with (first | (go_at_call 39; refine (K0.out _).mono ?_; rintro e w1 ⟨rfl, hb1⟩; have h6 := HH.out w1 hb1; have H6 := Lib.hid h6; (obtain ⟨c0, c1, c2, c3, c4, c5, _⟩ := h6); clear hb1) | (go_at_call 30; refine (KI.out _).mono ?_; rintro e w' ⟨rfl, rfl⟩))
  go_region_held3 (fun w' => w'.cell? ⟨w.heap.size, 0, none⟩ = some (.int .i64 (op : Nat)) ∧ w'.cell? ⟨w.heap.size, 1, none⟩ = some (.int .i64 0) ∧ w'.cell? ⟨w.heap.size, 2, none⟩ = some (.int .i64 (s : Int)) ∧ w'.cell? ⟨w.heap.size, 3, none⟩ = some (.int .i64 (q : Int)) ∧ w'.cell? ⟨w.heap.size, 4, none⟩ = some (.int .i64 imm) ∧ w'.cell? ⟨w.heap.size, 5, none⟩ = some (.int .i64 0) ∧ Below w.heap.size w w')
    (first | exact ⟨H6.out.1, H6.out.2.1, H6.out.2.2.1, H6.out.2.2.2.1, H6.out.2.2.2.2.1, H6.out.2.2.2.2.2.1, below_drewN H6.out.2.2.2.2.2.2 _⟩ | exact held6r_keep (by assumption) hb)
    (first | (go_at_call 60; refine (PL.out _).mono ?_; rintro e w' ⟨rfl, hb⟩))
  all_goals
    rw [show IntKind.u32.wrap (IntKind.u32.wrap (IntKind.u32.wrap (IntKind.u32.wrap ((b : Int) + IntKind.u32.wrap (IntKind.u32.wrap 0 * 128)) + IntKind.u32.wrap (IntKind.u32.wrap (s : Int) * 32768)) + IntKind.u32.wrap (IntKind.u32.wrap (q : Int) * 1048576)) + IntKind.u32.wrap (IntKind.u32.wrap 0 * 1048576)) = (y0 : Int) from by simp only [Go.IntKind.wrap_u32]; have := HY.out; omega]
    rename_i wq _ hS
    obtain ⟨c0', c1', c2', c3', c4', c5', hB'⟩ := hS
    have HB' := Lib.hid hB'
    clear hB'
    go_upto_region 24 with (first | (go_at_call 61; (with_reducible refine (DF.out _).mono ?_); rintro e w1 ⟨r1, rfl, hr, hb⟩; have HR1 := Lib.hid hr; have HB1 := Lib.hid (HB'.out.trans (hb.mono HB'.out.size)); clear hr hb) | (go_at_call 61; (with_reducible refine (D0.out _).mono ?_); rintro e w2 ⟨r2, rfl, hr, hb⟩; have HX2 := Lib.hid hr; have HBx := Lib.hid hb; clear hr hb) | (go_at_call 61; (with_reducible refine (D1.out _).mono ?_); rintro e w4 ⟨r4, rfl, hr, hb⟩; have HR4 := Lib.hid hr; have HC4 := Lib.hid (HX2.out.below hb); have HB4 := Lib.hid (HBx.out.trans (hb.mono HBx.out.size)); clear hr hb) | (at_builtin; (obtain ⟨i0, hi, hz0, hz1, hz2⟩ := HI.out); (obtain ⟨ap, cp, hv, hcell⟩ := HR4.out.form); (obtain ⟨gp, hgp, hgl, hcp, hcc⟩ := hcell (by rw [HN.out.2.2]; decide)); have hll : (M0).length = 7 := (by have := HN.out; first | (simp; done) | (simp; omega) | omega); refine wpList_append_own _ rfl _ _ 49 rfl w1.heap.size 3 i0 (.int .i64 0) 1 8 Tryz.underlying49 hi hz0 hz1 hz2 rfl (by decide) _ _ _ rfl HC4.out ⟨gp, 0, none⟩ M1.length cp (M1.map fun i => Value.int .i64 (i : Nat)) (by rw [hv, hgp]; rfl) (by simp) (row_news hcc) (row_one _) (by rw [hll, HN.out.2.2]; decide) (by rw [hll, HN.out.2.2]; decide) HB4.out.size ?_; intro v5 w5 hown hgrow hnil; have HC5 := Lib.hid (rowN_app rfl hown); have HB5 := Lib.hid (HB4.out.grown hgrow HB4.out.size (fun k hk => (HC4.out.lt k hk).1)); clear hown hgrow hnil hi hz0 hz1 hz2 hll hv hcell hgp hgl hcp hcc))
    clear e4
    have hrow1 := HR1.out.below (HB5.out.mono (Nat.le_refl _))
    have hrow2 := HC5.out
    rw [HL.out.2] at hrow2
    obtain ⟨a1, k1, hv1, hc1⟩ := hrow1.form
    obtain ⟨a2, k2, hv2, hc2⟩ := hrow2.form
    have hlen1 : F.length = 12 := HN.out.1
    have hlen2 : toS.length = 12 := by decide
    obtain ⟨g1, hg1, hgl1, hk1, hcc1⟩ := hc1 (by omega)
    obtain ⟨g2, hg2, hgl2, hk2, hcc2⟩ := hc2 (by omega)
    rw [hlen1] at hcc1 hk1 hv1
    rw [hlen2] at hcc2 hk2 hv2
    subst hg1 hg2 hv1 hv2
    rw [HL.out.1] at hcc1
    have HC1 := Lib.hid hcc1
    have HC2x := Lib.hid hcc2
    have HBB := Lib.hid (HB1.out.trans (HB5.out.mono HB1.out.size))
    clear hcc1 hcc2 hc1 hc2 hrow1 hrow2 hlen1 hlen2
    simp only [Int.zero_mul, Int.add_zero, Int.emod_add_emod]
    go_loopw [5, 9] (fun y j wr => ∃ j' y' : Nat, j' ≤ 12 ∧ j = .int .i64 j' ∧ y = .int .u32 y' ∧ y' < 4294967296 ∧ y' = putAll n ((fromS.zip toS).take j') y0 ∧ Below w5.heap.size w5 wr) (fun _ j _ => 12 - (intOf j).toNat)
    case atStart => exact ⟨0, y0, by omega, rfl, rfl, HY.out.2.2, rfl, Below.refl _ _⟩
    case round =>
      rename_i wr
      obtain ⟨j', y', hj, rfl, rfl, hyl', hyy, hbel⟩ := hrel
      have HYJ := Lib.hid hyy
      clear hyy
      by_cases hlt : j' < 12
      · obtain ⟨f, hf⟩ : ∃ f, f = fromS.getD j' 0 := ⟨_, rfl⟩
        obtain ⟨t, ht⟩ : ∃ t, t = toS.getD j' 0 := ⟨_, rfl⟩
        have hfl : f < 32 := by rw [hf]; exact fromS_lt j' hlt
        have htl : t < 32 := by rw [ht]; exact toS_lt j' hlt
        have hcf : wr.cell? ⟨g1, j', none⟩ = some (.int .i64 (f : Nat)) := (hbel.cell (p := ⟨g1, j', none⟩) hgl1).trans (by rw [HC1.out j' hlt, hf])
        have hct : wr.cell? ⟨g2, j', none⟩ = some (.int .i64 (t : Nat)) := (hbel.cell (p := ⟨g2, j', none⟩) hgl2).trans (by rw [HC2x.out j' hlt, ht])
        obtain ⟨x, hx⟩ : ∃ x, x = (n.testBit f).toNat := ⟨_, rfl⟩
        have hx2 : x < 2 := by rw [hx]; cases n.testBit f <;> decide
        have BT : Hid (∀ w : World, Calls Tryz.prog 63 #[.int .u32 n, .int .i64 f] w fun e w' => e = .returned (.int .i64 (x : Nat)) ∧ w = w') := Lib.hid (fun w => by rw [hx, ← bit_val n hn f hfl]; exact bit_any n hn f w)
        have ST : Hid (∀ w : World, Calls Tryz.prog 62 #[.int .u32 y', .int .i64 t, .int .i64 1, .int .u32 x] w fun e w' => e = .returned (.int .u32 (put1 y' t (n.testBit f))) ∧ Below w.heap.size w w') := Lib.hid (fun w => by unfold put1; rw [← hx]; exact set_any y' hyl' t 1 x (by omega) (by omega) (by omega) (by omega) w)
        have ST2 : Hid (∀ w : World, Calls Tryz.prog 62 #[.int .u32 y', .int .i64 t, .int .i64 1, .int .u32 (IntKind.u32.wrap (x : Int))] w fun e w' => e = .returned (.int .u32 (put1 y' t (n.testBit f))) ∧ Below w.heap.size w w') := Lib.hid (fun w => by rw [show IntKind.u32.wrap (x : Int) = (x : Int) from by rw [Go.IntKind.wrap_u32]; omega]; exact ST.out w)
        have hnext : put1 y' t (n.testBit f) = putAll n ((fromS.zip toS).take (j' + 1)) y0 := by rw [take_snoc' _ j' (by rw [show (fromS.zip toS).length = 12 from by decide]; exact hlt), putAll_snoc, ← HYJ.out, zipS j' hlt, hf, ht]
        have hz : put1 y' t (n.testBit f) < 4294967296 := put1_lt _ _ _
        obtain ⟨zz, hzz⟩ : ∃ zz, zz = put1 y' t (n.testBit f) := ⟨_, rfl⟩
        rw [← hzz] at hnext hz ST ST2
        have HN2 := Lib.hid hnext
        have HS0 := Lib.hid (show wr.cell? ⟨g1, j', none⟩ = some (.int .i64 (f : Nat)) ∧ wr.cell? ⟨g2, j', none⟩ = some (.int .i64 (t : Nat)) ∧ g1 < wr.heap.size ∧ g2 < wr.heap.size ∧ Below w5.heap.size w5 wr from ⟨hcf, hct, Nat.lt_of_lt_of_le hgl1 hbel.size, Nat.lt_of_lt_of_le hgl2 hbel.size, hbel⟩)
        clear hx hnext hzz hf ht hbel
        go_wp2_with fail
        go_region_held3 (fun w' => w'.cell? ⟨g1, j', none⟩ = some (.int .i64 (f : Nat)) ∧ w'.cell? ⟨g2, j', none⟩ = some (.int .i64 (t : Nat)) ∧ g1 < w'.heap.size ∧ g2 < w'.heap.size ∧ Below w5.heap.size w5 w')
          (first | exact two_drew HS0.out _ | exact two_keep (by assumption) hb)
          (first | (go_at_call 63; (with_reducible refine (BT.out _).mono ?_); rintro e w' ⟨rfl, rfl⟩) | (go_at_call 62; (with_reducible refine (ST.out _).mono ?_); rintro e w' ⟨rfl, hb⟩) | (go_at_call 62; (with_reducible refine (ST2.out _).mono ?_); rintro e w' ⟨rfl, hb⟩))
        all_goals
          go_wp2
          go_roundw
          case rel => exact ⟨j' + 1, zz, by omega, by go_num, rfl, hz, HN2.out, two_below (by assumption)⟩
          case measure => simp [intOf]; omega
      · have hjj : j' = 12 := by omega
        have hyfin : y' = y := by rw [HYJ.out, HYY.out, hjj, List.take_of_length_le (by decide)]
        have HBW := Lib.hid (HBB.out.trans (hbel.mono HBB.out.size))
        clear hbel
        subst hyfin
        go_wp2
        go_ret2
        exact ⟨rfl, HBW.out⟩

set_option maxHeartbeats 4000000 in
theorem renc_no (op rd r1 r2 imm csr : Int) (h : ¬ Can op rd r1 r2 imm csr) (w : World) : Calls Tryz.prog 33 #[.agg #[.int .i64 op, .int .i64 rd, .int .i64 r1, .int .i64 r2, .int .i64 imm, .int .i64 csr]] w fun e w' => e = .returned (.tuple #[.int .u32 0, .int .i64 1]) ∧ Below w.heap.size w w' := by
  have K := Lib.hid (fun w => rcheck3_any op rd r1 r2 imm csr 1 (by rw [if_neg h]) w)
  clear h
  go_enter Tryz.func33, Tryz.ntmps33
  go_wp2_with (go_at_call 39; refine (K.out _).mono ?_; rintro e w1 ⟨rfl, hb⟩)
  go_ret2
  exact ⟨rfl, ((Below.refl _ w).alloc (Nat.le_refl _) _).trans (hb.mono (by simp))⟩

theorem renc_yes (op rd r1 r2 imm csr : Int) (h : Can op rd r1 r2 imm csr) (w : World) : Calls Tryz.prog 33 #[.agg #[.int .i64 op, .int .i64 rd, .int .i64 r1, .int .i64 r2, .int .i64 imm, .int .i64 csr]] w fun e w' => e = .returned (.tuple #[.int .u32 (lw op rd r1 r2 imm csr : Nat), .int .i64 0]) ∧ Below w.heap.size w w' := by
  have hc := (can_iff op rd r1 r2 imm csr).1 h
  obtain ⟨h0, g⟩ := hc
  obtain ⟨o, rfl⟩ := Int.eq_ofNat_of_zero_le h0.1
  have ho : o < 57 := by omega
  rw [Int.toNat_natCast] at g
  have K0 := Lib.hid (fun w => rcheck3_any o rd r1 r2 imm csr 0 (by rw [if_pos h]) w)
  have hl := lw_lt (o : Int) rd r1 r2 imm csr (by rw [Int.toNat_natCast]; exact ho)
  have e : lw (o : Int) rd r1 r2 imm csr = laidI (kN o) (wN o) rd r1 r2 imm csr := by unfold lw; rw [Int.toNat_natCast]
  rw [e] at hl ⊢
  have hw := wN_lt o ho
  obtain ⟨n, hn⟩ : ∃ n, n = (imm % 4294967296).toNat := ⟨_, rfl⟩
  have e4 : IntKind.u32.wrap imm = (n : Int) := by rw [Go.IntKind.wrap_u32]; omega
  have hn2 : n < 4294967296 := by omega
  have st := st_all o ho
  clear h e h0
  rcases kinds11 o ho with hk | hk | hk | hk | hk | hk | hk | hk | hk | hk | hk
  all_goals
    rw [hk] at g st hl ⊢
    obtain ⟨sU, sI, sH⟩ := st_parts st
    obtain ⟨⟨i1, i2, i3⟩, ⟨d1, d2⟩, ⟨a1, a2⟩, ⟨c1, c2⟩, ⟨e1, e2⟩⟩ := g
  · obtain rfl : r1 = 0 := Int.le_antisymm a2 a1
    obtain rfl : r2 = 0 := Int.le_antisymm c2 c1
    obtain rfl : csr = 0 := Int.le_antisymm e2 e1
    have d2 : rd ≤ 31 := d2
    have i3 : imm % 4096 = 0 := i3
    obtain ⟨r, rfl⟩ := Int.eq_ofNat_of_zero_le d1
    have hy := lw_U (sU (by decide)) (by omega : r < 32) hn.symm (by omega)
    exact renc_k85 o ho hk _ rfl r (by omega) imm n e4 hn2 _ hy hl K0 w
  · obtain rfl : r1 = 0 := Int.le_antisymm a2 a1
    obtain rfl : r2 = 0 := Int.le_antisymm c2 c1
    obtain rfl : csr = 0 := Int.le_antisymm e2 e1
    have d2 : rd ≤ 31 := d2
    obtain ⟨r, rfl⟩ := Int.eq_ofNat_of_zero_le d1
    have hb := sU (by decide)
    have hy := lw_J hb (by omega : r < 32) hn.symm hl
    exact renc_k74 o ho hk _ rfl r (by omega) imm n e4 hn2 _ hy (by omega) K0 w
  · obtain rfl : r2 = 0 := Int.le_antisymm c2 c1
    obtain rfl : csr = 0 := Int.le_antisymm e2 e1
    have d2 : rd ≤ 31 := d2
    have a2 : r1 ≤ 31 := a2
    obtain ⟨r, rfl⟩ := Int.eq_ofNat_of_zero_le d1
    obtain ⟨s, rfl⟩ := Int.eq_ofNat_of_zero_le a1
    have hy := lw_I (k := 73) (by decide) (sI (by decide)) (by omega : r < 32) (by omega : s < 32) hn.symm
    exact renc_k73 o ho hk _ rfl r (by omega) s (by omega) imm n e4 hn2 _ hy hl K0 w
  · obtain rfl : r2 = 0 := Int.le_antisymm c2 c1
    obtain rfl : csr = 0 := Int.le_antisymm e2 e1
    have d2 : rd ≤ 31 := d2
    have a2 : r1 ≤ 31 := a2
    obtain ⟨r, rfl⟩ := Int.eq_ofNat_of_zero_le d1
    obtain ⟨s, rfl⟩ := Int.eq_ofNat_of_zero_le a1
    have hy := lw_I (k := 76) (by decide) (sI (by decide)) (by omega : r < 32) (by omega : s < 32) hn.symm
    exact renc_k76 o ho hk _ rfl r (by omega) s (by omega) imm n e4 hn2 _ hy hl K0 w
  · obtain rfl : r2 = 0 := Int.le_antisymm c2 c1
    obtain rfl : csr = 0 := Int.le_antisymm e2 e1
    have d2 : rd ≤ 31 := d2
    have a2 : r1 ≤ 31 := a2
    obtain ⟨r, rfl⟩ := Int.eq_ofNat_of_zero_le d1
    obtain ⟨s, rfl⟩ := Int.eq_ofNat_of_zero_le a1
    have hy := lw_I (k := 70) (by decide) (sI (by decide)) (by omega : r < 32) (by omega : s < 32) hn.symm
    exact renc_k70 o ho hk _ rfl r (by omega) s (by omega) imm n e4 hn2 _ hy hl K0 w
  · obtain rfl : rd = 0 := Int.le_antisymm d2 d1
    obtain rfl : csr = 0 := Int.le_antisymm e2 e1
    have a2 : r1 ≤ 31 := a2
    have c2 : r2 ≤ 31 := c2
    obtain ⟨s, rfl⟩ := Int.eq_ofNat_of_zero_le a1
    obtain ⟨q, rfl⟩ := Int.eq_ofNat_of_zero_le c1
    have hb := sI (by decide)
    have hy := lw_B hb (by omega : s < 32) (by omega : q < 32) hn.symm hl
    exact renc_k66 o ho hk _ rfl s (by omega) q (by omega) imm n e4 hn2 _ hy (by omega) K0 w
  · obtain rfl : rd = 0 := Int.le_antisymm d2 d1
    obtain rfl : csr = 0 := Int.le_antisymm e2 e1
    have a2 : r1 ≤ 31 := a2
    have c2 : r2 ≤ 31 := c2
    obtain ⟨s, rfl⟩ := Int.eq_ofNat_of_zero_le a1
    obtain ⟨q, rfl⟩ := Int.eq_ofNat_of_zero_le c1
    have hb := sI (by decide)
    have hy := lw_S hb (by omega : s < 32) (by omega : q < 32) hn.symm hl
    exact renc_k83 o ho hk _ rfl s (by omega) q (by omega) imm n e4 hn2 _ hy (by omega) K0 w
  · obtain rfl : r2 = 0 := Int.le_antisymm c2 c1
    obtain rfl : csr = 0 := Int.le_antisymm e2 e1
    have d2 : rd ≤ 31 := d2
    have a2 : r1 ≤ 31 := a2
    have i1 : 0 ≤ imm := i1
    have i2 : imm ≤ 31 := i2
    obtain ⟨r, rfl⟩ := Int.eq_ofNat_of_zero_le d1
    obtain ⟨s, rfl⟩ := Int.eq_ofNat_of_zero_le a1
    obtain ⟨m, rfl⟩ := Int.eq_ofNat_of_zero_le i1
    have hy := lw_H (sH (by decide)) (by omega : r < 32) (by omega : s < 32) (by omega : m < 32)
    exact renc_k72 o ho hk _ rfl r (by omega) s (by omega) m (by omega) _ hy hl K0 w
  · obtain rfl : r2 = 0 := Int.le_antisymm c2 c1
    obtain rfl : imm = 0 := Int.le_antisymm i2 i1
    have d2 : rd ≤ 31 := d2
    have a2 : r1 ≤ 31 := a2
    have e2 : csr ≤ 4095 := e2
    obtain ⟨r, rfl⟩ := Int.eq_ofNat_of_zero_le d1
    obtain ⟨s, rfl⟩ := Int.eq_ofNat_of_zero_le a1
    obtain ⟨c, rfl⟩ := Int.eq_ofNat_of_zero_le e1
    have hy := lw_C (sI (by decide)) (by omega : r < 32) (by omega : s < 32) (by omega : c < 4096)
    exact renc_k67 o ho hk _ rfl r (by omega) s (by omega) c (by omega) _ hy hl K0 w
  · obtain rfl : csr = 0 := Int.le_antisymm e2 e1
    obtain rfl : imm = 0 := Int.le_antisymm i2 i1
    have d2 : rd ≤ 31 := d2
    have a2 : r1 ≤ 31 := a2
    have c2 : r2 ≤ 31 := c2
    obtain ⟨r, rfl⟩ := Int.eq_ofNat_of_zero_le d1
    obtain ⟨s, rfl⟩ := Int.eq_ofNat_of_zero_le a1
    obtain ⟨q, rfl⟩ := Int.eq_ofNat_of_zero_le c1
    have hy := lw_R (sH (by decide)) (by omega : r < 32) (by omega : s < 32) (by omega : q < 32)
    exact renc_k82 o ho hk _ rfl r s q (by omega) (by omega) (by omega) _ hy hl K0 w
  · obtain rfl : rd = 0 := Int.le_antisymm d2 d1
    obtain rfl : r1 = 0 := Int.le_antisymm a2 a1
    obtain rfl : r2 = 0 := Int.le_antisymm c2 c1
    obtain rfl : csr = 0 := Int.le_antisymm e2 e1
    obtain rfl : imm = 0 := Int.le_antisymm i2 i1
    exact renc_k78 o ho hk _ rfl _ lw_N hl K0 w

end Go.Proofs.YtkcdnhennnjneaaGreatDoor
