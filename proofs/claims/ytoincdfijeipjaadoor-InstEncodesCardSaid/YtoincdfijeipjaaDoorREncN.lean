import Derived.Test.YtoincdfijeipjaaDoorREncH
import Derived.Below
import Derived.Deep.Draws
import Derived.Deep.AppendLies
import Derived.Maps.AppendAt
import Derived.OwnWalk
import Derived.Laws.BytesArg
import Derived.Laws.MakeOwn
import Derived.Laws.OwnMore
import Derived.Deep.OwnRows
import Derived.Tactics
import Derived.Lib.ConvBytes
import Derived.Laws.Slices
import Derived.WalkKit
import Derived.KernelRfl
import Derived.RowKit3
import Derived.Deep.LoopGhost
import Derived.Deep.QuietTactic
import Derived.BigQuiet
import Derived.WideLaws
import Derived.Deep.DeepCutAuto
import Derived.Deep.CutBlock
import Derived.Deep.RegionHeld3
import Derived.Laws.Rows
import Derived.Lib.AppendStr
import Derived.ArgAppend
import Derived.Laws.IdiomCopy
import Derived.OrdersHeld
import Derived.Laws.BitsLemmas
import Derived.RowKit
import Derived.Lib.Hide
import Derived.Laws.BitsAllLaws
import Derived.WalkLawsBesides
import Derived.WalkSpells
import Derived.LaidEql
namespace Go.Proofs.YtoincdfijeipjaaDoor
open Go.RowKit
set_option maxRecDepth 100000
set_option linter.unusedVariables false
set_option linter.unusedSimpArgs false

set_option maxHeartbeats 4000000 in
theorem renc_k82 (op : Nat) (hop : op < 57) (hk : kN op = 82) (b : Nat) (hb : wN op = b) (r s q : Nat) (hr : r < 32) (hs : s < 32) (hq : q < 32) (y : Nat) (hy : y = b + r * 128 + s * 32768 + q * 1048576) (hyl : y < 4294967296) (K0 : Hid (∀ w : World, Calls Tryd.prog 18 #[.agg #[.int .i64 op, .int .i64 r, .int .i64 s, .int .i64 q, .int .i64 0, .int .i64 0]] w fun e w' => e = .returned (.int .i64 0) ∧ Below w.heap.size w w')) (w : World) :
    Calls Tryd.prog 16 #[.agg #[.int .i64 op, .int .i64 r, .int .i64 s, .int .i64 q, .int .i64 0, .int .i64 0]] w fun e w' => e = .returned (.tuple #[.int .u32 y, .int .i64 0]) ∧ Below w.heap.size w w' := by
  have KI := Lib.hid (fun w => by have h := rkind_in op hop w; rw [hk] at h; exact h)
  have PL := Lib.hid (fun w => by have h := plain_any op hop w; rw [hb] at h; exact h)
  have hbl : b < 4294967296 := by omega
  have HY := Lib.hid hy
  have s1 : (b : Int) + (r : Int) * 128 < 4294967296 := by omega
  have s2 : (b : Int) + (r : Int) * 128 + (s : Int) * 32768 < 4294967296 := by omega
  have s3 : (b : Int) + (r : Int) * 128 + (s : Int) * 32768 + (q : Int) * 1048576 < 4294967296 := by omega
  have HH := Lib.hid (fun (wb : World) h => held6r_keep (wb := wb) (w := w) (wa := w.alloc (.cells #[.int .i64 op, .int .i64 r, .int .i64 s, .int .i64 q, .int .i64 0, .int .i64 0] 29)) (op := op) (rd := r) (r1 := s) (r2 := q) (imm := 0) (csr := 0) (by
    refine ⟨?_, ?_, ?_, ?_, ?_, ?_, (Below.refl _ _).alloc (Nat.le_refl _) _⟩ <;> exact cell_of_row _ _ _ _ _ _ (heap_alloc_new w _)) h)
  clear hy hb hk
  go_enter Tryd.func16, Tryd.ntmps16
  go_upto_region 4 with (first | (go_at_call 18; refine (K0.out _).mono ?_; rintro e w1 ⟨rfl, hb1⟩; have h6 := HH.out w1 hb1; have H6 := Lib.hid h6; (obtain ⟨c0, c1, c2, c3, c4, c5, _⟩ := h6); clear hb1) | (go_at_call 24; refine (KI.out _).mono ?_; rintro e w' ⟨rfl, rfl⟩))
  go_region_held3 (fun w' => w'.cell? ⟨w.heap.size, 0, none⟩ = some (.int .i64 (op : Nat)) ∧ w'.cell? ⟨w.heap.size, 1, none⟩ = some (.int .i64 (r : Nat)) ∧ w'.cell? ⟨w.heap.size, 2, none⟩ = some (.int .i64 (s : Nat)) ∧ w'.cell? ⟨w.heap.size, 3, none⟩ = some (.int .i64 (q : Nat)) ∧ w'.cell? ⟨w.heap.size, 4, none⟩ = some (.int .i64 0) ∧ w'.cell? ⟨w.heap.size, 5, none⟩ = some (.int .i64 0) ∧ Below w.heap.size w w')
    (first | exact ⟨H6.out.1, H6.out.2.1, H6.out.2.2.1, H6.out.2.2.2.1, H6.out.2.2.2.2.1, H6.out.2.2.2.2.2.1, below_drewN H6.out.2.2.2.2.2.2 _⟩ | exact held6r_keep (by assumption) hb)
    (first | (go_at_call 41; refine (PL.out _).mono ?_; rintro e w' ⟨rfl, hb⟩))
  all_goals
    rw [show IntKind.u32.wrap (IntKind.u32.wrap (IntKind.u32.wrap (IntKind.u32.wrap ((b : Int) + IntKind.u32.wrap (IntKind.u32.wrap (r : Int) * 128)) + IntKind.u32.wrap (IntKind.u32.wrap (s : Int) * 32768)) + IntKind.u32.wrap (IntKind.u32.wrap (q : Int) * 1048576)) + IntKind.u32.wrap (IntKind.u32.wrap 0 * 1048576)) = (y : Int) from by simp only [Go.IntKind.wrap_u32]; have := HY.out; omega]
    rename_i hS
    obtain ⟨c0', c1', c2', c3', c4', c5', hB'⟩ := hS
    have HB' := Lib.hid hB'
    clear hB' s1 s2 s3
    go_upto_region 24 with (fail)
    refine wp_loop_rounds 1 ?_
    rw [rounds_succ]
    go_wp2
    go_ret2
    exact ⟨rfl, HB'.out⟩

set_option maxHeartbeats 4000000 in
theorem renc_k85 (op : Nat) (hop : op < 57) (hk : kN op = 85) (b : Nat) (hb : wN op = b) (r : Nat) (hr : r < 32) (imm : Int) (n : Nat) (e4 : IntKind.u32.wrap imm = (n : Int)) (hn : n < 4294967296) (y : Nat) (hy : y = b + r * 128 + n) (hyl : y < 4294967296) (K0 : Hid (∀ w : World, Calls Tryd.prog 18 #[.agg #[.int .i64 (op : Nat), .int .i64 (r : Int), .int .i64 0, .int .i64 0, .int .i64 imm, .int .i64 0]] w fun e w' => e = .returned (.int .i64 0) ∧ Below w.heap.size w w')) (w : World) :
    Calls Tryd.prog 16 #[.agg #[.int .i64 (op : Nat), .int .i64 (r : Int), .int .i64 0, .int .i64 0, .int .i64 imm, .int .i64 0]] w fun e w' => e = .returned (.tuple #[.int .u32 y, .int .i64 0]) ∧ Below w.heap.size w w' := by
  have KI := Lib.hid (fun w => by have h := rkind_in op hop w; rw [hk] at h; exact h)
  have PL := Lib.hid (fun w => by have h := plain_any op hop w; rw [hb] at h; exact h)
  obtain ⟨y0, hy0⟩ : ∃ y0, y0 = b + r * 128 := ⟨_, rfl⟩
  have hbl : b < 4294967296 := by omega
  have hy0l : y0 < 4294967296 := by omega
  have ey : (y0 : Int) + (n : Int) = (y : Int) := by omega
  have HY := Lib.hid (And.intro hy0 (And.intro hbl hy0l))
  have HH := Lib.hid (fun (wb : World) h => held6r_keep (wb := wb) (w := w) (wa := w.alloc (.cells #[.int .i64 (op : Nat), .int .i64 (r : Int), .int .i64 0, .int .i64 0, .int .i64 imm, .int .i64 0] 29)) (op := op) (rd := (r : Int)) (r1 := 0) (r2 := 0) (imm := imm) (csr := 0) (by
    refine ⟨?_, ?_, ?_, ?_, ?_, ?_, (Below.refl _ _).alloc (Nat.le_refl _) _⟩ <;> exact cell_of_row _ _ _ _ _ _ (heap_alloc_new w _)) h)
  clear hy hb hk hy0
  go_enter Tryd.func16, Tryd.ntmps16
  go_upto_region 4 with (first | (go_at_call 18; refine (K0.out _).mono ?_; rintro e w1 ⟨rfl, hb1⟩; have h6 := HH.out w1 hb1; have H6 := Lib.hid h6; (obtain ⟨c0, c1, c2, c3, c4, c5, _⟩ := h6); clear hb1) | (go_at_call 24; refine (KI.out _).mono ?_; rintro e w' ⟨rfl, rfl⟩))
  go_region_held3 (fun w' => w'.cell? ⟨w.heap.size, 0, none⟩ = some (.int .i64 (op : Nat)) ∧ w'.cell? ⟨w.heap.size, 1, none⟩ = some (.int .i64 (r : Int)) ∧ w'.cell? ⟨w.heap.size, 2, none⟩ = some (.int .i64 0) ∧ w'.cell? ⟨w.heap.size, 3, none⟩ = some (.int .i64 0) ∧ w'.cell? ⟨w.heap.size, 4, none⟩ = some (.int .i64 imm) ∧ w'.cell? ⟨w.heap.size, 5, none⟩ = some (.int .i64 0) ∧ Below w.heap.size w w')
    (first | exact ⟨H6.out.1, H6.out.2.1, H6.out.2.2.1, H6.out.2.2.2.1, H6.out.2.2.2.2.1, H6.out.2.2.2.2.2.1, below_drewN H6.out.2.2.2.2.2.2 _⟩ | exact held6r_keep (by assumption) hb)
    (first | (go_at_call 41; refine (PL.out _).mono ?_; rintro e w' ⟨rfl, hb⟩))
  all_goals
    rw [show IntKind.u32.wrap (IntKind.u32.wrap (IntKind.u32.wrap (IntKind.u32.wrap ((b : Int) + IntKind.u32.wrap (IntKind.u32.wrap (r : Int) * 128)) + IntKind.u32.wrap (IntKind.u32.wrap 0 * 32768)) + IntKind.u32.wrap (IntKind.u32.wrap 0 * 1048576)) + IntKind.u32.wrap (IntKind.u32.wrap 0 * 1048576)) = (y0 : Int) from by simp only [Go.IntKind.wrap_u32]; have := HY.out; omega]
    rename_i hS
    obtain ⟨c0', c1', c2', c3', c4', c5', hB'⟩ := hS
    have HB' := Lib.hid hB'
    clear hB'
    go_wp2
    go_ret2
    exact ⟨rfl, HB'.out⟩
set_option maxHeartbeats 4000000 in
theorem renc_k73 (op : Nat) (hop : op < 57) (hk : kN op = 73) (b : Nat) (hb : wN op = b) (r : Nat) (hr : r < 32) (s : Nat) (hs : s < 32) (imm : Int) (n : Nat) (e4 : IntKind.u32.wrap imm = (n : Int)) (hn : n < 4294967296) (y : Nat) (hy : y = b + r * 128 + s * 32768 + n % 4096 * 1048576) (hyl : y < 4294967296) (K0 : Hid (∀ w : World, Calls Tryd.prog 18 #[.agg #[.int .i64 (op : Nat), .int .i64 (r : Int), .int .i64 (s : Int), .int .i64 0, .int .i64 imm, .int .i64 0]] w fun e w' => e = .returned (.int .i64 0) ∧ Below w.heap.size w w')) (w : World) :
    Calls Tryd.prog 16 #[.agg #[.int .i64 (op : Nat), .int .i64 (r : Int), .int .i64 (s : Int), .int .i64 0, .int .i64 imm, .int .i64 0]] w fun e w' => e = .returned (.tuple #[.int .u32 y, .int .i64 0]) ∧ Below w.heap.size w w' := by
  have KI := Lib.hid (fun w => by have h := rkind_in op hop w; rw [hk] at h; exact h)
  have PL := Lib.hid (fun w => by have h := plain_any op hop w; rw [hb] at h; exact h)
  obtain ⟨y0, hy0⟩ : ∃ y0, y0 = b + r * 128 + s * 32768 := ⟨_, rfl⟩
  have hbl : b < 4294967296 := by omega
  have hy0l : y0 < 4294967296 := by omega
  obtain ⟨m, hm⟩ : ∃ m, m = n % 4096 := ⟨_, rfl⟩
  have em : (n : Int) % 4096 = (m : Int) := by omega
  have hml : m < 4096 := by omega
  have ey : (y0 : Int) + (m : Int) * 1048576 = (y : Int) := by omega
  have HY := Lib.hid (And.intro hy0 (And.intro hbl hy0l))
  have HH := Lib.hid (fun (wb : World) h => held6r_keep (wb := wb) (w := w) (wa := w.alloc (.cells #[.int .i64 (op : Nat), .int .i64 (r : Int), .int .i64 (s : Int), .int .i64 0, .int .i64 imm, .int .i64 0] 29)) (op := op) (rd := (r : Int)) (r1 := (s : Int)) (r2 := 0) (imm := imm) (csr := 0) (by
    refine ⟨?_, ?_, ?_, ?_, ?_, ?_, (Below.refl _ _).alloc (Nat.le_refl _) _⟩ <;> exact cell_of_row _ _ _ _ _ _ (heap_alloc_new w _)) h)
  clear hy hb hk hy0 hm
  go_enter Tryd.func16, Tryd.ntmps16
  go_upto_region 4 with (first | (go_at_call 18; refine (K0.out _).mono ?_; rintro e w1 ⟨rfl, hb1⟩; have h6 := HH.out w1 hb1; have H6 := Lib.hid h6; (obtain ⟨c0, c1, c2, c3, c4, c5, _⟩ := h6); clear hb1) | (go_at_call 24; refine (KI.out _).mono ?_; rintro e w' ⟨rfl, rfl⟩))
  go_region_held3 (fun w' => w'.cell? ⟨w.heap.size, 0, none⟩ = some (.int .i64 (op : Nat)) ∧ w'.cell? ⟨w.heap.size, 1, none⟩ = some (.int .i64 (r : Int)) ∧ w'.cell? ⟨w.heap.size, 2, none⟩ = some (.int .i64 (s : Int)) ∧ w'.cell? ⟨w.heap.size, 3, none⟩ = some (.int .i64 0) ∧ w'.cell? ⟨w.heap.size, 4, none⟩ = some (.int .i64 imm) ∧ w'.cell? ⟨w.heap.size, 5, none⟩ = some (.int .i64 0) ∧ Below w.heap.size w w')
    (first | exact ⟨H6.out.1, H6.out.2.1, H6.out.2.2.1, H6.out.2.2.2.1, H6.out.2.2.2.2.1, H6.out.2.2.2.2.2.1, below_drewN H6.out.2.2.2.2.2.2 _⟩ | exact held6r_keep (by assumption) hb)
    (first | (go_at_call 41; refine (PL.out _).mono ?_; rintro e w' ⟨rfl, hb⟩))
  all_goals
    rw [show IntKind.u32.wrap (IntKind.u32.wrap (IntKind.u32.wrap (IntKind.u32.wrap ((b : Int) + IntKind.u32.wrap (IntKind.u32.wrap (r : Int) * 128)) + IntKind.u32.wrap (IntKind.u32.wrap (s : Int) * 32768)) + IntKind.u32.wrap (IntKind.u32.wrap 0 * 1048576)) + IntKind.u32.wrap (IntKind.u32.wrap 0 * 1048576)) = (y0 : Int) from by simp only [Go.IntKind.wrap_u32]; have := HY.out; omega]
    rename_i hS
    obtain ⟨c0', c1', c2', c3', c4', c5', hB'⟩ := hS
    have HB' := Lib.hid hB'
    clear hB'
    go_wp2
    go_ret2
    exact ⟨rfl, HB'.out⟩
set_option maxHeartbeats 4000000 in
theorem renc_k76 (op : Nat) (hop : op < 57) (hk : kN op = 76) (b : Nat) (hb : wN op = b) (r : Nat) (hr : r < 32) (s : Nat) (hs : s < 32) (imm : Int) (n : Nat) (e4 : IntKind.u32.wrap imm = (n : Int)) (hn : n < 4294967296) (y : Nat) (hy : y = b + r * 128 + s * 32768 + n % 4096 * 1048576) (hyl : y < 4294967296) (K0 : Hid (∀ w : World, Calls Tryd.prog 18 #[.agg #[.int .i64 (op : Nat), .int .i64 (r : Int), .int .i64 (s : Int), .int .i64 0, .int .i64 imm, .int .i64 0]] w fun e w' => e = .returned (.int .i64 0) ∧ Below w.heap.size w w')) (w : World) :
    Calls Tryd.prog 16 #[.agg #[.int .i64 (op : Nat), .int .i64 (r : Int), .int .i64 (s : Int), .int .i64 0, .int .i64 imm, .int .i64 0]] w fun e w' => e = .returned (.tuple #[.int .u32 y, .int .i64 0]) ∧ Below w.heap.size w w' := by
  have KI := Lib.hid (fun w => by have h := rkind_in op hop w; rw [hk] at h; exact h)
  have PL := Lib.hid (fun w => by have h := plain_any op hop w; rw [hb] at h; exact h)
  obtain ⟨y0, hy0⟩ : ∃ y0, y0 = b + r * 128 + s * 32768 := ⟨_, rfl⟩
  have hbl : b < 4294967296 := by omega
  have hy0l : y0 < 4294967296 := by omega
  obtain ⟨m, hm⟩ : ∃ m, m = n % 4096 := ⟨_, rfl⟩
  have em : (n : Int) % 4096 = (m : Int) := by omega
  have hml : m < 4096 := by omega
  have ey : (y0 : Int) + (m : Int) * 1048576 = (y : Int) := by omega
  have HY := Lib.hid (And.intro hy0 (And.intro hbl hy0l))
  have HH := Lib.hid (fun (wb : World) h => held6r_keep (wb := wb) (w := w) (wa := w.alloc (.cells #[.int .i64 (op : Nat), .int .i64 (r : Int), .int .i64 (s : Int), .int .i64 0, .int .i64 imm, .int .i64 0] 29)) (op := op) (rd := (r : Int)) (r1 := (s : Int)) (r2 := 0) (imm := imm) (csr := 0) (by
    refine ⟨?_, ?_, ?_, ?_, ?_, ?_, (Below.refl _ _).alloc (Nat.le_refl _) _⟩ <;> exact cell_of_row _ _ _ _ _ _ (heap_alloc_new w _)) h)
  clear hy hb hk hy0 hm
  go_enter Tryd.func16, Tryd.ntmps16
  go_upto_region 4 with (first | (go_at_call 18; refine (K0.out _).mono ?_; rintro e w1 ⟨rfl, hb1⟩; have h6 := HH.out w1 hb1; have H6 := Lib.hid h6; (obtain ⟨c0, c1, c2, c3, c4, c5, _⟩ := h6); clear hb1) | (go_at_call 24; refine (KI.out _).mono ?_; rintro e w' ⟨rfl, rfl⟩))
  go_region_held3 (fun w' => w'.cell? ⟨w.heap.size, 0, none⟩ = some (.int .i64 (op : Nat)) ∧ w'.cell? ⟨w.heap.size, 1, none⟩ = some (.int .i64 (r : Int)) ∧ w'.cell? ⟨w.heap.size, 2, none⟩ = some (.int .i64 (s : Int)) ∧ w'.cell? ⟨w.heap.size, 3, none⟩ = some (.int .i64 0) ∧ w'.cell? ⟨w.heap.size, 4, none⟩ = some (.int .i64 imm) ∧ w'.cell? ⟨w.heap.size, 5, none⟩ = some (.int .i64 0) ∧ Below w.heap.size w w')
    (first | exact ⟨H6.out.1, H6.out.2.1, H6.out.2.2.1, H6.out.2.2.2.1, H6.out.2.2.2.2.1, H6.out.2.2.2.2.2.1, below_drewN H6.out.2.2.2.2.2.2 _⟩ | exact held6r_keep (by assumption) hb)
    (first | (go_at_call 41; refine (PL.out _).mono ?_; rintro e w' ⟨rfl, hb⟩))
  all_goals
    rw [show IntKind.u32.wrap (IntKind.u32.wrap (IntKind.u32.wrap (IntKind.u32.wrap ((b : Int) + IntKind.u32.wrap (IntKind.u32.wrap (r : Int) * 128)) + IntKind.u32.wrap (IntKind.u32.wrap (s : Int) * 32768)) + IntKind.u32.wrap (IntKind.u32.wrap 0 * 1048576)) + IntKind.u32.wrap (IntKind.u32.wrap 0 * 1048576)) = (y0 : Int) from by simp only [Go.IntKind.wrap_u32]; have := HY.out; omega]
    rename_i hS
    obtain ⟨c0', c1', c2', c3', c4', c5', hB'⟩ := hS
    have HB' := Lib.hid hB'
    clear hB'
    go_wp2
    go_ret2
    exact ⟨rfl, HB'.out⟩

end Go.Proofs.YtoincdfijeipjaaDoor
