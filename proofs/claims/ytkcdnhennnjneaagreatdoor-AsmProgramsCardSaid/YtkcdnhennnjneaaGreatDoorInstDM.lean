import Derived.Test.YtkcdnhennnjneaaGreatDoorInstCM
import Derived.Below
import Derived.Deep.Draws
import Derived.Deep.AppendLies
import Derived.Maps.AppendAt
import Derived.OwnWalk
import Derived.Laws.BytesArg
import Derived.Laws.MakeOwn
import Derived.Laws.OwnMore
import Derived.Deep.OwnRows
import Derived.Tactics
import Derived.Lib.ConvBytes
import Derived.Laws.Slices
import Derived.WalkKit
import Derived.KernelRfl
import Derived.RowKit3
import Derived.Deep.LoopGhost
import Derived.Deep.QuietTactic
import Derived.BigQuiet
import Derived.WideLaws
import Derived.Deep.DeepCutAuto
import Derived.Deep.CutBlock
import Derived.Deep.RegionHeld3
import Derived.Laws.Rows
import Derived.Lib.AppendStr
import Derived.ArgAppend
import Derived.Laws.IdiomCopy
import Derived.OrdersHeld
import Derived.Laws.BitsLemmas
import Derived.RowKit
import Derived.Lib.Hide
import Derived.Laws.BitsAllLaws
import Derived.WalkLawsBesides
import Derived.WalkSpells
import Derived.LaidEql
namespace Go.Proofs.YtkcdnhennnjneaaGreatDoor
open Go.RowKit
set_option maxRecDepth 100000
set_option linter.unusedVariables false
set_option linter.unusedSimpArgs false

theorem laid_i (op rd r1 r2 imm csr : Int) (h : 0 ≤ op ∧ op < 57) (w : World) (hT : TabW w) : Calls Tryz.prog 43 #[.agg #[.int .i64 op, .int .i64 rd, .int .i64 r1, .int .i64 r2, .int .i64 imm, .int .i64 csr]] w fun e w' => e = .returned (.int .u32 (lw op rd r1 r2 imm csr : Nat)) ∧ Below w.heap.size w w' := by
  have := laid_any op.toNat (by omega) rd r1 r2 imm csr w hT
  rw [Int.toNat_of_nonneg h.1] at this
  exact this
theorem read_i (op : Int) (h : 0 ≤ op ∧ op < 57) (x : Nat) (hx : x < 4294967296) (w : World) : Calls Tryz.prog 42 #[.int .i64 op, .int .u32 x] w fun e w' => e = .returned (.agg #[.int .i64 op, .int .i64 (rdOf (kN op.toNat) x), .int .i64 (r1Of (kN op.toNat) x), .int .i64 (r2Of (kN op.toNat) x), .int .i64 (immOf (kN op.toNat) x), .int .i64 (csrOf (kN op.toNat) x)]) ∧ Below w.heap.size w w' := by
  have := read_any op.toNat (by omega) x hx w
  unfold readV instV at this
  rw [Int.toNat_of_nonneg h.1] at this
  exact this
theorem check_yes (op rd r1 r2 imm csr : Int) (h : Can op rd r1 r2 imm csr) (w : World) (hT : TabW w) : Calls Tryz.prog 35 #[.agg #[.int .i64 op, .int .i64 rd, .int .i64 r1, .int .i64 r2, .int .i64 imm, .int .i64 csr]] w fun e w' => e = .returned .nilIface ∧ Below w.heap.size w w' :=
  icheck_can op rd r1 r2 imm csr h.1 (lw op rd r1 r2 imm csr) 0 0 0 0 0 (Lib.hid fun w hT => laid_i op rd r1 r2 imm csr h.1 w hT) (Lib.hid fun w => by
    have := read_i op h.1 (lw op rd r1 r2 imm csr) (lw_lt op rd r1 r2 imm csr (by have := h.1; omega)) w
    rw [h.2.1, h.2.2.1, h.2.2.2.1, h.2.2.2.2.1, h.2.2.2.2.2] at this
    exact this) w hT
theorem check_no (op rd r1 r2 imm csr : Int) (h : ¬ Can op rd r1 r2 imm csr) (w : World) (hT : TabW w) : Calls Tryz.prog 35 #[.agg #[.int .i64 op, .int .i64 rd, .int .i64 r1, .int .i64 r2, .int .i64 imm, .int .i64 csr]] w fun e w' => e = .returned (errV 1) ∧ Below w.heap.size w w' := by
  by_cases h0 : 0 ≤ op ∧ op < 57
  · exact icheck_not op rd r1 r2 imm csr h0 (lw op rd r1 r2 imm csr) _ _ _ _ _ (Lib.hid fun w hT => laid_i op rd r1 r2 imm csr h0 w hT) (Lib.hid fun w => read_i op h0 (lw op rd r1 r2 imm csr) (lw_lt op rd r1 r2 imm csr (by omega)) w) (fun hh => h ⟨h0, hh⟩) w hT
  · exact icheck_out op rd r1 r2 imm csr h0 w hT
set_option maxHeartbeats 2000000 in
theorem encode_no (op rd r1 r2 imm csr : Int) (h : ¬ Can op rd r1 r2 imm csr) (w : World) (hT : TabW w) : Calls Tryz.prog 18 #[.agg #[.int .i64 op, .int .i64 rd, .int .i64 r1, .int .i64 r2, .int .i64 imm, .int .i64 csr]] w fun e w' => e = .returned (.tuple #[.int .u32 0, errV 1]) ∧ Below w.heap.size w w' := by
  have K := Lib.hid (fun w hT => check_no op rd r1 r2 imm csr h w hT)
  have HT := Lib.hid (hT.below ((Below.refl w.heap.size w).alloc (Nat.le_refl _) (.cells #[.int .i64 op, .int .i64 rd, .int .i64 r1, .int .i64 r2, .int .i64 imm, .int .i64 csr] 37)))
  have hE : errV 1 = .iface 56 (.int .i64 1) := rfl
  rw [hE] at K ⊢
  clear h hT hE
  go_enter Tryz.func18, Tryz.ntmps18
  go_wp2_with (go_at_call 35; refine (K.out _ HT.out).mono ?_; rintro e w1 ⟨rfl, hb⟩)
  go_ret2
  exact ⟨rfl, ((Below.refl _ w).alloc (Nat.le_refl _) _).trans (hb.mono (by simp))⟩
set_option maxHeartbeats 2000000 in
theorem encode_yes (op rd r1 r2 imm csr : Int) (h : Can op rd r1 r2 imm csr) (w : World) (hT : TabW w) : Calls Tryz.prog 18 #[.agg #[.int .i64 op, .int .i64 rd, .int .i64 r1, .int .i64 r2, .int .i64 imm, .int .i64 csr]] w fun e w' => e = .returned (.tuple #[.int .u32 (lw op rd r1 r2 imm csr : Nat), .nilIface]) ∧ Below w.heap.size w w' := by
  have K := Lib.hid (fun w hT => check_yes op rd r1 r2 imm csr h w hT)
  have L := Lib.hid (fun w hT => laid_i op rd r1 r2 imm csr h.1 w hT)
  have HT := Lib.hid (hT.below ((Below.refl w.heap.size w).alloc (Nat.le_refl _) (.cells #[.int .i64 op, .int .i64 rd, .int .i64 r1, .int .i64 r2, .int .i64 imm, .int .i64 csr] 37)))
  generalize lw op rd r1 r2 imm csr = s at *
  clear h hT
  go_enter Tryz.func18, Tryz.ntmps18
  go_wp2_with (first | (go_at_call 35; refine (K.out _ HT.out).mono ?_; rintro e w1 ⟨rfl, hb⟩; have hrow : w1.heap[w.heap.size]? = some (.cells #[.int .i64 op, .int .i64 rd, .int .i64 r1, .int .i64 r2, .int .i64 imm, .int .i64 csr] 37 (0, 0)) := (hb.block w.heap.size (by simp)).trans (heap_alloc_new w _); have c0 : w1.cell? ⟨w.heap.size, 0, none⟩ = some (.int .i64 op) := cell_of_row _ _ _ _ _ _ hrow; have c1 : w1.cell? ⟨w.heap.size, 1, none⟩ = some (.int .i64 rd) := cell_of_row _ _ _ _ _ _ hrow; have c2 : w1.cell? ⟨w.heap.size, 2, none⟩ = some (.int .i64 r1) := cell_of_row _ _ _ _ _ _ hrow; have c3 : w1.cell? ⟨w.heap.size, 3, none⟩ = some (.int .i64 r2) := cell_of_row _ _ _ _ _ _ hrow; have c4 : w1.cell? ⟨w.heap.size, 4, none⟩ = some (.int .i64 imm) := cell_of_row _ _ _ _ _ _ hrow; have c5 : w1.cell? ⟨w.heap.size, 5, none⟩ = some (.int .i64 csr) := cell_of_row _ _ _ _ _ _ hrow; have HB1 := Lib.hid hb; clear hrow hb) | (go_at_call 43; refine (L.out _ (HT.out.below HB1.out)).mono ?_; rintro e w2 ⟨rfl, hb2⟩))
  go_ret2
  have h1 := ((Below.refl _ w).alloc (Nat.le_refl _) _).trans (HB1.out.mono (by simp))
  exact ⟨rfl, h1.trans (hb2.mono h1.size)⟩

/-- a word of an operation, or of none: the round's compare -/
theorem round_fit {j x : Nat} (hj : j < 57) (hx : x < 4294967296) (h : ¬ Fit (kN j) (wN j) x) : lw j (rdOf (kN j) x) (r1Of (kN j) x) (r2Of (kN j) x) (immOf (kN j) x) (csrOf (kN j) x) ≠ x := by
  intro e
  unfold lw at e
  rw [Int.toNat_natCast] at e
  exact h ((read_fit hx (st_all j hj)).1 e)
theorem read_a (j : Nat) (hj : j < 57) (x : Nat) (hx : x < 4294967296) (w : World) : Calls Tryz.prog 42 #[.int .i64 j, .int .u32 x] w fun e w' => e = .returned (.agg #[.int .i64 j, .int .i64 (rdOf (kN j) x), .int .i64 (r1Of (kN j) x), .int .i64 (r2Of (kN j) x), .int .i64 (immOf (kN j) x), .int .i64 (csrOf (kN j) x)]) ∧ Below w.heap.size w w' := read_any j hj x hx w
theorem ZRow.below {w w' : World} {B : Nat} {o : Obj} (h : w.heap[B]? = some o) (hb : Below w.heap.size w w') : w'.heap[B]? = some o := (hb.block B (heap_lt h)).trans h
set_option maxHeartbeats 4000000 in
theorem decode_fit (x : Nat) (hx : x < 4294967296) (op : Nat) (hop : op < 57) (hf : Fit (kN op) (wN op) x) (w : World) (hT : TabW w) : Calls Tryz.prog 16 #[.int .u32 x] w fun e w' => e = .returned (.tuple #[readV op x, .nilIface]) ∧ Below w.heap.size w w' := by
  have hno : Hid (∀ j, j < op → ¬ Fit (kN j) (wN j) x) := Lib.hid fun j hj h => absurd (fit_unique (by omega) hop h hf) (by omega)
  have HF := Lib.hid hf
  have HX := Lib.hid hx
  have hbs := (Below.refl w.heap.size w).alloc (Nat.le_refl _) (.cells #[.int .i64 0, .int .i64 0, .int .i64 0, .int .i64 0, .int .i64 0, .int .i64 0] 37)
  have hz : (w.alloc (.cells #[.int .i64 0, .int .i64 0, .int .i64 0, .int .i64 0, .int .i64 0, .int .i64 0] 37)).heap[w.heap.size]? = some (.cells #[.int .i64 0, .int .i64 0, .int .i64 0, .int .i64 0, .int .i64 0, .int .i64 0] 37 (0, 0)) := heap_alloc_new w _
  have HS := Lib.hid (And.intro hbs (And.intro hz (hT.below hbs)))
  clear hf hT hbs hz
  unfold readV instV
  go_enter Tryz.func16, Tryz.ntmps16
  go_upto_region 2 with (fail)
  generalize w.alloc (.cells #[.int .i64 0, .int .i64 0, .int .i64 0, .int .i64 0, .int .i64 0, .int .i64 0] 37) = W0 at *
  go_loopw [6] (fun i wr => ∃ j : Nat, j ≤ op ∧ i = .int .i64 j ∧ Below W0.heap.size W0 wr) (fun i _ => 57 - (intOf i).toNat)
  case atStart => exact ⟨0, by omega, rfl, Below.refl _ _⟩
  case round =>
    rename_i wr
    obtain ⟨j, hj, rfl, hbel⟩ := hrel
    have hj57 : j < 57 := by omega
    have hjI : (j : Int) < 57 := by omega
    have R := Lib.hid (fun w => read_a j hj57 x HX.out w)
    have L := Lib.hid (fun w hT => laid_i j (rdOf (kN j) x) (r1Of (kN j) x) (r2Of (kN j) x) (immOf (kN j) x) (csrOf (kN j) x) ⟨by omega, hjI⟩ w hT)
    have HB := Lib.hid hbel
    have hr0 := ZRow.below HS.out.2.1 hbel
    have hT0 := Lib.hid (HS.out.2.2.below hbel)
    have hlt := heap_lt hr0
    have HR := Lib.hid hr0
    clear hr0 hbel
    by_cases hje : j < op
    · have hs := round_fit hj57 HX.out (hno.out j hje)
      generalize rdOf (kN j) x = a1 at *
      generalize r1Of (kN j) x = a2 at *
      generalize r2Of (kN j) x = a3 at *
      generalize immOf (kN j) x = a4 at *
      generalize csrOf (kN j) x = a5 at *
      generalize lw j a1 a2 a3 a4 a5 = s at *
      have hs1 : ((s : Int) == (x : Int)) = false := by simp; omega
      have hs2 : ¬ (s : Int) = (x : Int) := by omega
      clear hs
      go_wp2_with (first | (go_at_call 42; refine (R.out _).mono ?_; rintro e w1 ⟨rfl, hb⟩; have HB1 := Lib.hid hb; have hw1 := hb.size; clear hb) | (go_at_call 43; refine (L.out _ ((hT0.out.below HB1.out).below ((Below.refl _ _).alloc (Nat.le_refl _) _))).mono ?_; rintro e w2 ⟨rfl, hb2⟩; have HB2 := Lib.hid hb2; clear hb2))
      have hbb := HB.out.trans (((HB1.out.alloc hw1 _).trans (HB2.out.mono (by simp; omega))).mono HB.out.size)
      exact ⟨⟨j + 1, by omega, by simp, hbb⟩, by simp [intOf]; omega⟩
    · obtain rfl : j = op := by omega
      have hs := lw_read hj57 HX.out HF.out
      rw [hs] at L
      clear hs hje
      generalize ha1 : rdOf (kN j) x = a1 at *
      have EA1 := Lib.hid ha1
      clear ha1
      generalize ha2 : r1Of (kN j) x = a2 at *
      have EA2 := Lib.hid ha2
      clear ha2
      generalize ha3 : r2Of (kN j) x = a3 at *
      have EA3 := Lib.hid ha3
      clear ha3
      generalize ha4 : immOf (kN j) x = a4 at *
      have EA4 := Lib.hid ha4
      clear ha4
      generalize ha5 : csrOf (kN j) x = a5 at *
      have EA5 := Lib.hid ha5
      clear ha5
      go_wp2_with (first | (go_at_call 42; refine (R.out _).mono ?_; rintro e w1 ⟨rfl, hb⟩; have HB1 := Lib.hid hb; have hw1 := hb.size; clear hb) | (go_at_call 43; refine (L.out _ ((hT0.out.below HB1.out).below ((Below.refl _ _).alloc (Nat.le_refl _) _))).mono ?_; rintro e w2 ⟨rfl, hb2⟩; have hw2 := hb2.size; have hr2 := ZRow.below (ZRow.below (ZRow.below HR.out HB1.out) ((Below.refl _ w1).alloc (Nat.le_refl _) (.cells #[.int .i64 j, .int .i64 a1, .int .i64 a2, .int .i64 a3, .int .i64 a4, .int .i64 a5] 37))) hb2; have fr := fun k => frozen_of_row _ _ k _ _ hr2; have c0 : w2.cell? ⟨w.heap.size, 0, none⟩ = some (.int .i64 0) := cell_of_row _ _ _ _ _ _ hr2; have c1 : w2.cell? ⟨w.heap.size, 1, none⟩ = some (.int .i64 0) := cell_of_row _ _ _ _ _ _ hr2; have c2 : w2.cell? ⟨w.heap.size, 2, none⟩ = some (.int .i64 0) := cell_of_row _ _ _ _ _ _ hr2; have c3 : w2.cell? ⟨w.heap.size, 3, none⟩ = some (.int .i64 0) := cell_of_row _ _ _ _ _ _ hr2; have c4 : w2.cell? ⟨w.heap.size, 4, none⟩ = some (.int .i64 0) := cell_of_row _ _ _ _ _ _ hr2; have c5 : w2.cell? ⟨w.heap.size, 5, none⟩ = some (.int .i64 0) := cell_of_row _ _ _ _ _ _ hr2; have hi2 := (hb2.block w1.heap.size (by simp)).trans (heap_alloc_new w1 (.cells #[.int .i64 j, .int .i64 a1, .int .i64 a2, .int .i64 a3, .int .i64 a4, .int .i64 a5] 37)); have d0 : w2.cell? ⟨w1.heap.size, 0, none⟩ = some (.int .i64 j) := cell_of_row _ _ _ _ _ _ hi2; have d1 : w2.cell? ⟨w1.heap.size, 1, none⟩ = some (.int .i64 a1) := cell_of_row _ _ _ _ _ _ hi2; have d2 : w2.cell? ⟨w1.heap.size, 2, none⟩ = some (.int .i64 a2) := cell_of_row _ _ _ _ _ _ hi2; have d3 : w2.cell? ⟨w1.heap.size, 3, none⟩ = some (.int .i64 a3) := cell_of_row _ _ _ _ _ _ hi2; have d4 : w2.cell? ⟨w1.heap.size, 4, none⟩ = some (.int .i64 a4) := cell_of_row _ _ _ _ _ _ hi2; have d5 : w2.cell? ⟨w1.heap.size, 5, none⟩ = some (.int .i64 a5) := cell_of_row _ _ _ _ _ _ hi2; have hlt2 := heap_lt hr2; have HB2 := Lib.hid hb2; clear hb2 hr2 hi2))
      have h0 : W0.heap.size = W0.heap.size := rfl
      have hbb := HB.out.trans (((HB1.out.alloc hw1 _).trans (HB2.out.mono (by simp; omega))).mono HB.out.size)
      have hb3 := HS.out.1.trans (hbb.mono HS.out.1.size)
      refine bodyPost_ret (v := ?_) ?_ rfl ⟨?_, ?_⟩
      rotate_left
      · simp [results, Tryz.results16, go_sem, c0, c1, c2, c3, c4, c5]
        exact rfl
      · rw [EA1.out, EA2.out, EA3.out, EA4.out, EA5.out]
      · exact (((((hb3.setCell (Nat.le_refl _) _).setCell (Nat.le_refl _) _).setCell (Nat.le_refl _) _).setCell (Nat.le_refl _) _).setCell (Nat.le_refl _) _).setCell (Nat.le_refl _) _
set_option maxHeartbeats 4000000 in
theorem decode_none (x : Nat) (hx : x < 4294967296) (hf : ∀ op, op < 57 → ¬ Fit (kN op) (wN op) x) (w : World) (hT : TabW w) : Calls Tryz.prog 16 #[.int .u32 x] w fun e w' => e = .returned (.tuple #[instV 0 0 0 0 0 0, errV 3]) ∧ Below w.heap.size w w' := by
  have HF := Lib.hid hf
  have HX := Lib.hid hx
  have hbs := (Below.refl w.heap.size w).alloc (Nat.le_refl _) (.cells #[.int .i64 0, .int .i64 0, .int .i64 0, .int .i64 0, .int .i64 0, .int .i64 0] 37)
  have hz : (w.alloc (.cells #[.int .i64 0, .int .i64 0, .int .i64 0, .int .i64 0, .int .i64 0, .int .i64 0] 37)).heap[w.heap.size]? = some (.cells #[.int .i64 0, .int .i64 0, .int .i64 0, .int .i64 0, .int .i64 0, .int .i64 0] 37 (0, 0)) := heap_alloc_new w _
  have HS := Lib.hid (And.intro hbs (And.intro hz (hT.below hbs)))
  clear hf hT hbs hz
  have hE : errV 3 = .iface 56 (.int .i64 3) := rfl
  rw [hE]
  clear hE
  unfold instV
  go_enter Tryz.func16, Tryz.ntmps16
  go_upto_region 2 with (fail)
  generalize w.alloc (.cells #[.int .i64 0, .int .i64 0, .int .i64 0, .int .i64 0, .int .i64 0, .int .i64 0] 37) = W0 at *
  go_loopw [6] (fun i wr => ∃ j : Nat, j ≤ 57 ∧ i = .int .i64 j ∧ Below W0.heap.size W0 wr) (fun i _ => 57 - (intOf i).toNat)
  case atStart => exact ⟨0, by omega, rfl, Below.refl _ _⟩
  case round =>
    rename_i wr
    obtain ⟨j, hj, rfl, hbel⟩ := hrel
    by_cases hj57 : j < 57
    · have hx0 := HX.out
      have hjI : (j : Int) < 57 := by omega
      have R := Lib.hid (fun w => read_a j hj57 x HX.out w)
      have L := Lib.hid (fun w hT => laid_i j (rdOf (kN j) x) (r1Of (kN j) x) (r2Of (kN j) x) (immOf (kN j) x) (csrOf (kN j) x) ⟨by omega, hjI⟩ w hT)
      have HB := Lib.hid hbel
      have hr0 := ZRow.below HS.out.2.1 hbel
      have hT0 := Lib.hid (HS.out.2.2.below hbel)
      have hlt := heap_lt hr0
      have HR := Lib.hid hr0
      clear hr0 hbel
      have hs := round_fit hj57 HX.out (HF.out j hj57)
      generalize rdOf (kN j) x = a1 at *
      generalize r1Of (kN j) x = a2 at *
      generalize r2Of (kN j) x = a3 at *
      generalize immOf (kN j) x = a4 at *
      generalize csrOf (kN j) x = a5 at *
      generalize lw j a1 a2 a3 a4 a5 = s at *
      have hs1 : ((s : Int) == (x : Int)) = false := by simp; omega
      have hs2 : ¬ (s : Int) = (x : Int) := by omega
      clear hs
      go_wp2_with (first | (go_at_call 42; refine (R.out _).mono ?_; rintro e w1 ⟨rfl, hb⟩; have HB1 := Lib.hid hb; have hw1 := hb.size; clear hb) | (go_at_call 43; refine (L.out _ ((hT0.out.below HB1.out).below ((Below.refl _ _).alloc (Nat.le_refl _) _))).mono ?_; rintro e w2 ⟨rfl, hb2⟩; have HB2 := Lib.hid hb2; clear hb2))
      have hbb := HB.out.trans (((HB1.out.alloc hw1 _).trans (HB2.out.mono (by simp; omega))).mono HB.out.size)
      exact ⟨⟨j + 1, by omega, by simp, hbb⟩, by simp [intOf]; omega⟩
    · obtain rfl : j = 57 := by omega
      have hr2 := ZRow.below HS.out.2.1 hbel
      have fr := fun k => frozen_of_row _ _ k _ _ hr2
      have c0 : wr.cell? ⟨w.heap.size, 0, none⟩ = some (.int .i64 0) := cell_of_row _ _ _ _ _ _ hr2
      have c1 : wr.cell? ⟨w.heap.size, 1, none⟩ = some (.int .i64 0) := cell_of_row _ _ _ _ _ _ hr2
      have c2 : wr.cell? ⟨w.heap.size, 2, none⟩ = some (.int .i64 0) := cell_of_row _ _ _ _ _ _ hr2
      have c3 : wr.cell? ⟨w.heap.size, 3, none⟩ = some (.int .i64 0) := cell_of_row _ _ _ _ _ _ hr2
      have c4 : wr.cell? ⟨w.heap.size, 4, none⟩ = some (.int .i64 0) := cell_of_row _ _ _ _ _ _ hr2
      have c5 : wr.cell? ⟨w.heap.size, 5, none⟩ = some (.int .i64 0) := cell_of_row _ _ _ _ _ _ hr2
      have hlt2 := heap_lt hr2
      have hb3 := HS.out.1.trans (hbel.mono HS.out.1.size)
      have HB3 := Lib.hid hb3
      clear hr2 hb3 hbel hj hj57
      go_wp2
      refine bodyPost_ret (v := ?_) ?_ rfl ⟨?_, ?_⟩
      rotate_left
      · simp [results, Tryz.results16, go_sem, c0, c1, c2, c3, c4, c5]
        exact rfl
      · rfl
      · exact (((((HB3.out.setCell (Nat.le_refl _) _).setCell (Nat.le_refl _) _).setCell (Nat.le_refl _) _).setCell (Nat.le_refl _) _).setCell (Nat.le_refl _) _).setCell (Nat.le_refl _) _

end Go.Proofs.YtkcdnhennnjneaaGreatDoor
