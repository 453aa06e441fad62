import Derived.Test.YtaknbakkahlilaaDoorSpanM
import Derived.Below
import Derived.Deep.Draws
import Derived.Deep.AppendLies
import Derived.Maps.AppendAt
import Derived.OwnWalk
import Derived.Laws.BytesArg
import Derived.Laws.MakeOwn
import Derived.Laws.OwnMore
import Derived.Deep.OwnRows
import Derived.Tactics
import Derived.Lib.ConvBytes
import Derived.Laws.Slices
import Derived.WalkKit
import Derived.KernelRfl
import Derived.RowKit3
import Derived.Deep.LoopGhost
import Derived.Deep.QuietTactic
import Derived.BigQuiet
import Derived.WideLaws
import Derived.Deep.DeepCutAuto
import Derived.Deep.CutBlock
import Derived.Deep.RegionHeld3
import Derived.Laws.Rows
import Derived.Lib.AppendStr
import Derived.ArgAppend
import Derived.Laws.IdiomCopy
import Derived.OrdersHeld
import Derived.Laws.BitsLemmas
import Derived.RowKit
import Derived.Lib.Hide
import Derived.Laws.BitsAllLaws
import Derived.WalkLawsBesides
import Derived.WalkSpells
import Derived.LaidEql
namespace Go.Proofs.YtaknbakkahlilaaDoor
open Go.RowKit
set_option maxRecDepth 100000
set_option linter.unusedVariables false
set_option linter.unusedSimpArgs false

set_option maxHeartbeats 8000000 in
theorem rdecode_k85 (x : Nat) (hx : x < 4294967296) (op : Nat) (hop : op < 57) (hk : kN op = 85) (hf : Fit (kN op) (wN op) x) (w : World) : Calls Tryd.prog 33 #[.int .u32 x] w fun e w' => e = .returned (.tuple #[readV op x, .int .i64 0]) ∧ Below w.heap.size w w' := by
  have hno : Hid (∀ j, j < op → ¬ Fit (kN j) (wN j) x) := Lib.hid fun j hj h => absurd (fit_unique (by omega) hop h hf) (by omega)
  have HF := Lib.hid hf
  have HK := Lib.hid hk
  clear hf hk
  unfold readV instV
  have HX := Lib.hid hx
  have hbs := (Below.refl w.heap.size w).alloc (Nat.le_refl _) (.cells #[.int .i64 0, .int .i64 0, .int .i64 0, .int .i64 0, .int .i64 0, .int .i64 0] 48)
  have hz : (w.alloc (.cells #[.int .i64 0, .int .i64 0, .int .i64 0, .int .i64 0, .int .i64 0, .int .i64 0] 48)).heap[w.heap.size]? = some (.cells #[.int .i64 0, .int .i64 0, .int .i64 0, .int .i64 0, .int .i64 0, .int .i64 0] 48 (0, 0)) := heap_alloc_new w _
  have HS := Lib.hid (And.intro hbs hz)
  clear hbs hz
  go_enter Tryd.func33, Tryd.ntmps33
  go_upto_region 2 with (fail)
  generalize w.alloc (.cells #[.int .i64 0, .int .i64 0, .int .i64 0, .int .i64 0, .int .i64 0, .int .i64 0] 48) = W0 at *
  go_loopw [4] (fun i wr => ∃ j : Nat, j ≤ op ∧ i = .int .i64 j ∧ Below W0.heap.size W0 wr) (fun i _ => 57 - (intOf i).toNat)
  case atStart => exact ⟨0, by omega, rfl, Below.refl _ _⟩
  case round =>
    rename_i wr
    obtain ⟨j, hj, rfl, hbel⟩ := hrel
    have HB := Lib.hid hbel
    have hr0 := ZRow.below HS.out.2 hbel
    have hlt := heap_lt hr0
    have HR := Lib.hid hr0
    clear hr0 hbel
    have hj57 : j < 57 := by omega
    have hjI : (j : Int) < 57 := by omega
    by_cases hje : j < op
    · skip
      have K := Lib.hid (fun w => rkind_in j hj57 w)
      have SP := Lib.hid (fun w => spans_any j hj57 w)
      have PL := Lib.hid (fun w => plain_any j hj57 w)
      have hsl := spanN_lt (kN j)
      have hy : (x &&& (4294967295 - spanN (kN j))) ≠ wN j := fun h => hno.out j hje ((span_fit (kN j) (wN j) x HX.out).1 h)
      have ey := Go.u32_andNot_nat x (spanN (kN j)) HX.out hsl
      generalize x &&& (4294967295 - spanN (kN j)) = y at *
      generalize spanN (kN j) = sp at *
      generalize wN j = bb at *
      generalize kN j = kk at *
      have hs1 : ((y : Int) == (bb : Int)) = false := by simp; omega
      have hs2 : ¬ (y : Int) = (bb : Int) := by omega
      have hs3 : ((y : Int) != (bb : Int)) = true := by simp; omega
      clear hy
      go_wp2_with (first | (go_at_call 39; refine (K.out _).mono ?_; rintro e w' ⟨rfl, rfl⟩) | (go_at_call 52; refine (SP.out _).mono ?_; rintro e w' ⟨rfl, rfl⟩) | (go_at_call 53; refine (PL.out _).mono ?_; rintro e w1 ⟨rfl, hb⟩; have HB1 := Lib.hid hb; clear hb))
      exact ⟨⟨j + 1, by omega, by simp, HB.out.trans (HB1.out.mono HB.out.size)⟩, by simp [intOf]; omega⟩
    · obtain rfl : j = op := by omega
      have K := Lib.hid (fun w => rkind_in j hj57 w)
      have SP := Lib.hid (fun w => spans_any j hj57 w)
      have PL := Lib.hid (fun w => plain_any j hj57 w)
      have NU := Lib.hid (fun w => number_any j hj57 x HX.out w)
      have hsl := spanN_lt (kN j)
      have hy : (x &&& (4294967295 - spanN (kN j))) = wN j := (span_fit (kN j) (wN j) x HX.out).2 HF.out
      have ey := Go.u32_andNot_nat x (spanN (kN j)) HX.out hsl
      rw [hy] at ey
      rw [HK.out] at K SP NU ey
      generalize spanN 85 = sp at *
      generalize wN j = bb at *
      clear hy hsl hje
      obtain ⟨z, hz⟩ : ∃ z, immOf 85 x = z := ⟨_, rfl⟩
      rw [hz] at NU
      obtain ⟨p1, hp1⟩ : ∃ p, p = x / 128 % 32 := ⟨_, rfl⟩
      have ep1 : (x : Int) / 128 % 32 = (p1 : Int) := by omega
      have fp1 : p1 < 32 := by omega
      obtain ⟨p2, hp2⟩ : ∃ p, p = x / 32768 % 32 := ⟨_, rfl⟩
      have ep2 : (x : Int) / 32768 % 32 = (p2 : Int) := by omega
      have fp2 : p2 < 32 := by omega
      obtain ⟨p3, hp3⟩ : ∃ p, p = x / 1048576 % 32 := ⟨_, rfl⟩
      have ep3 : (x : Int) / 1048576 % 32 = (p3 : Int) := by omega
      have fp3 : p3 < 32 := by omega
      obtain ⟨p5, hp5⟩ : ∃ p, p = x / 1048576 := ⟨_, rfl⟩
      have fp5 : p5 < 4294967296 := by omega
      have EV : Hid (rdOf (kN j) x = (p1 : Int) ∧ r1Of (kN j) x = 0 ∧ r2Of (kN j) x = 0 ∧ immOf (kN j) x = z ∧ csrOf (kN j) x = 0) := Lib.hid (by
        rw [HK.out]
        exact ⟨by rw [hp1]; rfl, rfl, rfl, hz, rfl⟩)
      clear hp1 hp2 hp3 hp5 hz
      go_wp2_with (first | (go_at_call 39; refine (K.out _).mono ?_; rintro e w' ⟨rfl, rfl⟩) | (go_at_call 52; refine (SP.out _).mono ?_; rintro e w' ⟨rfl, rfl⟩) | (go_at_call 53; refine (PL.out _).mono ?_; rintro e w1 ⟨rfl, hb⟩; have HB1 := Lib.hid hb; clear hb) | (go_at_call 54; refine (NU.out _).mono ?_; rintro e w2 ⟨rfl, hb⟩; have HB2 := Lib.hid (HB1.out.trans (hb.mono HB1.out.size)); have hr2 := ZRow.below HR.out HB2.out; have fr := fun k => frozen_of_row _ _ k _ _ hr2; have c0 : w2.cell? ⟨w.heap.size, 0, none⟩ = some (.int .i64 0) := cell_of_row _ _ _ _ _ _ hr2; have c1 : w2.cell? ⟨w.heap.size, 1, none⟩ = some (.int .i64 0) := cell_of_row _ _ _ _ _ _ hr2; have c2 : w2.cell? ⟨w.heap.size, 2, none⟩ = some (.int .i64 0) := cell_of_row _ _ _ _ _ _ hr2; have c3 : w2.cell? ⟨w.heap.size, 3, none⟩ = some (.int .i64 0) := cell_of_row _ _ _ _ _ _ hr2; have c4 : w2.cell? ⟨w.heap.size, 4, none⟩ = some (.int .i64 0) := cell_of_row _ _ _ _ _ _ hr2; have c5 : w2.cell? ⟨w.heap.size, 5, none⟩ = some (.int .i64 0) := cell_of_row _ _ _ _ _ _ hr2; have hlt2 := heap_lt hr2; clear hb hr2))
      have hbb := HB.out.trans (HB2.out.mono HB.out.size)
      have hb3 := HS.out.1.trans (hbb.mono HS.out.1.size)
      refine bodyPost_ret (v := ?_) ?_ rfl ⟨?_, ?_⟩
      rotate_left
      · simp [results, Tryd.results33, go_sem, c0, c1, c2, c3, c4, c5, hlt2]
        exact rfl
      · rw [EV.out.1, EV.out.2.1, EV.out.2.2.1, EV.out.2.2.2.1, EV.out.2.2.2.2]
      · exact ((((((hb3.setCell (Nat.le_refl _) _).setCell (Nat.le_refl _) _).setCell (Nat.le_refl _) _).setCell (Nat.le_refl _) _).setCell (Nat.le_refl _) _).setCell (Nat.le_refl _) _).alloc (by simp; omega) _
set_option maxHeartbeats 8000000 in
theorem rdecode_k74 (x : Nat) (hx : x < 4294967296) (op : Nat) (hop : op < 57) (hk : kN op = 74) (hf : Fit (kN op) (wN op) x) (w : World) : Calls Tryd.prog 33 #[.int .u32 x] w fun e w' => e = .returned (.tuple #[readV op x, .int .i64 0]) ∧ Below w.heap.size w w' := by
  have hno : Hid (∀ j, j < op → ¬ Fit (kN j) (wN j) x) := Lib.hid fun j hj h => absurd (fit_unique (by omega) hop h hf) (by omega)
  have HF := Lib.hid hf
  have HK := Lib.hid hk
  clear hf hk
  unfold readV instV
  have HX := Lib.hid hx
  have hbs := (Below.refl w.heap.size w).alloc (Nat.le_refl _) (.cells #[.int .i64 0, .int .i64 0, .int .i64 0, .int .i64 0, .int .i64 0, .int .i64 0] 48)
  have hz : (w.alloc (.cells #[.int .i64 0, .int .i64 0, .int .i64 0, .int .i64 0, .int .i64 0, .int .i64 0] 48)).heap[w.heap.size]? = some (.cells #[.int .i64 0, .int .i64 0, .int .i64 0, .int .i64 0, .int .i64 0, .int .i64 0] 48 (0, 0)) := heap_alloc_new w _
  have HS := Lib.hid (And.intro hbs hz)
  clear hbs hz
  go_enter Tryd.func33, Tryd.ntmps33
  go_upto_region 2 with (fail)
  generalize w.alloc (.cells #[.int .i64 0, .int .i64 0, .int .i64 0, .int .i64 0, .int .i64 0, .int .i64 0] 48) = W0 at *
  go_loopw [4] (fun i wr => ∃ j : Nat, j ≤ op ∧ i = .int .i64 j ∧ Below W0.heap.size W0 wr) (fun i _ => 57 - (intOf i).toNat)
  case atStart => exact ⟨0, by omega, rfl, Below.refl _ _⟩
  case round =>
    rename_i wr
    obtain ⟨j, hj, rfl, hbel⟩ := hrel
    have HB := Lib.hid hbel
    have hr0 := ZRow.below HS.out.2 hbel
    have hlt := heap_lt hr0
    have HR := Lib.hid hr0
    clear hr0 hbel
    have hj57 : j < 57 := by omega
    have hjI : (j : Int) < 57 := by omega
    by_cases hje : j < op
    · skip
      have K := Lib.hid (fun w => rkind_in j hj57 w)
      have SP := Lib.hid (fun w => spans_any j hj57 w)
      have PL := Lib.hid (fun w => plain_any j hj57 w)
      have hsl := spanN_lt (kN j)
      have hy : (x &&& (4294967295 - spanN (kN j))) ≠ wN j := fun h => hno.out j hje ((span_fit (kN j) (wN j) x HX.out).1 h)
      have ey := Go.u32_andNot_nat x (spanN (kN j)) HX.out hsl
      generalize x &&& (4294967295 - spanN (kN j)) = y at *
      generalize spanN (kN j) = sp at *
      generalize wN j = bb at *
      generalize kN j = kk at *
      have hs1 : ((y : Int) == (bb : Int)) = false := by simp; omega
      have hs2 : ¬ (y : Int) = (bb : Int) := by omega
      have hs3 : ((y : Int) != (bb : Int)) = true := by simp; omega
      clear hy
      go_wp2_with (first | (go_at_call 39; refine (K.out _).mono ?_; rintro e w' ⟨rfl, rfl⟩) | (go_at_call 52; refine (SP.out _).mono ?_; rintro e w' ⟨rfl, rfl⟩) | (go_at_call 53; refine (PL.out _).mono ?_; rintro e w1 ⟨rfl, hb⟩; have HB1 := Lib.hid hb; clear hb))
      exact ⟨⟨j + 1, by omega, by simp, HB.out.trans (HB1.out.mono HB.out.size)⟩, by simp [intOf]; omega⟩
    · obtain rfl : j = op := by omega
      have K := Lib.hid (fun w => rkind_in j hj57 w)
      have SP := Lib.hid (fun w => spans_any j hj57 w)
      have PL := Lib.hid (fun w => plain_any j hj57 w)
      have NU := Lib.hid (fun w => number_any j hj57 x HX.out w)
      have hsl := spanN_lt (kN j)
      have hy : (x &&& (4294967295 - spanN (kN j))) = wN j := (span_fit (kN j) (wN j) x HX.out).2 HF.out
      have ey := Go.u32_andNot_nat x (spanN (kN j)) HX.out hsl
      rw [hy] at ey
      rw [HK.out] at K SP NU ey
      generalize spanN 74 = sp at *
      generalize wN j = bb at *
      clear hy hsl hje
      obtain ⟨z, hz⟩ : ∃ z, immOf 74 x = z := ⟨_, rfl⟩
      rw [hz] at NU
      obtain ⟨p1, hp1⟩ : ∃ p, p = x / 128 % 32 := ⟨_, rfl⟩
      have ep1 : (x : Int) / 128 % 32 = (p1 : Int) := by omega
      have fp1 : p1 < 32 := by omega
      obtain ⟨p2, hp2⟩ : ∃ p, p = x / 32768 % 32 := ⟨_, rfl⟩
      have ep2 : (x : Int) / 32768 % 32 = (p2 : Int) := by omega
      have fp2 : p2 < 32 := by omega
      obtain ⟨p3, hp3⟩ : ∃ p, p = x / 1048576 % 32 := ⟨_, rfl⟩
      have ep3 : (x : Int) / 1048576 % 32 = (p3 : Int) := by omega
      have fp3 : p3 < 32 := by omega
      obtain ⟨p5, hp5⟩ : ∃ p, p = x / 1048576 := ⟨_, rfl⟩
      have fp5 : p5 < 4294967296 := by omega
      have EV : Hid (rdOf (kN j) x = (p1 : Int) ∧ r1Of (kN j) x = 0 ∧ r2Of (kN j) x = 0 ∧ immOf (kN j) x = z ∧ csrOf (kN j) x = 0) := Lib.hid (by
        rw [HK.out]
        exact ⟨by rw [hp1]; rfl, rfl, rfl, hz, rfl⟩)
      clear hp1 hp2 hp3 hp5 hz
      go_wp2_with (first | (go_at_call 39; refine (K.out _).mono ?_; rintro e w' ⟨rfl, rfl⟩) | (go_at_call 52; refine (SP.out _).mono ?_; rintro e w' ⟨rfl, rfl⟩) | (go_at_call 53; refine (PL.out _).mono ?_; rintro e w1 ⟨rfl, hb⟩; have HB1 := Lib.hid hb; clear hb) | (go_at_call 54; refine (NU.out _).mono ?_; rintro e w2 ⟨rfl, hb⟩; have HB2 := Lib.hid (HB1.out.trans (hb.mono HB1.out.size)); have hr2 := ZRow.below HR.out HB2.out; have fr := fun k => frozen_of_row _ _ k _ _ hr2; have c0 : w2.cell? ⟨w.heap.size, 0, none⟩ = some (.int .i64 0) := cell_of_row _ _ _ _ _ _ hr2; have c1 : w2.cell? ⟨w.heap.size, 1, none⟩ = some (.int .i64 0) := cell_of_row _ _ _ _ _ _ hr2; have c2 : w2.cell? ⟨w.heap.size, 2, none⟩ = some (.int .i64 0) := cell_of_row _ _ _ _ _ _ hr2; have c3 : w2.cell? ⟨w.heap.size, 3, none⟩ = some (.int .i64 0) := cell_of_row _ _ _ _ _ _ hr2; have c4 : w2.cell? ⟨w.heap.size, 4, none⟩ = some (.int .i64 0) := cell_of_row _ _ _ _ _ _ hr2; have c5 : w2.cell? ⟨w.heap.size, 5, none⟩ = some (.int .i64 0) := cell_of_row _ _ _ _ _ _ hr2; have hlt2 := heap_lt hr2; clear hb hr2))
      have hbb := HB.out.trans (HB2.out.mono HB.out.size)
      have hb3 := HS.out.1.trans (hbb.mono HS.out.1.size)
      refine bodyPost_ret (v := ?_) ?_ rfl ⟨?_, ?_⟩
      rotate_left
      · simp [results, Tryd.results33, go_sem, c0, c1, c2, c3, c4, c5, hlt2]
        exact rfl
      · rw [EV.out.1, EV.out.2.1, EV.out.2.2.1, EV.out.2.2.2.1, EV.out.2.2.2.2]
      · exact ((((((hb3.setCell (Nat.le_refl _) _).setCell (Nat.le_refl _) _).setCell (Nat.le_refl _) _).setCell (Nat.le_refl _) _).setCell (Nat.le_refl _) _).setCell (Nat.le_refl _) _).alloc (by simp; omega) _
set_option maxHeartbeats 8000000 in
theorem rdecode_k73 (x : Nat) (hx : x < 4294967296) (op : Nat) (hop : op < 57) (hk : kN op = 73) (hf : Fit (kN op) (wN op) x) (w : World) : Calls Tryd.prog 33 #[.int .u32 x] w fun e w' => e = .returned (.tuple #[readV op x, .int .i64 0]) ∧ Below w.heap.size w w' := by
  have hno : Hid (∀ j, j < op → ¬ Fit (kN j) (wN j) x) := Lib.hid fun j hj h => absurd (fit_unique (by omega) hop h hf) (by omega)
  have HF := Lib.hid hf
  have HK := Lib.hid hk
  clear hf hk
  unfold readV instV
  have HX := Lib.hid hx
  have hbs := (Below.refl w.heap.size w).alloc (Nat.le_refl _) (.cells #[.int .i64 0, .int .i64 0, .int .i64 0, .int .i64 0, .int .i64 0, .int .i64 0] 48)
  have hz : (w.alloc (.cells #[.int .i64 0, .int .i64 0, .int .i64 0, .int .i64 0, .int .i64 0, .int .i64 0] 48)).heap[w.heap.size]? = some (.cells #[.int .i64 0, .int .i64 0, .int .i64 0, .int .i64 0, .int .i64 0, .int .i64 0] 48 (0, 0)) := heap_alloc_new w _
  have HS := Lib.hid (And.intro hbs hz)
  clear hbs hz
  go_enter Tryd.func33, Tryd.ntmps33
  go_upto_region 2 with (fail)
  generalize w.alloc (.cells #[.int .i64 0, .int .i64 0, .int .i64 0, .int .i64 0, .int .i64 0, .int .i64 0] 48) = W0 at *
  go_loopw [4] (fun i wr => ∃ j : Nat, j ≤ op ∧ i = .int .i64 j ∧ Below W0.heap.size W0 wr) (fun i _ => 57 - (intOf i).toNat)
  case atStart => exact ⟨0, by omega, rfl, Below.refl _ _⟩
  case round =>
    rename_i wr
    obtain ⟨j, hj, rfl, hbel⟩ := hrel
    have HB := Lib.hid hbel
    have hr0 := ZRow.below HS.out.2 hbel
    have hlt := heap_lt hr0
    have HR := Lib.hid hr0
    clear hr0 hbel
    have hj57 : j < 57 := by omega
    have hjI : (j : Int) < 57 := by omega
    by_cases hje : j < op
    · skip
      have K := Lib.hid (fun w => rkind_in j hj57 w)
      have SP := Lib.hid (fun w => spans_any j hj57 w)
      have PL := Lib.hid (fun w => plain_any j hj57 w)
      have hsl := spanN_lt (kN j)
      have hy : (x &&& (4294967295 - spanN (kN j))) ≠ wN j := fun h => hno.out j hje ((span_fit (kN j) (wN j) x HX.out).1 h)
      have ey := Go.u32_andNot_nat x (spanN (kN j)) HX.out hsl
      generalize x &&& (4294967295 - spanN (kN j)) = y at *
      generalize spanN (kN j) = sp at *
      generalize wN j = bb at *
      generalize kN j = kk at *
      have hs1 : ((y : Int) == (bb : Int)) = false := by simp; omega
      have hs2 : ¬ (y : Int) = (bb : Int) := by omega
      have hs3 : ((y : Int) != (bb : Int)) = true := by simp; omega
      clear hy
      go_wp2_with (first | (go_at_call 39; refine (K.out _).mono ?_; rintro e w' ⟨rfl, rfl⟩) | (go_at_call 52; refine (SP.out _).mono ?_; rintro e w' ⟨rfl, rfl⟩) | (go_at_call 53; refine (PL.out _).mono ?_; rintro e w1 ⟨rfl, hb⟩; have HB1 := Lib.hid hb; clear hb))
      exact ⟨⟨j + 1, by omega, by simp, HB.out.trans (HB1.out.mono HB.out.size)⟩, by simp [intOf]; omega⟩
    · obtain rfl : j = op := by omega
      have K := Lib.hid (fun w => rkind_in j hj57 w)
      have SP := Lib.hid (fun w => spans_any j hj57 w)
      have PL := Lib.hid (fun w => plain_any j hj57 w)
      have NU := Lib.hid (fun w => number_any j hj57 x HX.out w)
      have hsl := spanN_lt (kN j)
      have hy : (x &&& (4294967295 - spanN (kN j))) = wN j := (span_fit (kN j) (wN j) x HX.out).2 HF.out
      have ey := Go.u32_andNot_nat x (spanN (kN j)) HX.out hsl
      rw [hy] at ey
      rw [HK.out] at K SP NU ey
      generalize spanN 73 = sp at *
      generalize wN j = bb at *
      clear hy hsl hje
      obtain ⟨z, hz⟩ : ∃ z, immOf 73 x = z := ⟨_, rfl⟩
      rw [hz] at NU
      obtain ⟨p1, hp1⟩ : ∃ p, p = x / 128 % 32 := ⟨_, rfl⟩
      have ep1 : (x : Int) / 128 % 32 = (p1 : Int) := by omega
      have fp1 : p1 < 32 := by omega
      obtain ⟨p2, hp2⟩ : ∃ p, p = x / 32768 % 32 := ⟨_, rfl⟩
      have ep2 : (x : Int) / 32768 % 32 = (p2 : Int) := by omega
      have fp2 : p2 < 32 := by omega
      obtain ⟨p3, hp3⟩ : ∃ p, p = x / 1048576 % 32 := ⟨_, rfl⟩
      have ep3 : (x : Int) / 1048576 % 32 = (p3 : Int) := by omega
      have fp3 : p3 < 32 := by omega
      obtain ⟨p5, hp5⟩ : ∃ p, p = x / 1048576 := ⟨_, rfl⟩
      have fp5 : p5 < 4294967296 := by omega
      have EV : Hid (rdOf (kN j) x = (p1 : Int) ∧ r1Of (kN j) x = (p2 : Int) ∧ r2Of (kN j) x = 0 ∧ immOf (kN j) x = z ∧ csrOf (kN j) x = 0) := Lib.hid (by
        rw [HK.out]
        exact ⟨by rw [hp1]; rfl, by rw [hp2]; rfl, rfl, hz, rfl⟩)
      clear hp1 hp2 hp3 hp5 hz
      go_wp2_with (first | (go_at_call 39; refine (K.out _).mono ?_; rintro e w' ⟨rfl, rfl⟩) | (go_at_call 52; refine (SP.out _).mono ?_; rintro e w' ⟨rfl, rfl⟩) | (go_at_call 53; refine (PL.out _).mono ?_; rintro e w1 ⟨rfl, hb⟩; have HB1 := Lib.hid hb; clear hb) | (go_at_call 54; refine (NU.out _).mono ?_; rintro e w2 ⟨rfl, hb⟩; have HB2 := Lib.hid (HB1.out.trans (hb.mono HB1.out.size)); have hr2 := ZRow.below HR.out HB2.out; have fr := fun k => frozen_of_row _ _ k _ _ hr2; have c0 : w2.cell? ⟨w.heap.size, 0, none⟩ = some (.int .i64 0) := cell_of_row _ _ _ _ _ _ hr2; have c1 : w2.cell? ⟨w.heap.size, 1, none⟩ = some (.int .i64 0) := cell_of_row _ _ _ _ _ _ hr2; have c2 : w2.cell? ⟨w.heap.size, 2, none⟩ = some (.int .i64 0) := cell_of_row _ _ _ _ _ _ hr2; have c3 : w2.cell? ⟨w.heap.size, 3, none⟩ = some (.int .i64 0) := cell_of_row _ _ _ _ _ _ hr2; have c4 : w2.cell? ⟨w.heap.size, 4, none⟩ = some (.int .i64 0) := cell_of_row _ _ _ _ _ _ hr2; have c5 : w2.cell? ⟨w.heap.size, 5, none⟩ = some (.int .i64 0) := cell_of_row _ _ _ _ _ _ hr2; have hlt2 := heap_lt hr2; clear hb hr2))
      have hbb := HB.out.trans (HB2.out.mono HB.out.size)
      have hb3 := HS.out.1.trans (hbb.mono HS.out.1.size)
      refine bodyPost_ret (v := ?_) ?_ rfl ⟨?_, ?_⟩
      rotate_left
      · simp [results, Tryd.results33, go_sem, c0, c1, c2, c3, c4, c5, hlt2]
        exact rfl
      · rw [EV.out.1, EV.out.2.1, EV.out.2.2.1, EV.out.2.2.2.1, EV.out.2.2.2.2]
      · exact ((((((hb3.setCell (Nat.le_refl _) _).setCell (Nat.le_refl _) _).setCell (Nat.le_refl _) _).setCell (Nat.le_refl _) _).setCell (Nat.le_refl _) _).setCell (Nat.le_refl _) _).alloc (by simp; omega) _
set_option maxHeartbeats 8000000 in
theorem rdecode_k76 (x : Nat) (hx : x < 4294967296) (op : Nat) (hop : op < 57) (hk : kN op = 76) (hf : Fit (kN op) (wN op) x) (w : World) : Calls Tryd.prog 33 #[.int .u32 x] w fun e w' => e = .returned (.tuple #[readV op x, .int .i64 0]) ∧ Below w.heap.size w w' := by
  have hno : Hid (∀ j, j < op → ¬ Fit (kN j) (wN j) x) := Lib.hid fun j hj h => absurd (fit_unique (by omega) hop h hf) (by omega)
  have HF := Lib.hid hf
  have HK := Lib.hid hk
  clear hf hk
  unfold readV instV
  have HX := Lib.hid hx
  have hbs := (Below.refl w.heap.size w).alloc (Nat.le_refl _) (.cells #[.int .i64 0, .int .i64 0, .int .i64 0, .int .i64 0, .int .i64 0, .int .i64 0] 48)
  have hz : (w.alloc (.cells #[.int .i64 0, .int .i64 0, .int .i64 0, .int .i64 0, .int .i64 0, .int .i64 0] 48)).heap[w.heap.size]? = some (.cells #[.int .i64 0, .int .i64 0, .int .i64 0, .int .i64 0, .int .i64 0, .int .i64 0] 48 (0, 0)) := heap_alloc_new w _
  have HS := Lib.hid (And.intro hbs hz)
  clear hbs hz
  go_enter Tryd.func33, Tryd.ntmps33
  go_upto_region 2 with (fail)
  generalize w.alloc (.cells #[.int .i64 0, .int .i64 0, .int .i64 0, .int .i64 0, .int .i64 0, .int .i64 0] 48) = W0 at *
  go_loopw [4] (fun i wr => ∃ j : Nat, j ≤ op ∧ i = .int .i64 j ∧ Below W0.heap.size W0 wr) (fun i _ => 57 - (intOf i).toNat)
  case atStart => exact ⟨0, by omega, rfl, Below.refl _ _⟩
  case round =>
    rename_i wr
    obtain ⟨j, hj, rfl, hbel⟩ := hrel
    have HB := Lib.hid hbel
    have hr0 := ZRow.below HS.out.2 hbel
    have hlt := heap_lt hr0
    have HR := Lib.hid hr0
    clear hr0 hbel
    have hj57 : j < 57 := by omega
    have hjI : (j : Int) < 57 := by omega
    by_cases hje : j < op
    · skip
      have K := Lib.hid (fun w => rkind_in j hj57 w)
      have SP := Lib.hid (fun w => spans_any j hj57 w)
      have PL := Lib.hid (fun w => plain_any j hj57 w)
      have hsl := spanN_lt (kN j)
      have hy : (x &&& (4294967295 - spanN (kN j))) ≠ wN j := fun h => hno.out j hje ((span_fit (kN j) (wN j) x HX.out).1 h)
      have ey := Go.u32_andNot_nat x (spanN (kN j)) HX.out hsl
      generalize x &&& (4294967295 - spanN (kN j)) = y at *
      generalize spanN (kN j) = sp at *
      generalize wN j = bb at *
      generalize kN j = kk at *
      have hs1 : ((y : Int) == (bb : Int)) = false := by simp; omega
      have hs2 : ¬ (y : Int) = (bb : Int) := by omega
      have hs3 : ((y : Int) != (bb : Int)) = true := by simp; omega
      clear hy
      go_wp2_with (first | (go_at_call 39; refine (K.out _).mono ?_; rintro e w' ⟨rfl, rfl⟩) | (go_at_call 52; refine (SP.out _).mono ?_; rintro e w' ⟨rfl, rfl⟩) | (go_at_call 53; refine (PL.out _).mono ?_; rintro e w1 ⟨rfl, hb⟩; have HB1 := Lib.hid hb; clear hb))
      exact ⟨⟨j + 1, by omega, by simp, HB.out.trans (HB1.out.mono HB.out.size)⟩, by simp [intOf]; omega⟩
    · obtain rfl : j = op := by omega
      have K := Lib.hid (fun w => rkind_in j hj57 w)
      have SP := Lib.hid (fun w => spans_any j hj57 w)
      have PL := Lib.hid (fun w => plain_any j hj57 w)
      have NU := Lib.hid (fun w => number_any j hj57 x HX.out w)
      have hsl := spanN_lt (kN j)
      have hy : (x &&& (4294967295 - spanN (kN j))) = wN j := (span_fit (kN j) (wN j) x HX.out).2 HF.out
      have ey := Go.u32_andNot_nat x (spanN (kN j)) HX.out hsl
      rw [hy] at ey
      rw [HK.out] at K SP NU ey
      generalize spanN 76 = sp at *
      generalize wN j = bb at *
      clear hy hsl hje
      obtain ⟨z, hz⟩ : ∃ z, immOf 76 x = z := ⟨_, rfl⟩
      rw [hz] at NU
      obtain ⟨p1, hp1⟩ : ∃ p, p = x / 128 % 32 := ⟨_, rfl⟩
      have ep1 : (x : Int) / 128 % 32 = (p1 : Int) := by omega
      have fp1 : p1 < 32 := by omega
      obtain ⟨p2, hp2⟩ : ∃ p, p = x / 32768 % 32 := ⟨_, rfl⟩
      have ep2 : (x : Int) / 32768 % 32 = (p2 : Int) := by omega
      have fp2 : p2 < 32 := by omega
      obtain ⟨p3, hp3⟩ : ∃ p, p = x / 1048576 % 32 := ⟨_, rfl⟩
      have ep3 : (x : Int) / 1048576 % 32 = (p3 : Int) := by omega
      have fp3 : p3 < 32 := by omega
      obtain ⟨p5, hp5⟩ : ∃ p, p = x / 1048576 := ⟨_, rfl⟩
      have fp5 : p5 < 4294967296 := by omega
      have EV : Hid (rdOf (kN j) x = (p1 : Int) ∧ r1Of (kN j) x = (p2 : Int) ∧ r2Of (kN j) x = 0 ∧ immOf (kN j) x = z ∧ csrOf (kN j) x = 0) := Lib.hid (by
        rw [HK.out]
        exact ⟨by rw [hp1]; rfl, by rw [hp2]; rfl, rfl, hz, rfl⟩)
      clear hp1 hp2 hp3 hp5 hz
      go_wp2_with (first | (go_at_call 39; refine (K.out _).mono ?_; rintro e w' ⟨rfl, rfl⟩) | (go_at_call 52; refine (SP.out _).mono ?_; rintro e w' ⟨rfl, rfl⟩) | (go_at_call 53; refine (PL.out _).mono ?_; rintro e w1 ⟨rfl, hb⟩; have HB1 := Lib.hid hb; clear hb) | (go_at_call 54; refine (NU.out _).mono ?_; rintro e w2 ⟨rfl, hb⟩; have HB2 := Lib.hid (HB1.out.trans (hb.mono HB1.out.size)); have hr2 := ZRow.below HR.out HB2.out; have fr := fun k => frozen_of_row _ _ k _ _ hr2; have c0 : w2.cell? ⟨w.heap.size, 0, none⟩ = some (.int .i64 0) := cell_of_row _ _ _ _ _ _ hr2; have c1 : w2.cell? ⟨w.heap.size, 1, none⟩ = some (.int .i64 0) := cell_of_row _ _ _ _ _ _ hr2; have c2 : w2.cell? ⟨w.heap.size, 2, none⟩ = some (.int .i64 0) := cell_of_row _ _ _ _ _ _ hr2; have c3 : w2.cell? ⟨w.heap.size, 3, none⟩ = some (.int .i64 0) := cell_of_row _ _ _ _ _ _ hr2; have c4 : w2.cell? ⟨w.heap.size, 4, none⟩ = some (.int .i64 0) := cell_of_row _ _ _ _ _ _ hr2; have c5 : w2.cell? ⟨w.heap.size, 5, none⟩ = some (.int .i64 0) := cell_of_row _ _ _ _ _ _ hr2; have hlt2 := heap_lt hr2; clear hb hr2))
      have hbb := HB.out.trans (HB2.out.mono HB.out.size)
      have hb3 := HS.out.1.trans (hbb.mono HS.out.1.size)
      refine bodyPost_ret (v := ?_) ?_ rfl ⟨?_, ?_⟩
      rotate_left
      · simp [results, Tryd.results33, go_sem, c0, c1, c2, c3, c4, c5, hlt2]
        exact rfl
      · rw [EV.out.1, EV.out.2.1, EV.out.2.2.1, EV.out.2.2.2.1, EV.out.2.2.2.2]
      · exact ((((((hb3.setCell (Nat.le_refl _) _).setCell (Nat.le_refl _) _).setCell (Nat.le_refl _) _).setCell (Nat.le_refl _) _).setCell (Nat.le_refl _) _).setCell (Nat.le_refl _) _).alloc (by simp; omega) _
set_option maxHeartbeats 8000000 in
theorem rdecode_k70 (x : Nat) (hx : x < 4294967296) (op : Nat) (hop : op < 57) (hk : kN op = 70) (hf : Fit (kN op) (wN op) x) (w : World) : Calls Tryd.prog 33 #[.int .u32 x] w fun e w' => e = .returned (.tuple #[readV op x, .int .i64 0]) ∧ Below w.heap.size w w' := by
  have hno : Hid (∀ j, j < op → ¬ Fit (kN j) (wN j) x) := Lib.hid fun j hj h => absurd (fit_unique (by omega) hop h hf) (by omega)
  have HF := Lib.hid hf
  have HK := Lib.hid hk
  clear hf hk
  unfold readV instV
  have HX := Lib.hid hx
  have hbs := (Below.refl w.heap.size w).alloc (Nat.le_refl _) (.cells #[.int .i64 0, .int .i64 0, .int .i64 0, .int .i64 0, .int .i64 0, .int .i64 0] 48)
  have hz : (w.alloc (.cells #[.int .i64 0, .int .i64 0, .int .i64 0, .int .i64 0, .int .i64 0, .int .i64 0] 48)).heap[w.heap.size]? = some (.cells #[.int .i64 0, .int .i64 0, .int .i64 0, .int .i64 0, .int .i64 0, .int .i64 0] 48 (0, 0)) := heap_alloc_new w _
  have HS := Lib.hid (And.intro hbs hz)
  clear hbs hz
  go_enter Tryd.func33, Tryd.ntmps33
  go_upto_region 2 with (fail)
  generalize w.alloc (.cells #[.int .i64 0, .int .i64 0, .int .i64 0, .int .i64 0, .int .i64 0, .int .i64 0] 48) = W0 at *
  go_loopw [4] (fun i wr => ∃ j : Nat, j ≤ op ∧ i = .int .i64 j ∧ Below W0.heap.size W0 wr) (fun i _ => 57 - (intOf i).toNat)
  case atStart => exact ⟨0, by omega, rfl, Below.refl _ _⟩
  case round =>
    rename_i wr
    obtain ⟨j, hj, rfl, hbel⟩ := hrel
    have HB := Lib.hid hbel
    have hr0 := ZRow.below HS.out.2 hbel
    have hlt := heap_lt hr0
    have HR := Lib.hid hr0
    clear hr0 hbel
    have hj57 : j < 57 := by omega
    have hjI : (j : Int) < 57 := by omega
    by_cases hje : j < op
    · skip
      have K := Lib.hid (fun w => rkind_in j hj57 w)
      have SP := Lib.hid (fun w => spans_any j hj57 w)
      have PL := Lib.hid (fun w => plain_any j hj57 w)
      have hsl := spanN_lt (kN j)
      have hy : (x &&& (4294967295 - spanN (kN j))) ≠ wN j := fun h => hno.out j hje ((span_fit (kN j) (wN j) x HX.out).1 h)
      have ey := Go.u32_andNot_nat x (spanN (kN j)) HX.out hsl
      generalize x &&& (4294967295 - spanN (kN j)) = y at *
      generalize spanN (kN j) = sp at *
      generalize wN j = bb at *
      generalize kN j = kk at *
      have hs1 : ((y : Int) == (bb : Int)) = false := by simp; omega
      have hs2 : ¬ (y : Int) = (bb : Int) := by omega
      have hs3 : ((y : Int) != (bb : Int)) = true := by simp; omega
      clear hy
      go_wp2_with (first | (go_at_call 39; refine (K.out _).mono ?_; rintro e w' ⟨rfl, rfl⟩) | (go_at_call 52; refine (SP.out _).mono ?_; rintro e w' ⟨rfl, rfl⟩) | (go_at_call 53; refine (PL.out _).mono ?_; rintro e w1 ⟨rfl, hb⟩; have HB1 := Lib.hid hb; clear hb))
      exact ⟨⟨j + 1, by omega, by simp, HB.out.trans (HB1.out.mono HB.out.size)⟩, by simp [intOf]; omega⟩
    · obtain rfl : j = op := by omega
      have K := Lib.hid (fun w => rkind_in j hj57 w)
      have SP := Lib.hid (fun w => spans_any j hj57 w)
      have PL := Lib.hid (fun w => plain_any j hj57 w)
      have NU := Lib.hid (fun w => number_any j hj57 x HX.out w)
      have hsl := spanN_lt (kN j)
      have hy : (x &&& (4294967295 - spanN (kN j))) = wN j := (span_fit (kN j) (wN j) x HX.out).2 HF.out
      have ey := Go.u32_andNot_nat x (spanN (kN j)) HX.out hsl
      rw [hy] at ey
      rw [HK.out] at K SP NU ey
      generalize spanN 70 = sp at *
      generalize wN j = bb at *
      clear hy hsl hje
      obtain ⟨z, hz⟩ : ∃ z, immOf 70 x = z := ⟨_, rfl⟩
      rw [hz] at NU
      obtain ⟨p1, hp1⟩ : ∃ p, p = x / 128 % 32 := ⟨_, rfl⟩
      have ep1 : (x : Int) / 128 % 32 = (p1 : Int) := by omega
      have fp1 : p1 < 32 := by omega
      obtain ⟨p2, hp2⟩ : ∃ p, p = x / 32768 % 32 := ⟨_, rfl⟩
      have ep2 : (x : Int) / 32768 % 32 = (p2 : Int) := by omega
      have fp2 : p2 < 32 := by omega
      obtain ⟨p3, hp3⟩ : ∃ p, p = x / 1048576 % 32 := ⟨_, rfl⟩
      have ep3 : (x : Int) / 1048576 % 32 = (p3 : Int) := by omega
      have fp3 : p3 < 32 := by omega
      obtain ⟨p5, hp5⟩ : ∃ p, p = x / 1048576 := ⟨_, rfl⟩
      have fp5 : p5 < 4294967296 := by omega
      have EV : Hid (rdOf (kN j) x = (p1 : Int) ∧ r1Of (kN j) x = (p2 : Int) ∧ r2Of (kN j) x = 0 ∧ immOf (kN j) x = z ∧ csrOf (kN j) x = 0) := Lib.hid (by
        rw [HK.out]
        exact ⟨by rw [hp1]; rfl, by rw [hp2]; rfl, rfl, hz, rfl⟩)
      clear hp1 hp2 hp3 hp5 hz
      go_wp2_with (first | (go_at_call 39; refine (K.out _).mono ?_; rintro e w' ⟨rfl, rfl⟩) | (go_at_call 52; refine (SP.out _).mono ?_; rintro e w' ⟨rfl, rfl⟩) | (go_at_call 53; refine (PL.out _).mono ?_; rintro e w1 ⟨rfl, hb⟩; have HB1 := Lib.hid hb; clear hb) | (go_at_call 54; refine (NU.out _).mono ?_; rintro e w2 ⟨rfl, hb⟩; have HB2 := Lib.hid (HB1.out.trans (hb.mono HB1.out.size)); have hr2 := ZRow.below HR.out HB2.out; have fr := fun k => frozen_of_row _ _ k _ _ hr2; have c0 : w2.cell? ⟨w.heap.size, 0, none⟩ = some (.int .i64 0) := cell_of_row _ _ _ _ _ _ hr2; have c1 : w2.cell? ⟨w.heap.size, 1, none⟩ = some (.int .i64 0) := cell_of_row _ _ _ _ _ _ hr2; have c2 : w2.cell? ⟨w.heap.size, 2, none⟩ = some (.int .i64 0) := cell_of_row _ _ _ _ _ _ hr2; have c3 : w2.cell? ⟨w.heap.size, 3, none⟩ = some (.int .i64 0) := cell_of_row _ _ _ _ _ _ hr2; have c4 : w2.cell? ⟨w.heap.size, 4, none⟩ = some (.int .i64 0) := cell_of_row _ _ _ _ _ _ hr2; have c5 : w2.cell? ⟨w.heap.size, 5, none⟩ = some (.int .i64 0) := cell_of_row _ _ _ _ _ _ hr2; have hlt2 := heap_lt hr2; clear hb hr2))
      have hbb := HB.out.trans (HB2.out.mono HB.out.size)
      have hb3 := HS.out.1.trans (hbb.mono HS.out.1.size)
      refine bodyPost_ret (v := ?_) ?_ rfl ⟨?_, ?_⟩
      rotate_left
      · simp [results, Tryd.results33, go_sem, c0, c1, c2, c3, c4, c5, hlt2]
        exact rfl
      · rw [EV.out.1, EV.out.2.1, EV.out.2.2.1, EV.out.2.2.2.1, EV.out.2.2.2.2]
      · exact ((((((hb3.setCell (Nat.le_refl _) _).setCell (Nat.le_refl _) _).setCell (Nat.le_refl _) _).setCell (Nat.le_refl _) _).setCell (Nat.le_refl _) _).setCell (Nat.le_refl _) _).alloc (by simp; omega) _
set_option maxHeartbeats 8000000 in
theorem rdecode_k66 (x : Nat) (hx : x < 4294967296) (op : Nat) (hop : op < 57) (hk : kN op = 66) (hf : Fit (kN op) (wN op) x) (w : World) : Calls Tryd.prog 33 #[.int .u32 x] w fun e w' => e = .returned (.tuple #[readV op x, .int .i64 0]) ∧ Below w.heap.size w w' := by
  have hno : Hid (∀ j, j < op → ¬ Fit (kN j) (wN j) x) := Lib.hid fun j hj h => absurd (fit_unique (by omega) hop h hf) (by omega)
  have HF := Lib.hid hf
  have HK := Lib.hid hk
  clear hf hk
  unfold readV instV
  have HX := Lib.hid hx
  have hbs := (Below.refl w.heap.size w).alloc (Nat.le_refl _) (.cells #[.int .i64 0, .int .i64 0, .int .i64 0, .int .i64 0, .int .i64 0, .int .i64 0] 48)
  have hz : (w.alloc (.cells #[.int .i64 0, .int .i64 0, .int .i64 0, .int .i64 0, .int .i64 0, .int .i64 0] 48)).heap[w.heap.size]? = some (.cells #[.int .i64 0, .int .i64 0, .int .i64 0, .int .i64 0, .int .i64 0, .int .i64 0] 48 (0, 0)) := heap_alloc_new w _
  have HS := Lib.hid (And.intro hbs hz)
  clear hbs hz
  go_enter Tryd.func33, Tryd.ntmps33
  go_upto_region 2 with (fail)
  generalize w.alloc (.cells #[.int .i64 0, .int .i64 0, .int .i64 0, .int .i64 0, .int .i64 0, .int .i64 0] 48) = W0 at *
  go_loopw [4] (fun i wr => ∃ j : Nat, j ≤ op ∧ i = .int .i64 j ∧ Below W0.heap.size W0 wr) (fun i _ => 57 - (intOf i).toNat)
  case atStart => exact ⟨0, by omega, rfl, Below.refl _ _⟩
  case round =>
    rename_i wr
    obtain ⟨j, hj, rfl, hbel⟩ := hrel
    have HB := Lib.hid hbel
    have hr0 := ZRow.below HS.out.2 hbel
    have hlt := heap_lt hr0
    have HR := Lib.hid hr0
    clear hr0 hbel
    have hj57 : j < 57 := by omega
    have hjI : (j : Int) < 57 := by omega
    by_cases hje : j < op
    · skip
      have K := Lib.hid (fun w => rkind_in j hj57 w)
      have SP := Lib.hid (fun w => spans_any j hj57 w)
      have PL := Lib.hid (fun w => plain_any j hj57 w)
      have hsl := spanN_lt (kN j)
      have hy : (x &&& (4294967295 - spanN (kN j))) ≠ wN j := fun h => hno.out j hje ((span_fit (kN j) (wN j) x HX.out).1 h)
      have ey := Go.u32_andNot_nat x (spanN (kN j)) HX.out hsl
      generalize x &&& (4294967295 - spanN (kN j)) = y at *
      generalize spanN (kN j) = sp at *
      generalize wN j = bb at *
      generalize kN j = kk at *
      have hs1 : ((y : Int) == (bb : Int)) = false := by simp; omega
      have hs2 : ¬ (y : Int) = (bb : Int) := by omega
      have hs3 : ((y : Int) != (bb : Int)) = true := by simp; omega
      clear hy
      go_wp2_with (first | (go_at_call 39; refine (K.out _).mono ?_; rintro e w' ⟨rfl, rfl⟩) | (go_at_call 52; refine (SP.out _).mono ?_; rintro e w' ⟨rfl, rfl⟩) | (go_at_call 53; refine (PL.out _).mono ?_; rintro e w1 ⟨rfl, hb⟩; have HB1 := Lib.hid hb; clear hb))
      exact ⟨⟨j + 1, by omega, by simp, HB.out.trans (HB1.out.mono HB.out.size)⟩, by simp [intOf]; omega⟩
    · obtain rfl : j = op := by omega
      have K := Lib.hid (fun w => rkind_in j hj57 w)
      have SP := Lib.hid (fun w => spans_any j hj57 w)
      have PL := Lib.hid (fun w => plain_any j hj57 w)
      have NU := Lib.hid (fun w => number_any j hj57 x HX.out w)
      have hsl := spanN_lt (kN j)
      have hy : (x &&& (4294967295 - spanN (kN j))) = wN j := (span_fit (kN j) (wN j) x HX.out).2 HF.out
      have ey := Go.u32_andNot_nat x (spanN (kN j)) HX.out hsl
      rw [hy] at ey
      rw [HK.out] at K SP NU ey
      generalize spanN 66 = sp at *
      generalize wN j = bb at *
      clear hy hsl hje
      obtain ⟨z, hz⟩ : ∃ z, immOf 66 x = z := ⟨_, rfl⟩
      rw [hz] at NU
      obtain ⟨p1, hp1⟩ : ∃ p, p = x / 128 % 32 := ⟨_, rfl⟩
      have ep1 : (x : Int) / 128 % 32 = (p1 : Int) := by omega
      have fp1 : p1 < 32 := by omega
      obtain ⟨p2, hp2⟩ : ∃ p, p = x / 32768 % 32 := ⟨_, rfl⟩
      have ep2 : (x : Int) / 32768 % 32 = (p2 : Int) := by omega
      have fp2 : p2 < 32 := by omega
      obtain ⟨p3, hp3⟩ : ∃ p, p = x / 1048576 % 32 := ⟨_, rfl⟩
      have ep3 : (x : Int) / 1048576 % 32 = (p3 : Int) := by omega
      have fp3 : p3 < 32 := by omega
      obtain ⟨p5, hp5⟩ : ∃ p, p = x / 1048576 := ⟨_, rfl⟩
      have fp5 : p5 < 4294967296 := by omega
      have EV : Hid (rdOf (kN j) x = 0 ∧ r1Of (kN j) x = (p2 : Int) ∧ r2Of (kN j) x = (p3 : Int) ∧ immOf (kN j) x = z ∧ csrOf (kN j) x = 0) := Lib.hid (by
        rw [HK.out]
        exact ⟨rfl, by rw [hp2]; rfl, by rw [hp3]; rfl, hz, rfl⟩)
      clear hp1 hp2 hp3 hp5 hz
      go_wp2_with (first | (go_at_call 39; refine (K.out _).mono ?_; rintro e w' ⟨rfl, rfl⟩) | (go_at_call 52; refine (SP.out _).mono ?_; rintro e w' ⟨rfl, rfl⟩) | (go_at_call 53; refine (PL.out _).mono ?_; rintro e w1 ⟨rfl, hb⟩; have HB1 := Lib.hid hb; clear hb) | (go_at_call 54; refine (NU.out _).mono ?_; rintro e w2 ⟨rfl, hb⟩; have HB2 := Lib.hid (HB1.out.trans (hb.mono HB1.out.size)); have hr2 := ZRow.below HR.out HB2.out; have fr := fun k => frozen_of_row _ _ k _ _ hr2; have c0 : w2.cell? ⟨w.heap.size, 0, none⟩ = some (.int .i64 0) := cell_of_row _ _ _ _ _ _ hr2; have c1 : w2.cell? ⟨w.heap.size, 1, none⟩ = some (.int .i64 0) := cell_of_row _ _ _ _ _ _ hr2; have c2 : w2.cell? ⟨w.heap.size, 2, none⟩ = some (.int .i64 0) := cell_of_row _ _ _ _ _ _ hr2; have c3 : w2.cell? ⟨w.heap.size, 3, none⟩ = some (.int .i64 0) := cell_of_row _ _ _ _ _ _ hr2; have c4 : w2.cell? ⟨w.heap.size, 4, none⟩ = some (.int .i64 0) := cell_of_row _ _ _ _ _ _ hr2; have c5 : w2.cell? ⟨w.heap.size, 5, none⟩ = some (.int .i64 0) := cell_of_row _ _ _ _ _ _ hr2; have hlt2 := heap_lt hr2; clear hb hr2))
      have hbb := HB.out.trans (HB2.out.mono HB.out.size)
      have hb3 := HS.out.1.trans (hbb.mono HS.out.1.size)
      refine bodyPost_ret (v := ?_) ?_ rfl ⟨?_, ?_⟩
      rotate_left
      · simp [results, Tryd.results33, go_sem, c0, c1, c2, c3, c4, c5, hlt2]
        exact rfl
      · rw [EV.out.1, EV.out.2.1, EV.out.2.2.1, EV.out.2.2.2.1, EV.out.2.2.2.2]
      · exact ((((((hb3.setCell (Nat.le_refl _) _).setCell (Nat.le_refl _) _).setCell (Nat.le_refl _) _).setCell (Nat.le_refl _) _).setCell (Nat.le_refl _) _).setCell (Nat.le_refl _) _).alloc (by simp; omega) _
set_option maxHeartbeats 8000000 in
theorem rdecode_k83 (x : Nat) (hx : x < 4294967296) (op : Nat) (hop : op < 57) (hk : kN op = 83) (hf : Fit (kN op) (wN op) x) (w : World) : Calls Tryd.prog 33 #[.int .u32 x] w fun e w' => e = .returned (.tuple #[readV op x, .int .i64 0]) ∧ Below w.heap.size w w' := by
  have hno : Hid (∀ j, j < op → ¬ Fit (kN j) (wN j) x) := Lib.hid fun j hj h => absurd (fit_unique (by omega) hop h hf) (by omega)
  have HF := Lib.hid hf
  have HK := Lib.hid hk
  clear hf hk
  unfold readV instV
  have HX := Lib.hid hx
  have hbs := (Below.refl w.heap.size w).alloc (Nat.le_refl _) (.cells #[.int .i64 0, .int .i64 0, .int .i64 0, .int .i64 0, .int .i64 0, .int .i64 0] 48)
  have hz : (w.alloc (.cells #[.int .i64 0, .int .i64 0, .int .i64 0, .int .i64 0, .int .i64 0, .int .i64 0] 48)).heap[w.heap.size]? = some (.cells #[.int .i64 0, .int .i64 0, .int .i64 0, .int .i64 0, .int .i64 0, .int .i64 0] 48 (0, 0)) := heap_alloc_new w _
  have HS := Lib.hid (And.intro hbs hz)
  clear hbs hz
  go_enter Tryd.func33, Tryd.ntmps33
  go_upto_region 2 with (fail)
  generalize w.alloc (.cells #[.int .i64 0, .int .i64 0, .int .i64 0, .int .i64 0, .int .i64 0, .int .i64 0] 48) = W0 at *
  go_loopw [4] (fun i wr => ∃ j : Nat, j ≤ op ∧ i = .int .i64 j ∧ Below W0.heap.size W0 wr) (fun i _ => 57 - (intOf i).toNat)
  case atStart => exact ⟨0, by omega, rfl, Below.refl _ _⟩
  case round =>
    rename_i wr
    obtain ⟨j, hj, rfl, hbel⟩ := hrel
    have HB := Lib.hid hbel
    have hr0 := ZRow.below HS.out.2 hbel
    have hlt := heap_lt hr0
    have HR := Lib.hid hr0
    clear hr0 hbel
    have hj57 : j < 57 := by omega
    have hjI : (j : Int) < 57 := by omega
    by_cases hje : j < op
    · skip
      have K := Lib.hid (fun w => rkind_in j hj57 w)
      have SP := Lib.hid (fun w => spans_any j hj57 w)
      have PL := Lib.hid (fun w => plain_any j hj57 w)
      have hsl := spanN_lt (kN j)
      have hy : (x &&& (4294967295 - spanN (kN j))) ≠ wN j := fun h => hno.out j hje ((span_fit (kN j) (wN j) x HX.out).1 h)
      have ey := Go.u32_andNot_nat x (spanN (kN j)) HX.out hsl
      generalize x &&& (4294967295 - spanN (kN j)) = y at *
      generalize spanN (kN j) = sp at *
      generalize wN j = bb at *
      generalize kN j = kk at *
      have hs1 : ((y : Int) == (bb : Int)) = false := by simp; omega
      have hs2 : ¬ (y : Int) = (bb : Int) := by omega
      have hs3 : ((y : Int) != (bb : Int)) = true := by simp; omega
      clear hy
      go_wp2_with (first | (go_at_call 39; refine (K.out _).mono ?_; rintro e w' ⟨rfl, rfl⟩) | (go_at_call 52; refine (SP.out _).mono ?_; rintro e w' ⟨rfl, rfl⟩) | (go_at_call 53; refine (PL.out _).mono ?_; rintro e w1 ⟨rfl, hb⟩; have HB1 := Lib.hid hb; clear hb))
      exact ⟨⟨j + 1, by omega, by simp, HB.out.trans (HB1.out.mono HB.out.size)⟩, by simp [intOf]; omega⟩
    · obtain rfl : j = op := by omega
      have K := Lib.hid (fun w => rkind_in j hj57 w)
      have SP := Lib.hid (fun w => spans_any j hj57 w)
      have PL := Lib.hid (fun w => plain_any j hj57 w)
      have NU := Lib.hid (fun w => number_any j hj57 x HX.out w)
      have hsl := spanN_lt (kN j)
      have hy : (x &&& (4294967295 - spanN (kN j))) = wN j := (span_fit (kN j) (wN j) x HX.out).2 HF.out
      have ey := Go.u32_andNot_nat x (spanN (kN j)) HX.out hsl
      rw [hy] at ey
      rw [HK.out] at K SP NU ey
      generalize spanN 83 = sp at *
      generalize wN j = bb at *
      clear hy hsl hje
      obtain ⟨z, hz⟩ : ∃ z, immOf 83 x = z := ⟨_, rfl⟩
      rw [hz] at NU
      obtain ⟨p1, hp1⟩ : ∃ p, p = x / 128 % 32 := ⟨_, rfl⟩
      have ep1 : (x : Int) / 128 % 32 = (p1 : Int) := by omega
      have fp1 : p1 < 32 := by omega
      obtain ⟨p2, hp2⟩ : ∃ p, p = x / 32768 % 32 := ⟨_, rfl⟩
      have ep2 : (x : Int) / 32768 % 32 = (p2 : Int) := by omega
      have fp2 : p2 < 32 := by omega
      obtain ⟨p3, hp3⟩ : ∃ p, p = x / 1048576 % 32 := ⟨_, rfl⟩
      have ep3 : (x : Int) / 1048576 % 32 = (p3 : Int) := by omega
      have fp3 : p3 < 32 := by omega
      obtain ⟨p5, hp5⟩ : ∃ p, p = x / 1048576 := ⟨_, rfl⟩
      have fp5 : p5 < 4294967296 := by omega
      have EV : Hid (rdOf (kN j) x = 0 ∧ r1Of (kN j) x = (p2 : Int) ∧ r2Of (kN j) x = (p3 : Int) ∧ immOf (kN j) x = z ∧ csrOf (kN j) x = 0) := Lib.hid (by
        rw [HK.out]
        exact ⟨rfl, by rw [hp2]; rfl, by rw [hp3]; rfl, hz, rfl⟩)
      clear hp1 hp2 hp3 hp5 hz
      go_wp2_with (first | (go_at_call 39; refine (K.out _).mono ?_; rintro e w' ⟨rfl, rfl⟩) | (go_at_call 52; refine (SP.out _).mono ?_; rintro e w' ⟨rfl, rfl⟩) | (go_at_call 53; refine (PL.out _).mono ?_; rintro e w1 ⟨rfl, hb⟩; have HB1 := Lib.hid hb; clear hb) | (go_at_call 54; refine (NU.out _).mono ?_; rintro e w2 ⟨rfl, hb⟩; have HB2 := Lib.hid (HB1.out.trans (hb.mono HB1.out.size)); have hr2 := ZRow.below HR.out HB2.out; have fr := fun k => frozen_of_row _ _ k _ _ hr2; have c0 : w2.cell? ⟨w.heap.size, 0, none⟩ = some (.int .i64 0) := cell_of_row _ _ _ _ _ _ hr2; have c1 : w2.cell? ⟨w.heap.size, 1, none⟩ = some (.int .i64 0) := cell_of_row _ _ _ _ _ _ hr2; have c2 : w2.cell? ⟨w.heap.size, 2, none⟩ = some (.int .i64 0) := cell_of_row _ _ _ _ _ _ hr2; have c3 : w2.cell? ⟨w.heap.size, 3, none⟩ = some (.int .i64 0) := cell_of_row _ _ _ _ _ _ hr2; have c4 : w2.cell? ⟨w.heap.size, 4, none⟩ = some (.int .i64 0) := cell_of_row _ _ _ _ _ _ hr2; have c5 : w2.cell? ⟨w.heap.size, 5, none⟩ = some (.int .i64 0) := cell_of_row _ _ _ _ _ _ hr2; have hlt2 := heap_lt hr2; clear hb hr2))
      have hbb := HB.out.trans (HB2.out.mono HB.out.size)
      have hb3 := HS.out.1.trans (hbb.mono HS.out.1.size)
      refine bodyPost_ret (v := ?_) ?_ rfl ⟨?_, ?_⟩
      rotate_left
      · simp [results, Tryd.results33, go_sem, c0, c1, c2, c3, c4, c5, hlt2]
        exact rfl
      · rw [EV.out.1, EV.out.2.1, EV.out.2.2.1, EV.out.2.2.2.1, EV.out.2.2.2.2]
      · exact ((((((hb3.setCell (Nat.le_refl _) _).setCell (Nat.le_refl _) _).setCell (Nat.le_refl _) _).setCell (Nat.le_refl _) _).setCell (Nat.le_refl _) _).setCell (Nat.le_refl _) _).alloc (by simp; omega) _
set_option maxHeartbeats 8000000 in
theorem rdecode_k72 (x : Nat) (hx : x < 4294967296) (op : Nat) (hop : op < 57) (hk : kN op = 72) (hf : Fit (kN op) (wN op) x) (w : World) : Calls Tryd.prog 33 #[.int .u32 x] w fun e w' => e = .returned (.tuple #[readV op x, .int .i64 0]) ∧ Below w.heap.size w w' := by
  have hno : Hid (∀ j, j < op → ¬ Fit (kN j) (wN j) x) := Lib.hid fun j hj h => absurd (fit_unique (by omega) hop h hf) (by omega)
  have HF := Lib.hid hf
  have HK := Lib.hid hk
  clear hf hk
  unfold readV instV
  have HX := Lib.hid hx
  have hbs := (Below.refl w.heap.size w).alloc (Nat.le_refl _) (.cells #[.int .i64 0, .int .i64 0, .int .i64 0, .int .i64 0, .int .i64 0, .int .i64 0] 48)
  have hz : (w.alloc (.cells #[.int .i64 0, .int .i64 0, .int .i64 0, .int .i64 0, .int .i64 0, .int .i64 0] 48)).heap[w.heap.size]? = some (.cells #[.int .i64 0, .int .i64 0, .int .i64 0, .int .i64 0, .int .i64 0, .int .i64 0] 48 (0, 0)) := heap_alloc_new w _
  have HS := Lib.hid (And.intro hbs hz)
  clear hbs hz
  go_enter Tryd.func33, Tryd.ntmps33
  go_upto_region 2 with (fail)
  generalize w.alloc (.cells #[.int .i64 0, .int .i64 0, .int .i64 0, .int .i64 0, .int .i64 0, .int .i64 0] 48) = W0 at *
  go_loopw [4] (fun i wr => ∃ j : Nat, j ≤ op ∧ i = .int .i64 j ∧ Below W0.heap.size W0 wr) (fun i _ => 57 - (intOf i).toNat)
  case atStart => exact ⟨0, by omega, rfl, Below.refl _ _⟩
  case round =>
    rename_i wr
    obtain ⟨j, hj, rfl, hbel⟩ := hrel
    have HB := Lib.hid hbel
    have hr0 := ZRow.below HS.out.2 hbel
    have hlt := heap_lt hr0
    have HR := Lib.hid hr0
    clear hr0 hbel
    have hj57 : j < 57 := by omega
    have hjI : (j : Int) < 57 := by omega
    by_cases hje : j < op
    · skip
      have K := Lib.hid (fun w => rkind_in j hj57 w)
      have SP := Lib.hid (fun w => spans_any j hj57 w)
      have PL := Lib.hid (fun w => plain_any j hj57 w)
      have hsl := spanN_lt (kN j)
      have hy : (x &&& (4294967295 - spanN (kN j))) ≠ wN j := fun h => hno.out j hje ((span_fit (kN j) (wN j) x HX.out).1 h)
      have ey := Go.u32_andNot_nat x (spanN (kN j)) HX.out hsl
      generalize x &&& (4294967295 - spanN (kN j)) = y at *
      generalize spanN (kN j) = sp at *
      generalize wN j = bb at *
      generalize kN j = kk at *
      have hs1 : ((y : Int) == (bb : Int)) = false := by simp; omega
      have hs2 : ¬ (y : Int) = (bb : Int) := by omega
      have hs3 : ((y : Int) != (bb : Int)) = true := by simp; omega
      clear hy
      go_wp2_with (first | (go_at_call 39; refine (K.out _).mono ?_; rintro e w' ⟨rfl, rfl⟩) | (go_at_call 52; refine (SP.out _).mono ?_; rintro e w' ⟨rfl, rfl⟩) | (go_at_call 53; refine (PL.out _).mono ?_; rintro e w1 ⟨rfl, hb⟩; have HB1 := Lib.hid hb; clear hb))
      exact ⟨⟨j + 1, by omega, by simp, HB.out.trans (HB1.out.mono HB.out.size)⟩, by simp [intOf]; omega⟩
    · obtain rfl : j = op := by omega
      have K := Lib.hid (fun w => rkind_in j hj57 w)
      have SP := Lib.hid (fun w => spans_any j hj57 w)
      have PL := Lib.hid (fun w => plain_any j hj57 w)
      have NU := Lib.hid (fun w => number_any j hj57 x HX.out w)
      have hsl := spanN_lt (kN j)
      have hy : (x &&& (4294967295 - spanN (kN j))) = wN j := (span_fit (kN j) (wN j) x HX.out).2 HF.out
      have ey := Go.u32_andNot_nat x (spanN (kN j)) HX.out hsl
      rw [hy] at ey
      rw [HK.out] at K SP NU ey
      generalize spanN 72 = sp at *
      generalize wN j = bb at *
      clear hy hsl hje
      obtain ⟨z, hz⟩ : ∃ z, immOf 72 x = z := ⟨_, rfl⟩
      rw [hz] at NU
      obtain ⟨p1, hp1⟩ : ∃ p, p = x / 128 % 32 := ⟨_, rfl⟩
      have ep1 : (x : Int) / 128 % 32 = (p1 : Int) := by omega
      have fp1 : p1 < 32 := by omega
      obtain ⟨p2, hp2⟩ : ∃ p, p = x / 32768 % 32 := ⟨_, rfl⟩
      have ep2 : (x : Int) / 32768 % 32 = (p2 : Int) := by omega
      have fp2 : p2 < 32 := by omega
      obtain ⟨p3, hp3⟩ : ∃ p, p = x / 1048576 % 32 := ⟨_, rfl⟩
      have ep3 : (x : Int) / 1048576 % 32 = (p3 : Int) := by omega
      have fp3 : p3 < 32 := by omega
      obtain ⟨p5, hp5⟩ : ∃ p, p = x / 1048576 := ⟨_, rfl⟩
      have fp5 : p5 < 4294967296 := by omega
      have EV : Hid (rdOf (kN j) x = (p1 : Int) ∧ r1Of (kN j) x = (p2 : Int) ∧ r2Of (kN j) x = 0 ∧ immOf (kN j) x = z ∧ csrOf (kN j) x = 0) := Lib.hid (by
        rw [HK.out]
        exact ⟨by rw [hp1]; rfl, by rw [hp2]; rfl, rfl, hz, rfl⟩)
      clear hp1 hp2 hp3 hp5 hz
      go_wp2_with (first | (go_at_call 39; refine (K.out _).mono ?_; rintro e w' ⟨rfl, rfl⟩) | (go_at_call 52; refine (SP.out _).mono ?_; rintro e w' ⟨rfl, rfl⟩) | (go_at_call 53; refine (PL.out _).mono ?_; rintro e w1 ⟨rfl, hb⟩; have HB1 := Lib.hid hb; clear hb) | (go_at_call 54; refine (NU.out _).mono ?_; rintro e w2 ⟨rfl, hb⟩; have HB2 := Lib.hid (HB1.out.trans (hb.mono HB1.out.size)); have hr2 := ZRow.below HR.out HB2.out; have fr := fun k => frozen_of_row _ _ k _ _ hr2; have c0 : w2.cell? ⟨w.heap.size, 0, none⟩ = some (.int .i64 0) := cell_of_row _ _ _ _ _ _ hr2; have c1 : w2.cell? ⟨w.heap.size, 1, none⟩ = some (.int .i64 0) := cell_of_row _ _ _ _ _ _ hr2; have c2 : w2.cell? ⟨w.heap.size, 2, none⟩ = some (.int .i64 0) := cell_of_row _ _ _ _ _ _ hr2; have c3 : w2.cell? ⟨w.heap.size, 3, none⟩ = some (.int .i64 0) := cell_of_row _ _ _ _ _ _ hr2; have c4 : w2.cell? ⟨w.heap.size, 4, none⟩ = some (.int .i64 0) := cell_of_row _ _ _ _ _ _ hr2; have c5 : w2.cell? ⟨w.heap.size, 5, none⟩ = some (.int .i64 0) := cell_of_row _ _ _ _ _ _ hr2; have hlt2 := heap_lt hr2; clear hb hr2))
      have hbb := HB.out.trans (HB2.out.mono HB.out.size)
      have hb3 := HS.out.1.trans (hbb.mono HS.out.1.size)
      refine bodyPost_ret (v := ?_) ?_ rfl ⟨?_, ?_⟩
      rotate_left
      · simp [results, Tryd.results33, go_sem, c0, c1, c2, c3, c4, c5, hlt2]
        exact rfl
      · rw [EV.out.1, EV.out.2.1, EV.out.2.2.1, EV.out.2.2.2.1, EV.out.2.2.2.2]
      · exact ((((((hb3.setCell (Nat.le_refl _) _).setCell (Nat.le_refl _) _).setCell (Nat.le_refl _) _).setCell (Nat.le_refl _) _).setCell (Nat.le_refl _) _).setCell (Nat.le_refl _) _).alloc (by simp; omega) _
set_option maxHeartbeats 8000000 in
theorem rdecode_k67 (x : Nat) (hx : x < 4294967296) (op : Nat) (hop : op < 57) (hk : kN op = 67) (hf : Fit (kN op) (wN op) x) (w : World) : Calls Tryd.prog 33 #[.int .u32 x] w fun e w' => e = .returned (.tuple #[readV op x, .int .i64 0]) ∧ Below w.heap.size w w' := by
  have hno : Hid (∀ j, j < op → ¬ Fit (kN j) (wN j) x) := Lib.hid fun j hj h => absurd (fit_unique (by omega) hop h hf) (by omega)
  have HF := Lib.hid hf
  have HK := Lib.hid hk
  clear hf hk
  unfold readV instV
  have HX := Lib.hid hx
  have hbs := (Below.refl w.heap.size w).alloc (Nat.le_refl _) (.cells #[.int .i64 0, .int .i64 0, .int .i64 0, .int .i64 0, .int .i64 0, .int .i64 0] 48)
  have hz : (w.alloc (.cells #[.int .i64 0, .int .i64 0, .int .i64 0, .int .i64 0, .int .i64 0, .int .i64 0] 48)).heap[w.heap.size]? = some (.cells #[.int .i64 0, .int .i64 0, .int .i64 0, .int .i64 0, .int .i64 0, .int .i64 0] 48 (0, 0)) := heap_alloc_new w _
  have HS := Lib.hid (And.intro hbs hz)
  clear hbs hz
  go_enter Tryd.func33, Tryd.ntmps33
  go_upto_region 2 with (fail)
  generalize w.alloc (.cells #[.int .i64 0, .int .i64 0, .int .i64 0, .int .i64 0, .int .i64 0, .int .i64 0] 48) = W0 at *
  go_loopw [4] (fun i wr => ∃ j : Nat, j ≤ op ∧ i = .int .i64 j ∧ Below W0.heap.size W0 wr) (fun i _ => 57 - (intOf i).toNat)
  case atStart => exact ⟨0, by omega, rfl, Below.refl _ _⟩
  case round =>
    rename_i wr
    obtain ⟨j, hj, rfl, hbel⟩ := hrel
    have HB := Lib.hid hbel
    have hr0 := ZRow.below HS.out.2 hbel
    have hlt := heap_lt hr0
    have HR := Lib.hid hr0
    clear hr0 hbel
    have hj57 : j < 57 := by omega
    have hjI : (j : Int) < 57 := by omega
    by_cases hje : j < op
    · skip
      have K := Lib.hid (fun w => rkind_in j hj57 w)
      have SP := Lib.hid (fun w => spans_any j hj57 w)
      have PL := Lib.hid (fun w => plain_any j hj57 w)
      have hsl := spanN_lt (kN j)
      have hy : (x &&& (4294967295 - spanN (kN j))) ≠ wN j := fun h => hno.out j hje ((span_fit (kN j) (wN j) x HX.out).1 h)
      have ey := Go.u32_andNot_nat x (spanN (kN j)) HX.out hsl
      generalize x &&& (4294967295 - spanN (kN j)) = y at *
      generalize spanN (kN j) = sp at *
      generalize wN j = bb at *
      generalize kN j = kk at *
      have hs1 : ((y : Int) == (bb : Int)) = false := by simp; omega
      have hs2 : ¬ (y : Int) = (bb : Int) := by omega
      have hs3 : ((y : Int) != (bb : Int)) = true := by simp; omega
      clear hy
      go_wp2_with (first | (go_at_call 39; refine (K.out _).mono ?_; rintro e w' ⟨rfl, rfl⟩) | (go_at_call 52; refine (SP.out _).mono ?_; rintro e w' ⟨rfl, rfl⟩) | (go_at_call 53; refine (PL.out _).mono ?_; rintro e w1 ⟨rfl, hb⟩; have HB1 := Lib.hid hb; clear hb))
      exact ⟨⟨j + 1, by omega, by simp, HB.out.trans (HB1.out.mono HB.out.size)⟩, by simp [intOf]; omega⟩
    · obtain rfl : j = op := by omega
      have K := Lib.hid (fun w => rkind_in j hj57 w)
      have SP := Lib.hid (fun w => spans_any j hj57 w)
      have PL := Lib.hid (fun w => plain_any j hj57 w)
      have NU := Lib.hid (fun w => number_any j hj57 x HX.out w)
      have hsl := spanN_lt (kN j)
      have hy : (x &&& (4294967295 - spanN (kN j))) = wN j := (span_fit (kN j) (wN j) x HX.out).2 HF.out
      have ey := Go.u32_andNot_nat x (spanN (kN j)) HX.out hsl
      rw [hy] at ey
      rw [HK.out] at K SP NU ey
      generalize spanN 67 = sp at *
      generalize wN j = bb at *
      clear hy hsl hje
      obtain ⟨z, hz⟩ : ∃ z, immOf 67 x = z := ⟨_, rfl⟩
      rw [hz] at NU
      obtain ⟨p1, hp1⟩ : ∃ p, p = x / 128 % 32 := ⟨_, rfl⟩
      have ep1 : (x : Int) / 128 % 32 = (p1 : Int) := by omega
      have fp1 : p1 < 32 := by omega
      obtain ⟨p2, hp2⟩ : ∃ p, p = x / 32768 % 32 := ⟨_, rfl⟩
      have ep2 : (x : Int) / 32768 % 32 = (p2 : Int) := by omega
      have fp2 : p2 < 32 := by omega
      obtain ⟨p3, hp3⟩ : ∃ p, p = x / 1048576 % 32 := ⟨_, rfl⟩
      have ep3 : (x : Int) / 1048576 % 32 = (p3 : Int) := by omega
      have fp3 : p3 < 32 := by omega
      obtain ⟨p5, hp5⟩ : ∃ p, p = x / 1048576 := ⟨_, rfl⟩
      have ep5 : (x : Int) / 1048576 = (p5 : Int) := by omega
      have fp5 : p5 < 4294967296 := by omega
      have EV : Hid (rdOf (kN j) x = (p1 : Int) ∧ r1Of (kN j) x = (p2 : Int) ∧ r2Of (kN j) x = 0 ∧ immOf (kN j) x = z ∧ csrOf (kN j) x = (p5 : Int)) := Lib.hid (by
        rw [HK.out]
        exact ⟨by rw [hp1]; rfl, by rw [hp2]; rfl, rfl, hz, by rw [hp5]; rfl⟩)
      clear hp1 hp2 hp3 hp5 hz
      go_wp2_with (first | (go_at_call 39; refine (K.out _).mono ?_; rintro e w' ⟨rfl, rfl⟩) | (go_at_call 52; refine (SP.out _).mono ?_; rintro e w' ⟨rfl, rfl⟩) | (go_at_call 53; refine (PL.out _).mono ?_; rintro e w1 ⟨rfl, hb⟩; have HB1 := Lib.hid hb; clear hb) | (go_at_call 54; refine (NU.out _).mono ?_; rintro e w2 ⟨rfl, hb⟩; have HB2 := Lib.hid (HB1.out.trans (hb.mono HB1.out.size)); have hr2 := ZRow.below HR.out HB2.out; have fr := fun k => frozen_of_row _ _ k _ _ hr2; have c0 : w2.cell? ⟨w.heap.size, 0, none⟩ = some (.int .i64 0) := cell_of_row _ _ _ _ _ _ hr2; have c1 : w2.cell? ⟨w.heap.size, 1, none⟩ = some (.int .i64 0) := cell_of_row _ _ _ _ _ _ hr2; have c2 : w2.cell? ⟨w.heap.size, 2, none⟩ = some (.int .i64 0) := cell_of_row _ _ _ _ _ _ hr2; have c3 : w2.cell? ⟨w.heap.size, 3, none⟩ = some (.int .i64 0) := cell_of_row _ _ _ _ _ _ hr2; have c4 : w2.cell? ⟨w.heap.size, 4, none⟩ = some (.int .i64 0) := cell_of_row _ _ _ _ _ _ hr2; have c5 : w2.cell? ⟨w.heap.size, 5, none⟩ = some (.int .i64 0) := cell_of_row _ _ _ _ _ _ hr2; have hlt2 := heap_lt hr2; clear hb hr2))
      have hbb := HB.out.trans (HB2.out.mono HB.out.size)
      have hb3 := HS.out.1.trans (hbb.mono HS.out.1.size)
      refine bodyPost_ret (v := ?_) ?_ rfl ⟨?_, ?_⟩
      rotate_left
      · simp [results, Tryd.results33, go_sem, c0, c1, c2, c3, c4, c5, hlt2]
        exact rfl
      · rw [EV.out.1, EV.out.2.1, EV.out.2.2.1, EV.out.2.2.2.1, EV.out.2.2.2.2]
      · exact ((((((hb3.setCell (Nat.le_refl _) _).setCell (Nat.le_refl _) _).setCell (Nat.le_refl _) _).setCell (Nat.le_refl _) _).setCell (Nat.le_refl _) _).setCell (Nat.le_refl _) _).alloc (by simp; omega) _
set_option maxHeartbeats 8000000 in
theorem rdecode_k82 (x : Nat) (hx : x < 4294967296) (op : Nat) (hop : op < 57) (hk : kN op = 82) (hf : Fit (kN op) (wN op) x) (w : World) : Calls Tryd.prog 33 #[.int .u32 x] w fun e w' => e = .returned (.tuple #[readV op x, .int .i64 0]) ∧ Below w.heap.size w w' := by
  have hno : Hid (∀ j, j < op → ¬ Fit (kN j) (wN j) x) := Lib.hid fun j hj h => absurd (fit_unique (by omega) hop h hf) (by omega)
  have HF := Lib.hid hf
  have HK := Lib.hid hk
  clear hf hk
  unfold readV instV
  have HX := Lib.hid hx
  have hbs := (Below.refl w.heap.size w).alloc (Nat.le_refl _) (.cells #[.int .i64 0, .int .i64 0, .int .i64 0, .int .i64 0, .int .i64 0, .int .i64 0] 48)
  have hz : (w.alloc (.cells #[.int .i64 0, .int .i64 0, .int .i64 0, .int .i64 0, .int .i64 0, .int .i64 0] 48)).heap[w.heap.size]? = some (.cells #[.int .i64 0, .int .i64 0, .int .i64 0, .int .i64 0, .int .i64 0, .int .i64 0] 48 (0, 0)) := heap_alloc_new w _
  have HS := Lib.hid (And.intro hbs hz)
  clear hbs hz
  go_enter Tryd.func33, Tryd.ntmps33
  go_upto_region 2 with (fail)
  generalize w.alloc (.cells #[.int .i64 0, .int .i64 0, .int .i64 0, .int .i64 0, .int .i64 0, .int .i64 0] 48) = W0 at *
  go_loopw [4] (fun i wr => ∃ j : Nat, j ≤ op ∧ i = .int .i64 j ∧ Below W0.heap.size W0 wr) (fun i _ => 57 - (intOf i).toNat)
  case atStart => exact ⟨0, by omega, rfl, Below.refl _ _⟩
  case round =>
    rename_i wr
    obtain ⟨j, hj, rfl, hbel⟩ := hrel
    have HB := Lib.hid hbel
    have hr0 := ZRow.below HS.out.2 hbel
    have hlt := heap_lt hr0
    have HR := Lib.hid hr0
    clear hr0 hbel
    have hj57 : j < 57 := by omega
    have hjI : (j : Int) < 57 := by omega
    by_cases hje : j < op
    · skip
      have K := Lib.hid (fun w => rkind_in j hj57 w)
      have SP := Lib.hid (fun w => spans_any j hj57 w)
      have PL := Lib.hid (fun w => plain_any j hj57 w)
      have hsl := spanN_lt (kN j)
      have hy : (x &&& (4294967295 - spanN (kN j))) ≠ wN j := fun h => hno.out j hje ((span_fit (kN j) (wN j) x HX.out).1 h)
      have ey := Go.u32_andNot_nat x (spanN (kN j)) HX.out hsl
      generalize x &&& (4294967295 - spanN (kN j)) = y at *
      generalize spanN (kN j) = sp at *
      generalize wN j = bb at *
      generalize kN j = kk at *
      have hs1 : ((y : Int) == (bb : Int)) = false := by simp; omega
      have hs2 : ¬ (y : Int) = (bb : Int) := by omega
      have hs3 : ((y : Int) != (bb : Int)) = true := by simp; omega
      clear hy
      go_wp2_with (first | (go_at_call 39; refine (K.out _).mono ?_; rintro e w' ⟨rfl, rfl⟩) | (go_at_call 52; refine (SP.out _).mono ?_; rintro e w' ⟨rfl, rfl⟩) | (go_at_call 53; refine (PL.out _).mono ?_; rintro e w1 ⟨rfl, hb⟩; have HB1 := Lib.hid hb; clear hb))
      exact ⟨⟨j + 1, by omega, by simp, HB.out.trans (HB1.out.mono HB.out.size)⟩, by simp [intOf]; omega⟩
    · obtain rfl : j = op := by omega
      have K := Lib.hid (fun w => rkind_in j hj57 w)
      have SP := Lib.hid (fun w => spans_any j hj57 w)
      have PL := Lib.hid (fun w => plain_any j hj57 w)
      have NU := Lib.hid (fun w => number_any j hj57 x HX.out w)
      have hsl := spanN_lt (kN j)
      have hy : (x &&& (4294967295 - spanN (kN j))) = wN j := (span_fit (kN j) (wN j) x HX.out).2 HF.out
      have ey := Go.u32_andNot_nat x (spanN (kN j)) HX.out hsl
      rw [hy] at ey
      rw [HK.out] at K SP NU ey
      generalize spanN 82 = sp at *
      generalize wN j = bb at *
      clear hy hsl hje
      obtain ⟨z, hz⟩ : ∃ z, immOf 82 x = z := ⟨_, rfl⟩
      rw [hz] at NU
      obtain ⟨p1, hp1⟩ : ∃ p, p = x / 128 % 32 := ⟨_, rfl⟩
      have ep1 : (x : Int) / 128 % 32 = (p1 : Int) := by omega
      have fp1 : p1 < 32 := by omega
      obtain ⟨p2, hp2⟩ : ∃ p, p = x / 32768 % 32 := ⟨_, rfl⟩
      have ep2 : (x : Int) / 32768 % 32 = (p2 : Int) := by omega
      have fp2 : p2 < 32 := by omega
      obtain ⟨p3, hp3⟩ : ∃ p, p = x / 1048576 % 32 := ⟨_, rfl⟩
      have ep3 : (x : Int) / 1048576 % 32 = (p3 : Int) := by omega
      have fp3 : p3 < 32 := by omega
      obtain ⟨p5, hp5⟩ : ∃ p, p = x / 1048576 := ⟨_, rfl⟩
      have fp5 : p5 < 4294967296 := by omega
      have EV : Hid (rdOf (kN j) x = (p1 : Int) ∧ r1Of (kN j) x = (p2 : Int) ∧ r2Of (kN j) x = (p3 : Int) ∧ immOf (kN j) x = z ∧ csrOf (kN j) x = 0) := Lib.hid (by
        rw [HK.out]
        exact ⟨by rw [hp1]; rfl, by rw [hp2]; rfl, by rw [hp3]; rfl, hz, rfl⟩)
      clear hp1 hp2 hp3 hp5 hz
      go_wp2_with (first | (go_at_call 39; refine (K.out _).mono ?_; rintro e w' ⟨rfl, rfl⟩) | (go_at_call 52; refine (SP.out _).mono ?_; rintro e w' ⟨rfl, rfl⟩) | (go_at_call 53; refine (PL.out _).mono ?_; rintro e w1 ⟨rfl, hb⟩; have HB1 := Lib.hid hb; clear hb) | (go_at_call 54; refine (NU.out _).mono ?_; rintro e w2 ⟨rfl, hb⟩; have HB2 := Lib.hid (HB1.out.trans (hb.mono HB1.out.size)); have hr2 := ZRow.below HR.out HB2.out; have fr := fun k => frozen_of_row _ _ k _ _ hr2; have c0 : w2.cell? ⟨w.heap.size, 0, none⟩ = some (.int .i64 0) := cell_of_row _ _ _ _ _ _ hr2; have c1 : w2.cell? ⟨w.heap.size, 1, none⟩ = some (.int .i64 0) := cell_of_row _ _ _ _ _ _ hr2; have c2 : w2.cell? ⟨w.heap.size, 2, none⟩ = some (.int .i64 0) := cell_of_row _ _ _ _ _ _ hr2; have c3 : w2.cell? ⟨w.heap.size, 3, none⟩ = some (.int .i64 0) := cell_of_row _ _ _ _ _ _ hr2; have c4 : w2.cell? ⟨w.heap.size, 4, none⟩ = some (.int .i64 0) := cell_of_row _ _ _ _ _ _ hr2; have c5 : w2.cell? ⟨w.heap.size, 5, none⟩ = some (.int .i64 0) := cell_of_row _ _ _ _ _ _ hr2; have hlt2 := heap_lt hr2; clear hb hr2))
      have hbb := HB.out.trans (HB2.out.mono HB.out.size)
      have hb3 := HS.out.1.trans (hbb.mono HS.out.1.size)
      refine bodyPost_ret (v := ?_) ?_ rfl ⟨?_, ?_⟩
      rotate_left
      · simp [results, Tryd.results33, go_sem, c0, c1, c2, c3, c4, c5, hlt2]
        exact rfl
      · rw [EV.out.1, EV.out.2.1, EV.out.2.2.1, EV.out.2.2.2.1, EV.out.2.2.2.2]
      · exact ((((((hb3.setCell (Nat.le_refl _) _).setCell (Nat.le_refl _) _).setCell (Nat.le_refl _) _).setCell (Nat.le_refl _) _).setCell (Nat.le_refl _) _).setCell (Nat.le_refl _) _).alloc (by simp; omega) _
set_option maxHeartbeats 8000000 in
theorem rdecode_k78 (x : Nat) (hx : x < 4294967296) (op : Nat) (hop : op < 57) (hk : kN op = 78) (hf : Fit (kN op) (wN op) x) (w : World) : Calls Tryd.prog 33 #[.int .u32 x] w fun e w' => e = .returned (.tuple #[readV op x, .int .i64 0]) ∧ Below w.heap.size w w' := by
  have hno : Hid (∀ j, j < op → ¬ Fit (kN j) (wN j) x) := Lib.hid fun j hj h => absurd (fit_unique (by omega) hop h hf) (by omega)
  have HF := Lib.hid hf
  have HK := Lib.hid hk
  clear hf hk
  unfold readV instV
  have HX := Lib.hid hx
  have hbs := (Below.refl w.heap.size w).alloc (Nat.le_refl _) (.cells #[.int .i64 0, .int .i64 0, .int .i64 0, .int .i64 0, .int .i64 0, .int .i64 0] 48)
  have hz : (w.alloc (.cells #[.int .i64 0, .int .i64 0, .int .i64 0, .int .i64 0, .int .i64 0, .int .i64 0] 48)).heap[w.heap.size]? = some (.cells #[.int .i64 0, .int .i64 0, .int .i64 0, .int .i64 0, .int .i64 0, .int .i64 0] 48 (0, 0)) := heap_alloc_new w _
  have HS := Lib.hid (And.intro hbs hz)
  clear hbs hz
  go_enter Tryd.func33, Tryd.ntmps33
  go_upto_region 2 with (fail)
  generalize w.alloc (.cells #[.int .i64 0, .int .i64 0, .int .i64 0, .int .i64 0, .int .i64 0, .int .i64 0] 48) = W0 at *
  go_loopw [4] (fun i wr => ∃ j : Nat, j ≤ op ∧ i = .int .i64 j ∧ Below W0.heap.size W0 wr) (fun i _ => 57 - (intOf i).toNat)
  case atStart => exact ⟨0, by omega, rfl, Below.refl _ _⟩
  case round =>
    rename_i wr
    obtain ⟨j, hj, rfl, hbel⟩ := hrel
    have HB := Lib.hid hbel
    have hr0 := ZRow.below HS.out.2 hbel
    have hlt := heap_lt hr0
    have HR := Lib.hid hr0
    clear hr0 hbel
    have hj57 : j < 57 := by omega
    have hjI : (j : Int) < 57 := by omega
    by_cases hje : j < op
    · skip
      have K := Lib.hid (fun w => rkind_in j hj57 w)
      have SP := Lib.hid (fun w => spans_any j hj57 w)
      have PL := Lib.hid (fun w => plain_any j hj57 w)
      have hsl := spanN_lt (kN j)
      have hy : (x &&& (4294967295 - spanN (kN j))) ≠ wN j := fun h => hno.out j hje ((span_fit (kN j) (wN j) x HX.out).1 h)
      have ey := Go.u32_andNot_nat x (spanN (kN j)) HX.out hsl
      generalize x &&& (4294967295 - spanN (kN j)) = y at *
      generalize spanN (kN j) = sp at *
      generalize wN j = bb at *
      generalize kN j = kk at *
      have hs1 : ((y : Int) == (bb : Int)) = false := by simp; omega
      have hs2 : ¬ (y : Int) = (bb : Int) := by omega
      have hs3 : ((y : Int) != (bb : Int)) = true := by simp; omega
      clear hy
      go_wp2_with (first | (go_at_call 39; refine (K.out _).mono ?_; rintro e w' ⟨rfl, rfl⟩) | (go_at_call 52; refine (SP.out _).mono ?_; rintro e w' ⟨rfl, rfl⟩) | (go_at_call 53; refine (PL.out _).mono ?_; rintro e w1 ⟨rfl, hb⟩; have HB1 := Lib.hid hb; clear hb))
      exact ⟨⟨j + 1, by omega, by simp, HB.out.trans (HB1.out.mono HB.out.size)⟩, by simp [intOf]; omega⟩
    · obtain rfl : j = op := by omega
      have K := Lib.hid (fun w => rkind_in j hj57 w)
      have SP := Lib.hid (fun w => spans_any j hj57 w)
      have PL := Lib.hid (fun w => plain_any j hj57 w)
      have NU := Lib.hid (fun w => number_any j hj57 x HX.out w)
      have hsl := spanN_lt (kN j)
      have hy : (x &&& (4294967295 - spanN (kN j))) = wN j := (span_fit (kN j) (wN j) x HX.out).2 HF.out
      have ey := Go.u32_andNot_nat x (spanN (kN j)) HX.out hsl
      rw [hy] at ey
      rw [HK.out] at K SP NU ey
      generalize spanN 78 = sp at *
      generalize wN j = bb at *
      clear hy hsl hje
      obtain ⟨z, hz⟩ : ∃ z, immOf 78 x = z := ⟨_, rfl⟩
      rw [hz] at NU
      obtain ⟨p1, hp1⟩ : ∃ p, p = x / 128 % 32 := ⟨_, rfl⟩
      have ep1 : (x : Int) / 128 % 32 = (p1 : Int) := by omega
      have fp1 : p1 < 32 := by omega
      obtain ⟨p2, hp2⟩ : ∃ p, p = x / 32768 % 32 := ⟨_, rfl⟩
      have ep2 : (x : Int) / 32768 % 32 = (p2 : Int) := by omega
      have fp2 : p2 < 32 := by omega
      obtain ⟨p3, hp3⟩ : ∃ p, p = x / 1048576 % 32 := ⟨_, rfl⟩
      have ep3 : (x : Int) / 1048576 % 32 = (p3 : Int) := by omega
      have fp3 : p3 < 32 := by omega
      obtain ⟨p5, hp5⟩ : ∃ p, p = x / 1048576 := ⟨_, rfl⟩
      have fp5 : p5 < 4294967296 := by omega
      have EV : Hid (rdOf (kN j) x = 0 ∧ r1Of (kN j) x = 0 ∧ r2Of (kN j) x = 0 ∧ immOf (kN j) x = z ∧ csrOf (kN j) x = 0) := Lib.hid (by
        rw [HK.out]
        exact ⟨rfl, rfl, rfl, hz, rfl⟩)
      clear hp1 hp2 hp3 hp5 hz
      go_wp2_with (first | (go_at_call 39; refine (K.out _).mono ?_; rintro e w' ⟨rfl, rfl⟩) | (go_at_call 52; refine (SP.out _).mono ?_; rintro e w' ⟨rfl, rfl⟩) | (go_at_call 53; refine (PL.out _).mono ?_; rintro e w1 ⟨rfl, hb⟩; have HB1 := Lib.hid hb; clear hb) | (go_at_call 54; refine (NU.out _).mono ?_; rintro e w2 ⟨rfl, hb⟩; have HB2 := Lib.hid (HB1.out.trans (hb.mono HB1.out.size)); have hr2 := ZRow.below HR.out HB2.out; have fr := fun k => frozen_of_row _ _ k _ _ hr2; have c0 : w2.cell? ⟨w.heap.size, 0, none⟩ = some (.int .i64 0) := cell_of_row _ _ _ _ _ _ hr2; have c1 : w2.cell? ⟨w.heap.size, 1, none⟩ = some (.int .i64 0) := cell_of_row _ _ _ _ _ _ hr2; have c2 : w2.cell? ⟨w.heap.size, 2, none⟩ = some (.int .i64 0) := cell_of_row _ _ _ _ _ _ hr2; have c3 : w2.cell? ⟨w.heap.size, 3, none⟩ = some (.int .i64 0) := cell_of_row _ _ _ _ _ _ hr2; have c4 : w2.cell? ⟨w.heap.size, 4, none⟩ = some (.int .i64 0) := cell_of_row _ _ _ _ _ _ hr2; have c5 : w2.cell? ⟨w.heap.size, 5, none⟩ = some (.int .i64 0) := cell_of_row _ _ _ _ _ _ hr2; have hlt2 := heap_lt hr2; clear hb hr2))
      have hbb := HB.out.trans (HB2.out.mono HB.out.size)
      have hb3 := HS.out.1.trans (hbb.mono HS.out.1.size)
      refine bodyPost_ret (v := ?_) ?_ rfl ⟨?_, ?_⟩
      rotate_left
      · simp [results, Tryd.results33, go_sem, c0, c1, c2, c3, c4, c5, hlt2]
        exact rfl
      · rw [EV.out.1, EV.out.2.1, EV.out.2.2.1, EV.out.2.2.2.1, EV.out.2.2.2.2]
      · exact ((((((hb3.setCell (Nat.le_refl _) _).setCell (Nat.le_refl _) _).setCell (Nat.le_refl _) _).setCell (Nat.le_refl _) _).setCell (Nat.le_refl _) _).setCell (Nat.le_refl _) _).alloc (by simp; omega) _
set_option maxHeartbeats 8000000 in
theorem rdecode_none (x : Nat) (hx : x < 4294967296) (hf : ∀ op, op < 57 → ¬ Fit (kN op) (wN op) x) (w : World) : Calls Tryd.prog 33 #[.int .u32 x] w fun e w' => e = .returned (.tuple #[instV 0 0 0 0 0 0, .int .i64 3]) ∧ Below w.heap.size w w' := by
  have HF := Lib.hid hf
  clear hf
  unfold instV
  have HX := Lib.hid hx
  have hbs := (Below.refl w.heap.size w).alloc (Nat.le_refl _) (.cells #[.int .i64 0, .int .i64 0, .int .i64 0, .int .i64 0, .int .i64 0, .int .i64 0] 48)
  have hz : (w.alloc (.cells #[.int .i64 0, .int .i64 0, .int .i64 0, .int .i64 0, .int .i64 0, .int .i64 0] 48)).heap[w.heap.size]? = some (.cells #[.int .i64 0, .int .i64 0, .int .i64 0, .int .i64 0, .int .i64 0, .int .i64 0] 48 (0, 0)) := heap_alloc_new w _
  have HS := Lib.hid (And.intro hbs hz)
  clear hbs hz
  go_enter Tryd.func33, Tryd.ntmps33
  go_upto_region 2 with (fail)
  generalize w.alloc (.cells #[.int .i64 0, .int .i64 0, .int .i64 0, .int .i64 0, .int .i64 0, .int .i64 0] 48) = W0 at *
  go_loopw [4] (fun i wr => ∃ j : Nat, j ≤ 57 ∧ i = .int .i64 j ∧ Below W0.heap.size W0 wr) (fun i _ => 57 - (intOf i).toNat)
  case atStart => exact ⟨0, by omega, rfl, Below.refl _ _⟩
  case round =>
    rename_i wr
    obtain ⟨j, hj, rfl, hbel⟩ := hrel
    have HB := Lib.hid hbel
    have hr0 := ZRow.below HS.out.2 hbel
    have hlt := heap_lt hr0
    have HR := Lib.hid hr0
    clear hr0 hbel
    by_cases hj57 : j < 57
    · have hjI : (j : Int) < 57 := by omega
      have K := Lib.hid (fun w => rkind_in j hj57 w)
      have SP := Lib.hid (fun w => spans_any j hj57 w)
      have PL := Lib.hid (fun w => plain_any j hj57 w)
      have hsl := spanN_lt (kN j)
      have hy : (x &&& (4294967295 - spanN (kN j))) ≠ wN j := fun h => HF.out j hj57 ((span_fit (kN j) (wN j) x HX.out).1 h)
      have ey := Go.u32_andNot_nat x (spanN (kN j)) HX.out hsl
      generalize x &&& (4294967295 - spanN (kN j)) = y at *
      generalize spanN (kN j) = sp at *
      generalize wN j = bb at *
      generalize kN j = kk at *
      have hs1 : ((y : Int) == (bb : Int)) = false := by simp; omega
      have hs2 : ¬ (y : Int) = (bb : Int) := by omega
      have hs3 : ((y : Int) != (bb : Int)) = true := by simp; omega
      clear hy
      go_wp2_with (first | (go_at_call 39; refine (K.out _).mono ?_; rintro e w' ⟨rfl, rfl⟩) | (go_at_call 52; refine (SP.out _).mono ?_; rintro e w' ⟨rfl, rfl⟩) | (go_at_call 53; refine (PL.out _).mono ?_; rintro e w1 ⟨rfl, hb⟩; have HB1 := Lib.hid hb; clear hb))
      exact ⟨⟨j + 1, by omega, by simp, HB.out.trans (HB1.out.mono HB.out.size)⟩, by simp [intOf]; omega⟩
    · obtain rfl : j = 57 := by omega
      have hr2 := HR.out
      have fr := fun k => frozen_of_row _ _ k _ _ hr2
      have c0 : wr.cell? ⟨w.heap.size, 0, none⟩ = some (.int .i64 0) := cell_of_row _ _ _ _ _ _ hr2
      have c1 : wr.cell? ⟨w.heap.size, 1, none⟩ = some (.int .i64 0) := cell_of_row _ _ _ _ _ _ hr2
      have c2 : wr.cell? ⟨w.heap.size, 2, none⟩ = some (.int .i64 0) := cell_of_row _ _ _ _ _ _ hr2
      have c3 : wr.cell? ⟨w.heap.size, 3, none⟩ = some (.int .i64 0) := cell_of_row _ _ _ _ _ _ hr2
      have c4 : wr.cell? ⟨w.heap.size, 4, none⟩ = some (.int .i64 0) := cell_of_row _ _ _ _ _ _ hr2
      have c5 : wr.cell? ⟨w.heap.size, 5, none⟩ = some (.int .i64 0) := cell_of_row _ _ _ _ _ _ hr2
      have hb3 := Lib.hid (HS.out.1.trans (HB.out.mono HS.out.1.size))
      clear hr2 hj hj57
      go_wp2
      refine bodyPost_ret (v := ?_) ?_ rfl ⟨?_, ?_⟩
      rotate_left
      · simp [results, Tryd.results33, go_sem, c0, c1, c2, c3, c4, c5]
        exact rfl
      · rfl
      · exact (((((hb3.out.setCell (Nat.le_refl _) _).setCell (Nat.le_refl _) _).setCell (Nat.le_refl _) _).setCell (Nat.le_refl _) _).setCell (Nat.le_refl _) _).setCell (Nat.le_refl _) _
theorem rdecode_fit (x : Nat) (hx : x < 4294967296) (op : Nat) (hop : op < 57) (hf : Fit (kN op) (wN op) x) (w : World) : Calls Tryd.prog 33 #[.int .u32 x] w fun e w' => e = .returned (.tuple #[readV op x, .int .i64 0]) ∧ Below w.heap.size w w' := by
  rcases kinds11 op hop with h | h | h | h | h | h | h | h | h | h | h
  · exact rdecode_k85 x hx op hop h hf w
  · exact rdecode_k74 x hx op hop h hf w
  · exact rdecode_k73 x hx op hop h hf w
  · exact rdecode_k76 x hx op hop h hf w
  · exact rdecode_k70 x hx op hop h hf w
  · exact rdecode_k66 x hx op hop h hf w
  · exact rdecode_k83 x hx op hop h hf w
  · exact rdecode_k72 x hx op hop h hf w
  · exact rdecode_k67 x hx op hop h hf w
  · exact rdecode_k82 x hx op hop h hf w
  · exact rdecode_k78 x hx op hop h hf w

end Go.Proofs.YtaknbakkahlilaaDoor
