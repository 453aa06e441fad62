import Derived.Test.YtgbpalclapcfeaaCsrC
import Derived.Below
import Derived.Deep.Draws
import Derived.Deep.AppendLies
import Derived.Maps.AppendAt
import Derived.OwnWalk
import Derived.Laws.BytesArg
import Derived.Laws.MakeOwn
import Derived.Laws.OwnMore
import Derived.Deep.OwnRows
import Derived.Tactics
import Derived.Lib.ConvBytes
import Derived.Laws.Slices
import Derived.WalkKit
import Derived.KernelRfl
import Derived.RowKit3
import Derived.Deep.LoopGhost
import Derived.Deep.QuietTactic
import Derived.BigQuiet
import Derived.WideLaws
import Derived.Deep.DeepCutAuto
import Derived.Deep.CutBlock
import Derived.Deep.RegionHeld3
import Derived.Laws.Rows
import Derived.Lib.AppendStr
import Derived.ArgAppend
import Derived.Laws.IdiomCopy
import Derived.OrdersHeld
import Derived.Laws.BitsLemmas
import Derived.RowKit
import Derived.Lib.Hide
import Derived.Laws.BitsAllLaws
import Derived.WalkLawsBesides
import Derived.WalkSpells
import Derived.LaidEql
namespace Go.Proofs.Ytgbpalclapcfeaa
open Go.RowKit
set_option maxRecDepth 100000
set_option linter.unusedVariables false
set_option linter.unusedSimpArgs false

theorem TwoS.upd {w0 wa : World} {t1 t2 : TypeId} {s z : St} (h : TwoS w0 t1 t2 s z wa) (i : Nat) (v : Value) (s' : St) (e : s.cells.setIfInBounds i v = s'.cells) : TwoS w0 t1 t2 s' z (wa.setCell ⟨w0.heap.size, i, none⟩ v) :=
  ⟨by unfold BoxS; rw [← e]; exact heap_setCell_same _ _ _ _ _ _ h.1, (heap_setCell_other _ _ _ _ (by simp)).trans h.2.1, h.2.2.setCell (Nat.le_refl _) _⟩
theorem but01_at (v : Nat) (hv : v < 4294967296) (B : Nat) (w : World) (h0 : w.cell? ⟨B, 0, none⟩ = some (.int .i64 0)) (h1 : w.cell? ⟨B, 1, none⟩ = some (.int .i64 1)) :
    Calls Try.prog 29 #[.int .u32 v, .slice (some ⟨B, 0, none⟩) 2 2] w fun e w' => e = .returned (.int .u32 (clr v 3)) ∧ Below w.heap.size w w' :=
  (but_any v hv B 2 [0, 1] rfl (by omega) (by simp) w (fun j i h => by
    rcases j with _ | _ | j
    · obtain rfl : 0 = i := by simpa using h
      exact h0
    · obtain rfl : 1 = i := by simpa using h
      exact h1
    · simp at h) (block_lt_of_cell h0)).mono fun e w' h => ⟨by rw [h.1, but01 hv], h.2⟩
theorem cell_new_at (W : World) (cs : Array Value) (t : TypeId) (B j : Nat) (hB : B = W.heap.size) : (W.alloc (.cells cs t)).cell? ⟨B, j, none⟩ = cs[j]? := by
  subst hB; exact cell_of_row _ _ _ _ _ _ (heap_alloc_new W _)
set_option maxHeartbeats 4000000 in
theorem rtrap_any (s : St) (hs : s.ok) (cause value pc : Nat) (h1 : cause < 4294967296) (h2 : value < 4294967296) (h3 : pc < 4294967296) (w : World) :
    Calls Try.prog 13 #[s.v, .int .u32 cause, .int .u32 value, .int .u32 pc] w fun e w' => e = .returned (.tuple #[(trapS s cause value pc).v, .int .u32 (trapTo s.vector cause)]) ∧ Below w.heap.size w w' := by
  obtain ⟨st, en, ve, sc, ep, ca, va, co⟩ := s
  obtain ⟨g1, g2, g3, g4, g5, g6, g7, g8⟩ := hs
  simp only at g1 g2 g3 g4 g5 g6 g7 g8
  have HS := Lib.hid (trapStatus_ref g1)
  have G : Hid (∀ w : World, Calls Try.prog 28 #[.int .u32 st, .int .i64 3, .int .i64 1] w fun e w' => e = .returned (.int .u32 (getBit1 st 3)) ∧ Below w.heap.size w w') := Lib.hid (fun w => get_ref st g1 3 w)
  have S1 : Hid (∀ w : World, Calls Try.prog 27 #[.int .u32 st, .int .i64 7, .int .i64 1, .int .u32 (getBit1 st 3)] w fun e w' => e = .returned (.int .u32 (setBit1 st 7 (getBit1 st 3))) ∧ Below w.heap.size w w') := Lib.hid (fun w => set_ref st g1 7 (by omega) (getBit1 st 3) (getBit1_lt _ _) w)
  have S2 : Hid (∀ w : World, Calls Try.prog 27 #[.int .u32 (setBit1 st 7 (getBit1 st 3)), .int .i64 3, .int .i64 1, .int .u32 0] w fun e w' => e = .returned (.int .u32 (setBit1 (setBit1 st 7 (getBit1 st 3)) 3 0)) ∧ Below w.heap.size w w') := Lib.hid (fun w => set_ref (setBit1 st 7 (getBit1 st 3)) (setBit1_lt _ _ _) 3 (by omega) 0 (by omega) w)
  have P1 := Lib.hid (fun (B : Nat) (w : World) h0 h1 => but01_at pc h3 B w h0 h1)
  have P2 := Lib.hid (fun (B : Nat) (w : World) h0 h1 => but01_at ve g3 B w h0 h1)
  have HB : Hid (TwoS w 25 25 ⟨st, en, ve, sc, ep, ca, va, co⟩ St.zero (((w.alloc (.cells (St.cells ⟨st, en, ve, sc, ep, ca, va, co⟩) 25)).alloc (.cells St.zero.cells 25)).alloc (.cells #[.int .i64 0, .int .i64 1] 3))) :=
    Lib.hid ((TwoS.start w _ _ _ _).below ((Below.refl _ _).alloc (Nat.le_refl _) _))
  have HR : Hid (∀ x y : Int, x = (trapStatus st : Nat) → y = (trapTo ve cause : Nat) → Value.tuple #[.agg #[.int .u32 x, .int .u32 en, .int .u32 ve, .int .u32 sc, .int .u32 (clr pc 3 : Nat), .int .u32 cause, .int .u32 value, .int .u64 co], .int .u32 y] = Value.tuple #[(trapS ⟨st, en, ve, sc, ep, ca, va, co⟩ cause value pc).v, .int .u32 (trapTo ve cause)]) := Lib.hid (fun x y h1 h2 => by rw [h1, h2]; rfl)


  generalize trapS ⟨st, en, ve, sc, ep, ca, va, co⟩ cause value pc = s' at HR ⊢
  unfold St.v St.cells
  simp only
  go_enter Try.func13, Try.ntmps13
  go_wp2_with fail
  refine (P1.out (w.heap.size + 1 + 1) _ ?_ ?_).mono ?_
  · exact (cell_new_at _ _ _ _ 0 (by simp)).trans rfl
  · exact (cell_new_at _ _ _ _ 1 (by simp)).trans rfl
  rintro e w1 ⟨rfl, hb1⟩
  have B1 := Lib.hid (HB.out.below hb1)
  have F1 := Lib.hid B1.out.all
  obtain ⟨f0, f1, f2, f3, f4, f5, f6, f7, f8, f9⟩ := F1.out
  clear hb1 HB
  have C1 := Lib.hid (((B1.out.upd 4 (.int .u32 (clr pc 3 : Nat)) ⟨st, en, ve, sc, clr pc 3, ca, va, co⟩ rfl).upd 5 (.int .u32 cause) ⟨st, en, ve, sc, clr pc 3, cause, va, co⟩ rfl).upd 6 (.int .u32 value) ⟨st, en, ve, sc, clr pc 3, cause, value, co⟩ rfl)
  go_upto_region 2 with (fail)
  go_cut [] (fun w' => TwoS w 25 25 ⟨setBit1 st 7 (getBit1 st 3), en, ve, sc, clr pc 3, cause, value, co⟩ St.zero w')
  case first =>
    go_region_with (first
      | (go_at_call 28; refine (G.out _).mono ?_; rintro e w2 ⟨rfl, hb2⟩; have B2 := Lib.hid ((C1.out.drew 1).below hb2); have F2 := Lib.hid B2.out.all; obtain ⟨f0, _, _, _, _, _, _, _, f8, f9⟩ := F2.out; clear hb2)
      | (go_at_call 27; refine (S1.out _).mono ?_; rintro e w3 ⟨rfl, hb3⟩; have B3 := Lib.hid (B2.out.below hb3); have F3 := Lib.hid B3.out.all; obtain ⟨f0, _, _, _, _, _, _, _, f8, f9⟩ := F3.out; clear hb3))
    all_goals
      go_wp2_with fail
      go_meet
      exact B3.out.upd 0 (.int .u32 (setBit1 st 7 (getBit1 st 3) : Nat)) ⟨setBit1 st 7 (getBit1 st 3), en, ve, sc, clr pc 3, cause, value, co⟩ rfl
  case rest =>
    have hcut0 := Lib.hid hcut
    have FC := Lib.hid hcut0.out.all
    clear hcut
    obtain ⟨f0, f1, f2, f3, f4, f5, f6, f7, f8, f9⟩ := FC.out
    go_wp2_with (go_at_call 27; refine (S2.out _).mono ?_; rintro e w4 ⟨rfl, hb4⟩; have B4 := Lib.hid (hcut0.out.below hb4); have F4 := Lib.hid B4.out.all; obtain ⟨f0, f1, f2, f3, f4, f5, f6, f7, f8, f9⟩ := F4.out; clear hb4)
    have C4 := Lib.hid ((B4.out.upd 0 (.int .u32 (setBit1 (setBit1 st 7 (getBit1 st 3)) 3 0 : Nat)) ⟨setBit1 (setBit1 st 7 (getBit1 st 3)) 3 0, en, ve, sc, clr pc 3, cause, value, co⟩ rfl).below ((Below.refl _ _).alloc (Nat.le_refl _) (.cells #[.int .i64 0, .int .i64 1] 3)))
    refine (P2.out w4.heap.size _ ?_ ?_).mono ?_
    · exact (cell_new_at _ _ _ _ 0 (by simp)).trans rfl
    · exact (cell_new_at _ _ _ _ 1 (by simp)).trans rfl
    rintro e w5 ⟨rfl, hb5⟩
    have B5 := Lib.hid (C4.out.below hb5)
    have F5 := Lib.hid B5.out.all
    obtain ⟨f0, f1, f2, f3, f4, f5, f6, f7, f8, f9⟩ := F5.out
    have R5 := Lib.hid B5.out.all2
    obtain ⟨l0, l1, l2, l3, l4, l5, l6, l7, l8, l9⟩ := R5.out
    clear hb5

    have b5 : Below w.heap.size w w5 := B5.out.2.2
    have Q := Lib.hid b5
    clear b5
    by_cases c2 : ve % 2 = 1
    · by_cases c3 : 2147483648 ≤ cause
      · have t2 : ((ve : Int) % 2 == 1) = true := by simp; omega
        have hT : trapTo ve cause = (clr ve 3 + cause * 4) % 4294967296 := by unfold trapTo; rw [if_pos ⟨c2, c3⟩]
        have HT := Lib.hid hT
        have c4 : (2147483648 : Int) ≤ cause := by omega
        clear c2 hT c3
        go_upto_region 2 with (fail)
        refine bodyPost_ret (v := ?_) ?_ rfl ⟨?_, ?_⟩
        rotate_left
        · simp [results, Try.results13, go_sem, f0, f1, f2, f3, f4, f5, f6, f7, l0, l1, l2, l3, l4, l5, l6, l7]
          exact rfl
        · exact congrArg Ending.returned (HR.out _ _ (by rw [HS.out]) (by rw [HT.out]; simp; omega))
        · have b5 : Below w.heap.size w w5 := B5.out.2.2
          repeat' (first | (with_reducible exact b5) | (with_reducible refine below_drew1 ?_) | (with_reducible refine Below.setCell ?_ ?_ _) | (simp; done))
      · have t2 : ((ve : Int) % 2 == 1) = true := by simp; omega
        have hT : trapTo ve cause = clr ve 3 := by unfold trapTo; rw [if_neg (by omega)]
        have HT := Lib.hid hT
        have c4 : decide ((2147483648 : Int) ≤ cause) = false := by rw [decide_eq_false_iff_not]; omega
        clear c2 hT c3
        go_upto_region 2 with (fail)
        refine bodyPost_ret (v := ?_) ?_ rfl ⟨?_, ?_⟩
        rotate_left
        · simp [results, Try.results13, go_sem, f0, f1, f2, f3, f4, f5, f6, f7, l0, l1, l2, l3, l4, l5, l6, l7]
          exact rfl
        · exact congrArg Ending.returned (HR.out _ _ (by rw [HS.out]) (by rw [HT.out]))
        · have b5 : Below w.heap.size w w5 := B5.out.2.2
          repeat' (first | (with_reducible exact b5) | (with_reducible refine below_drew1 ?_) | (with_reducible refine Below.setCell ?_ ?_ _) | (simp; done))
    · have t2 : ((ve : Int) % 2 == 1) = false := by rw [Bool.eq_false_iff]; simp; omega
      have hT : trapTo ve cause = clr ve 3 := by unfold trapTo; rw [if_neg (by omega)]
      have HT := Lib.hid hT
      clear c2 hT
      go_upto_region 2 with (fail)
      refine bodyPost_ret (v := ?_) ?_ rfl ⟨?_, ?_⟩
      rotate_left
      · simp [results, Try.results13, go_sem, f0, f1, f2, f3, f4, f5, f6, f7, l0, l1, l2, l3, l4, l5, l6, l7]
        exact rfl
      · exact congrArg Ending.returned (HR.out _ _ (by rw [HS.out]) (by rw [HT.out]))
      · have b5 : Below w.heap.size w w5 := B5.out.2.2
        repeat' (first | (with_reducible exact b5) | (with_reducible refine below_drew1 ?_) | (with_reducible refine Below.setCell ?_ ?_ _) | (simp; done))

end Go.Proofs.Ytgbpalclapcfeaa
