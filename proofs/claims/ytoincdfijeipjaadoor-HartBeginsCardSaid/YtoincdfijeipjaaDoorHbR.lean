import Derived.Test.YtoincdfijeipjaaDoorCsrHB
import Derived.Below
import Derived.Deep.Draws
import Derived.Deep.AppendLies
import Derived.Maps.AppendAt
import Derived.OwnWalk
import Derived.Laws.BytesArg
import Derived.Laws.MakeOwn
import Derived.Laws.OwnMore
import Derived.Deep.OwnRows
import Derived.Tactics
import Derived.Lib.ConvBytes
import Derived.Laws.Slices
import Derived.WalkKit
import Derived.KernelRfl
import Derived.RowKit3
import Derived.Deep.LoopGhost
import Derived.Deep.QuietTactic
import Derived.BigQuiet
import Derived.WideLaws
import Derived.Deep.DeepCutAuto
import Derived.Deep.CutBlock
import Derived.Deep.RegionHeld3
import Derived.Laws.Rows
import Derived.Lib.AppendStr
import Derived.ArgAppend
import Derived.Laws.IdiomCopy
import Derived.OrdersHeld
import Derived.Laws.BitsLemmas
import Derived.RowKit
import Derived.Lib.Hide
import Derived.Laws.BitsAllLaws
import Derived.WalkLawsBesides
import Derived.WalkSpells
import Derived.LaidEql
namespace Go.Proofs.YtoincdfijeipjaaDoor
open Go.RowKit
set_option maxRecDepth 100000
set_option linter.unusedVariables false
set_option linter.unusedSimpArgs false

theorem quiet_add_same {P : Program} {f : FuncId} {args : Array Value} {w : World} {a n : Nat} {v : Value}
    (h : Calls P f args (w.drewN (a + n)) fun e w' => e = .returned v ∧ w' = w.drewN (a + n)) : Calls P f args (w.drewN (a + n)) fun e w'' => e = .returned v ∧ ∃ m, w'' = w.drewN (a + m) :=
  h.mono fun _ _ ⟨he, hm⟩ => ⟨he, n, hm⟩
/-- what is asked from the k-th line on -/
def restAsk (x11 x3 x7 : Bool) : Nat → Nat
  | 0 => if x11 = true then 2147483659 else if x3 = true then 2147483651 else if x7 = true then 2147483655 else 0
  | 1 => if x3 = true then 2147483651 else if x7 = true then 2147483655 else 0
  | 2 => if x7 = true then 2147483655 else 0
  | _ => 0
theorem bit_val (v : Nat) (hv : v < 4294967296) (i : Nat) (hi : i < 32) : bitI v i = v.testBit i := by
  rw [bitI_nat hv]; simp
set_option maxHeartbeats 4000000 in
theorem rasks_any (s : St) (hs : s.ok) (ln : Nat) (hl : ln < 4294967296) (w : World) :
    Calls Tryd.prog 61 #[s.v, .int .u32 ln] w fun e w' => e = .returned (.int .u32 (asksS s ln)) ∧ Below w.heap.size w w' := by
  obtain ⟨st, en, ve, sc, ep, ca, va, co⟩ := s
  obtain ⟨g1, g2, g3, g4, g5, g6, g7, g8⟩ := hs
  simp only at g1 g2 g3 g4 g5 g6 g7 g8
  have key : ∀ (v : Nat) (_ : v < 4294967296) (i : Nat) (_ : i < 32) (w : World), Calls Tryd.prog 46 #[.int .u32 v, .int .i64 i] w fun e w' => e = .returned (.int .i64 ((v.testBit i).toNat : Nat)) ∧ w' = w :=
    fun v hv i hi w => (bit_any v hv i w).mono fun e w' h => ⟨by rw [h.1, bit_val v hv i hi], h.2.symm⟩
  have S3 : ∀ w : World, Calls Tryd.prog 46 #[.int .u32 st, .int .i64 3] w fun e w' => e = .returned (.int .i64 ((st.testBit 3).toNat : Nat)) ∧ w' = w := fun w => key st g1 3 (by omega) w
  have L11 : ∀ w : World, Calls Tryd.prog 46 #[.int .u32 ln, .int .i64 11] w fun e w' => e = .returned (.int .i64 ((ln.testBit 11).toNat : Nat)) ∧ w' = w := fun w => key ln hl 11 (by omega) w
  have L3 : ∀ w : World, Calls Tryd.prog 46 #[.int .u32 ln, .int .i64 3] w fun e w' => e = .returned (.int .i64 ((ln.testBit 3).toNat : Nat)) ∧ w' = w := fun w => key ln hl 3 (by omega) w
  have L7 : ∀ w : World, Calls Tryd.prog 46 #[.int .u32 ln, .int .i64 7] w fun e w' => e = .returned (.int .i64 ((ln.testBit 7).toNat : Nat)) ∧ w' = w := fun w => key ln hl 7 (by omega) w
  have E11 : ∀ w : World, Calls Tryd.prog 46 #[.int .u32 en, .int .i64 11] w fun e w' => e = .returned (.int .i64 ((en.testBit 11).toNat : Nat)) ∧ w' = w := fun w => key en g2 11 (by omega) w
  have E3 : ∀ w : World, Calls Tryd.prog 46 #[.int .u32 en, .int .i64 3] w fun e w' => e = .returned (.int .i64 ((en.testBit 3).toNat : Nat)) ∧ w' = w := fun w => key en g2 3 (by omega) w
  have E7 : ∀ w : World, Calls Tryd.prog 46 #[.int .u32 en, .int .i64 7] w fun e w' => e = .returned (.int .i64 ((en.testBit 7).toNat : Nat)) ∧ w' = w := fun w => key en g2 7 (by omega) w
  have hr : asksS ⟨st, en, ve, sc, ep, ca, va, co⟩ ln = if st.testBit 3 = true then restAsk (ln.testBit 11 && en.testBit 11) (ln.testBit 3 && en.testBit 3) (ln.testBit 7 && en.testBit 7) 0 else 0 := rfl
  rw [hr]
  clear hr key
  unfold St.v St.cells
  simp only
  cases c : st.testBit 3 with
  | false =>
    rw [c] at S3
    have HS3 := Lib.hid S3
    clear c S3 L11 L3 L7 E11 E3 E7
    rw [if_neg (by decide)]
    go_enter Tryd.func61, Tryd.ntmps61
    go_wp2
    go_loopw [6] (fun i wr => ∃ k m : Nat, k ≤ 3 ∧ i = .int .i64 k ∧ wr = ((w.alloc (.cells #[.int .u32 st, .int .u32 en, .int .u32 ve, .int .u32 sc, .int .u32 ep, .int .u32 ca, .int .u32 va, .int .u64 co] 63)).alloc (.cells #[.int .i64 11, .int .i64 3, .int .i64 7] 3)).drewN m) (fun i _ => 3 - (intOf i).toNat)
    case atStart => exact ⟨0, 0, by omega, rfl, rfl⟩
    case round =>
      obtain ⟨k, m, hk, rfl, rfl⟩ := hrel
      by_cases hlt : k < 3
      · go_wp2
        go_quiet ((go_at_call 46; exact quiet_add_same (HS3.out _)))
        go_wp2
        go_roundw
        case rel => exact ⟨k + 1, _, by omega, by go_num, rfl⟩
        case measure => simp [intOf]; omega
      · go_wp2
        go_ret
        exact ⟨rfl, below_drewN (((Below.refl _ _).alloc (Nat.le_refl _) _).alloc (by simp) _) _⟩
  | true =>
    rw [c] at S3
    have HS3 := Lib.hid S3
    generalize ln.testBit 11 = l11 at *
    generalize ln.testBit 3 = l3 at *
    generalize ln.testBit 7 = l7 at *
    generalize en.testBit 11 = e11 at *
    generalize en.testBit 3 = e3 at *
    generalize en.testBit 7 = e7 at *
    have HL11 := Lib.hid L11
    have HL3 := Lib.hid L3
    have HL7 := Lib.hid L7
    have HE11 := Lib.hid E11
    have HE3 := Lib.hid E3
    have HE7 := Lib.hid E7
    clear c S3 L11 L3 L7 E11 E3 E7
    rw [if_pos rfl]
    obtain ⟨res, hres0⟩ : ∃ res, restAsk (l11 && e11) (l3 && e3) (l7 && e7) 0 = res := ⟨_, rfl⟩
    rw [hres0]
    have HR := Lib.hid hres0
    clear hres0
    go_enter Tryd.func61, Tryd.ntmps61
    go_wp2
    go_loopw [6] (fun i wr => ∃ k m : Nat, k ≤ 3 ∧ i = .int .i64 k ∧ wr = ((w.alloc (.cells #[.int .u32 st, .int .u32 en, .int .u32 ve, .int .u32 sc, .int .u32 ep, .int .u32 ca, .int .u32 va, .int .u64 co] 63)).alloc (.cells #[.int .i64 11, .int .i64 3, .int .i64 7] 3)).drewN m ∧ restAsk (l11 && e11) (l3 && e3) (l7 && e7) k = res) (fun i _ => 3 - (intOf i).toNat)
    case atStart => exact ⟨0, 0, by omega, rfl, rfl, HR.out⟩
    case round =>
      obtain ⟨k, m, hk, rfl, rfl, hres0⟩ := hrel
      have hres := Lib.hid hres0
      clear hres0 HR
      have hk4 : k = 0 ∨ k = 1 ∨ k = 2 ∨ k = 3 := by omega
      rcases hk4 with rfl | rfl | rfl | rfl
      · go_wp2
        cases l11 <;> cases e11
        all_goals
          go_quiet ((first | (go_at_call 46; with_reducible exact quiet_add_same (HS3.out _)) | (go_at_call 46; with_reducible exact quiet_add_same (HL11.out _)) | (go_at_call 46; with_reducible exact quiet_add_same (HE11.out _))))
          go_wp2
          first
            | (go_roundw
               case rel => exact ⟨1, _, by omega, rfl, rfl, hres.out⟩
               case measure => simp [intOf])
            | (go_ret
               exact ⟨ret_int (by rw [← hres.out]; rfl), below_drewN (((Below.refl _ _).alloc (Nat.le_refl _) _).alloc (by simp) _) _⟩)
      · go_wp2
        cases l3 <;> cases e3
        all_goals
          go_quiet ((first | (go_at_call 46; with_reducible exact quiet_add_same (HS3.out _)) | (go_at_call 46; with_reducible exact quiet_add_same (HL3.out _)) | (go_at_call 46; with_reducible exact quiet_add_same (HE3.out _))))
          go_wp2
          first
            | (go_roundw
               case rel => exact ⟨2, _, by omega, rfl, rfl, hres.out⟩
               case measure => simp [intOf])
            | (go_ret
               exact ⟨ret_int (by rw [← hres.out]; rfl), below_drewN (((Below.refl _ _).alloc (Nat.le_refl _) _).alloc (by simp) _) _⟩)
      · go_wp2
        cases l7 <;> cases e7
        all_goals
          go_quiet ((first | (go_at_call 46; with_reducible exact quiet_add_same (HS3.out _)) | (go_at_call 46; with_reducible exact quiet_add_same (HL7.out _)) | (go_at_call 46; with_reducible exact quiet_add_same (HE7.out _))))
          go_wp2
          first
            | (go_roundw
               case rel => exact ⟨3, _, by omega, rfl, rfl, hres.out⟩
               case measure => simp [intOf])
            | (go_ret
               exact ⟨ret_int (by rw [← hres.out]; rfl), below_drewN (((Below.refl _ _).alloc (Nat.le_refl _) _).alloc (by simp) _) _⟩)
      · go_wp2
        go_ret
        exact ⟨ret_int (by rw [← hres.out]; rfl), below_drewN (((Below.refl _ _).alloc (Nat.le_refl _) _).alloc (by simp) _) _⟩

theorem TwoS.upd {w0 wa : World} {t1 t2 : TypeId} {s z : St} (h : TwoS w0 t1 t2 s z wa) (i : Nat) (v : Value) (s' : St) (e : s.cells.setIfInBounds i v = s'.cells) : TwoS w0 t1 t2 s' z (wa.setCell ⟨w0.heap.size, i, none⟩ v) :=
  ⟨by unfold BoxS; rw [← e]; exact heap_setCell_same _ _ _ _ _ _ h.1, (heap_setCell_other _ _ _ _ (by simp)).trans h.2.1, h.2.2.setCell (Nat.le_refl _) _⟩
theorem but01_at (v : Nat) (hv : v < 4294967296) (B : Nat) (w : World) (h0 : w.cell? ⟨B, 0, none⟩ = some (.int .i64 0)) (h1 : w.cell? ⟨B, 1, none⟩ = some (.int .i64 1)) :
    Calls Tryd.prog 88 #[.int .u32 v, .slice (some ⟨B, 0, none⟩) 2 2] w fun e w' => e = .returned (.int .u32 (clr v 3)) ∧ Below w.heap.size w w' :=
  (but_any v hv B 2 [0, 1] rfl (by omega) (by simp) w (fun j i h => by
    rcases j with _ | _ | j
    · obtain rfl : 0 = i := by simpa using h
      exact h0
    · obtain rfl : 1 = i := by simpa using h
      exact h1
    · simp at h) (block_lt_of_cell h0)).mono fun e w' h => ⟨by rw [h.1, but01 hv], h.2⟩
theorem cell_new_at (W : World) (cs : Array Value) (t : TypeId) (B j : Nat) (hB : B = W.heap.size) : (W.alloc (.cells cs t)).cell? ⟨B, j, none⟩ = cs[j]? := by
  subst hB; exact cell_of_row _ _ _ _ _ _ (heap_alloc_new W _)
set_option maxHeartbeats 4000000 in
theorem rtrap_any (s : St) (hs : s.ok) (cause value pc : Nat) (h1 : cause < 4294967296) (h2 : value < 4294967296) (h3 : pc < 4294967296) (w : World) :
    Calls Tryd.prog 86 #[s.v, .int .u32 cause, .int .u32 value, .int .u32 pc] w fun e w' => e = .returned (.tuple #[(trapS s cause value pc).v, .int .u32 (trapTo s.vector cause)]) ∧ Below w.heap.size w w' := by
  obtain ⟨st, en, ve, sc, ep, ca, va, co⟩ := s
  obtain ⟨g1, g2, g3, g4, g5, g6, g7, g8⟩ := hs
  simp only at g1 g2 g3 g4 g5 g6 g7 g8
  have HS := Lib.hid (trapStatus_ref g1)
  have G : Hid (∀ w : World, Calls Tryd.prog 98 #[.int .u32 st, .int .i64 3, .int .i64 1] w fun e w' => e = .returned (.int .u32 (getBit1 st 3)) ∧ Below w.heap.size w w') := Lib.hid (fun w => get_ref st g1 3 w)
  have S1 : Hid (∀ w : World, Calls Tryd.prog 45 #[.int .u32 st, .int .i64 7, .int .i64 1, .int .u32 (getBit1 st 3)] w fun e w' => e = .returned (.int .u32 (setBit1 st 7 (getBit1 st 3))) ∧ Below w.heap.size w w') := Lib.hid (fun w => set_ref st g1 7 (by omega) (getBit1 st 3) (getBit1_lt _ _) w)
  have S2 : Hid (∀ w : World, Calls Tryd.prog 45 #[.int .u32 (setBit1 st 7 (getBit1 st 3)), .int .i64 3, .int .i64 1, .int .u32 0] w fun e w' => e = .returned (.int .u32 (setBit1 (setBit1 st 7 (getBit1 st 3)) 3 0)) ∧ Below w.heap.size w w') := Lib.hid (fun w => set_ref (setBit1 st 7 (getBit1 st 3)) (setBit1_lt _ _ _) 3 (by omega) 0 (by omega) w)
  have P1 := Lib.hid (fun (B : Nat) (w : World) h0 h1 => but01_at pc h3 B w h0 h1)
  have P2 := Lib.hid (fun (B : Nat) (w : World) h0 h1 => but01_at ve g3 B w h0 h1)
  have HB : Hid (TwoS w 63 63 ⟨st, en, ve, sc, ep, ca, va, co⟩ St.zero (((w.alloc (.cells (St.cells ⟨st, en, ve, sc, ep, ca, va, co⟩) 63)).alloc (.cells St.zero.cells 63)).alloc (.cells #[.int .i64 0, .int .i64 1] 3))) :=
    Lib.hid ((TwoS.start w _ _ _ _).below ((Below.refl _ _).alloc (Nat.le_refl _) _))
  have HR : Hid (∀ x y : Int, x = (trapStatus st : Nat) → y = (trapTo ve cause : Nat) → Value.tuple #[.agg #[.int .u32 x, .int .u32 en, .int .u32 ve, .int .u32 sc, .int .u32 (clr pc 3 : Nat), .int .u32 cause, .int .u32 value, .int .u64 co], .int .u32 y] = Value.tuple #[(trapS ⟨st, en, ve, sc, ep, ca, va, co⟩ cause value pc).v, .int .u32 (trapTo ve cause)]) := Lib.hid (fun x y h1 h2 => by rw [h1, h2]; rfl)


  generalize trapS ⟨st, en, ve, sc, ep, ca, va, co⟩ cause value pc = s' at HR ⊢
  unfold St.v St.cells
  simp only
  go_enter Tryd.func86, Tryd.ntmps86
  go_wp2_with fail
  refine (P1.out (w.heap.size + 1 + 1) _ ?_ ?_).mono ?_
  · exact (cell_new_at _ _ _ _ 0 (by simp)).trans rfl
  · exact (cell_new_at _ _ _ _ 1 (by simp)).trans rfl
  rintro e w1 ⟨rfl, hb1⟩
  have B1 := Lib.hid (HB.out.below hb1)
  have F1 := Lib.hid B1.out.all
  obtain ⟨f0, f1, f2, f3, f4, f5, f6, f7, f8, f9⟩ := F1.out
  clear hb1 HB
  have C1 := Lib.hid (((B1.out.upd 4 (.int .u32 (clr pc 3 : Nat)) ⟨st, en, ve, sc, clr pc 3, ca, va, co⟩ rfl).upd 5 (.int .u32 cause) ⟨st, en, ve, sc, clr pc 3, cause, va, co⟩ rfl).upd 6 (.int .u32 value) ⟨st, en, ve, sc, clr pc 3, cause, value, co⟩ rfl)
  go_upto_region 2 with (fail)
  go_cut [] (fun w' => TwoS w 63 63 ⟨setBit1 st 7 (getBit1 st 3), en, ve, sc, clr pc 3, cause, value, co⟩ St.zero w')
  case first =>
    go_region_with (first
      | (go_at_call 98; refine (G.out _).mono ?_; rintro e w2 ⟨rfl, hb2⟩; have B2 := Lib.hid ((C1.out.drew 1).below hb2); have F2 := Lib.hid B2.out.all; obtain ⟨f0, _, _, _, _, _, _, _, f8, f9⟩ := F2.out; clear hb2)
      | (go_at_call 45; refine (S1.out _).mono ?_; rintro e w3 ⟨rfl, hb3⟩; have B3 := Lib.hid (B2.out.below hb3); have F3 := Lib.hid B3.out.all; obtain ⟨f0, _, _, _, _, _, _, _, f8, f9⟩ := F3.out; clear hb3))
    all_goals
      go_wp2_with fail
      go_meet
      exact B3.out.upd 0 (.int .u32 (setBit1 st 7 (getBit1 st 3) : Nat)) ⟨setBit1 st 7 (getBit1 st 3), en, ve, sc, clr pc 3, cause, value, co⟩ rfl
  case rest =>
    have hcut0 := Lib.hid hcut
    have FC := Lib.hid hcut0.out.all
    clear hcut
    obtain ⟨f0, f1, f2, f3, f4, f5, f6, f7, f8, f9⟩ := FC.out
    go_wp2_with (go_at_call 45; refine (S2.out _).mono ?_; rintro e w4 ⟨rfl, hb4⟩; have B4 := Lib.hid (hcut0.out.below hb4); have F4 := Lib.hid B4.out.all; obtain ⟨f0, f1, f2, f3, f4, f5, f6, f7, f8, f9⟩ := F4.out; clear hb4)
    have C4 := Lib.hid ((B4.out.upd 0 (.int .u32 (setBit1 (setBit1 st 7 (getBit1 st 3)) 3 0 : Nat)) ⟨setBit1 (setBit1 st 7 (getBit1 st 3)) 3 0, en, ve, sc, clr pc 3, cause, value, co⟩ rfl).below ((Below.refl _ _).alloc (Nat.le_refl _) (.cells #[.int .i64 0, .int .i64 1] 3)))
    refine (P2.out w4.heap.size _ ?_ ?_).mono ?_
    · exact (cell_new_at _ _ _ _ 0 (by simp)).trans rfl
    · exact (cell_new_at _ _ _ _ 1 (by simp)).trans rfl
    rintro e w5 ⟨rfl, hb5⟩
    have B5 := Lib.hid (C4.out.below hb5)
    have F5 := Lib.hid B5.out.all
    obtain ⟨f0, f1, f2, f3, f4, f5, f6, f7, f8, f9⟩ := F5.out
    have R5 := Lib.hid B5.out.all2
    obtain ⟨l0, l1, l2, l3, l4, l5, l6, l7, l8, l9⟩ := R5.out
    clear hb5

    have b5 : Below w.heap.size w w5 := B5.out.2.2
    have Q := Lib.hid b5
    clear b5
    by_cases c2 : ve % 2 = 1
    · by_cases c3 : 2147483648 ≤ cause
      · have t2 : ((ve : Int) % 2 == 1) = true := by simp; omega
        have hT : trapTo ve cause = (clr ve 3 + cause * 4) % 4294967296 := by unfold trapTo; rw [if_pos ⟨c2, c3⟩]
        have HT := Lib.hid hT
        have c4 : (2147483648 : Int) ≤ cause := by omega
        clear c2 hT c3
        go_upto_region 2 with (fail)
        refine bodyPost_ret (v := ?_) ?_ rfl ⟨?_, ?_⟩
        rotate_left
        · simp [results, Tryd.results86, go_sem, f0, f1, f2, f3, f4, f5, f6, f7, l0, l1, l2, l3, l4, l5, l6, l7]
          exact rfl
        · exact congrArg Ending.returned (HR.out _ _ (by rw [HS.out]) (by rw [HT.out]; simp; omega))
        · have b5 : Below w.heap.size w w5 := B5.out.2.2
          repeat' (first | (with_reducible exact b5) | (with_reducible refine below_drew1 ?_) | (with_reducible refine Below.setCell ?_ ?_ _) | (simp; done))
      · have t2 : ((ve : Int) % 2 == 1) = true := by simp; omega
        have hT : trapTo ve cause = clr ve 3 := by unfold trapTo; rw [if_neg (by omega)]
        have HT := Lib.hid hT
        have c4 : decide ((2147483648 : Int) ≤ cause) = false := by rw [decide_eq_false_iff_not]; omega
        clear c2 hT c3
        go_upto_region 2 with (fail)
        refine bodyPost_ret (v := ?_) ?_ rfl ⟨?_, ?_⟩
        rotate_left
        · simp [results, Tryd.results86, go_sem, f0, f1, f2, f3, f4, f5, f6, f7, l0, l1, l2, l3, l4, l5, l6, l7]
          exact rfl
        · exact congrArg Ending.returned (HR.out _ _ (by rw [HS.out]) (by rw [HT.out]))
        · have b5 : Below w.heap.size w w5 := B5.out.2.2
          repeat' (first | (with_reducible exact b5) | (with_reducible refine below_drew1 ?_) | (with_reducible refine Below.setCell ?_ ?_ _) | (simp; done))
    · have t2 : ((ve : Int) % 2 == 1) = false := by rw [Bool.eq_false_iff]; simp; omega
      have hT : trapTo ve cause = clr ve 3 := by unfold trapTo; rw [if_neg (by omega)]
      have HT := Lib.hid hT
      clear c2 hT
      go_upto_region 2 with (fail)
      refine bodyPost_ret (v := ?_) ?_ rfl ⟨?_, ?_⟩
      rotate_left
      · simp [results, Tryd.results86, go_sem, f0, f1, f2, f3, f4, f5, f6, f7, l0, l1, l2, l3, l4, l5, l6, l7]
        exact rfl
      · exact congrArg Ending.returned (HR.out _ _ (by rw [HS.out]) (by rw [HT.out]))
      · have b5 : Below w.heap.size w w5 := B5.out.2.2
        repeat' (first | (with_reducible exact b5) | (with_reducible refine below_drew1 ?_) | (with_reducible refine Below.setCell ?_ ?_ _) | (simp; done))

end Go.Proofs.YtoincdfijeipjaaDoor
