import Derived.Test.YtkcdnhennnjneaaGreatDoorRefH
import Derived.Below
import Derived.Deep.Draws
import Derived.Deep.AppendLies
import Derived.Maps.AppendAt
import Derived.OwnWalk
import Derived.Laws.BytesArg
import Derived.Laws.MakeOwn
import Derived.Laws.OwnMore
import Derived.Deep.OwnRows
import Derived.Tactics
import Derived.Lib.ConvBytes
import Derived.Laws.Slices
import Derived.WalkKit
import Derived.KernelRfl
import Derived.RowKit3
import Derived.Deep.LoopGhost
import Derived.Deep.QuietTactic
import Derived.BigQuiet
import Derived.WideLaws
import Derived.Deep.DeepCutAuto
import Derived.Deep.CutBlock
import Derived.Deep.RegionHeld3
import Derived.Laws.Rows
import Derived.Lib.AppendStr
import Derived.ArgAppend
import Derived.Laws.IdiomCopy
import Derived.OrdersHeld
import Derived.Laws.BitsLemmas
import Derived.RowKit
import Derived.Lib.Hide
import Derived.Laws.BitsAllLaws
import Derived.WalkLawsBesides
import Derived.WalkSpells
import Derived.LaidEql
namespace Go.Proofs.YtkcdnhennnjneaaGreatDoor
open Go.RowKit Go.Shelf Go.RowKit
set_option maxRecDepth 100000
set_option linter.unusedVariables false
set_option linter.unusedSimpArgs false

set_option maxHeartbeats 4000000 in
theorem asmParses_gen (S : ByteArray) (hsz : S.size ≤ 1000) (i0 i1 i2 i3 i4 i5 n : Int) (w : World) (E : Env w.heap.size w) (hg : w.cell? ⟨0, 0, none⟩ = some errTy)
    (hTA : ∀ w', Env w.heap.size w' → Calls Tryz.prog 17 #[.string S] w' fun e w2 => e = .returned (.tuple #[.agg #[.int .i64 i0, .int .i64 i1, .int .i64 i2, .int .i64 i3, .int .i64 i4, .int .i64 i5], errV n]) ∧ Below w'.heap.size w' w2)
    (hTR : ∀ w', Calls Tryz.prog 19 #[.string S] w' fun e w2 => e = .returned (.tuple #[.agg #[.int .i64 i0, .int .i64 i1, .int .i64 i2, .int .i64 i3, .int .i64 i4, .int .i64 i5], .int .i64 n]) ∧ Below w'.heap.size w' w2) :
    Calls Tryz.prog 8 #[.string S] w fun e w' => e = .returned (.bool true) ∧ Below w.heap.size w w' := by
  have SU := Lib.hid (fun w' (E : Env w.heap.size w') => asure_any w' E)
  have NU := Lib.hid (fun w' hg => num_any n w' hg)
  have TA := Lib.hid hTA
  have TR := Lib.hid hTR
  have HE := Lib.hid E
  have hgl := block_lt_of_cell hg
  have HG := Lib.hid (fun w' (hb : Below w.heap.size w w') => (hb.cell (p := ⟨0, 0, none⟩) hgl).trans hg)
  have hszI : ¬ (1000 : Int) < (S.size : Int) := by omega
  generalize errV n = ev at *
  clear hg hgl E hTA hTR
  go_enter Tryz.func8, Tryz.ntmps8
  go_upto_region 4 with (go_at_call 17; refine (TA.out _ HE.out).mono ?_; rintro e w1 ⟨rfl, hb⟩; have B1 := Lib.hid hb; clear hb)
  have b2 := B1.out.alloc B1.out.size (.cells #[.int .i64 i0, .int .i64 i1, .int .i64 i2, .int .i64 i3, .int .i64 i4, .int .i64 i5] 37)
  have r2 := heap_alloc_new w1 (.cells #[.int .i64 i0, .int .i64 i1, .int .i64 i2, .int .i64 i3, .int .i64 i4, .int .i64 i5] 37)
  obtain ⟨X, hX⟩ : ∃ X, X = w1.heap.size := ⟨_, rfl⟩
  rw [← hX] at r2 ⊢
  generalize w1.alloc (.cells #[.int .i64 i0, .int .i64 i1, .int .i64 i2, .int .i64 i3, .int .i64 i4, .int .i64 i5] 37) = w2 at *
  have B2 := Lib.hid b2
  have R2 := Lib.hid r2
  clear hX b2 r2
  go_wp2_with (first | (go_at_call 19; refine (TR.out _).mono ?_; rintro e w3 ⟨rfl, hb⟩; have hrr := (hb.block _ (heap_lt R2.out)).trans R2.out; (have k0 : (w3.alloc (.cells #[.int .i64 i0, .int .i64 i1, .int .i64 i2, .int .i64 i3, .int .i64 i4, .int .i64 i5] 34)).cell? ⟨X, 0, none⟩ = some (.int .i64 i0) := Lib.cell?_alloc_some _ (by rw [cell_of_row _ _ _ _ _ _ hrr]; rfl)); (have k1 : (w3.alloc (.cells #[.int .i64 i0, .int .i64 i1, .int .i64 i2, .int .i64 i3, .int .i64 i4, .int .i64 i5] 34)).cell? ⟨X, 1, none⟩ = some (.int .i64 i1) := Lib.cell?_alloc_some _ (by rw [cell_of_row _ _ _ _ _ _ hrr]; rfl)); (have k2 : (w3.alloc (.cells #[.int .i64 i0, .int .i64 i1, .int .i64 i2, .int .i64 i3, .int .i64 i4, .int .i64 i5] 34)).cell? ⟨X, 2, none⟩ = some (.int .i64 i2) := Lib.cell?_alloc_some _ (by rw [cell_of_row _ _ _ _ _ _ hrr]; rfl)); (have k3 : (w3.alloc (.cells #[.int .i64 i0, .int .i64 i1, .int .i64 i2, .int .i64 i3, .int .i64 i4, .int .i64 i5] 34)).cell? ⟨X, 3, none⟩ = some (.int .i64 i3) := Lib.cell?_alloc_some _ (by rw [cell_of_row _ _ _ _ _ _ hrr]; rfl)); (have k4 : (w3.alloc (.cells #[.int .i64 i0, .int .i64 i1, .int .i64 i2, .int .i64 i3, .int .i64 i4, .int .i64 i5] 34)).cell? ⟨X, 4, none⟩ = some (.int .i64 i4) := Lib.cell?_alloc_some _ (by rw [cell_of_row _ _ _ _ _ _ hrr]; rfl)); (have k5 : (w3.alloc (.cells #[.int .i64 i0, .int .i64 i1, .int .i64 i2, .int .i64 i3, .int .i64 i4, .int .i64 i5] 34)).cell? ⟨X, 5, none⟩ = some (.int .i64 i5) := Lib.cell?_alloc_some _ (by rw [cell_of_row _ _ _ _ _ _ hrr]; rfl)); (have b4 := (B2.out.trans (hb.mono B2.out.size)).alloc (Nat.le_trans B2.out.size hb.size) (.cells #[.int .i64 i0, .int .i64 i1, .int .i64 i2, .int .i64 i3, .int .i64 i4, .int .i64 i5] 34)); have B4 := Lib.hid b4; have G4 := Lib.hid (HG.out _ b4); clear hb hrr b4) | (go_at_call 13; refine (NU.out _ G4.out).mono ?_; rintro e w5 ⟨rfl, hb⟩; have B5 := Lib.hid (B4.out.trans (hb.mono B4.out.size)); have E5 := Lib.hid (HE.out.below B5.out); clear hb) | (go_at_call 9; refine (SU.out _ E5.out).mono ?_; rintro e w6 ⟨rfl, hb⟩; have B6 := Lib.hid (B5.out.trans (hb.mono B5.out.size)); clear hb))
  go_ret
  exact ⟨rfl, B6.out⟩
set_option maxHeartbeats 1000000 in
theorem asmParses_long (S : ByteArray) (hsz : 1000 < S.size) (w : World) (E : Env w.heap.size w) : Calls Tryz.prog 8 #[.string S] w fun e w' => e = .returned (.bool true) ∧ Below w.heap.size w w' := by
  have SU := Lib.hid (asure_any w E)
  have hszI : (1000 : Int) < (S.size : Int) := by omega
  clear E
  go_enter Tryz.func8, Tryz.ntmps8
  go_wp2_with (go_at_call 9; refine SU.out.mono ?_; rintro e w1 ⟨rfl, hb⟩; have B1 := Lib.hid hb; clear hb)
  go_ret
  exact ⟨rfl, B1.out⟩
theorem asmParses_walk (S : ByteArray) (w : World) (E : Env w.heap.size w) (hg : w.cell? ⟨0, 0, none⟩ = some errTy) : Calls Tryz.prog 8 #[.string S] w fun e w' => e = .returned (.bool true) ∧ Below w.heap.size w w' := by
  by_cases h : 1000 < S.size
  · exact asmParses_long S h w E
  · have hs : S.data.toList.length ≤ 70000 := by have := bs_size S.data.toList; rw [bs_data] at this; omega
    have hR := fun w' => rparse4_any S.data.toList hs w'
    cases hp : parseT S.data.toList with
    | none =>
      have hA := fun w' E' => aparse_no (B := w.heap.size) S.data.toList hs hp w' E'
      rw [bs_data] at hA
      simp only [hp, bs_data] at hR
      exact asmParses_gen S (by omega) 0 0 0 0 0 0 3 w E hg hA hR
    | some i =>
      have hA := fun w' E' => aparse_yes (B := w.heap.size) S.data.toList hs i hp w' E'
      rw [bs_data] at hA
      simp only [hp, bs_data] at hR
      exact asmParses_gen S (by omega) i.op i.rd i.r1 i.r2 i.imm i.cs 0 w E hg hA hR

end Go.Proofs.YtkcdnhennnjneaaGreatDoor
