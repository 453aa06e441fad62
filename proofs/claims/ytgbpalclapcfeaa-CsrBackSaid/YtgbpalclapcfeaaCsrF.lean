import Derived.Test.YtgbpalclapcfeaaCsrE
import Derived.Below
import Derived.Deep.Draws
import Derived.Deep.AppendLies
import Derived.Maps.AppendAt
import Derived.OwnWalk
import Derived.Laws.BytesArg
import Derived.Laws.MakeOwn
import Derived.Laws.OwnMore
import Derived.Deep.OwnRows
import Derived.Tactics
import Derived.Lib.ConvBytes
import Derived.Laws.Slices
import Derived.WalkKit
import Derived.KernelRfl
import Derived.RowKit3
import Derived.Deep.LoopGhost
import Derived.Deep.QuietTactic
import Derived.BigQuiet
import Derived.WideLaws
import Derived.Deep.DeepCutAuto
import Derived.Deep.CutBlock
import Derived.Deep.RegionHeld3
import Derived.Laws.Rows
import Derived.Lib.AppendStr
import Derived.ArgAppend
import Derived.Laws.IdiomCopy
import Derived.OrdersHeld
import Derived.Laws.BitsLemmas
import Derived.RowKit
import Derived.Lib.Hide
import Derived.Laws.BitsAllLaws
import Derived.WalkLawsBesides
import Derived.WalkSpells
import Derived.LaidEql
namespace Go.Proofs.Ytgbpalclapcfeaa
open Go.RowKit
set_option maxRecDepth 100000
set_option linter.unusedVariables false
set_option linter.unusedSimpArgs false

theorem tb_trapStatus {v : Nat} (hv : v < 4294967296) {j : Nat} (hj : j < 32) : (trapStatus v).testBit j = if j = 3 then false else if j = 7 then v.testBit 3 else v.testBit j := by
  rw [← trapStatus_ref hv, tb_setBit1 (setBit1_lt _ _ _) _ _ hj, tb_setBit1 hv _ _ hj, getBit1_eq hv (by omega)]
  by_cases h3 : j = 3
  · rw [if_pos h3, if_pos h3]; rfl
  · rw [if_neg h3, if_neg h3]
    split
    · cases v.testBit 3 <;> simp
    · rfl
theorem tb_retStatus {v : Nat} (hv : v < 4294967296) {j : Nat} (hj : j < 32) : (retStatus v).testBit j = if j = 7 then true else if j = 3 then v.testBit 7 else v.testBit j := by
  rw [← retStatus_ref hv, tb_setBit1 (setBit1_lt _ _ _) _ _ hj, tb_setBit1 hv _ _ hj, getBit1_eq hv (by omega)]
  by_cases h7 : j = 7
  · rw [if_pos h7, if_pos h7]; rfl
  · rw [if_neg h7, if_neg h7]
    split
    · cases v.testBit 7 <;> simp
    · rfl
theorem clr_zero {v m : Nat} (hv : v < 4294967296) (hm : m < 4294967296) : clr v m = 0 ↔ ∀ j, j < 32 → v.testBit j = true → m.testBit j = true := by
  constructor
  · intro h j hj ht
    have e : (clr v m).testBit j = false := by rw [h]; simp
    rw [tb_clr hm hj, ht] at e
    simpa using e
  · intro h
    apply word_ext (clr_lt hv) (by omega)
    intro j hj
    rw [tb_clr hm hj]
    cases ht : v.testBit j with
    | false => simp
    | true => rw [h j hj ht]; simp
theorem mayB_iff (s : St) : mayB s = true ↔ clr s.status 136 = 0 ∧ clr s.enable 2184 = 0 ∧ s.vector &&& 2 = 0 ∧ s.epc &&& 3 = 0 := by
  simp [mayB, and_assoc]
theorem clr_and {v m : Nat} (hv : v < 4294967296) (hm : m < 4294967296) : clr v m &&& m = 0 := by
  apply word_ext (Nat.lt_of_le_of_lt Nat.and_le_left (clr_lt hv)) (by omega)
  intro j hj
  rw [Nat.testBit_and, tb_clr hm hj]
  cases m.testBit j <;> simp
theorem and_clr {v m : Nat} (hv : v < 4294967296) (hm : m < 4294967296) : clr (v &&& m) m = 0 := by
  rw [clr_zero (Nat.lt_of_le_of_lt Nat.and_le_left hv) hm]
  intro j hj h
  rw [Nat.testBit_and] at h
  simp at h
  exact h.2
theorem mayB_trap {s : St} (hs : s.ok) (h : mayB s = true) {c v p : Nat} (hp : p < 4294967296) : mayB (trapS s c v p) = true := by
  rw [mayB_iff] at h ⊢
  obtain ⟨a1, a2, a3, a4⟩ := h
  refine ⟨?_, a2, a3, clr_and hp (by omega)⟩
  rw [clr_zero hs.status (by omega)] at a1
  show clr (trapStatus s.status) 136 = 0
  rw [clr_zero (trapStatus_lt hs.status) (by omega)]
  intro j hj ht
  rw [tb_trapStatus hs.status hj] at ht
  by_cases h3 : j = 3
  · simp [h3] at ht
  · rw [if_neg h3] at ht
    by_cases h7 : j = 7
    · subst h7; decide
    · rw [if_neg h7] at ht; exact a1 j hj ht
theorem mayB_ret {s : St} (hs : s.ok) (h : mayB s = true) : mayB (retS s) = true := by
  rw [mayB_iff] at h ⊢
  obtain ⟨a1, a2, a3, a4⟩ := h
  refine ⟨?_, a2, a3, a4⟩
  rw [clr_zero hs.status (by omega)] at a1
  show clr (retStatus s.status) 136 = 0
  rw [clr_zero (retStatus_lt hs.status) (by omega)]
  intro j hj ht
  rw [tb_retStatus hs.status hj] at ht
  by_cases h7 : j = 7
  · subst h7; decide
  · rw [if_neg h7] at ht
    by_cases h3 : j = 3
    · subst h3; decide
    · rw [if_neg h3] at ht; exact a1 j hj ht
theorem asks_trap {s : St} (hs : s.ok) (c v p ln : Nat) : asksS (trapS s c v p) ln = 0 := by
  have e : (trapS s c v p).status.testBit 3 = false := by
    show (trapStatus s.status).testBit 3 = false
    rw [tb_trapStatus hs.status (by omega)]; rfl
  unfold asksS
  rw [e]; rfl
theorem asks_back {s : St} (hs : s.ok) (c v p ln : Nat) : asksS (retS (trapS s c v p)) ln = asksS s ln := by
  have e : (retS (trapS s c v p)).status.testBit 3 = s.status.testBit 3 := by
    show (retStatus (trapStatus s.status)).testBit 3 = _
    rw [tb_retStatus (trapStatus_lt hs.status) (by omega), if_neg (by omega), if_pos rfl, tb_trapStatus hs.status (by omega)]; rfl
  unfold asksS
  rw [e]; rfl
theorem writeV_may {s : St} (h : mayB s = true) (a : Int) {v : Nat} (hv : v < 4294967296) (h0 : (writeV s a v).2 = 0) : mayB (writeV s a v).1 = true := by
  rw [mayB_iff] at h
  obtain ⟨a1, a2, a3, a4⟩ := h
  unfold writeV at h0 ⊢
  repeat' split
  all_goals first
    | (exfalso; simp_all; done)
    | (rw [mayB_iff]; exact ⟨a1, a2, a3, a4⟩)
    | (rw [mayB_iff]; exact ⟨and_clr hv (by omega), a2, a3, a4⟩)
    | (rw [mayB_iff]; exact ⟨a1, and_clr hv (by omega), a3, a4⟩)
    | (rw [mayB_iff]; exact ⟨a1, a2, clr_and hv (by omega), a4⟩)
    | (rw [mayB_iff]; exact ⟨a1, a2, a3, clr_and hv (by omega)⟩)
    | (rw [mayB_iff]; exact ⟨by decide, by decide, by decide, by decide⟩)
theorem and_lt32 {v m : Nat} (hv : v < 4294967296) : v &&& m < 4294967296 := Nat.lt_of_le_of_lt Nat.and_le_left hv
theorem zero_ok : St.zero.ok := ⟨by decide, by decide, by decide, by decide, by decide, by decide, by decide, by decide⟩
theorem writeV_ok {s : St} (hs : s.ok) (a : Int) {v : Nat} (hv : v < 4294967296) : (writeV s a v).1.ok := by
  obtain ⟨st, en, ve, sc, ep, ca, va, co⟩ := s
  obtain ⟨a1, a2, a3, a4, a5, a6, a7, a8⟩ := hs
  simp only at a1 a2 a3 a4 a5 a6 a7 a8
  have c1 : co / 4294967296 * 4294967296 + v < 18446744073709551616 := by clear a1 a2 a3 a4 a5 a6 a7; omega
  have c2 : v * 4294967296 + co % 4294967296 < 18446744073709551616 := by
    clear a1 a2 a3 a4 a5 a6 a7
    obtain ⟨x, hx⟩ : ∃ x, x = v * 4294967296 := ⟨_, rfl⟩
    rw [← hx]
    have h1 : x ≤ 18446744069414584320 := by rw [hx]; exact Nat.mul_le_mul_right 4294967296 (show v ≤ 4294967295 by omega)
    have h2 : co % 4294967296 < 4294967296 := Nat.mod_lt _ (by decide)
    clear hx
    omega
  unfold writeV
  by_cases h0 : a = 832
  · rw [if_pos h0]; exact ⟨a1, a2, a3, hv, a5, a6, a7, a8⟩
  rw [if_neg h0]
  by_cases h1 : a = 834
  · rw [if_pos h1]; exact ⟨a1, a2, a3, a4, a5, hv, a7, a8⟩
  rw [if_neg h1]
  by_cases h2 : a = 835
  · rw [if_pos h2]; exact ⟨a1, a2, a3, a4, a5, a6, hv, a8⟩
  rw [if_neg h2]
  by_cases h3 : a = 768
  · rw [if_pos h3]; exact ⟨and_lt32 hv, a2, a3, a4, a5, a6, a7, a8⟩
  rw [if_neg h3]
  by_cases h4 : a = 772
  · rw [if_pos h4]; exact ⟨a1, and_lt32 hv, a3, a4, a5, a6, a7, a8⟩
  rw [if_neg h4]
  by_cases h5 : a = 773
  · rw [if_pos h5]; exact ⟨a1, a2, clr_lt hv, a4, a5, a6, a7, a8⟩
  rw [if_neg h5]
  by_cases h6 : a = 833
  · rw [if_pos h6]; exact ⟨a1, a2, a3, a4, clr_lt hv, a6, a7, a8⟩
  rw [if_neg h6]
  by_cases h7 : a = 2816 ∨ a = 2818
  · rw [if_pos h7]; exact ⟨a1, a2, a3, a4, a5, a6, a7, c1⟩
  rw [if_neg h7]
  by_cases h8 : a = 2944 ∨ a = 2946
  · rw [if_pos h8]; exact ⟨a1, a2, a3, a4, a5, a6, a7, c2⟩
  rw [if_neg h8]
  by_cases h9 : a = 769 ∨ a = 836
  · rw [if_pos h9]; exact ⟨a1, a2, a3, a4, a5, a6, a7, a8⟩
  rw [if_neg h9]
  by_cases h10 : 3857 ≤ a ∧ a ≤ 3860
  · rw [if_pos h10]; exact zero_ok
  rw [if_neg h10]
  exact zero_ok

end Go.Proofs.Ytgbpalclapcfeaa
