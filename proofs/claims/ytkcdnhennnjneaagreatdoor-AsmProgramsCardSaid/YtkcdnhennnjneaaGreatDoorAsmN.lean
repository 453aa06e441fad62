import Derived.Test.YtkcdnhennnjneaaGreatDoorAsmS
import Derived.Below
import Derived.Deep.Draws
import Derived.Deep.AppendLies
import Derived.Maps.AppendAt
import Derived.OwnWalk
import Derived.Laws.BytesArg
import Derived.Laws.MakeOwn
import Derived.Laws.OwnMore
import Derived.Deep.OwnRows
import Derived.Tactics
import Derived.Lib.ConvBytes
import Derived.Laws.Slices
import Derived.WalkKit
import Derived.KernelRfl
import Derived.RowKit3
import Derived.Deep.LoopGhost
import Derived.Deep.QuietTactic
import Derived.BigQuiet
import Derived.WideLaws
import Derived.Deep.DeepCutAuto
import Derived.Deep.CutBlock
import Derived.Deep.RegionHeld3
import Derived.Laws.Rows
import Derived.Lib.AppendStr
import Derived.ArgAppend
import Derived.Laws.IdiomCopy
import Derived.OrdersHeld
import Derived.Laws.BitsLemmas
import Derived.RowKit
import Derived.Lib.Hide
import Derived.Laws.BitsAllLaws
import Derived.WalkLawsBesides
import Derived.WalkSpells
import Derived.LaidEql
namespace Go.Proofs.YtkcdnhennnjneaaGreatDoor
open Go.RowKit Go.Shelf Go.RowKit
set_option maxRecDepth 100000
set_option linter.unusedVariables false
set_option linter.unusedSimpArgs false

def azB (c : UInt8) : Bool := decide (97 ≤ c.toNat) && decide (c.toNat ≤ 122)
/-- whether a text is a name -/
def nameT (s : List UInt8) : Bool := decide (0 < s.length) && (decide (s.length ≤ 16) && s.all azB)
def oddR (r : Nat) : Bool := decide (r < 97) || decide (122 < r)
theorem decode_ok {s : ByteArray} {i : Nat} (h : azB (s.get! i) = true) : Utf8.decode s i = ((s.get! i).toNat, 1) ∧ oddR (Utf8.decode s i).1 = false := by
  unfold azB at h
  simp only [Bool.and_eq_true, decide_eq_true_eq] at h
  have e : Utf8.decode s i = ((s.get! i).toNat, 1) := by
    unfold Utf8.decode
    simp only [Nat.add_zero]
    rw [if_pos (by omega)]
  refine ⟨e, ?_⟩
  rw [e]
  unfold oddR
  rw [decide_eq_false (by show ¬ (s.get! i).toNat < 97; omega), decide_eq_false (by show ¬ 122 < (s.get! i).toNat; omega)]; rfl
theorem decode_odd {s : ByteArray} {i : Nat} (h : azB (s.get! i) = false) : oddR (Utf8.decode s i).1 = true := by
  have hr : 128 ≤ Utf8.runeError := by decide
  by_cases h1 : (s.get! i).toNat < 128
  · have e : Utf8.decode s i = ((s.get! i).toNat, 1) := by
      unfold Utf8.decode
      simp only [Nat.add_zero]
      rw [if_pos (by omega)]
    rw [e]
    unfold azB at h
    unfold oddR
    simp only [Bool.and_eq_false_iff, decide_eq_false_iff_not, Bool.or_eq_true, decide_eq_true_eq] at h ⊢
    omega
  · have e : 128 ≤ (Utf8.decode s i).1 := by
      unfold Utf8.decode
      simp only [Nat.add_zero]
      rw [if_neg (by omega)]
      repeat' split
      all_goals first
        | exact hr
        | (simp only [Bool.and_eq_true, decide_eq_true_eq, ge_iff_le] at *; omega)
    unfold oddR
    rw [decide_eq_true (show 122 < (Utf8.decode s i).1 by omega), Bool.or_true]
theorem idx_from (s : ByteArray) : ∀ (f pos : Nat), s.size ≤ pos + f → ((Lib.idxFuncFrom oddR true s f pos < 0) ↔ ∀ k, pos ≤ k → k < s.size → azB (s.get! k) = true)
  | 0, pos, h => by
    unfold Lib.idxFuncFrom
    exact ⟨fun _ k h1 h2 => by omega, fun _ => by decide⟩
  | f + 1, pos, h => by
    unfold Lib.idxFuncFrom
    by_cases hp : pos < s.size
    · rw [if_pos hp]
      cases ha : azB (s.get! pos) with
      | true =>
        obtain ⟨e1, e2⟩ := decode_ok ha
        rw [if_neg (by rw [e2]; decide), e1]
        rw [idx_from s f (pos + 1) (by omega)]
        constructor
        · intro hh k h1 h2
          by_cases e : k = pos
          · rw [e]; exact ha
          · exact hh k (by omega) h2
        · intro hh k h1 h2
          exact hh k (by omega) h2
      | false =>
        rw [if_pos (decode_odd ha)]
        constructor
        · intro hh; omega
        · intro hh; rw [hh pos (Nat.le_refl _) hp] at ha; cases ha
    · rw [if_neg hp]
      exact ⟨fun _ k h1 h2 => by omega, fun _ => by decide⟩
theorem bs_get (l : List UInt8) (k : Nat) (h : k < l.length) : (bs l).get! k = l[k] := by
  show l.toArray[k]! = l[k]
  simp [h]
theorem idx_name (l : List UInt8) : decide (Lib.idxFunc oddR true (bs l) < 0) = l.all azB := by
  unfold Lib.idxFunc
  rw [Bool.eq_iff_iff]
  simp only [decide_eq_true_eq, List.all_eq_true]
  rw [idx_from (bs l) (bs l).size 0 (by omega)]
  constructor
  · intro h c hc
    obtain ⟨k, hk, rfl⟩ := List.getElem_of_mem hc
    have := h k (Nat.zero_le _) (by rw [bs_size]; exact hk)
    rw [bs_get l k hk] at this
    exact this
  · intro h k _ hk
    rw [bs_size] at hk
    rw [bs_get l k hk]
    exact h _ (List.getElem_mem hk)
theorem odd_pays (w : World) : PredAt Tryz.prog 90 #[] encR oddR w := fun W r _ => by
  unfold FnGives
  by_cases h1 : r < 97 <;> by_cases h2 : 122 < r
  all_goals
    have z1 : (r : Int) < 97 ↔ r < 97 := by omega
    have z2 : (122 : Int) < (r : Int) ↔ 122 < r := by omega
    go_enter Tryz.func90, Tryz.ntmps90
    go_wp2
    all_goals first | (exfalso; omega) | (go_ret; exact ⟨by simp [oddR, h1, h2], 0, rfl⟩)
theorem idx_any (l : List UInt8) (w : World) : Calls Tryz.prog 91 #[.string (bs l), .func (.func 90) #[] #[]] w fun e w' => e = .returned (.int .i64 (Lib.idxFunc oddR true (bs l))) ∧ Below w.heap.size w w' :=
  Tryz.strings_IndexFunc 90 #[] (fun args w => by kernel_rfl) oddR (bs l) w (odd_pays w)

set_option maxHeartbeats 1000000 in
theorem aname_any (l : List UInt8) (hl : l.length ≤ 70000) (w : World) : Calls Tryz.prog 54 #[.string (bs l)] w fun e w' => e = .returned (.bool (nameT l)) ∧ Below w.heap.size w w' := by
  have IX := Lib.hid (fun w => idx_any l w)
  have hz := bs_size l
  have hid_ := idx_name l
  have ev : nameT l = (decide (0 < (bs l).size) && (decide ((bs l).size ≤ 16) && l.all azB)) := by rw [bs_size]; rfl
  rw [ev]
  generalize Lib.idxFunc oddR true (bs l) = ix at *
  have hzl : (bs l).size ≤ 70000 := by omega
  generalize bs l = s at *
  generalize l.all azB = q at *
  clear hz ev hl
  have HQ := Lib.hid hid_
  by_cases h0 : 0 < s.size
  · by_cases h1 : s.size ≤ 16
    · have hi0 : (0 : Int) < (s.size : Int) := by omega
      have hi1 : (s.size : Int) ≤ 16 := by omega
      by_cases h2 : ix < 0
      · have hq : q = true := by rw [← HQ.out]; exact decide_eq_true h2
        have HH := Lib.hid hq
        clear hid_ hq
        go_enter Tryz.func54, Tryz.ntmps54
        go_wp2_with (go_at_call 91; refine (IX.out _).mono ?_; rintro e w1 ⟨rfl, hb⟩; have G1 := Lib.hid hb; clear hb)
        go_ret
        exact ⟨by rw [HH.out]; simp [h0, h1], G1.out⟩
      · have hq : q = false := by rw [← HQ.out]; exact decide_eq_false h2
        have HH := Lib.hid hq
        clear hid_ hq
        go_enter Tryz.func54, Tryz.ntmps54
        go_wp2_with (go_at_call 91; refine (IX.out _).mono ?_; rintro e w1 ⟨rfl, hb⟩; have G1 := Lib.hid hb; clear hb)
        go_ret
        exact ⟨by rw [HH.out]; simp; omega, G1.out⟩
    · have hi0 : (0 : Int) < (s.size : Int) := by omega
      have hi1 : ¬ (s.size : Int) ≤ 16 := by omega
      clear hid_
      go_enter Tryz.func54, Tryz.ntmps54
      go_wp2
      go_ret
      exact ⟨by simp [h0, h1], Below.refl _ _⟩
  · have hi0 : ¬ (0 : Int) < (s.size : Int) := by omega
    clear hid_
    go_enter Tryz.func54, Tryz.ntmps54
    go_wp2
    go_ret
    exact ⟨by simp [h0], Below.refl _ _⟩
def labT (t : List UInt8) : Bool := Lib.hasSuffix t [58] && nameT (Lib.trimSuffix t [58])
set_option maxHeartbeats 1000000 in
theorem alabel_any (n : Int) (t : List UInt8) (ht : t.length ≤ 70000) (w : World) : Calls Tryz.prog 21 #[.agg #[.int .i64 n, .string (bs t)]] w fun e w' => e = .returned (.tuple #[.string (bs (Lib.trimSuffix t [58])), .bool (labT t)]) ∧ Below w.heap.size w w' := by
  have CS : Hid (∀ w, Calls Tryz.prog 53 #[.string (bs t), .string ⟨#[58]⟩] w fun e w' => e = .returned (.tuple #[.string (bs (Lib.trimSuffix t [58])), .bool (Lib.hasSuffix t [58])]) ∧ w = w') := Lib.hid (fun w => csuf_any t [58] ht w)
  have NA := Lib.hid (fun w => aname_any (Lib.trimSuffix t [58]) (by have := trims_len t [58]; omega) w)
  unfold labT
  have b0 : Below w.heap.size w (w.alloc (.cells #[.int .i64 n, .string (bs t)] 61)) := (Below.refl _ _).alloc (Nat.le_refl _) _
  have B0 := Lib.hid b0
  generalize bs (Lib.trimSuffix t [58]) = u at *
  generalize nameT (Lib.trimSuffix t [58]) = r at *
  generalize Lib.hasSuffix t [58] = q at *
  generalize bs t = s at *
  clear ht b0
  cases q with
  | true =>
    go_enter Tryz.func21, Tryz.ntmps21
    go_wp2_with (first | (go_at_call 53; refine (CS.out _).mono ?_; rintro e w' ⟨rfl, rfl⟩) | (go_at_call 54; refine (NA.out _).mono ?_; rintro e w1 ⟨rfl, hb⟩; have G1 := Lib.hid (B0.out.trans (hb.mono B0.out.size)); clear hb))
    go_ret2
    exact ⟨by simp, G1.out⟩
  | false =>
    go_enter Tryz.func21, Tryz.ntmps21
    go_wp2_with (go_at_call 53; refine (CS.out _).mono ?_; rintro e w' ⟨rfl, rfl⟩)
    go_ret2
    exact ⟨by simp, B0.out⟩

end Go.Proofs.YtkcdnhennnjneaaGreatDoor
