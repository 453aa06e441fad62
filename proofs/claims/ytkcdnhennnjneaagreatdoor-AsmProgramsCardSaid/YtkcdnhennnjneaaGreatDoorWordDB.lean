import Derived.Test.YtkcdnhennnjneaaGreatDoorProg
import Derived.Below
import Derived.Deep.Draws
import Derived.Deep.AppendLies
import Derived.Maps.AppendAt
import Derived.OwnWalk
import Derived.Laws.BytesArg
import Derived.Laws.MakeOwn
import Derived.Laws.OwnMore
import Derived.Deep.OwnRows
import Derived.Tactics
import Derived.Lib.ConvBytes
import Derived.Laws.Slices
import Derived.WalkKit
import Derived.KernelRfl
import Derived.RowKit3
import Derived.Deep.LoopGhost
import Derived.Deep.QuietTactic
import Derived.BigQuiet
import Derived.WideLaws
import Derived.Deep.DeepCutAuto
import Derived.Deep.CutBlock
import Derived.Deep.RegionHeld3
import Derived.Laws.Rows
import Derived.Lib.AppendStr
import Derived.ArgAppend
import Derived.Laws.IdiomCopy
import Derived.OrdersHeld
import Derived.Laws.BitsLemmas
import Derived.RowKit
import Derived.Lib.Hide
import Derived.Laws.BitsAllLaws
import Derived.WalkLawsBesides
import Derived.WalkSpells
import Derived.LaidEql
namespace Go.Proofs.YtkcdnhennnjneaaGreatDoor
open Go.RowKit
set_option maxRecDepth 100000
set_option linter.unusedVariables false
set_option linter.unusedSimpArgs false

def fromN (g : Nat → Bool) : Nat → Nat
  | 0 => 0
  | n + 1 => 2 ^ n * (g n).toNat + fromN g n

theorem fromN_lt (g : Nat → Bool) : ∀ n, fromN g n < 2 ^ n
  | 0 => by simp [fromN]
  | n + 1 => by
    have ih := fromN_lt g n
    rw [fromN, Nat.pow_succ]
    cases h : g n <;> simp <;> omega

theorem testBit_fromN (g : Nat → Bool) (n i : Nat) : (fromN g n).testBit i = (decide (i < n) && g i) := by
  induction n with
  | zero => simp [fromN]
  | succ n ih =>
    rw [fromN, Nat.testBit_two_pow_mul_add _ (fromN_lt g n)]
    by_cases h : i < n
    · have h' : i < n + 1 := by omega
      simp [h, h', ih]
    · rw [if_neg h]
      by_cases e : i = n
      · subst e; cases g i <;> simp
      · have h' : ¬ i < n + 1 := by omega
        have : ∃ m, i - n = m + 1 := ⟨i - n - 1, by omega⟩
        obtain ⟨m, hm⟩ := this
        rw [hm]; cases g n <;> simp [h', Nat.testBit_succ]

theorem fromN_congr {g h : Nat → Bool} : ∀ {n : Nat}, (∀ i, i < n → g i = h i) → fromN g n = fromN h n
  | 0, _ => rfl
  | n + 1, H => by rw [fromN, fromN, H n (by omega), fromN_congr (n := n) fun i hi => H i (by omega)]

theorem eq_fromN {v n : Nat} {g : Nat → Bool} (hv : v < 2 ^ n) (h : ∀ i, i < n → v.testBit i = g i) : v = fromN g n := by
  apply Nat.eq_of_testBit_eq
  intro i
  rw [testBit_fromN]
  by_cases hi : i < n
  · simp [hi, h i hi]
  · simp [hi]; exact Nat.testBit_lt_two_pow (Nat.lt_of_lt_of_le hv (Nat.pow_le_pow_right (by omega) (by omega)))

/-- head first -/
theorem fromN_head (g : Nat → Bool) : ∀ n, fromN g (n + 1) = (g 0).toNat + 2 * fromN (fun j => g (j + 1)) n
  | 0 => by simp [fromN]
  | n + 1 => by
    rw [fromN, fromN_head g n, fromN, Nat.pow_succ]
    cases g (n + 1) <;> simp <;> omega

/-- bit 'a' of a number, nought where there is none -/
def bitI (v : Nat) (a : Int) : Bool := decide (0 ≤ a) && (decide (a ≤ 31) && v.testBit a.toNat)
theorem bitI_div {v : Nat} {a : Nat} (ha : a ≤ 31) : ((bitI v (a : Int)).toNat : Int) = ((v / 2 ^ a % 2 : Nat) : Int) := by
  have h1 : (0 : Int) ≤ (a : Int) := by omega
  have h2 : (a : Int) ≤ 31 := by omega
  simp only [bitI, h1, h2, decide_true, Bool.true_and, Int.toNat_natCast, Nat.testBit_eq_decide_div_mod_eq]
  rcases Nat.mod_two_eq_zero_or_one (v / 2 ^ a) with h | h <;> simp [h]

theorem bit_any (v : Nat) (hv : v < 4294967296) (a : Int) (w : World) : Calls Tryz.prog 63 #[.int .u32 v, .int .i64 a] w fun e w' => e = .returned (.int .i64 ((bitI v a).toNat : Nat)) ∧ w = w' := by
  by_cases h0 : a < 0
  · go_enter Tryz.func63, Tryz.ntmps63
    go_wp2
    go_ret
    exact ⟨by simp [bitI, show ¬ (0 ≤ a) by omega], rfl⟩
  by_cases h1 : 31 < a
  · go_enter Tryz.func63, Tryz.ntmps63
    go_wp2
    go_ret
    exact ⟨by simp [bitI, show ¬ (a ≤ 31) by omega], rfl⟩
  obtain ⟨m, rfl⟩ := Int.eq_ofNat_of_zero_le (show 0 ≤ a by omega)
  have hd := bitI_div (v := v) (a := m) (by omega)
  have HD := Lib.hid hd
  clear hd
  go_enter Tryz.func63, Tryz.ntmps63
  go_wp2
  go_loop [0, 5] (fun x i => ∃ k y : Nat, k ≤ m ∧ i = .int .i64 k ∧ x = .int .u32 y ∧ y = v / 2 ^ k) (fun _ i => m - (intOf i).toNat)
  case atStart => exact ⟨0, v, by omega, rfl, rfl, by simp⟩
  case round =>
    obtain ⟨k, y, hk, rfl, rfl, hy⟩ := hrel
    have hlt : y < 4294967296 := by rw [hy]; exact Nat.lt_of_le_of_lt (Nat.div_le_self _ _) hv
    have HY := Lib.hid hy
    clear hy
    by_cases hlt : k < m
    · go_wp2
      go_round
      case rel => exact ⟨k + 1, y / 2, by omega, by go_num, by go_num, by rw [HY.out, Nat.pow_succ, ← Nat.div_div_eq_div_mul]⟩
      case measure => simp [intOf]; omega
    · have : k = m := by omega
      subst this
      go_wp2
      go_ret
      exact ⟨by rw [HD.out, ← HY.out]; go_num, rfl⟩

def bitArr (g : Nat → Bool) : Array Value := Array.ofFn (n := 32) fun i => .int .i64 ((g i.val).toNat : Int)
theorem bitArr_get (g : Nat → Bool) (i : Nat) (hi : i < 32) : (bitArr g)[i]? = some (.int .i64 ((g i).toNat : Int)) := by
  simp [bitArr, hi]
/-- the bits from k on -/
def hiN (g : Nat → Bool) (k : Nat) : Nat := fromN (fun j => g (k + j)) (32 - k)
theorem hiN_step (g : Nat → Bool) (k : Nat) (hk : k < 32) : hiN g k = (g k).toNat + 2 * hiN g (k + 1) := by
  unfold hiN
  rw [show 32 - k = (32 - (k + 1)) + 1 by omega, fromN_head]
  simp only [Nat.add_zero]
  congr 2
  apply fromN_congr
  intro i _
  rw [show k + (i + 1) = k + 1 + i by omega]
theorem hiN_lt (g : Nat → Bool) (k : Nat) : hiN g k < 4294967296 :=
  Nat.lt_of_lt_of_le (fromN_lt _ _) (by rw [show (4294967296 : Nat) = 2 ^ 32 from rfl]; exact Nat.pow_le_pow_right (by omega) (by omega))

theorem from_any (g : Nat → Bool) (w : World) : Calls Tryz.prog 94 #[.agg (bitArr g)] w fun e w' => e = .returned (.int .u32 (fromN g 32 : Nat)) ∧ Below w.heap.size w w' := by
  go_enter Tryz.func94, Tryz.ntmps94
  go_wp2
  go_loop [3, 4] (fun v i => ∃ k : Nat, k ≤ 32 ∧ i = .int .i64 ((k : Int) - 1) ∧ v = .int .u32 (hiN g k : Nat)) (fun _ i => (intOf i + 1).toNat)
  case atStart => exact ⟨32, by omega, rfl, rfl⟩
  case round =>
    obtain ⟨k, hk, rfl, rfl⟩ := hrel
    by_cases h0 : k = 0
    · subst h0
      go_wp2
      go_ret
      exact ⟨by simp [hiN], (Below.refl _ _).alloc (Nat.le_refl _) _⟩
    · obtain ⟨m, rfl⟩ : ∃ m, k = m + 1 := ⟨k - 1, by omega⟩
      have hs := hiN_step g m (by omega)
      have hlt := hiN_lt g m
      have hcell : (w.alloc (.cells (bitArr g) 142)).cell? ⟨w.heap.size, m, none⟩ = some (.int .i64 ((g m).toNat : Int)) := by
        rw [cell_of_row _ _ _ _ _ _ (heap_alloc_new w _)]; exact bitArr_get g m (by omega)
      go_wp2
      go_round
      case rel => exact ⟨m, by omega, rfl, by rw [hs]; congr 1; omega⟩
      case measure => simp [intOf]

theorem bitArr_zero : #[Value.int .i64 0, .int .i64 0, .int .i64 0, .int .i64 0, .int .i64 0, .int .i64 0, .int .i64 0, .int .i64 0, .int .i64 0, .int .i64 0, .int .i64 0, .int .i64 0, .int .i64 0, .int .i64 0, .int .i64 0, .int .i64 0, .int .i64 0, .int .i64 0, .int .i64 0, .int .i64 0, .int .i64 0, .int .i64 0, .int .i64 0, .int .i64 0, .int .i64 0, .int .i64 0, .int .i64 0, .int .i64 0, .int .i64 0, .int .i64 0, .int .i64 0, .int .i64 0] = bitArr fun _ => false := by rfl
/-- the first k of the bits, noughts behind -/
def cutB (k : Nat) (g : Nat → Bool) : Nat → Bool := fun j => decide (j < k) && g j
theorem bitArr_ext {g h : Nat → Bool} (e : ∀ j, j < 32 → g j = h j) : bitArr g = bitArr h := by
  unfold bitArr; congr 1; funext i; rw [e i.val i.isLt]
theorem bitArr_size (g : Nat → Bool) : (bitArr g).size = 32 := by simp [bitArr]
theorem bitArr_set (g : Nat → Bool) (k : Nat) (b : Bool) (_hk : k < 32) : (bitArr g).setIfInBounds k (.int .i64 (b.toNat : Int)) = bitArr fun j => if j = k then b else g j := by
  apply Array.ext
  · simp [bitArr]
  · intro i h1 h2
    have hi : i < 32 := by simpa [bitArr] using h2
    by_cases h : k = i
    · subst h; simp [bitArr]
    · simp [bitArr, h, Ne.symm h, hi]
theorem cut_zero (g : Nat → Bool) : bitArr (cutB 0 g) = bitArr fun _ => false := bitArr_ext fun j _ => by simp [cutB]
theorem cut_all (g : Nat → Bool) : bitArr (cutB 32 g) = bitArr g := bitArr_ext fun j hj => by simp [cutB, hj]
theorem cut_succ (g : Nat → Bool) (k : Nat) : (bitArr fun j => if j = k then g k else cutB k g j) = bitArr (cutB (k + 1) g) := bitArr_ext fun j _ => by
  by_cases h : j = k
  · subst h; simp [cutB]
  · simp [h, cutB, show (j < k + 1) = (j < k) from propext (by omega)]

theorem heap_lt {w : World} {g : Nat} {o : Obj} (h : w.heap[g]? = some o) : g < w.heap.size := (Array.getElem?_eq_some_iff.1 h).1

/-- bit j of the field -/
def fieldB (v : Nat) (lo n : Int) : Nat → Bool := fun j => decide ((j : Int) < n) && bitI v (lo + j)
theorem fieldB_in {v : Nat} {lo n : Int} {k : Nat} (h : (k : Int) < n) : bitI v (lo + k) = fieldB v lo n k := by simp [fieldB, h]
theorem fieldB_out {v : Nat} {lo n : Int} {k : Nat} (hk : k < 32) (h : lo < -31 ∨ 31 < lo) : fieldB v lo n k = false := by
  have : bitI v (lo + k) = false := by
    unfold bitI
    rcases h with h | h
    · rw [decide_eq_false (by omega : ¬ (0 ≤ lo + (k : Int)))]; rfl
    · rw [decide_eq_false (by omega : ¬ (lo + (k : Int) ≤ 31))]; simp
  simp [fieldB, this]
theorem cut_same {g : Nat → Bool} {k : Nat} (h : g k = false) : bitArr (cutB k g) = bitArr (cutB (k + 1) g) := bitArr_ext fun j _ => by
  by_cases e : j = k
  · subst e; simp [cutB, h]
  · simp [cutB, show (j < k + 1) = (j < k) from propext (by omega)]
theorem cut_end {v : Nat} {lo n : Int} {k : Nat} (h : 32 ≤ k ∨ n ≤ k) : bitArr (cutB k (fieldB v lo n)) = bitArr (fieldB v lo n) := bitArr_ext fun j hj => by
  unfold cutB
  by_cases e : j < k
  · simp [e]
  · have : ¬ ((j : Int) < n) := by omega
    simp [e, fieldB, this]

/-- bit j of a number with some bits set to another one's -/
def setB (v : Nat) (lo n : Int) (x : Nat) : Nat → Bool := fun j => if lo ≤ (j : Int) ∧ (j : Int) - lo < n then bitI x ((j : Int) - lo) else bitI v j
theorem cut_set (g : Nat → Bool) (k : Nat) (hlt : k < 32) (b : Bool) (h : b = g k) : (bitArr (cutB k g)).setIfInBounds k (.int .i64 (b.toNat : Int)) = bitArr (cutB (k + 1) g) := by
  rw [h, bitArr_set _ _ _ hlt, cut_succ]
theorem cut_set2 (g : Nat → Bool) (k : Nat) (hlt : k < 32) (a b : Bool) (h : b = g k) : ((bitArr (cutB k g)).setIfInBounds k (.int .i64 (a.toNat : Int))).setIfInBounds k (.int .i64 (b.toNat : Int)) = bitArr (cutB (k + 1) g) := by
  rw [Array.setIfInBounds_setIfInBounds, cut_set g k hlt b h]

theorem cut_set0 (g : Nat → Bool) (k : Nat) (hlt : k < 32) (a : Bool) (h : false = g k) : ((bitArr (cutB k g)).setIfInBounds k (.int .i64 (a.toNat : Int))).setIfInBounds k (.int .i64 0) = bitArr (cutB (k + 1) g) := cut_set2 g k hlt a false h
theorem below_set2 {w wr : World} {B : Nat} (h : Below B w wr) (k : Nat) (u v : Value) : Below B w ((wr.setCell ⟨B, k, none⟩ u).setCell ⟨B, k, none⟩ v) :=
  (h.setCell (p := ⟨B, k, none⟩) (Nat.le_refl _) u).setCell (p := ⟨B, k, none⟩) (Nat.le_refl _) v
set_option maxHeartbeats 1000000 in
theorem set_any (v : Nat) (hv : v < 4294967296) (lo n : Int) (x : Nat) (hx : x < 4294967296) (hlo : -9223372036854775808 ≤ lo) (hlo' : lo < 9223372036854775808) (hn : n < 9223372036854775808) (w : World) :
    Calls Tryz.prog 62 #[.int .u32 v, .int .i64 lo, .int .i64 n, .int .u32 x] w fun e w' => e = .returned (.int .u32 (fromN (setB v lo n x) 32 : Nat)) ∧ Below w.heap.size w w' := by
  have key : ∀ (wr : World) (k : Nat) (g : Nat → Bool), wr.heap[w.heap.size]? = some (.cells (bitArr (cutB k g)) 142 (0, 0)) → k < 32 → wr.cell? ⟨w.heap.size, k, none⟩ = some (.int .i64 ((cutB k g k).toNat : Int)) ∧ wr.frozen? ⟨w.heap.size, k, none⟩ = false :=
    fun wr k g hrow hlt => ⟨by rw [cell_of_row _ _ _ _ _ _ hrow]; exact bitArr_get _ k hlt, frozen_of_row _ _ _ _ _ hrow⟩
  have h1 : ∀ k : Nat, k < 32 → lo ≤ (k : Int) → (k : Int) - lo < n → bitI x ((k : Int) - lo) = setB v lo n x k := fun k _ h1 h2 => by simp [setB, h1, h2]
  have h2 : ∀ k : Nat, k < 32 → ¬ (lo ≤ (k : Int) ∧ (k : Int) - lo < n) → bitI v k = setB v lo n x k := fun k _ h => by simp [setB, h]
  have h3 : ∀ k : Nat, k < 32 → lo ≤ -1000 → (k : Int) < n + lo → false = setB v lo n x k := fun k hk h1 h2 => by
    have : bitI x ((k : Int) - lo) = false := by
      unfold bitI; rw [decide_eq_false (by omega : ¬ ((k : Int) - lo ≤ 31))]; simp
    simp [setB, show lo ≤ (k : Int) by omega, show (k : Int) - lo < n by omega, this]
  generalize setB v lo n x = g at h1 h2 h3 ⊢
  have H1 := Lib.hid h1
  have H2 := Lib.hid h2
  have H3 := Lib.hid h3
  have KEY := Lib.hid key
  clear h1 h2 h3 key
  go_enter Tryz.func62, Tryz.ntmps62
  go_wp2
  go_loopw [10] (fun i wr => ∃ k : Nat, k ≤ 32 ∧ i = .int .i64 k ∧ wr.heap[w.heap.size]? = some (.cells (bitArr (cutB k g)) 142 (0, 0)) ∧ Below w.heap.size w wr) (fun i _ => 32 - (intOf i).toNat)
  case atStart => exact ⟨0, by omega, rfl, by rw [cut_zero, ← bitArr_zero]; exact heap_alloc_new w _, (Below.refl _ _).alloc (Nat.le_refl _) _⟩
  case round =>
    rename_i wr
    obtain ⟨k, hk, rfl, hrow, hbel⟩ := hrel
    have hsz : w.heap.size < wr.heap.size := heap_lt hrow
    by_cases hlt : k < 32
    · obtain ⟨hcell, hfr⟩ := KEY.out wr k g hrow hlt
      have HR := Lib.hid hrow
      clear hrow
      by_cases hc : -1000 < lo
      · by_cases hl : lo ≤ (k : Int)
        · by_cases hkn : (k : Int) - lo < n
          · have e1 := H1.out k hlt hl hkn
            have E1 := Lib.hid e1
            clear e1
            go_wp2_with (go_at_call 63; first | ((with_reducible refine (bit_any v hv _ _).mono ?_); rintro e w' ⟨rfl, rfl⟩) | ((with_reducible refine (bit_any x hx _ _).mono ?_); rintro e w' ⟨rfl, rfl⟩))
            all_goals
              go_roundw
              case rel => exact ⟨k + 1, by omega, by go_num, by rw [heap_setCell_same _ _ _ _ _ _ (heap_setCell_same _ _ _ _ _ _ HR.out), cut_set2 g k hlt _ _ E1.out], below_set2 hbel k _ _⟩
              case measure => simp [intOf]; omega
          · have e1 := H2.out k hlt (by omega)
            have E1 := Lib.hid e1
            clear e1
            go_wp2_with (go_at_call 63; first | ((with_reducible refine (bit_any v hv _ _).mono ?_); rintro e w' ⟨rfl, rfl⟩) | ((with_reducible refine (bit_any x hx _ _).mono ?_); rintro e w' ⟨rfl, rfl⟩))
            all_goals
              go_roundw
              case rel => exact ⟨k + 1, by omega, by go_num, by rw [heap_setCell_same _ _ _ _ _ _ HR.out, cut_set g k hlt _ E1.out], hbel.setCell (Nat.le_refl _) _⟩
              case measure => simp [intOf]; omega
        · have e1 := H2.out k hlt (by omega)
          have E1 := Lib.hid e1
          clear e1
          go_wp2_with (go_at_call 63; first | ((with_reducible refine (bit_any v hv _ _).mono ?_); rintro e w' ⟨rfl, rfl⟩) | ((with_reducible refine (bit_any x hx _ _).mono ?_); rintro e w' ⟨rfl, rfl⟩))
          all_goals
            go_roundw
            case rel => exact ⟨k + 1, by omega, by go_num, by rw [heap_setCell_same _ _ _ _ _ _ HR.out, cut_set g k hlt _ E1.out], hbel.setCell (Nat.le_refl _) _⟩
            case measure => simp [intOf]; omega
      · by_cases hn0 : 0 < n
        · by_cases hkn : (k : Int) < n + lo
          · have e1 := H3.out k hlt (by omega) hkn
            have E1 := Lib.hid e1
            clear e1
            go_wp2_with (go_at_call 63; first | ((with_reducible refine (bit_any v hv _ _).mono ?_); rintro e w' ⟨rfl, rfl⟩) | ((with_reducible refine (bit_any x hx _ _).mono ?_); rintro e w' ⟨rfl, rfl⟩))
            all_goals
              go_roundw
              case rel => exact ⟨k + 1, by omega, by go_num, by rw [heap_setCell_same _ _ _ _ _ _ (heap_setCell_same _ _ _ _ _ _ HR.out), cut_set0 g k hlt _ E1.out], below_set2 hbel k _ _⟩
              case measure => simp [intOf]; omega
          · have e1 := H2.out k hlt (by omega)
            have E1 := Lib.hid e1
            clear e1
            go_wp2_with (go_at_call 63; first | ((with_reducible refine (bit_any v hv _ _).mono ?_); rintro e w' ⟨rfl, rfl⟩) | ((with_reducible refine (bit_any x hx _ _).mono ?_); rintro e w' ⟨rfl, rfl⟩))
            all_goals
              go_roundw
              case rel => exact ⟨k + 1, by omega, by go_num, by rw [heap_setCell_same _ _ _ _ _ _ HR.out, cut_set g k hlt _ E1.out], hbel.setCell (Nat.le_refl _) _⟩
              case measure => simp [intOf]; omega
        · have e1 := H2.out k hlt (by omega)
          have E1 := Lib.hid e1
          clear e1
          go_wp2_with (go_at_call 63; first | ((with_reducible refine (bit_any v hv _ _).mono ?_); rintro e w' ⟨rfl, rfl⟩) | ((with_reducible refine (bit_any x hx _ _).mono ?_); rintro e w' ⟨rfl, rfl⟩))
          all_goals
            go_roundw
            case rel => exact ⟨k + 1, by omega, by go_num, by rw [heap_setCell_same _ _ _ _ _ _ HR.out, cut_set g k hlt _ E1.out], hbel.setCell (Nat.le_refl _) _⟩
            case measure => simp [intOf]; omega
    · rw [show k = 32 by omega, cut_all] at hrow
      have HR := Lib.hid hrow
      clear hrow
      go_wp2_with (first | (refine wpList_load_row rfl 142 _ rfl _ rfl 142 _ (0, 0) _ HR.out Tryz.underlying142 rfl (by kernel_rfl) ?_) | (go_at_call 94; refine (from_any g _).mono ?_; rintro e w' ⟨rfl, hb⟩))
      go_ret
      exact ⟨rfl, hbel.trans (hb.mono (by omega))⟩

theorem ret_int {k : IntKind} {a b : Int} (h : a = b) : Ending.returned (.int k a) = .returned (.int k b) := by rw [h]
theorem bitI_nat {v : Nat} (_hv : v < 4294967296) (a : Int) : bitI v a = (decide (0 ≤ a) && v.testBit a.toNat) := by
  unfold bitI
  by_cases h : a ≤ 31
  · simp [h]
  · have : v.testBit a.toNat = false := Nat.testBit_lt_two_pow (Nat.lt_of_lt_of_le _hv (by rw [show (4294967296 : Nat) = 2 ^ 32 from rfl]; exact Nat.pow_le_pow_right (by omega) (by omega)))
    simp [h, this]

/-- is j one of the n places from lo on? -/
def inB (lo n : Int) : Nat → Bool := fun j => decide (lo ≤ (j : Int)) && decide ((j : Int) - lo < n)
def maskN (lo n : Int) : Nat := fromN (inB lo n) 32
theorem range_all : ∀ p : Fin 33, ∀ q : Fin 33, q.val < p.val → fromN (fun j => decide (q.val ≤ j) && decide (j < p.val)) 32 = (2 ^ p.val - 2 ^ q.val) % 4294967296 := by decide +kernel
theorem mask_fin {lo n : Int} (p q : Nat) (hq : q < p) (hp : p ≤ 32) (e : ∀ j : Nat, j < 32 → inB lo n j = (decide (q ≤ j) && decide (j < p))) :
    IntKind.u64.wrap (IntKind.u64.wrap (2 ^ p) - IntKind.u64.wrap (2 ^ q)) % 4294967296 = (maskN lo n : Int) := by
  have h := range_all ⟨p, by omega⟩ ⟨q, by omega⟩ hq
  simp only at h
  rw [maskN, fromN_congr e, h, Go.IntKind.wrap_u64, Go.IntKind.wrap_u64, Go.IntKind.wrap_u64]
  have h1 : (2 : Nat) ^ q < 2 ^ p := Nat.pow_lt_pow_right (by omega) hq
  have h2 : (2 : Nat) ^ p ≤ 2 ^ 32 := Nat.pow_le_pow_right (by omega) hp
  have e1 : ((2 : Int) ^ p) = ((2 ^ p : Nat) : Int) := by simp
  have e2 : ((2 : Int) ^ q) = ((2 ^ q : Nat) : Int) := by simp
  rw [e1, e2]
  omega
theorem mask_fin32 {lo n : Int} (q : Nat) (hq : q < 32) (e : ∀ j : Nat, j < 32 → inB lo n j = (decide (q ≤ j) && decide (j < 32))) :
    IntKind.u64.wrap (4294967296 - IntKind.u64.wrap (2 ^ q)) % 4294967296 = (maskN lo n : Int) := by
  have h := mask_fin (lo := lo) (n := n) 32 q hq (by omega) e
  rw [show IntKind.u64.wrap (2 ^ 32) = 4294967296 from by decide +kernel] at h
  exact h
theorem mask_none {lo n : Int} (e : ∀ j : Nat, j < 32 → inB lo n j = false) : (0 : Int) = (maskN lo n : Int) := by
  have : maskN lo n = fromN (fun _ => false) 32 := fromN_congr e
  rw [this]; rfl
theorem inB_iff {lo n : Int} {j : Nat} {b : Bool} (h : (lo ≤ (j : Int) ∧ (j : Int) - lo < n) ↔ b = true) : inB lo n j = b := by
  unfold inB; cases b
  · simp at h; by_cases h1 : lo ≤ (j : Int)
    · simp [h1]; exact h h1
    · simp [h1]
  · simp at h; simp [h.1, h.2]

theorem mask_any (lo n : Int) (w : World) (hlo : -9223372036854775808 ≤ lo) (hn : n < 9223372036854775808) : Calls Tryz.prog 104 #[.int .i64 lo, .int .i64 n] w fun e w' => e = .returned (.int .u32 (maskN lo n)) ∧ ∃ k, w.drewN k = w' := by
  by_cases c1 : n < 1
  · have e := mask_none (lo := lo) (n := n) fun j _ => inB_iff (by simp; omega)
    have E := Lib.hid e
    clear e
    go_enter Tryz.func104, Tryz.ntmps104
    go_wp2
    go_ret
    exact ⟨ret_int E.out, 0, rfl⟩
  by_cases c2 : lo > 31
  · have e := mask_none (lo := lo) (n := n) fun j _ => inB_iff (by simp; omega)
    have E := Lib.hid e
    clear e
    go_enter Tryz.func104, Tryz.ntmps104
    go_wp2
    go_ret
    exact ⟨ret_int E.out, 0, rfl⟩
  by_cases c3 : 0 ≤ lo
  · by_cases c4 : n ≤ 32
    · obtain ⟨q, rfl⟩ := Int.eq_ofNat_of_zero_le c3
      obtain ⟨p, rfl⟩ := Int.eq_ofNat_of_zero_le (show 0 ≤ n by omega)
      by_cases c5 : (q : Int) + p ≤ 32
      · have e := mask_fin (lo := q) (n := p) (q + p) q (by omega) (by omega) fun j _ => inB_iff (by simp; omega)
        have E := Lib.hid e
        clear e
        have a5 : (0 : Int) ≤ (q : Int) + p := by omega
        clear hlo hn
        go_enter Tryz.func104, Tryz.ntmps104
        go_upto_region 10 with (fail)
        go_quiet (fail)
        go_wp2
        go_ret
        exact ⟨ret_int E.out, _, rfl⟩
      · have e := mask_fin32 (lo := q) (n := p) q (by omega) fun j _ => inB_iff (by simp; omega)
        have E := Lib.hid e
        clear e
        have a5 : (32 : Int) < (q : Int) + p := by omega
        have a6 : (q : Int) < 32 := by omega
        clear hlo hn
        go_enter Tryz.func104, Tryz.ntmps104
        go_upto_region 10 with (fail)
        go_quiet (fail)
        go_wp2
        go_ret
        exact ⟨ret_int E.out, _, rfl⟩
    · have e := mask_fin32 (lo := lo) (n := n) lo.toNat (by omega) fun j _ => inB_iff (by simp; omega)
      have E := Lib.hid e
      clear e
      by_cases c6 : lo = 0
      · subst c6
        go_enter Tryz.func104, Tryz.ntmps104
        go_upto_region 10 with (fail)
        go_quiet (fail)
        go_wp2
        go_ret
        exact ⟨ret_int E.out, _, rfl⟩
      · have a5 : 0 < lo := by omega
        clear c6
        go_enter Tryz.func104, Tryz.ntmps104
        go_upto_region 10 with (fail)
        go_quiet (fail)
        go_wp2
        go_ret
        exact ⟨ret_int E.out, _, rfl⟩
  · by_cases c4 : lo + n ≤ 0
    · have e := mask_none (lo := lo) (n := n) fun j _ => inB_iff (by simp; omega)
      have E := Lib.hid e
      clear e
      go_enter Tryz.func104, Tryz.ntmps104
      go_wp2
      go_ret
      exact ⟨ret_int E.out, 0, rfl⟩
    · by_cases c5 : lo + n ≤ 32
      · obtain ⟨p, hp⟩ := Int.eq_ofNat_of_zero_le (show 0 ≤ lo + n by omega)
        obtain rfl : n = (p : Int) - lo := by omega
        clear hp
        have e := mask_fin (lo := lo) (n := (p : Int) - lo) p 0 (by omega) (by omega) fun j _ => inB_iff (by simp; omega)
        have E := Lib.hid e
        clear e
        have e3 : lo + ((p : Int) - lo) = p := by omega
        have E3 := Lib.hid e3
        clear e3
        go_enter Tryz.func104, Tryz.ntmps104
        go_upto_region 10 with (fail)
        go_quiet (fail)
        go_wp2
        go_ret
        exact ⟨ret_int (by rw [E3.out]; exact E.out), _, rfl⟩
      · have e := mask_fin (lo := lo) (n := n) 32 0 (by omega) (by omega) fun j _ => inB_iff (by simp; omega)
        have E := Lib.hid e
        clear e
        go_enter Tryz.func104, Tryz.ntmps104
        go_upto_region 10 with (fail)
        go_quiet (fail)
        go_wp2
        go_ret
        exact ⟨ret_int E.out, _, rfl⟩

/-- a number moved: bit j is the old one's bit j - by -/
def movedN (v : Nat) (by_ : Int) : Nat := fromN (fun j => bitI v ((j : Int) - by_)) 32
theorem moved_zero {v : Nat} {b : Int} (h : 31 < b ∨ b < -31) : (0 : Int) = (movedN v b : Int) := by
  have : movedN v b = fromN (fun _ => false) 32 := fromN_congr fun j hj => by
    unfold bitI
    rcases h with h | h
    · rw [decide_eq_false (by omega : ¬ (0 ≤ (j : Int) - b))]; rfl
    · rw [decide_eq_false (by omega : ¬ ((j : Int) - b ≤ 31))]; simp
  rw [this]; rfl
theorem moved_right {v : Nat} (hv : v < 4294967296) (k : Nat) : v / 2 ^ k = movedN v (-(k : Int)) := by
  apply eq_fromN
  · exact Nat.lt_of_le_of_lt (Nat.div_le_self _ _) hv
  · intro i _
    rw [Nat.testBit_div_two_pow, bitI_nat hv]
    rw [decide_eq_true (by omega : 0 ≤ (i : Int) - -(k : Int)), Bool.true_and]
    congr 1; omega
theorem moved_left {v : Nat} (hv : v < 4294967296) (k : Nat) : v * 2 ^ k % 4294967296 = movedN v (k : Int) := by
  rw [show (4294967296 : Nat) = 2 ^ 32 from rfl]
  apply eq_fromN
  · exact Nat.mod_lt _ (by decide)
  · intro i hi
    rw [Nat.testBit_mod_two_pow, Nat.mul_comm, Nat.testBit_two_pow_mul, bitI_nat hv]
    by_cases h : k ≤ i
    · rw [decide_eq_true (by omega : 0 ≤ (i : Int) - (k : Int)), decide_eq_true hi, decide_eq_true (by omega : i ≥ k)]
      simp only [Bool.true_and]; congr 1; omega
    · rw [decide_eq_false (by omega : ¬ (0 ≤ (i : Int) - (k : Int))), decide_eq_false (by omega : ¬ (i ≥ k))]; simp
theorem movedN_lt (v : Nat) (b : Int) : movedN v b < 4294967296 := fromN_lt _ 32

theorem moved_any (v : Nat) (hv : v < 4294967296) (b : Int) (w : World) : Calls Tryz.prog 103 #[.int .u32 v, .int .i64 b] w fun e w' => e = .returned (.int .u32 (movedN v b)) ∧ ∃ k, w.drewN k = w' := by
  by_cases c1 : 31 < b
  · have e := moved_zero (v := v) (b := b) (.inl c1)
    have E := Lib.hid e
    clear e
    go_enter Tryz.func103, Tryz.ntmps103
    go_wp2
    go_ret
    exact ⟨ret_int E.out, 0, rfl⟩
  by_cases c2 : b < -31
  · have e := moved_zero (v := v) (b := b) (.inr c2)
    have E := Lib.hid e
    clear e
    go_enter Tryz.func103, Tryz.ntmps103
    go_wp2
    go_ret
    exact ⟨ret_int E.out, 0, rfl⟩
  by_cases c3 : b < 0
  · obtain ⟨k, hk⟩ := Int.eq_ofNat_of_zero_le (show 0 ≤ -b by omega)
    obtain rfl : b = -(k : Int) := by omega
    clear hk
    have e : (v : Int) / 2 ^ k = (movedN v (-(k : Int)) : Int) := by rw [← moved_right hv k]; simp
    have E := Lib.hid e
    have hk : (k : Int) ≤ 31 := by omega
    clear e
    go_enter Tryz.func103, Tryz.ntmps103
    go_wp2
    go_ret
    exact ⟨ret_int E.out, 0, rfl⟩
  · obtain ⟨k, rfl⟩ := Int.eq_ofNat_of_zero_le (show 0 ≤ b by omega)
    have e : IntKind.u32.wrap ((v : Int) * 2 ^ k) = (movedN v (k : Int) : Int) := by rw [← moved_left hv k, Go.IntKind.wrap_u32]; simp
    have E := Lib.hid e
    have hk : (k : Int) ≤ 31 := by omega
    clear e
    go_enter Tryz.func103, Tryz.ntmps103
    go_wp2
    go_ret
    exact ⟨ret_int E.out, 0, rfl⟩

/-- a number of n bits with its sign -/
def signN (v : Nat) (n : Int) : Nat := if n < 1 then 0 else fromN (fun j => bitI v (min (j : Int) (min n 32 - 1))) 32
theorem signN_lt (v : Nat) (n : Int) : signN v n < 4294967296 := by
  unfold signN; split
  · decide
  · exact fromN_lt _ 32
theorem signN_all {v : Nat} (hv : v < 4294967296) {n : Int} (h : 31 < n) : signN v n = v := by
  unfold signN
  rw [if_neg (by omega)]
  refine (eq_fromN (n := 32) hv ?_).symm
  intro i hi
  rw [show min (i : Int) (min n 32 - 1) = (i : Int) by omega, bitI_nat hv]
  rw [decide_eq_true (by omega : 0 ≤ (i : Int))]; simp
theorem sign_math {v n s : Nat} (hv : v < 4294967296) (hs : n + s = 32) (h1 : 1 ≤ n) (h31 : n ≤ 31) :
    wrap32 ((v : Int) * 2 ^ s % 4294967296) / 2 ^ s % 4294967296 = (signN v n : Int) := by
  have hx : v * 2 ^ s % 4294967296 = v % 2 ^ n * 2 ^ s := by
    rw [show (4294967296 : Nat) = 2 ^ n * 2 ^ s by rw [← Nat.pow_add, hs], Nat.mul_mod_mul_right]
  have hm : v % 2 ^ n < 2 ^ n := Nat.mod_lt _ (Nat.two_pow_pos n)
  have hps : 0 < 2 ^ s := Nat.two_pow_pos s
  have hps' : (0 : Int) < ((2 ^ s : Nat) : Int) := by omega
  have hpn : 2 ^ n = 2 * 2 ^ (n - 1) := by
    obtain ⟨m, rfl⟩ : ∃ m, n = m + 1 := ⟨n - 1, by omega⟩
    rw [Nat.pow_succ]; simp; omega
  have hns : 2 ^ n * 2 ^ s = 4294967296 := by rw [← Nat.pow_add, hs]
  have hns1 : 2 ^ (n - 1) * 2 ^ s = 2147483648 := by
    rw [← Nat.pow_add, show n - 1 + s = 31 by omega]
  have ecast : ((v : Int) * 2 ^ s % 4294967296) = ((v % 2 ^ n * 2 ^ s : Nat) : Int) := by rw [← hx]; simp
  have e2 : ((2 : Int) ^ s) = ((2 ^ s : Nat) : Int) := by simp
  rw [ecast, e2]
  have bits : ∀ i : Nat, i < 32 → bitI v (min (i : Int) (min (n : Int) 32 - 1)) = if i < n then v.testBit i else v.testBit (n - 1) := by
    intro i hi
    rw [bitI_nat hv, decide_eq_true (by omega), Bool.true_and]
    split
    · congr 1; omega
    · congr 1; omega
  have hsg : signN v n = fromN (fun i => if i < n then v.testBit i else v.testBit (n - 1)) 32 := by
    unfold signN
    rw [if_neg (by omega)]
    exact fromN_congr bits
  rw [hsg]
  have htop : v.testBit (n - 1) = decide (2 ^ (n - 1) ≤ v % 2 ^ n) := by
    have h2 : (v % 2 ^ n).testBit (n - 1) = v.testBit (n - 1) := by
      rw [Nat.testBit_mod_two_pow, decide_eq_true (by omega : n - 1 < n), Bool.true_and]
    rw [← h2]
    by_cases h : 2 ^ (n - 1) ≤ v % 2 ^ n
    · rw [decide_eq_true h]
      exact Nat.testBit_of_two_pow_le_and_two_pow_add_one_gt h (by rw [show n - 1 + 1 = n by omega]; exact hm)
    · rw [decide_eq_false h]; exact Nat.testBit_lt_two_pow (by omega)
  generalize hmm : v % 2 ^ n = m at *
  by_cases h : 2 ^ (n - 1) ≤ m
  · have hbig : 2147483648 ≤ m * 2 ^ s := by rw [← hns1]; exact Nat.mul_le_mul_right _ h
    have hlt : m * 2 ^ s < 4294967296 := by rw [← hns]; exact (Nat.mul_lt_mul_right hps).2 hm
    have ew : wrap32 ((m * 2 ^ s : Nat) : Int) = ((m * 2 ^ s : Nat) : Int) - 4294967296 := by unfold wrap32; omega
    have ed : (((m * 2 ^ s : Nat) : Int) - 4294967296) = ((m : Int) - (2 ^ n : Nat)) * ((2 ^ s : Nat) : Int) := by
      rw [Int.sub_mul, ← Int.natCast_mul, ← Int.natCast_mul, hns]; rfl
    rw [ew, ed, Int.mul_ediv_cancel _ (by omega)]
    have hfin : m + (4294967296 - 2 ^ n) = fromN (fun i => if i < n then v.testBit i else v.testBit (n - 1)) 32 := by
      apply eq_fromN
      · have : 2 ^ n ≤ 4294967296 := by rw [← hns]; exact Nat.le_mul_of_pos_right _ hps
        omega
      · intro i hi
        have ee : m + (4294967296 - 2 ^ n) = 2 ^ n * (2 ^ s - 1) + m := by
          rw [Nat.mul_sub, hns, Nat.mul_one]; omega
        rw [ee, Nat.testBit_two_pow_mul_add _ hm]
        split
        · rw [← hmm, Nat.testBit_mod_two_pow]; simp [*]
        · rw [Nat.testBit_two_pow_sub_one, htop]; simp [h]; omega
    rw [← hfin]
    have : 2 ^ n ≤ 4294967296 := by rw [← hns]; exact Nat.le_mul_of_pos_right _ hps
    omega
  · have hsm : m * 2 ^ s < 2147483648 := by rw [← hns1]; exact (Nat.mul_lt_mul_right hps).2 (by omega)
    have ew : wrap32 ((m * 2 ^ s : Nat) : Int) = ((m * 2 ^ s : Nat) : Int) := by unfold wrap32; omega
    rw [ew, Int.natCast_mul, Int.mul_ediv_cancel _ (by omega)]
    have hfin : m = fromN (fun i => if i < n then v.testBit i else v.testBit (n - 1)) 32 := by
      have hl : 2 ^ n ≤ 4294967296 := by rw [← hns]; exact Nat.le_mul_of_pos_right _ hps
      apply eq_fromN
      · exact Nat.lt_of_lt_of_le hm hl
      · intro i hi
        split
        · rw [← hmm, Nat.testBit_mod_two_pow]; simp [*]
        · rw [htop]; simp [h]
          exact Nat.testBit_lt_two_pow (Nat.lt_of_lt_of_le hm (Nat.pow_le_pow_right (by omega) (by omega)))
    rw [← hfin]
    have hl : 2 ^ n ≤ 4294967296 := by rw [← hns]; exact Nat.le_mul_of_pos_right _ hps
    omega

theorem psign_any (v : Nat) (hv : v < 4294967296) (n : Int) (w : World) : Calls Tryz.prog 100 #[.int .u32 v, .int .i64 n] w fun e w' => e = .returned (.int .u32 (signN v n)) ∧ w = w' := by
  by_cases c1 : n < 1
  · have e : (0 : Int) = (signN v n : Int) := by unfold signN; rw [if_pos c1]; rfl
    have E := Lib.hid e
    clear e
    go_enter Tryz.func100, Tryz.ntmps100
    go_wp2
    go_ret
    exact ⟨ret_int E.out, rfl⟩
  by_cases c2 : 31 < n
  · have e : (v : Int) = (signN v n : Int) := by rw [signN_all hv c2]
    have E := Lib.hid e
    clear e
    go_enter Tryz.func100, Tryz.ntmps100
    go_wp2
    go_ret
    exact ⟨ret_int E.out, rfl⟩
  obtain ⟨m, rfl⟩ := Int.eq_ofNat_of_zero_le (show 0 ≤ n by omega)
  have e := sign_math (v := v) (n := m) (s := 32 - m) hv (by omega) (by omega) (by omega)
  have E := Lib.hid e
  clear e
  obtain ⟨s, hs⟩ : ∃ s : Nat, s = 32 - m := ⟨_, rfl⟩
  rw [← hs] at E
  have e1 : (32 : Int) - m = s := by omega
  have hm1 : 1 ≤ m := by omega
  have hm2 : m ≤ 31 := by omega
  clear hs c1 c2
  go_enter Tryz.func100, Tryz.ntmps100
  go_wp2
  go_ret
  exact ⟨ret_int E.out, rfl⟩

theorem maskN_lt (lo n : Int) : maskN lo n < 4294967296 := fromN_lt _ 32
theorem field_math {v : Nat} (hv : v < 4294967296) (lo n : Int) : movedN (v &&& maskN lo n) (-lo) = fromN (fieldB v lo n) 32 := by
  apply fromN_congr
  intro j hj
  have hand : v &&& maskN lo n < 4294967296 := Nat.lt_of_le_of_lt Nat.and_le_left hv
  unfold fieldB
  rw [bitI_nat hand, bitI_nat hv, Nat.testBit_and, maskN, testBit_fromN]
  rw [show (j : Int) - -lo = lo + j by omega]
  by_cases h0 : 0 ≤ lo + (j : Int)
  · obtain ⟨t, ht⟩ := Int.eq_ofNat_of_zero_le h0
    rw [ht]
    simp only [Int.toNat_natCast, inB]
    rw [decide_eq_true (by omega : lo ≤ (t : Int))]
    by_cases hn : (j : Int) < n
    · rw [decide_eq_true hn, decide_eq_true (by omega : (t : Int) - lo < n)]
      by_cases h32 : t < 32
      · simp [h32]
      · have : v.testBit t = false := Nat.testBit_lt_two_pow (Nat.lt_of_lt_of_le hv (by rw [show (4294967296 : Nat) = 2 ^ 32 from rfl]; exact Nat.pow_le_pow_right (by omega) (by omega)))
        simp [this]
    · rw [decide_eq_false hn, decide_eq_false (by omega : ¬ ((t : Int) - lo < n))]; simp
  · simp [h0]
theorem pfield_any (v : Nat) (hv : v < 4294967296) (lo n : Int) (hlo : -9223372036854775808 ≤ lo) (hlo' : lo < 9223372036854775808) (hn : n < 9223372036854775808) (w : World) :
    Calls Tryz.prog 75 #[.int .u32 v, .int .i64 lo, .int .i64 n] w fun e w' => e = .returned (.int .u32 (fromN (fieldB v lo n) 32 : Nat)) ∧ ∃ k, w.drewN k = w' := by
  by_cases c1 : lo < -31
  · have e : (0 : Int) = (fromN (fieldB v lo n) 32 : Nat) := by
      rw [fromN_congr (h := fun _ => false) fun j hj => fieldB_out hj (.inl c1)]; rfl
    have E := Lib.hid e
    clear e
    go_enter Tryz.func75, Tryz.ntmps75
    go_wp2
    go_ret
    exact ⟨ret_int E.out, 0, rfl⟩
  have e := field_math hv lo n
  have E := Lib.hid e
  clear e
  have ha := Go.u32_and_nat v (maskN lo n) hv (maskN_lt lo n)
  have hand : v &&& maskN lo n < 4294967296 := Nat.lt_of_le_of_lt Nat.and_le_left hv
  have M := Lib.hid (fun w => mask_any lo n w hlo hn)
  go_enter Tryz.func75, Tryz.ntmps75
  go_wp2_with (first | (go_at_call 104; refine (M.out _).mono ?_; rintro e w' ⟨rfl, k1, rfl⟩) | (go_at_call 103; refine (moved_any _ hand _ _).mono ?_; rintro e w' ⟨rfl, k2, rfl⟩))
  go_ret
  exact ⟨ret_int (by rw [E.out]), k1 + k2, by simp [World.drewN_drewN]⟩

end Go.Proofs.YtkcdnhennnjneaaGreatDoor
