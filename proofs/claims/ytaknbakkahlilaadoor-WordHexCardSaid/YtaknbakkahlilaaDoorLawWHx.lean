import Derived.Test.YtaknbakkahlilaaDoorLawWX
import Derived.Test.YtaknbakkahlilaaDoorDoorK
import Derived.LaidHandle
import Derived.LaidLaws
import Derived.Below
import Derived.Deep.Draws
import Derived.Deep.AppendLies
import Derived.Maps.AppendAt
import Derived.OwnWalk
import Derived.Laws.BytesArg
import Derived.Laws.MakeOwn
import Derived.Laws.OwnMore
import Derived.Deep.OwnRows
import Derived.Tactics
import Derived.Lib.ConvBytes
import Derived.Laws.Slices
import Derived.WalkKit
import Derived.KernelRfl
import Derived.RowKit3
import Derived.Deep.LoopGhost
import Derived.Deep.QuietTactic
import Derived.BigQuiet
import Derived.WideLaws
import Derived.Deep.DeepCutAuto
import Derived.Deep.CutBlock
import Derived.Deep.RegionHeld3
import Derived.Laws.Rows
import Derived.Lib.AppendStr
import Derived.ArgAppend
import Derived.Laws.IdiomCopy
import Derived.OrdersHeld
import Derived.Laws.BitsLemmas
import Derived.RowKit
import Derived.Lib.Hide
import Derived.Laws.BitsAllLaws
import Derived.WalkLawsBesides
import Derived.WalkSpells
import Derived.LaidEql
namespace Go.Proofs.YtaknbakkahlilaaDoor
open Go.RowKit
set_option maxRecDepth 100000
set_option linter.unusedVariables false
set_option linter.unusedSimpArgs false

theorem mapM_at {α β : Type} {f : α → Option β} : ∀ {l : List α} {ys : List β}, l.mapM f = some ys → ∀ {i : Nat} {a : α}, l[i]? = some a → ∃ y, f a = some y ∧ ys[i]? = some y
  | [], ys, h, i, a, hi => by simp at hi
  | x :: l, ys, h, i, a, hi => by
    rw [List.mapM_cons] at h
    cases h1 : f x with
    | none => simp [h1] at h
    | some y =>
      cases h2 : l.mapM f with
      | none => simp [h1, h2] at h
      | some ys' =>
        obtain rfl : y :: ys' = ys := by simpa [h1, h2] using h
        cases i with
        | zero => simp at hi; subst hi; exact ⟨y, h1, rfl⟩
        | succ i => simpa using mapM_at h2 (by simpa using hi)
/-- an array of cells, read as data: cell by cell -/
theorem tab_at {H : Type} {enc : TypeId × Value → H} {P : Program} {w : World} {base : Nat} {sp : Nat → Bool} {held : Bool} {fuel : Nat} {t : TypeId} {n : Nat} {e : TypeId} {cs : List Value} {ds : List (DataW H)} {p : List MemPlace}
    (ht : P.underlying t = some (.array n e)) (hc : P.cellsOf e = 1) (hct : P.cellsOf t = n) (h : DataW.trod enc P w base sp held fuel t cs = some (.agg ds, p)) :
    cs.length = n ∧ ∀ j, j < n → ∃ c fuel' y, cs[j]? = some c ∧ DataW.trod enc P w base sp held fuel' e [c] = some y ∧ ds[j]? = some y.1 := by
  cases fuel with
  | zero => simp [DataW.trod] at h
  | succ fuel =>
    simp only [DataW.trod, ht, hc, hct] at h
    split at h
    · rename_i hl
      simp only [Option.map_eq_some_iff] at h
      obtain ⟨xs, hx, he⟩ := h
      simp only [Prod.mk.injEq, DataW.agg.injEq] at he
      obtain ⟨rfl, _⟩ := he
      refine ⟨hl, fun j hj => ?_⟩
      obtain ⟨y, hy, hi⟩ := mapM_at hx (i := j) (a := j) (by simp [hj])
      have hj' : j < cs.length := by omega
      refine ⟨cs[j], fuel, y, by simp [hj'], ?_, by simp [hi]⟩
      have e1 : List.take 1 (List.drop (j * 1) cs) = [cs[j]] := by
        rw [Nat.mul_one, List.drop_eq_getElem_cons hj']; rfl
      rw [e1] at hy
      exact hy
    · cases h
theorem int_at {H : Type} {enc : TypeId × Value → H} {P : Program} {w : World} {base : Nat} {sp : Nat → Bool} {held : Bool} {fuel : Nat} {t : TypeId} {k : IntKind} {c : Value} {y : DataW H × List MemPlace}
    (ht : P.underlying t = some (.int k)) (h : DataW.trod enc P w base sp held fuel t [c] = some y) : ∃ n, c = .int k n ∧ y.1 = .lit (.int k n) := by
  cases fuel with
  | zero => simp [DataW.trod] at h
  | succ fuel =>
    cases c <;> simp [DataW.trod, ht] at h
    rename_i k' n
    obtain ⟨⟨rfl, _⟩, rfl⟩ := h
    exact ⟨n, rfl, rfl⟩
theorem str_at {H : Type} {enc : TypeId × Value → H} {P : Program} {w : World} {base : Nat} {sp : Nat → Bool} {held : Bool} {fuel : Nat} {t : TypeId} {c : Value} {y : DataW H × List MemPlace}
    (ht : P.underlying t = some .string) (h : DataW.trod enc P w base sp held fuel t [c] = some y) : ∃ s, c = .string s ∧ y.1 = .lit (.string s.data.toList) := by
  cases fuel with
  | zero => simp [DataW.trod] at h
  | succ fuel =>
    cases c <;> simp [DataW.trod, ht] at h
    rename_i s
    obtain ⟨_, rfl⟩ := h
    exact ⟨s, rfl, rfl⟩

/-- a digit, as its byte -/
def dg (d : Nat) : Nat := if d < 10 then 48 + d else 87 + d
theorem dg36 : ∀ (n : Nat) (h : n < 16), (({ data := #[48, 49, 50, 51, 52, 53, 54, 55, 56, 57, 97, 98, 99, 100, 101, 102, 103, 104, 105, 106, 107, 108, 109, 110, 111, 112, 113, 114, 115, 116, 117, 118, 119, 120, 121, 122] } : ByteArray)[n]'(Nat.lt_trans h (by decide))).toNat = dg n := by decide +kernel
theorem tz64_16 (w : World) (hc : w.cell? ⟨5, 15, none⟩ = some (.int .u8 4)) : Calls Tryd.prog 83 #[.int .u64 16] w fun e w' => e = .returned (.int .i64 4) ∧ w = w' := by
  have k1 : IntKind.u64.wrap (bits .and .u64 16 (IntKind.u64.wrap (-16)) * 285870213051353865) / 288230376151711744 = 15 := by decide +kernel
  go_enter Tryd.func83, Tryd.ntmps83
  go_wp2_with (simp only [k1])
  go_ret
  exact ⟨rfl, rfl⟩
theorem tz_16 (w : World) (hc : w.cell? ⟨5, 15, none⟩ = some (.int .u8 4)) : Calls Tryd.prog 82 #[.int .u64 16] w fun e w' => e = .returned (.int .i64 4) ∧ w = w' := by
  have T := Lib.hid (fun w hc => tz64_16 w hc)
  go_enter Tryd.func82, Tryd.ntmps82
  go_wp2_with (go_at_call 83; refine (T.out _ hc).mono ?_; rintro e w' ⟨rfl, rfl⟩)
  go_ret
  exact ⟨rfl, rfl⟩
theorem pow2_16 (w : World) : Calls Tryd.prog 81 #[.int .i64 16] w fun e w' => e = .returned (.bool true) ∧ w = w' := by
  have k1 : bits .and .i64 16 15 = 0 := by decide +kernel
  go_enter Tryd.func81, Tryd.ntmps81
  go_wp2
  go_ret
  exact ⟨rfl, rfl⟩
/-- the digits from the end, in an array of 65 bytes -/
def gk (U k : Nat) : Nat → Nat := fun j => if 65 - k ≤ j then dg (U / 16 ^ (64 - j) % 16) else 0
theorem u64_low4 {x : Nat} (h : x < 18446744073709551616) : bits .and .u64 (x : Int) 15 = ((x % 16 : Nat) : Int) := by
  rw [show (15 : Int) = ((15 : Nat) : Int) from rfl, Go.u64_and_nat x 15 h (by decide), nat_mask4]
theorem gk_next (U k : Nat) (hk : k < 65) (j : Nat) : (if j = 64 - k then dg (U / 16 ^ k % 16) else gk U k j) = gk U (k + 1) j := by
  unfold gk
  by_cases h : j = 64 - k
  · subst h
    rw [if_pos rfl, if_pos (by omega), show 64 - (64 - k) = k by omega]
  · rw [if_neg h]
    by_cases h2 : 65 - k ≤ j
    · rw [if_pos h2, if_pos (by omega)]
    · rw [if_neg h2, if_neg (by omega)]
theorem dg_lt {d : Nat} (h : d < 16) : dg d < 256 := by unfold dg; split <;> omega
/-- a row of bytes, of whatever type -/
def RowX (w : World) (B n : Nat) (g : Nat → Nat) : Prop := ∃ (cs : Array Value) (T : TypeId), w.heap[B]? = some (.cells cs T (0, 0)) ∧ ∀ j, j < n → cs[j]? = some (.int .u8 (g j : Nat))
theorem RowX.cell {w : World} {B n : Nat} {g : Nat → Nat} (h : RowX w B n g) {j : Nat} (hj : j < n) : w.cell? ⟨B, j, none⟩ = some (.int .u8 (g j : Nat)) := by
  obtain ⟨cs, T, h1, h3⟩ := h
  rw [cell_of_row _ _ _ _ _ _ h1]; exact h3 j hj
theorem RowX.frozen {w : World} {B n : Nat} {g : Nat → Nat} (h : RowX w B n g) (j : Nat) : w.frozen? ⟨B, j, none⟩ = false := by
  obtain ⟨cs, T, h1, _⟩ := h
  exact frozen_of_row _ _ _ _ _ h1
theorem RowX.lt {w : World} {B n : Nat} {g : Nat → Nat} (h : RowX w B n g) : B < w.heap.size := by
  obtain ⟨cs, T, h1, _⟩ := h
  exact heap_lt h1
theorem RowX.set {w : World} {B n : Nat} {g : Nat → Nat} (h : RowX w B n g) (k : Nat) (x : Nat) : RowX (w.setCell ⟨B, k, none⟩ (.int .u8 (x : Nat))) B n (fun j => if j = k then x else g j) := by
  obtain ⟨cs, T, h1, h3⟩ := h
  refine ⟨_, T, heap_setCell_same _ _ _ _ _ _ h1, fun j hj => ?_⟩
  by_cases e : j = k
  · subst e
    have hs : j < cs.size := (Array.getElem?_eq_some_iff.1 (h3 j hj)).1
    simp [Array.getElem?_setIfInBounds, hs]
  · simp only [if_neg e]
    rw [Array.getElem?_setIfInBounds_ne (Ne.symm e)]
    exact h3 j hj
theorem RowX.congr {w : World} {B n : Nat} {g g' : Nat → Nat} (h : RowX w B n g) (e : ∀ j, j < n → g j = g' j) : RowX w B n g' := by
  obtain ⟨cs, T, h1, h3⟩ := h
  exact ⟨cs, T, h1, fun j hj => by rw [← e j hj]; exact h3 j hj⟩
theorem zero65 : Tryd.zeroCells138 = Array.replicate 65 (.int .u8 0) := by kernel_rfl
theorem pow16 (U k : Nat) (h1 : 4294967296 ≤ U) (h2 : U < 8589934592) (hk : k ≤ 8) : (16 ≤ U / 16 ^ k ↔ k < 8) ∧ U / 16 ^ 8 = 1 := by
  have p : (16 : Nat) ^ 8 = 4294967296 := by decide
  have e8 : U / 16 ^ 8 = 1 := by rw [p]; omega
  refine ⟨⟨fun h => ?_, fun h => ?_⟩, e8⟩
  · rcases Nat.lt_or_ge k 8 with h' | h'
    · exact h'
    · obtain rfl : k = 8 := by omega
      omega
  · have hp : 0 < 16 ^ k := Nat.pow_pos (by decide)
    rw [Nat.le_div_iff_mul_le hp]
    have : 16 * 16 ^ k ≤ 16 ^ 8 := by
      rw [← Nat.pow_succ']
      exact Nat.pow_le_pow_right (by decide) h
    omega
set_option maxHeartbeats 4000000 in
theorem format_16 (U : Nat) (hU1 : 4294967296 ≤ U) (hU2 : U < 8589934592) (w : World) (hc : w.cell? ⟨5, 15, none⟩ = some (.int .u8 4)) :
    Calls Tryd.prog 73 #[.slice none 0 0, .int .u64 U, .int .i64 16, .bool false, .bool false] w fun e w' => e = .returned (.tuple #[.slice none 0 0, .string (txt 9 fun j => gk U 9 (56 + j))]) ∧ Below w.heap.size w w' := by
  have T := Lib.hid (fun w hc => tz_16 w hc)
  have P := Lib.hid pow2_16
  have hz : RowX (w.alloc (.cells Tryd.zeroCells138 138)) w.heap.size 65 (gk U 0) := ⟨_, _, heap_alloc_new w _, fun j hj => by rw [zero65]; unfold gk; rw [if_neg (by omega)]; simp [hj]⟩
  have HZ := Lib.hid (And.intro hz ((Below.refl w.heap.size w).alloc (Nat.le_refl _) (.cells Tryd.zeroCells138 138)))
  have HU := Lib.hid (And.intro hU1 hU2)
  have hlt := block_lt_of_cell hc
  clear hz
  go_enter Tryd.func73, Tryd.ntmps73
  go_upto_region 11 with (first | (go_at_call 81; refine (P.out _).mono ?_; rintro e w' ⟨rfl, rfl⟩) | (go_at_call 82; refine (T.out _ (Go.Lib.cell?_alloc_some _ hc)).mono ?_; rintro e w' ⟨rfl, rfl⟩))
  clear hU1 hU2 hc hlt T P
  go_loopw [1, 13] (fun u i wr => ∃ (k n m : Nat), k ≤ 8 ∧ n = U / 16 ^ k ∧ m = 65 - k ∧ u = .int .u64 (n : Nat) ∧ i = .int .i64 (m : Nat) ∧ RowX wr w.heap.size 65 (gk U k) ∧ Below w.heap.size w wr) (fun u _ _ => (intOf u).toNat)
  case atStart => exact ⟨0, U, 65, by omega, by simp, rfl, rfl, rfl, HZ.out.1, HZ.out.2⟩
  case round =>
    rename_i wr
    obtain ⟨k, n, m, hk, hn, hm, rfl, rfl, hrow, hbel⟩ := hrel
    obtain ⟨m1, hm1⟩ : ∃ m1, m1 = 64 - k := ⟨_, rfl⟩
    have hmI : (m : Int) - 1 = (m1 : Int) := by omega
    have hm65 : (m1 : Int) < 65 := by omega
    have hp := pow16 U k HU.out.1 HU.out.2 hk
    have hnu : n < 8589934592 := by rw [hn]; exact Nat.lt_of_le_of_lt (Nat.div_le_self _ _) HU.out.2
    have cm := hrow.cell (j := m1) (by omega)
    have fr := hrow.frozen m1
    have hlt := hrow.lt
    have HR := Lib.hid hrow
    have HBl := Lib.hid hbel
    obtain ⟨d, hd⟩ : ∃ d, d = n % 16 := ⟨_, rfl⟩
    have hd16 : d < 16 := by omega
    have hD := dg36 d hd16
    by_cases h16 : 16 ≤ n
    · have hk8 : k < 8 := hp.1.1 (by rw [← hn]; exact h16)
      have eA : bits .and .u64 (n : Int) 15 = (d : Int) := by rw [hd]; exact u64_low4 (by omega)
      obtain ⟨n2, hn2⟩ : ∃ n2, n2 = n / 16 := ⟨_, rfl⟩
      have eS : (n : Int) / 16 = (n2 : Int) := by omega
      have hlt2 : n2 < n := by omega
      have HN := Lib.hid (And.intro hn (And.intro hm (And.intro hm1 (And.intro hd hn2))))
      clear hn hm hm1 hd hn2 hp hrow hbel
      go_wp2
      obtain ⟨hn, hm, hm1, hd, hn2⟩ := HN.out
      refine ⟨⟨k + 1, n2, m1, by omega, by rw [hn2, hn, Nat.pow_succ, Nat.div_div_eq_div_mul], by omega, rfl, rfl, (HR.out.set m1 (dg d)).congr fun j _ => ?_, HBl.out.setCell (Nat.le_refl _) _⟩, by simp [intOf]; omega⟩
      rw [← gk_next U k (by omega) j, ← hm1, hd, hn]
    · have hk8 : k = 8 := by
        rcases Nat.lt_or_ge k 8 with h | h
        · exact absurd (by rw [hn]; exact hp.1.2 h) h16
        · omega
      subst hk8
      obtain rfl : m1 = 56 := hm1
      obtain rfl : m = 57 := hm
      obtain rfl : n = 1 := by rw [hn]; exact hp.2
      have hR2 : RowX (wr.setCell ⟨w.heap.size, 56, none⟩ (.int .u8 49)) w.heap.size 65 (gk U 9) := (HR.out.set 56 49).congr fun j _ => by
        rw [← gk_next U 8 (by omega) j, ← hn]
        rfl
      have q1 := cv_arg (w := wr.setCell ⟨w.heap.size, 56, none⟩ (.int .u8 49)) (b := w.heap.size) (off := 56) (len := 9) (cap := 9) (f := fun j => gk U 9 (56 + j)) (fun i hi => hR2.cell (by omega))
      have HX := Lib.hid (HBl.out.setCell (p := ⟨w.heap.size, 56, none⟩) (Nat.le_refl _) (.int .u8 49))
      obtain ⟨S, hS⟩ : ∃ S, (txt 9 fun j => gk U 9 (56 + j)) = S := ⟨_, rfl⟩
      rw [hS] at q1
      have ES := Lib.hid hS
      clear hS
      have hD1 := dg36 1 (by decide)
      rw [show dg 1 = 49 from by decide] at hD1
      clear hR2 hp hrow hbel HR HBl hmI hm65 h16 hn hD hd16 hd
      go_wp2
      go_ret2
      exact ⟨by rw [ES.out]; rfl, HX.out⟩
theorem fmt_16 (U : Nat) (hU1 : 4294967296 ≤ U) (hU2 : U < 8589934592) (w : World) (hc : w.cell? ⟨5, 15, none⟩ = some (.int .u8 4)) :
    Calls Tryd.prog 62 #[.int .u64 U, .int .i64 16] w fun e w' => e = .returned (.string (txt 9 fun j => gk U 9 (56 + j))) ∧ Below w.heap.size w w' := by
  have F := Lib.hid (format_16 U hU1 hU2 w hc)
  generalize (txt 9 fun j => gk U 9 (56 + j)) = S at *
  clear hU1 hU2 hc
  go_enter Tryd.func62, Tryd.ntmps62
  go_wp2_with (go_at_call 73; refine F.out.mono ?_; rintro e w' ⟨rfl, hb⟩)
  go_ret
  exact ⟨rfl, hb⟩
theorem fmtU_16 (U : Nat) (hU1 : 4294967296 ≤ U) (hU2 : U < 8589934592) (w : World) (hc : w.cell? ⟨5, 15, none⟩ = some (.int .u8 4)) :
    Calls Tryd.prog 48 #[.int .u64 U, .int .i64 16] w fun e w' => e = .returned (.string (txt 9 fun j => gk U 9 (56 + j))) ∧ Below w.heap.size w w' := by
  have F := Lib.hid (fmt_16 U hU1 hU2 w hc)
  generalize (txt 9 fun j => gk U 9 (56 + j)) = S at *
  clear hU1 hU2 hc
  go_enter Tryd.func48, Tryd.ntmps48
  go_wp2_with (go_at_call 62; refine F.out.mono ?_; rintro e w' ⟨rfl, hb⟩)
  go_ret
  exact ⟨rfl, hb⟩
/-- the digits of a number -/
def hexB (v : Nat) : ByteArray := txt 8 fun j => dg (v / 16 ^ (7 - j) % 16)
theorem txt_size (n : Nat) (f : Nat → Nat) : (txt n f).size = n := by unfold txt; rw [strOfNums_size]; simp
theorem u64_or_top {v : Nat} (h : v < 4294967296) : bits .or .u64 (v : Int) 4294967296 = ((4294967296 + v : Nat) : Int) := by
  rw [show (4294967296 : Int) = ((4294967296 : Nat) : Int) from rfl, Go.u64_or_nat v 4294967296 (by omega) (by decide), Nat.or_comm, nat_join 32 4294967296 v (by decide) h]
theorem txt_list (n : Nat) (f : Nat → Nat) : (txt n f).data.toList = (List.range n).map fun i => UInt8.ofNat (f i) := by
  unfold txt
  rw [strOfNums_data, List.map_map]
  exact List.map_congr_left fun i _ => by simp
theorem bytes_inj' {a b : ByteArray} (h : a.data.toList = b.data.toList) : a = b := by
  cases a with
  | mk x => cases b with
    | mk y => cases x; cases y; simp only at h; subst h; rfl
theorem txt_tail (f : Nat → Nat) : (txt 9 f).extract 1 9 = txt 8 fun j => f (j + 1) := by
  apply bytes_inj'
  rw [txt_list, ByteArray.data_extract, Array.toList_extract, txt_list]
  rfl
theorem gk_hex (v : Nat) (hv : v < 4294967296) : (txt 8 fun j => gk (4294967296 + v) 9 (56 + (j + 1))) = hexB v := by
  unfold hexB
  apply bytes_inj'
  rw [txt_list, txt_list]
  refine List.map_congr_left fun j hj => ?_
  have hj8 : j < 8 := by simpa using hj
  congr 1
  unfold gk
  rw [if_pos (by omega), show 64 - (56 + (j + 1)) = 7 - j by omega]
  congr 1
  have p0 : (16 : Nat) ^ 0 = 1 := rfl
  have p1 : (16 : Nat) ^ 1 = 16 := rfl
  have p2 : (16 : Nat) ^ 2 = 256 := by decide
  have p3 : (16 : Nat) ^ 3 = 4096 := by decide
  have p4 : (16 : Nat) ^ 4 = 65536 := by decide
  have p5 : (16 : Nat) ^ 5 = 1048576 := by decide
  have p6 : (16 : Nat) ^ 6 = 16777216 := by decide
  have p7 : (16 : Nat) ^ 7 = 268435456 := by decide
  have hc : j = 0 ∨ j = 1 ∨ j = 2 ∨ j = 3 ∨ j = 4 ∨ j = 5 ∨ j = 6 ∨ j = 7 := by omega
  rcases hc with rfl | rfl | rfl | rfl | rfl | rfl | rfl | rfl
  · rw [show 7 - 0 = 7 from rfl, p7]; omega
  · rw [show 7 - 1 = 6 from rfl, p6]; omega
  · rw [show 7 - 2 = 5 from rfl, p5]; omega
  · rw [show 7 - 3 = 4 from rfl, p4]; omega
  · rw [show 7 - 4 = 3 from rfl, p3]; omega
  · rw [show 7 - 5 = 2 from rfl, p2]; omega
  · rw [show 7 - 6 = 1 from rfl, p1]; omega
  · rw [show 7 - 7 = 0 from rfl, p0]; omega
set_option maxHeartbeats 1000000 in
theorem hex_any (v : Nat) (hv : v < 4294967296) (w : World) (hc : w.cell? ⟨5, 15, none⟩ = some (.int .u8 4)) :
    Calls Tryd.prog 24 #[.int .u32 v] w fun e w' => e = .returned (.string (hexB v)) ∧ Below w.heap.size w w' := by
  obtain ⟨U, hU⟩ : ∃ U, U = 4294967296 + v := ⟨_, rfl⟩
  have F := Lib.hid (fmtU_16 U (by omega) (by omega) w hc)
  have eo : bits .or .u64 (v : Int) 4294967296 = (U : Int) := by rw [hU]; exact u64_or_top hv
  obtain ⟨S, hS⟩ : ∃ S, (txt 9 fun j => gk U 9 (56 + j)) = S := ⟨_, rfl⟩
  rw [hS] at F
  have hsz : S.size = 9 := by rw [← hS]; exact txt_size _ _
  have HS := Lib.hid (And.intro hU hS)
  clear hU hS hc
  go_enter Tryd.func24, Tryd.ntmps24
  go_wp2_with (go_at_call 48; refine F.out.mono ?_; rintro e w' ⟨rfl, hb⟩)
  go_ret
  refine ⟨?_, hb⟩
  obtain ⟨h1, h2⟩ := HS.out
  rw [← h2, txt_tail, h1, gk_hex v hv]
  rfl
/-- the last k digits -/
def lastB (v k : Nat) : ByteArray := txt k fun j => dg (v / 16 ^ (k - 1 - j) % 16)
theorem dig16 : ∀ n, n < 16 → (({ data := #[48, 49, 50, 51, 52, 53, 54, 55, 56, 57, 97, 98, 99, 100, 101, 102] } : ByteArray).extract n (n + 1)).data.toList = [UInt8.ofNat (dg n)] := by decide +kernel
theorem lastB_next (v k : Nat) (X : ByteArray) (hX : X.data.toList = [UInt8.ofNat (dg (v / 16 ^ k % 16))]) : X ++ lastB v k = lastB v (k + 1) := by
  apply bytes_inj'
  rw [ByteArray.data_append, Array.toList_append, hX]
  unfold lastB
  rw [txt_list, txt_list, List.range_succ_eq_map, List.map_cons, List.map_map]
  simp only [List.cons_append, List.nil_append]
  congr 1
  refine List.map_congr_left fun j hj => ?_
  simp only [Function.comp]
  rw [show k + 1 - 1 - (j + 1) = k - 1 - j by omega]
set_option maxHeartbeats 2000000 in
theorem rhex_any (v : Nat) (hv : v < 4294967296) (w : World) : Calls Tryd.prog 25 #[.int .u32 v] w fun e w' => e = .returned (.string (hexB v)) ∧ w = w' := by
  go_enter Tryd.func25, Tryd.ntmps25
  go_upto_region 3 with (fail)
  go_loopw [0, 3, 4] (fun u s i wr => ∃ (k n : Nat) (S : ByteArray), k ≤ 8 ∧ n = v / 16 ^ k ∧ S = lastB v k ∧ u = .int .u32 (n : Nat) ∧ s = .string S ∧ i = .int .i64 (k : Nat) ∧ wr = w) (fun _ _ i _ => 8 - (intOf i).toNat)
  case atStart => exact ⟨0, v, _, by omega, by simp, rfl, rfl, rfl, rfl, rfl⟩
  case round =>
    obtain ⟨k, n, S, hk, hn, hS, rfl, rfl, rfl, rfl⟩ := hrel
    by_cases hk8 : k < 8
    · have hkI : (k : Int) < 8 := by omega
      have hnv : n < 4294967296 := by rw [hn]; exact Nat.lt_of_le_of_lt (Nat.div_le_self _ _) hv
      obtain ⟨d, hd⟩ : ∃ d, d = n % 16 := ⟨_, rfl⟩
      have hd16 : d < 16 := by omega
      have eD : (n : Int) % 16 = (d : Int) := by omega
      obtain ⟨n2, hn2⟩ : ∃ n2, n2 = n / 16 := ⟨_, rfl⟩
      have eS : (n : Int) / 16 = (n2 : Int) := by omega
      have hdI : (d : Int) < 16 := by omega
      have HN := Lib.hid (And.intro hn (And.intro hS (And.intro hd hn2)))
      have hx := dig16 d hd16
      have hx1 : (({ data := #[48, 49, 50, 51, 52, 53, 54, 55, 56, 57, 97, 98, 99, 100, 101, 102] } : ByteArray).extract d (d + 1)).size = 1 := by
        have h : (({ data := #[48, 49, 50, 51, 52, 53, 54, 55, 56, 57, 97, 98, 99, 100, 101, 102] } : ByteArray).extract d (d + 1)).data.toList.length = 1 := by rw [hx]; rfl
        have h' : (({ data := #[48, 49, 50, 51, 52, 53, 54, 55, 56, 57, 97, 98, 99, 100, 101, 102] } : ByteArray).extract d (d + 1)).data.size = 1 := by simpa only [Array.length_toList] using h
        exact h'
      have hsz : S.size = k := by rw [hS]; exact txt_size _ _
      have HX := Lib.hid hx
      clear hn hS hd hn2 hx
      go_wp2
      obtain ⟨hn, hS, hd, hn2⟩ := HN.out
      refine ⟨⟨k + 1, n2, _, by omega, by rw [hn2, hn, Nat.pow_succ, Nat.div_div_eq_div_mul], ?_, rfl, rfl, by simp, trivial⟩, by simp [intOf]; omega⟩
      rw [hS]
      exact lastB_next v k _ (by rw [HX.out, hd, hn])
    · obtain rfl : k = 8 := by omega
      clear hn
      go_wp2
      go_ret
      exact ⟨by rw [hS]; rfl, rfl⟩

/-- a digit's worth, or 16 -/
def val (c : Nat) : Nat := if 48 ≤ c ∧ c ≤ 57 then c - 48 else if 97 ≤ c ∧ c ≤ 102 then c - 87 else 16
def stepP (a : Option Nat) (c : UInt8) : Option Nat := a.bind fun v => if val c.toNat = 16 then none else some (16 * v + val c.toNat)
def pv (l : List UInt8) : Option Nat := l.foldl stepP (some 0)
def parseN (s : ByteArray) : Option Nat := if s.size < 1 ∨ 8 < s.size then none else pv s.data.toList
theorem val_le (c : Nat) : val c ≤ 16 := by unfold val; split; · omega
                                            · split <;> omega
theorem pv_next {l : List UInt8} {i : Nat} (h : i < l.length) : pv (l.take (i + 1)) = stepP (pv (l.take i)) l[i] := by
  unfold pv
  rw [List.take_succ_eq_append_getElem h, List.foldl_append]
  rfl
theorem fold_none : ∀ l : List UInt8, l.foldl stepP none = none
  | [] => rfl
  | c :: l => by rw [List.foldl_cons]; exact fold_none l
theorem pv_stop {l : List UInt8} {i : Nat} (h : pv (l.take i) = none) : pv l = none := by
  unfold pv at *
  rw [← List.take_append_drop i l, List.foldl_append, h]
  exact fold_none _
theorem pow_le28 {u j : Nat} (hu : u < 16 ^ j) (hj : j < 8) : u < 268435456 := by
  have : 16 ^ j ≤ 16 ^ 7 := Nat.pow_le_pow_right (by decide) (by omega)
  have p : (16 : Nat) ^ 7 = 268435456 := by decide
  omega
set_option maxHeartbeats 4000000 in
theorem parse_loop (s : ByteArray) (r : Option Nat) (hr : parseN s = r) (h1 : 1 ≤ s.size) (h8 : s.size ≤ 8) (w : World) :
    Calls Tryd.prog 22 #[.string s] w fun e w' => e = .returned (.tuple #[.int .u32 (r.getD 0 : Nat), if r.isSome then .nilIface else errV 3]) ∧ w = w' := by
  have hpv : pv s.data.toList = r := by rw [← hr]; unfold parseN; rw [if_neg (by omega)]
  clear hr
  have hE : errV 3 = .iface 78 (.int .i64 3) := rfl
  rw [hE]
  clear hE
  obtain ⟨n, hn⟩ : ∃ n, s.size = n := ⟨_, rfl⟩
  have hlen : s.data.toList.length = n := by rw [Array.length_toList]; exact hn
  have hn1 : 1 ≤ (n : Int) := by omega
  have hn8 : (n : Int) ≤ 8 := by omega
  have HP := Lib.hid (And.intro hpv (And.intro hlen hn))
  clear hpv hlen
  go_enter Tryd.func22, Tryd.ntmps22
  go_upto_region 5 with (fail)
  go_loopw [4, 18] (fun v i wr => ∃ (j u : Nat), j ≤ n ∧ pv (s.data.toList.take j) = some u ∧ u < 16 ^ j ∧ v = .int .u32 (u : Nat) ∧ i = .int .i64 (j : Nat) ∧ wr = w) (fun _ i _ => n - (intOf i).toNat)
  case atStart => exact ⟨0, 0, by omega, rfl, by decide, rfl, rfl, rfl⟩
  case round =>
    obtain ⟨j, u, hj, hu, hub, rfl, rfl, rfl⟩ := hrel
    have HU := Lib.hid hu
    have HUB := Lib.hid hub
    clear hu hub
    by_cases hjn : j < n
    · have hjI : (j : Int) < n := by omega
      have hjs : j < s.size := by omega
      have hu28 := pow_le28 HUB.out (by omega)
      obtain ⟨c, hc⟩ : ∃ c, (s[j]'hjs).toNat = c := ⟨_, rfl⟩
      have hc256 : c < 256 := by rw [← hc]; exact (s[j]'hjs).toNat_lt
      have hnx := pv_next (l := s.data.toList) (i := j) (by rw [HP.out.2.1]; exact hjn)
      rw [HU.out] at hnx
      have hci : (s.data.toList[j]'(by rw [HP.out.2.1]; exact hjn)).toNat = c := by rw [← hc]; rfl
      unfold stepP at hnx
      rw [Option.bind_some, hci] at hnx
      have HNX := Lib.hid hnx
      clear hnx hci
      by_cases d1 : 48 ≤ c ∧ c ≤ 57
      · obtain ⟨d, hd⟩ : ∃ d, d = c - 48 := ⟨_, rfl⟩
        have ed : (c : Int) - 48 = (d : Int) := by omega
        have k1 : 48 ≤ (c : Int) := by omega
        have k2 : (c : Int) ≤ 57 := by omega
        have hd16 : d < 16 := by omega
        have eo : bits .or .u32 ((u : Int) * 16) (d : Int) = ((u * 16 + d : Nat) : Int) := by
          rw [show (u : Int) * 16 = ((u * 16 : Nat) : Int) by simp, Go.u32_or_nat (u * 16) d (by omega) (by omega), nat_join 4 (u * 16) d (by omega) hd16]
        have hv : val c = d := by unfold val; rw [if_pos d1, hd]
        have HV := Lib.hid hv
        clear hd hv d1
        go_wp2
        refine ⟨⟨j + 1, 16 * u + d, by omega, ?_, ?_, by simp; omega, by simp, trivial⟩, by simp [intOf]; omega⟩
        · rw [HNX.out, HV.out, if_neg (by omega)]
        · have := HUB.out; rw [Nat.pow_succ]; omega
      · by_cases d2 : 97 ≤ c ∧ c ≤ 102
        · obtain ⟨d, hd⟩ : ∃ d, d = c - 87 := ⟨_, rfl⟩
          obtain ⟨e, he⟩ : ∃ e, e = c - 97 := ⟨_, rfl⟩
          have ee : (c : Int) - 97 = (e : Int) := by omega
          have ed : (e : Int) + 10 = (d : Int) := by omega
          have k0 : ¬ (c : Int) ≤ 57 := by omega
          have k1 : 97 ≤ (c : Int) := by omega
          have k2 : (c : Int) ≤ 102 := by omega
          have hd16 : d < 16 := by omega
          have eo : bits .or .u32 ((u : Int) * 16) (d : Int) = ((u * 16 + d : Nat) : Int) := by
            rw [show (u : Int) * 16 = ((u * 16 : Nat) : Int) by simp, Go.u32_or_nat (u * 16) d (by omega) (by omega), nat_join 4 (u * 16) d (by omega) hd16]
          have hv : val c = d := by unfold val; rw [if_neg d1, if_pos d2, hd]
          have HV := Lib.hid hv
          clear hd hv d1 d2 he
          go_wp2
          refine ⟨⟨j + 1, 16 * u + d, by omega, ?_, ?_, by simp; omega, by simp, trivial⟩, by simp [intOf]; omega⟩
          · rw [HNX.out, HV.out, if_neg (by omega)]
          · have := HUB.out; rw [Nat.pow_succ]; omega
        · have hv : val c = 16 := by unfold val; rw [if_neg d1, if_neg d2]
          have hno : pv s.data.toList = none := pv_stop (i := j + 1) (by rw [HNX.out, if_pos hv])
          have hr0 : r = none := HP.out.1.symm.trans hno
          subst hr0
          clear hno hv
          by_cases e1 : c < 48
          · go_wp2
            go_ret2
            exact ⟨rfl, rfl⟩
          · by_cases e2 : c < 97
            · have k0 : ¬ (c : Int) ≤ 57 := by omega
              go_wp2
              go_ret2
              exact ⟨rfl, rfl⟩
            · have k0 : ¬ (c : Int) ≤ 57 := by omega
              have k1 : ¬ (c : Int) ≤ 102 := by omega
              go_wp2
              go_ret2
              exact ⟨rfl, rfl⟩
    · obtain rfl : j = n := by omega
      have hfin : r = some u := by
        have h := HU.out
        rw [List.take_of_length_le (by rw [HP.out.2.1]; exact Nat.le_refl _), HP.out.1] at h
        exact h
      subst hfin
      go_wp2
      go_ret2
      exact ⟨rfl, rfl⟩

set_option maxHeartbeats 1000000 in
theorem parse_bad (s : ByteArray) (h : s.size < 1 ∨ 8 < s.size) (w : World) : Calls Tryd.prog 22 #[.string s] w fun e w' => e = .returned (.tuple #[.int .u32 0, errV 3]) ∧ w = w' := by
  have hE : errV 3 = .iface 78 (.int .i64 3) := rfl
  rw [hE]
  clear hE
  rcases h with h | h
  · have h1 : (s.size : Int) < 1 := by omega
    go_enter Tryd.func22, Tryd.ntmps22
    go_wp2
    go_ret2
    exact ⟨rfl, rfl⟩
  · have h1 : ¬ (s.size : Int) < 1 := by omega
    have h2 : 8 < (s.size : Int) := by omega
    go_enter Tryd.func22, Tryd.ntmps22
    go_wp2
    go_ret2
    exact ⟨rfl, rfl⟩
theorem parse_any (s : ByteArray) (w : World) : Calls Tryd.prog 22 #[.string s] w fun e w' => e = .returned (.tuple #[.int .u32 ((parseN s).getD 0 : Nat), if (parseN s).isSome then .nilIface else errV 3]) ∧ w = w' := by
  by_cases h : s.size < 1 ∨ 8 < s.size
  · have e : parseN s = none := by unfold parseN; rw [if_pos h]
    rw [e]
    exact parse_bad s h w
  · exact parse_loop s _ rfl (by omega) (by omega) w
theorem dg_val {k c : Nat} (hk : k < 16) (hc : c < 256) : dg k = c ↔ val c = k := by
  unfold dg val
  split <;> split <;> (try split) <;> omega
theorem dig16c : ∀ (n : Nat) (h : n < 16), (({ data := #[48, 49, 50, 51, 52, 53, 54, 55, 56, 57, 97, 98, 99, 100, 101, 102] } : ByteArray)[n]'h).toNat = dg n := by decide +kernel
set_option maxHeartbeats 1000000 in
theorem rparse_bad (s : ByteArray) (h : s.size < 1 ∨ 8 < s.size) (w : World) : Calls Tryd.prog 23 #[.string s] w fun e w' => e = .returned (.tuple #[.int .u32 0, .int .i64 3]) ∧ ∃ k, w.drewN k = w' := by
  rcases h with h | h
  · obtain rfl : s = ⟨#[]⟩ := by
      apply bytes_inj'
      have : s.data.size = 0 := by have : s.size = 0 := by omega
                                   exact this
      rw [Array.eq_empty_of_size_eq_zero this]
    go_enter Tryd.func23, Tryd.ntmps23
    go_wp2
    go_ret2
    exact ⟨rfl, 0, rfl⟩
  · have h2 : 8 < (s.size : Int) := by omega
    have h3 : ¬ s.toList = [] := fun h => by
      have e : s.data.toList.length = 0 := by rw [← ByteArray.toList_eq, h]; rfl
      rw [Array.length_toList] at e
      have : s.size = 0 := e
      omega
    have h4 : s.toList.isEmpty = false := by simp [h3]
    go_enter Tryd.func23, Tryd.ntmps23
    go_wp2
    go_ret2
    exact ⟨rfl, 0, rfl⟩
set_option maxHeartbeats 4000000 in
theorem rparse_loop (s : ByteArray) (r : Option Nat) (hr : parseN s = r) (h1 : 1 ≤ s.size) (h8 : s.size ≤ 8) (w : World) :
    Calls Tryd.prog 23 #[.string s] w fun e w' => e = .returned (.tuple #[.int .u32 (r.getD 0 : Nat), .int .i64 (if r.isSome then 0 else 3)]) ∧ ∃ k, w.drewN k = w' := by
  have hpv : pv s.data.toList = r := by rw [← hr]; unfold parseN; rw [if_neg (by omega)]
  clear hr
  obtain ⟨n, hn⟩ : ∃ n, s.size = n := ⟨_, rfl⟩
  have hlen : s.data.toList.length = n := by rw [Array.length_toList]; exact hn
  have hn1 : 1 ≤ (n : Int) := by omega
  have hn8 : (n : Int) ≤ 8 := by omega
  have h3 : ¬ s.toList = [] := fun h => by
    have e : s.data.toList.length = 0 := by rw [← ByteArray.toList_eq, h]; rfl
    omega
  have h4 : s.toList.isEmpty = false := by simp [h3]
  have HP := Lib.hid (And.intro hpv (And.intro hlen hn))
  clear hpv hlen
  go_enter Tryd.func23, Tryd.ntmps23
  go_upto_region 5 with (fail)
  clear h3 h4
  go_loopw [4, 5] (fun v i wr => ∃ (j u : Nat), j ≤ n ∧ pv (s.data.toList.take j) = some u ∧ u < 16 ^ j ∧ v = .int .u32 (u : Nat) ∧ i = .int .i64 (j : Nat) ∧ ∃ k, w.drewN k = wr) (fun _ i _ => n - (intOf i).toNat)
  case atStart => exact ⟨0, 0, by omega, rfl, by decide, rfl, rfl, 0, rfl⟩
  case round =>
    obtain ⟨j, u, hj, hu, hub, rfl, rfl, kk, rfl⟩ := hrel
    have HU := Lib.hid hu
    have HUB := Lib.hid hub
    clear hu hub
    by_cases hjn : j < n
    · have hjI : (j : Int) < n := by omega
      have hjs : j < s.size := by omega
      have hu28 := pow_le28 HUB.out (by omega)
      obtain ⟨c, hc⟩ : ∃ c, (s[j]'hjs).toNat = c := ⟨_, rfl⟩
      have hc256 : c < 256 := by rw [← hc]; exact (s[j]'hjs).toNat_lt
      have hnx := pv_next (l := s.data.toList) (i := j) (by rw [HP.out.2.1]; exact hjn)
      rw [HU.out] at hnx
      have hci : (s.data.toList[j]'(by rw [HP.out.2.1]; exact hjn)).toNat = c := by rw [← hc]; rfl
      unfold stepP at hnx
      rw [Option.bind_some, hci] at hnx
      have HNX := Lib.hid hnx
      clear hnx hci
      have hvl := val_le c
      go_upto_region 9 with (fail)
      go_loopw [6, 7] (fun d k wr => ∃ (q x : Nat), q ≤ 16 ∧ x = (if val c < q then val c else 16) ∧ d = .int .i64 (x : Nat) ∧ k = .int .i64 (q : Nat) ∧ ∃ k, w.drewN k = wr) (fun _ k _ => 16 - (intOf k).toNat)
      case atStart => exact ⟨0, 16, by omega, by simp, rfl, rfl, kk, rfl⟩
      case round =>
        obtain ⟨q, x, hq, hx, rfl, rfl, kk2, rfl⟩ := hrel
        by_cases hq16 : q < 16
        · have hqI : (q : Int) < 16 := by omega
          have hD := dig16c q hq16
          have hdv := dg_val hq16 hc256
          by_cases hv : val c = q
          · rw [hdv.2 hv] at hD
            have HX := Lib.hid (And.intro hx hv)
            clear hx hv hdv
            go_upto_region 11 with (fail)
            go_quiet (fail)
            go_wp2
            refine ⟨⟨q + 1, q, by omega, ?_, rfl, by simp, ?_⟩, by simp [intOf]; omega⟩
            · rw [HX.out.2, if_pos (by omega)]
            · first | exact ⟨_, rfl⟩ | exact ⟨kk2 + nq, by simp [World.drewN_drewN]⟩
          · have hne : ¬ dg q = c := fun h => hv (hdv.1 h)
            obtain ⟨g, hg⟩ : ∃ g, g = dg q := ⟨_, rfl⟩
            rw [← hg] at hD hne
            have hne1 : ((g : Int) == (c : Int)) = false := by simp; omega
            have hne2 : ¬ (g : Int) = (c : Int) := by omega
            have HX := Lib.hid (And.intro hx hv)
            clear hx hv hdv hg
            go_upto_region 11 with (fail)
            go_quiet (fail)
            go_wp2
            refine ⟨⟨q + 1, x, by omega, ?_, rfl, by simp, ?_⟩, by simp [intOf]; omega⟩
            · obtain ⟨hx, hv⟩ := HX.out
              rw [hx]
              by_cases h : val c < q
              · rw [if_pos h, if_pos (by omega)]
              · rw [if_neg h, if_neg (by omega)]
            · first | exact ⟨_, rfl⟩ | exact ⟨kk2 + nq, by simp [World.drewN_drewN]⟩
        · obtain rfl : q = 16 := by omega
          obtain rfl : x = val c := by rw [hx]; split <;> omega
          by_cases hv : val c = 16
          · have hno : pv s.data.toList = none := pv_stop (i := j + 1) (by rw [HNX.out, if_pos hv])
            have hr0 : r = none := HP.out.1.symm.trans hno
            subst hr0
            rw [hv]
            clear hno hx
            go_wp2
            go_ret2
            exact ⟨rfl, kk2, rfl⟩
          · have HNX2 := Lib.hid (HNX.out.trans (if_neg hv))
            generalize val c = d at *
            have hv1 : ((d : Int) == 16) = false := by simp; omega
            have hv2 : ¬ (d : Int) = 16 := by omega
            have hd16 : d < 16 := by omega
            clear hx HNX
            go_wp2
            refine ⟨⟨j + 1, 16 * u + d, by omega, HNX2.out, ?_, by simp, by simp, kk2, rfl⟩, by simp [intOf]; omega⟩
            have := HUB.out
            rw [Nat.pow_succ]
            omega
    · obtain rfl : j = n := by omega
      have hfin : r = some u := by
        have h := HU.out
        rw [List.take_of_length_le (by rw [HP.out.2.1]; exact Nat.le_refl _), HP.out.1] at h
        exact h
      subst hfin
      go_wp2
      go_ret2
      exact ⟨rfl, kk, rfl⟩
theorem rparse_any (s : ByteArray) (w : World) : Calls Tryd.prog 23 #[.string s] w fun e w' => e = .returned (.tuple #[.int .u32 ((parseN s).getD 0 : Nat), .int .i64 (if (parseN s).isSome then 0 else 3)]) ∧ ∃ k, w.drewN k = w' := by
  by_cases h : s.size < 1 ∨ 8 < s.size
  · have e : parseN s = none := by unfold parseN; rw [if_pos h]
    rw [e]
    exact rparse_bad s h w
  · exact rparse_loop s _ rfl (by omega) (by omega) w

theorem step_dg (a d : Nat) (hd : d < 16) : stepP (some a) (UInt8.ofNat (dg d)) = some (16 * a + d) := by
  have hv : val (dg d) = d := (dg_val hd (dg_lt hd)).1 rfl
  have ht : (UInt8.ofNat (dg d)).toNat = dg d := by rw [UInt8.toNat_ofNat']; have := dg_lt hd; omega
  unfold stepP
  rw [Option.bind_some, ht, hv, if_neg (by omega)]
theorem parse_hex (v : Nat) (hv : v < 4294967296) : parseN (hexB v) = some v := by
  have hs : (hexB v).size = 8 := txt_size _ _
  unfold parseN
  rw [if_neg (by omega)]
  unfold hexB pv
  rw [txt_list]
  have p0 : (16 : Nat) ^ (7 - 7) = 1 := rfl
  have p1 : (16 : Nat) ^ (7 - 6) = 16 := rfl
  have p2 : (16 : Nat) ^ (7 - 5) = 256 := by decide
  have p3 : (16 : Nat) ^ (7 - 4) = 4096 := by decide
  have p4 : (16 : Nat) ^ (7 - 3) = 65536 := by decide
  have p5 : (16 : Nat) ^ (7 - 2) = 1048576 := by decide
  have p6 : (16 : Nat) ^ (7 - 1) = 16777216 := by decide
  have p7 : (16 : Nat) ^ (7 - 0) = 268435456 := by decide
  have hl : (List.range 8).map (fun i => UInt8.ofNat (dg (v / 16 ^ (7 - i) % 16))) = [UInt8.ofNat (dg (v / 268435456 % 16)), UInt8.ofNat (dg (v / 16777216 % 16)), UInt8.ofNat (dg (v / 1048576 % 16)), UInt8.ofNat (dg (v / 65536 % 16)), UInt8.ofNat (dg (v / 4096 % 16)), UInt8.ofNat (dg (v / 256 % 16)), UInt8.ofNat (dg (v / 16 % 16)), UInt8.ofNat (dg (v / 1 % 16))] := by
    rw [show List.range 8 = [0, 1, 2, 3, 4, 5, 6, 7] from rfl]
    simp only [List.map_cons, List.map_nil, p0, p1, p2, p3, p4, p5, p6, p7]
  rw [hl]
  simp only [List.foldl_cons, List.foldl_nil]
  rw [step_dg _ _ (by omega), step_dg _ _ (by omega), step_dg _ _ (by omega), step_dg _ _ (by omega), step_dg _ _ (by omega), step_dg _ _ (by omega), step_dg _ _ (by omega), step_dg _ _ (by omega)]
  congr 1
  clear p0 p1 p2 p3 p4 p5 p6 p7 hl hs
  omega
set_option maxHeartbeats 4000000 in
theorem wordHex_core (v : Nat) (hv : v < 4294967296) (s : ByteArray) (r : Nat) (e : Int)
    (P : Hid (∀ w : World, Calls Tryd.prog 22 #[.string s] w fun e' w' => e' = .returned (.tuple #[.int .u32 r, errV e]) ∧ w = w'))
    (R : Hid (∀ w : World, Calls Tryd.prog 23 #[.string s] w fun e' w' => e' = .returned (.tuple #[.int .u32 r, .int .i64 e]) ∧ ∃ k, w.drewN k = w'))
    (w : World) (hc : w.cell? ⟨5, 15, none⟩ = some (.int .u8 4)) (hg : w.cell? ⟨2, 0, none⟩ = some errTy) :
    Calls Tryd.prog 6 #[.int .u32 v, .string s] w fun e w' => e = .returned (.bool true) ∧ Below w.heap.size w w' := by
  have HX := Lib.hid (fun w' (hb : Below w.heap.size w w') => hex_any v hv w' ((World.cell?_of_block (a := ⟨5, 15, none⟩) (hb.block _ (block_lt_of_cell hc))).trans hc))
  have RX := Lib.hid (fun w => rhex_any v hv w)
  have PX : Hid (∀ w : World, Calls Tryd.prog 22 #[.string (hexB v)] w fun e' w' => e' = .returned (.tuple #[.int .u32 v, .nilIface]) ∧ w = w') := Lib.hid (fun w => by have h := parse_any (hexB v) w; rw [parse_hex v hv] at h; exact h)
  have NU := Lib.hid (fun w' (hb : Below w.heap.size w w') => num_any e w' ((World.cell?_of_block (a := ⟨2, 0, none⟩) (hb.block _ (block_lt_of_cell hg))).trans hg))
  generalize errV e = ev at *
  generalize hexB v = H at *
  clear hc hg
  go_enter Tryd.func6, Tryd.ntmps6
  go_wp2_with (first | (go_at_call 22; (with_reducible refine (P.out _).mono ?_); rintro e w' ⟨rfl, rfl⟩) | (go_at_call 22; (with_reducible refine (PX.out _).mono ?_); rintro e w' ⟨rfl, rfl⟩) | (go_at_call 23; refine (R.out _).mono ?_; rintro e w' ⟨rfl, k1, rfl⟩; have G1 := Lib.hid (below_drewN (Below.refl w.heap.size w) k1)) | (go_at_call 24; refine (HX.out _ G2.out).mono ?_; rintro e w3 ⟨rfl, hb⟩; have G3 := Lib.hid (G2.out.trans (hb.mono G2.out.size)); clear hb) | (go_at_call 24; refine (HX.out _ G1.out).mono ?_; rintro e w2 ⟨rfl, hb⟩; have G2 := Lib.hid (G1.out.trans (hb.mono G1.out.size)); clear hb) | (go_at_call 25; refine (RX.out _).mono ?_; rintro e w' ⟨rfl, rfl⟩) | (go_at_call 19; refine (NU.out _ G3.out).mono ?_; rintro e w4 ⟨rfl, hb⟩; have G4 := Lib.hid (G3.out.trans (hb.mono G3.out.size)); clear hb) | (go_at_call 16; refine (sureW_any _).mono ?_; rintro e w5 ⟨rfl, hb⟩; have G5 := Lib.hid (G4.out.trans (hb.mono G4.out.size)); clear hb))
  go_ret
  exact ⟨rfl, G5.out⟩
theorem wordHex_walk (v : Nat) (hv : v < 4294967296) (s : ByteArray) (w : World) (hc : w.cell? ⟨5, 15, none⟩ = some (.int .u8 4)) (hg : w.cell? ⟨2, 0, none⟩ = some errTy) :
    Calls Tryd.prog 6 #[.int .u32 v, .string s] w fun e w' => e = .returned (.bool true) ∧ Below w.heap.size w w' := by
  cases h : parseN s with
  | none => exact wordHex_core v hv s 0 3 (Lib.hid fun w => by have h' := parse_any s w; rw [h] at h'; exact h') (Lib.hid fun w => by have h' := rparse_any s w; rw [h] at h'; exact h') w hc hg
  | some r => exact wordHex_core v hv s r 0 (Lib.hid fun w => by have h' := parse_any s w; rw [h] at h'; exact h') (Lib.hid fun w => by have h' := rparse_any s w; rw [h] at h'; exact h') w hc hg
/-- what the condition gives a walk: the table's cell and the variable's -/
theorem door_t32 : Tryd.prog.globalNamed "math/bits.deBruijn32tab" = some 1 := by kernel_rfl
theorem door_t64 : Tryd.prog.globalNamed "math/bits.deBruijn64tab" = some 5 := by kernel_rfl
theorem door_t64T : (Tryd.prog.globals[5]?).map (·.type) = some 140 := by kernel_rfl
def cOf (d : DataW Unit) : Int := match d with | .lit (.int _ n) => n | _ => 0
def qOf (d : DataW Unit) : List (DataW Unit) := match d with | .agg l => l | _ => []
abbrev hexLaid : List (String × DataW Unit) := [("math/bits.deBruijn32tab", Rows.laid_math_bits_deBruijn32tab), ("math/bits.deBruijn64tab", Rows.laid_math_bits_deBruijn64tab), ("internal/strconv.uint64pow10", Rows.laid_internal_strconv_uint64pow10), ("errors.errorType", Rows.laid_errors_errorType)]
abbrev hexData : List (String × DataW Unit) := [("math/bits.deBruijn32tab", Rows.laid_math_bits_deBruijn32tab), ("math/bits.deBruijn64tab", Rows.laid_math_bits_deBruijn64tab), ("internal/strconv.uint64pow10", Rows.laid_internal_strconv_uint64pow10)]
theorem hex_of_laid {W : World} (h : laidMetH Tryd.prog hexLaid W) : W.cell? ⟨5, 15, none⟩ = some (.int .u8 4) ∧ W.cell? ⟨2, 0, none⟩ = some errTy := by
  have h' : laidMet Tryd.prog hexData W ∧ handlesMet Tryd.prog [("errors.errorType", Rows.laid_errors_errorType)] W := h
  obtain ⟨ps, ⟨g, t, cs, fuel, p, q, hg, ht, hvar, hd, ⟨g2, t2, cs2, fuel2, p2, q2, hg2, ht2, hvar2, hd2, _, _⟩, _⟩, _⟩ := h'.1
  refine ⟨?_, handle_of_laid ⟨⟨[], rfl, List.nodup_nil, fun _ _ h => by cases h⟩, h'.2⟩⟩
  obtain rfl := Option.some.inj (door_t64.symm.trans hg2)
  obtain rfl := Option.some.inj (door_t64T.symm.trans ht2)
  have hd2' : DataW.trod (fun _ => ()) Tryd.prog W 0 (fun _ => true) false fuel2 140 cs2.toList = some (.agg (qOf Rows.laid_math_bits_deBruijn64tab), p2) := hd2
  obtain ⟨_, k2⟩ := tab_at Tryd.underlying140 (by kernel_rfl) (by kernel_rfl) hd2'
  obtain ⟨c, f, y, hc, hy, hdj⟩ := k2 15 (by decide)
  obtain ⟨n, rfl, hy1⟩ := int_at Tryd.underlying5 hy
  have e : ((qOf Rows.laid_math_bits_deBruijn64tab).map cOf).getD 15 0 = 4 := by decide +kernel
  rw [hy1] at hdj
  simp only [List.getD, List.getElem?_map, hdj, Option.map_some, Option.getD_some, cOf] at e
  rw [World.var?_cell hg2 hvar2 15, ← Array.getElem?_toList, hc, e]
def rowOf (k : IntKind) (d : DataW Unit) : Array Value := ((qOf d).map fun x => Value.int k (cOf x)).toArray
noncomputable def laidWorldX (os : Os) : World :=
  let w0 := laidWorld os
  { w0 with heap := ((w0.heap.modify 1 fun
      | .cells _ t frozen => .cells (rowOf .u8 Rows.laid_math_bits_deBruijn32tab) t frozen
      | o => o).modify 5 fun
      | .cells _ t frozen => .cells (rowOf .u8 Rows.laid_math_bits_deBruijn64tab) t frozen
      | o => o).modify 4 fun
      | .cells _ t frozen => .cells (rowOf .u64 Rows.laid_internal_strconv_uint64pow10) t frozen
      | o => o }
theorem laidWorldX_met (os : Os) (args : Array Value) : laidMetH Tryd.prog hexLaid ((laidWorldX os).forCall (fun _ _ => 0) ⟨#[], args, []⟩).memory :=
  laidMetH_of_parts (laidMet_of_run' (l := hexData) 8 (by kernel_rfl) (by kernel_rfl)) (by kernel_rfl)

end Go.Proofs.YtaknbakkahlilaaDoor
