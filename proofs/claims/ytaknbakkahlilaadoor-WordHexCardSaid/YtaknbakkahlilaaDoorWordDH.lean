import Derived.Test.YtaknbakkahlilaaDoorWordDB
import Derived.Test.YtaknbakkahlilaaDoorDoorK
import Derived.RangeFuncNested
import Derived.RangeFuncBound
import Derived.RangeFuncCalls
import Derived.RangeFuncLeaves
import Derived.RangeFuncBox
import Derived.RangeFuncFrom
import Derived.RangeFuncWrites
import Derived.Shelf.Abstract
import Derived.WalkKit
import Derived.OwnWalkIn
import Derived.TacticsInMore
import Derived.LoopNIn
import Derived.LoopIn
import Derived.Lib.Hide
import Derived.Laws.BitsAllLaws
import Derived.WideLaws
import Derived.LaidEql
import Derived.Laws.Rows
namespace Go.Proofs.YtaknbakkahlilaaDoor
open Go.RowKit Go.Shelf
attribute [local go_sem] Oper.semAt_some
set_option maxRecDepth 100000
set_option linter.unusedVariables false
set_option linter.unusedSimpArgs false

/-- what has come when k rounds are over, from the last element down -/
def downs (len : Nat) (f : Nat → UInt8) (k : Nat) : List (Nat × UInt8) := (List.range k).map fun j => (len - 1 - j, f (len - 1 - j))
theorem downs_succ (len : Nat) (f : Nat → UInt8) (k : Nat) : downs len f (k + 1) = downs len f k ++ [(len - 1 - k, f (len - 1 - k))] := by simp [downs, List.range_succ]
theorem downs_length (len : Nat) (f : Nat → UInt8) (k : Nat) : (downs len f k).length = k := by simp [downs]

/-- what a round keeps: what lay below n₀, and the box Bs -/
def KB (n₀ Bs : Nat) (A B : World) : Prop := Below n₀ A B ∧ (Bs < A.heap.size → B.heap[Bs]? = A.heap[Bs]?)
theorem KB.refl (n₀ Bs : Nat) (A : World) : KB n₀ Bs A A := ⟨Below.refl _ _, fun _ => rfl⟩
theorem KB.trans {n₀ Bs : Nat} {A B C : World} (h : KB n₀ Bs A B) (k : KB n₀ Bs B C) : KB n₀ Bs A C :=
  ⟨h.1.trans k.1, fun hs => (k.2 (Nat.lt_of_lt_of_le hs h.1.size)).trans (h.2 hs)⟩
theorem KB.box {n₀ Bs : Nat} {A B : World} (h : KB n₀ Bs A B) {v : Value} (hv : A.cell? ⟨Bs, 0, none⟩ = some v) : B.cell? ⟨Bs, 0, none⟩ = some v := by
  have hlt : Bs < A.heap.size := block_lt_of_cell hv
  have := h.2 hlt
  simpa [World.cell?, this] using hv

set_option maxHeartbeats 2000000 in
theorem back1_in (F : Fence) (n : Nat) (h8 : F.fn 57) (hro : F.round = none) (hn : 1 ≤ n) (l Bs n₀ b off len cap : Nat) (f : Nat → UInt8) (hlen : len ≤ 4) (hb : b < n₀) (J Jx : List (Nat × UInt8) → World → Prop)
    (hY : ∀ pre x W, J pre W → pre.length < len → YieldAt F (n - 1) Tryd.prog l #[.int .i64 (x.1 : Int), .int .u8 (x.2.toNat : Int)] W fun e W' =>
      (e = .returned (.bool true) ∧ J (pre ++ [x]) W' ∧ KB n₀ Bs W W') ∨ (e = .returned (.bool false) ∧ Jx (pre ++ [x]) W'))
    (W : World) (hBs : W.cell? ⟨Bs, 0, none⟩ = some (.slice (some ⟨b, off, none⟩) len cap)) (hc : ∀ j, j < len → W.cell? ⟨b, off + j, none⟩ = some (.int .u8 ((f j).toNat : Int))) (h0 : J [] W) :
    CallsIn F n Tryd.prog 57 #[.func (.yield l) #[] #[], .pointer (some ⟨Bs, 0, none⟩)] W fun e W' => (∃ v, e = .returned v) ∧
      ((∃ ys, ys = downs len f len ∧ J ys W') ∨ (∃ pre, (∃ k, k ≤ len ∧ pre = downs len f k) ∧ Jx pre W')) := by
  refine callsIn_of_wp Tryd.func57 rfl h8 ?_ hro
  simp only [Tryd.ntmps57, List.size_toArray, List.length_cons, List.length_nil, Nat.reduceAdd, Nat.reduceSub, Array.replicate_succ, Array.replicate_zero, List.push_toArray, List.append_toArray, List.nil_append, List.cons_append]
  gi_wp2
  gi_loopw [3] (fun i wr => ∃ k : Nat, k ≤ len ∧ i = .int .i64 ((len : Int) - 1 - k) ∧ J (downs len f k) wr ∧ KB n₀ Bs W wr)
    (fun i _ => (intOf i + 1).toNat)
  case atStart => exact ⟨0, Nat.zero_le _, by simp, h0, KB.refl _ _ _⟩
  case round =>
    obtain ⟨k, hk, rfl, hJs, hnx⟩ := hrel
    rename_i wr
    have hbs' : wr.cell? ⟨Bs, 0, none⟩ = some (.slice (some ⟨b, off, none⟩) len cap) := hnx.box hBs
    by_cases hlt : k < len
    · obtain ⟨m, hm⟩ : ∃ m : Nat, m = len - 1 - k := ⟨_, rfl⟩
      have hmI : (len : Int) - 1 - k = m := by omega
      have hml : m < len := by omega
      rw [hmI]
      obtain ⟨fn, tmps, assign, body, hy, hR⟩ := hY _ (m, f m) wr hJs (by rw [downs_length]; exact hlt)
      dsimp only at hy
      have hcx' : wr.cell? ⟨b, off + m, none⟩ = some (.int .u8 ((f m).toNat : Int)) := (hnx.1.cell (p := ⟨b, off + m, none⟩) hb).trans (hc m hml)
      have HM := Lib.hid hm
      have HMI := Lib.hid hmI
      clear hm hmI
      gi_wp2
      refine hR.mono ?_
      rintro e W3 (⟨rfl, hJ3, hk3⟩ | ⟨rfl, hJx3⟩)
      · gi_wp2
        go_roundw
        case rel => exact ⟨k + 1, by omega, by have := HMI.out; congr 1; omega, by rw [downs_succ, ← HM.out]; exact hJ3, hnx.trans hk3⟩
        case measure => simp [intOf]
      · gi_wp2
        refine bodyPost_ret (results_none rfl _ _ _) rfl ?_
        exact ⟨⟨_, rfl⟩, .inr ⟨_, ⟨k + 1, by omega, by rw [downs_succ, ← HM.out]⟩, hJx3⟩⟩
    · obtain rfl : k = len := by omega
      have e1 : (k : Int) - 1 - k = -1 := by omega
      rw [e1]
      clear e1
      gi_wp2
      go_end0
      exact ⟨⟨_, rfl⟩, .inl ⟨_, rfl, hJs⟩⟩
theorem back_in (F : Fence) (n : Nat) (h6 : F.fn 44) (hro : F.round = none) (a : Option Addr) (len cap : Nat) (w : World) :
    CallsIn F n Tryd.prog 44 #[.slice a len cap] w fun e w' => e = .returned (.func (.func 57) #[] #[.pointer (some ⟨w.heap.size, 0, none⟩)]) ∧ w' = w.alloc (.cells #[.slice a len cap] 28) := by
  refine callsIn_of_wp Tryd.func44 rfl h6 ?_ hro
  simp only [Tryd.ntmps44, List.size_toArray, List.length_cons, List.length_nil, Nat.reduceAdd, Nat.reduceSub, Array.replicate_succ, Array.replicate_zero, List.push_toArray, List.append_toArray, List.nil_append, List.cons_append]
  gi_wp2
  go_ret
  exact ⟨rfl, rfl⟩
theorem back_stops (F : Fence) (n : Nat) (h8 : F.fn 57) (hro : F.round = none) (hn : 1 ≤ n) (Bs n₀ b off len cap : Nat) (f : Nat → UInt8) (hlen : len ≤ 4) (hb : b < n₀) (w : World) (hn₀ : n₀ ≤ w.heap.size)
    (hc : w.cell? ⟨Bs, 0, none⟩ = some (.slice (some ⟨b, off, none⟩) len cap)) (hI : ∀ j, j < len → w.cell? ⟨b, off + j, none⟩ = some (.int .u8 ((f j).toNat : Int))) :
    SeqStopsK F n Tryd.prog 57 #[.pointer (some ⟨Bs, 0, none⟩)] (fun x : Nat × UInt8 => #[Value.int .i64 (x.1 : Int), Value.int .u8 (x.2.toNat : Int)]) (KB n₀ Bs) (fun ys => ys = downs len f len)
      (fun pre => ∃ k, k ≤ len ∧ pre = downs len f k) len w := fun l J Jx W hW _ _ hY h0 =>
  back1_in F n h8 hro hn l Bs n₀ b off len cap f hlen hb J Jx hY W ((hW.cell (p := ⟨Bs, 0, none⟩) (block_lt_of_cell hc)).trans hc)
    (fun j hj => (hW.cell (p := ⟨b, off + j, none⟩) (Nat.lt_of_lt_of_le hb hn₀)).trans (hI j hj)) h0

/-- the number of the error, if there is no number of n bytes at a place; else 0 -/
def chk (len : Nat) (at_ n : Int) : Int := if n ≠ 1 ∧ n ≠ 2 ∧ n ≠ 4 then 21 else if at_ < 0 ∨ (len : Int) - n < at_ then 4 else if at_ % n ≠ 0 then 5 else 0
theorem wraps_i63 (n : Int) (h₀ : 0 ≤ n) (h₁ : n < 2 ^ 63) : IntKind.i64.wrap n = n := by rw [Go.IntKind.wrap_i64]; omega
theorem i64_mask (i : Nat) (hi : i ≤ 63) (x : Int) (h0 : 0 ≤ x) (h1 : x < 9223372036854775808) : Go.bits .and .i64 x (2 ^ i - 1) = x % 2 ^ i :=
  Go.bits_mask .i64 63 (by decide) wraps_i63 i hi x h0 (by rw [show (2 : Int) ^ 63 = 9223372036854775808 from by decide]; exact h1)

set_option maxHeartbeats 1000000 in
theorem check_any (A : Option Addr) (len cap : Nat) (at_ n : Int) (hlen : len ≤ 140737488351232) (w : World) :
    Calls Tryd.prog 43 #[.slice A len cap, .int .i64 at_, .int .i64 n] w fun e w' => e = .returned (errV (chk len at_ n)) ∧ w = w' := by
  by_cases h1 : n = 1 ∨ n = 2 ∨ n = 4
  · by_cases h2 : at_ < 0
    · have e : errV (chk len at_ n) = .iface 78 (.int .i64 4) := by
        unfold chk; rw [if_neg (by omega), if_pos (.inl h2)]; rfl
      rw [e]
      clear e
      rcases h1 with rfl | rfl | rfl
      all_goals
        go_enter Tryd.func43, Tryd.ntmps43
        go_wp2
        go_ret
        exact ⟨rfl, rfl⟩
    · obtain ⟨k, rfl⟩ := Int.eq_ofNat_of_zero_le (show 0 ≤ at_ by omega)
      clear h2
      by_cases h3 : (len : Int) - n < k
      · have e : errV (chk len k n) = .iface 78 (.int .i64 4) := by
          unfold chk; rw [if_neg (by omega), if_pos (.inr h3)]; rfl
        rw [e]
        clear e
        rcases h1 with rfl | rfl | rfl
        all_goals
          go_enter Tryd.func43, Tryd.ntmps43
          go_wp2
          go_ret
          exact ⟨rfl, rfl⟩
      · have hk : k ≤ 140737488351232 := by omega
        have m0 := i64_mask 0 (by omega) k (by omega) (by omega)
        have m1 := i64_mask 1 (by omega) k (by omega) (by omega)
        have m2 := i64_mask 2 (by omega) k (by omega) (by omega)
        simp only [Int.pow_zero, Int.reducePow, Int.reduceSub, Int.sub_self] at m0 m1 m2
        rw [Int.emod_one] at m0
        have h3' : (k : Int) ≤ (len : Int) - n := by omega
        clear h3
        by_cases h4 : (k : Int) % n = 0
        · have e : errV (chk len k n) = .nilIface := by
            unfold chk; rw [if_neg (by omega), if_neg (by omega), if_neg (by omega)]; rfl
          rw [e]
          clear e
          rcases h1 with rfl | rfl | rfl
          all_goals
            go_enter Tryd.func43, Tryd.ntmps43
            go_wp2
            go_ret
            exact ⟨rfl, rfl⟩
        · have e : errV (chk len k n) = .iface 78 (.int .i64 5) := by
            unfold chk; rw [if_neg (by omega), if_neg (by omega), if_pos h4]; rfl
          rw [e]
          clear e
          rcases h1 with rfl | rfl | rfl
          · omega
          all_goals
            go_enter Tryd.func43, Tryd.ntmps43
            go_wp2
            go_ret
            exact ⟨rfl, rfl⟩
  · have e : errV (chk len at_ n) = .iface 78 (.int .i64 21) := by
      unfold chk; rw [if_pos (by omega)]; rfl
    rw [e]
    clear e
    have n1 : (n != 1) = true := by simp; omega
    have n2 : (n != 2) = true := by simp; omega
    have n4 : (n != 4) = true := by simp; omega
    clear h1
    go_enter Tryd.func43, Tryd.ntmps43
    go_wp2
    go_ret
    exact ⟨rfl, rfl⟩

theorem get_err (A : Option Addr) (len cap : Nat) (at_ n : Int) (hlen : len ≤ 140737488351232) (w : World) (h : chk len at_ n ≠ 0) :
    Calls Tryd.prog 17 #[.slice A len cap, .int .i64 at_, .int .i64 n] w fun e w' => e = .returned (.tuple #[.int .u32 0, errV (chk len at_ n)]) ∧ w = w' := by
  have C := Lib.hid (fun w => check_any A len cap at_ n hlen w)
  generalize chk len at_ n = c at C h ⊢
  have hE : errV c = .iface 78 (.int .i64 c) := by unfold errV; rw [if_neg h]
  rw [hE] at C ⊢
  go_enter Tryd.func17, Tryd.ntmps17
  go_wp2_with (go_at_call 43; refine (C.out _).mono ?_; rintro e w' ⟨rfl, rfl⟩)
  go_ret2
  exact ⟨rfl, rfl⟩

/-- the number of n bytes -/
def getN (f : Nat → UInt8) (k : Nat) : Nat → Nat
  | 0 => 0
  | n + 1 => (f k).toNat + 256 * getN f (k + 1) n
/-- what the bytes that have come make, the highest first -/
def valD (l : List (Nat × UInt8)) : Nat := l.foldl (fun v x => v * 256 + x.2.toNat) 0
theorem valD_snoc (l : List (Nat × UInt8)) (x : Nat × UInt8) : valD (l ++ [x]) = valD l * 256 + x.2.toNat := by simp [valD]
theorem byte_lt (x : UInt8) : x.toNat < 256 := x.toNat_lt
theorem foldl_lt : ∀ (l : List (Nat × UInt8)) (a : Nat), l.foldl (fun v x => v * 256 + x.2.toNat) a < (a + 1) * 256 ^ l.length
  | [], a => by simp
  | x :: l, a => by
    have ih := foldl_lt l (a * 256 + x.2.toNat)
    have hx := byte_lt x.2
    rw [List.foldl_cons, List.length_cons, Nat.pow_succ]
    refine Nat.lt_of_lt_of_le ih ?_
    rw [Nat.mul_comm (256 ^ l.length) 256, ← Nat.mul_assoc]
    exact Nat.mul_le_mul_right _ (by omega)
theorem valD_lt (l : List (Nat × UInt8)) : valD l < 256 ^ l.length := by
  have := foldl_lt l 0
  simpa [valD] using this
theorem valD_downs_aux (g : Nat → UInt8) (n : Nat) : ∀ j, j ≤ n → valD (downs n g j) = getN g (n - j) j
  | 0, _ => by simp [valD, downs, getN]
  | j + 1, h => by
    rw [downs_succ, valD_snoc, valD_downs_aux g n j (by omega), getN, show n - (j + 1) = n - 1 - j by omega, show n - 1 - j + 1 = n - j by omega]
    simp only
    omega
theorem getN_shift (f : Nat → UInt8) (k : Nat) : ∀ n i, getN (fun j => f (k + j)) i n = getN f (k + i) n
  | 0, _ => rfl
  | n + 1, i => by rw [getN, getN, getN_shift f k n (i + 1)]; rfl
theorem valD_downs (f : Nat → UInt8) (k n : Nat) : valD (downs n (fun j => f (k + j)) n) = getN f k n := by
  rw [valD_downs_aux _ n n (Nat.le_refl _), Nat.sub_self, getN_shift]; rfl
theorem get_step (v : Nat) (c : UInt8) (hv : v < 16777216) : Go.bits .or .u32 ((v : Int) * 256) ((c.toNat : Int) % 4294967296) = ((v * 256 + c.toNat : Nat) : Int) := by
  have hc := byte_lt c
  rw [show ((v : Int) * 256) = ((v * 256 : Nat) : Int) by omega, show ((c.toNat : Int) % 4294967296) = ((c.toNat : Nat) : Int) by omega, Go.u32_or_nat _ _ (by omega) (by omega)]
  rw [Go.nat_join 8 _ _ (by omega) (by omega)]
theorem KB_b {n₀ Bs : Nat} {w : World} (hn : n₀ ≤ w.heap.size) (hB : Bs < w.heap.size) (W : World) (l : Nat) (o o' : Obj) (hl : w.heap.size ≤ l) (h : W.heap[l]? = some o) (h1 : o.isCells = false) (h2 : o.isWalk = false) : KB n₀ Bs W (W.putObj l o') :=
  ⟨belowK_b hn W l o o' hl h h1 h2, fun _ => (grownBy_putObj' W l o').block Bs (by have := (Array.getElem?_eq_some_iff.1 h).1; omega) (by simp; omega)⟩

set_option maxHeartbeats 4000000 in
theorem get_any (b off len cap : Nat) (f : Nat → UInt8) (k n : Nat) (hlen : len ≤ 140737488351232) (hcap : len ≤ cap) (w : World) (hn : n = 1 ∨ n = 2 ∨ n = 4) (hk : k + n ≤ len) (hc0 : chk len k n = 0) (hb : b < w.heap.size)
    (hc : ∀ j, j < len → w.cell? ⟨b, off + j, none⟩ = some (.int .u8 ((f j).toNat : Int))) :
    Calls Tryd.prog 17 #[.slice (some ⟨b, off, none⟩) len cap, .int .i64 k, .int .i64 n] w fun e w' => e = .returned (.tuple #[.int .u32 (getN f k n), .nilIface]) ∧ Below w.heap.size w w' := by
  refine (callsIn_wide (n := 9)).1 ?_
  have C := Lib.hid (fun w => check_any (some ⟨b, off, none⟩) len cap k n hlen w)
  rw [hc0] at C
  have hE : errV 0 = .nilIface := rfl
  rw [hE] at C
  have hn4 : n ≤ 4 := by omega
  have hn1 : 1 ≤ n := by omega
  have hkI : (k : Int) + n ≤ len := by omega
  have hkc : k + n ≤ cap := by omega
  have hV := valD_downs f k n
  clear hE hc0 hn
  refine callsIn_of_wp_marks Tryd.func17 rfl (by trivial) ?_ rfl
  simp only [Tryd.ntmps17, List.size_toArray, List.length_cons, List.length_nil, Nat.reduceAdd, Nat.reduceSub, Array.replicate_succ, Array.replicate_zero, List.push_toArray, List.append_toArray, List.nil_append, List.cons_append]
  gi_wp2_with (first | (refine ⟨trivial, ?_⟩; gi_at_call 43; refine (callsIn_wide.2 (C.out _)).mono ?_; rintro e w' ⟨rfl, rfl⟩) | (refine ⟨trivial, ?_⟩; gi_at_call 44; refine (back_in Fence.wide _ trivial rfl _ _ _ _).mono ?_; rintro e w' ⟨rfl, rfl⟩))
  have bV := Boxed.new w 22 (.int .u32 0)
  have bN := Boxed.new (w.alloc (.cells #[.int .u32 0] 22)) 28 (.slice (some ⟨b, off + k, none⟩) n (cap - k))
  rw [World.size_alloc] at bN
  have hB0 : Below w.heap.size w ((w.alloc (.cells #[.int .u32 0] 22)).alloc (.cells #[.slice (some ⟨b, off + k, none⟩) n (cap - k)] 28)) := ((Below.refl _ w).alloc (Nat.le_refl _) _).alloc (by simp) _
  refine wpIn_rangeFunc_ownG rfl (by omega) (gf := 57) (lb := #[.pointer (some ⟨w.heap.size + 1, 0, none⟩)]) rfl (by trivial) (enters_of Tryd.func57 (by kernel_rfl) rfl)
    (back_stops Fence.wide _ trivial rfl (by omega) (w.heap.size + 1) w.heap.size b (off + k) n (cap - k) (fun j => f (k + j)) hn4 hb _ (by simp; omega) bN.cell
      (fun j hj => by rw [Nat.add_assoc]; exact (hB0.cell (p := ⟨b, off + (k + j), none⟩) hb).trans (hc (k + j) (by omega)))) KB.trans (KB_b (by simp; omega) (by simp)) (Below.refl _ _) (fun _ => rfl)
    (fun pre W => (W.cell? ⟨w.heap.size, 0, none⟩ = some (.int .u32 (valD pre : Nat)) ∧ W.frozen? ⟨w.heap.size, 0, none⟩ = false) ∧ Below w.heap.size w W)
    (fun _ _ _ => False)
    (OwnFrom.and (Own.from (fun s A B row hs hg hr => ⟨cell_kept hs.1 hg hr, (frozen_kept hs.1 hg hr).trans hs.2⟩) _) (ownFrom_below (Nat.le_refl _) (by simp; omega)))
    (fun _ _ _ _ _ hs _ _ => hs)
    ⟨⟨(bV.alloc _).cell, (bV.alloc _).frozen⟩, hB0⟩
    (fun x => { tmps := #[.slice (some ⟨b, off, none⟩) len cap, .int .i64 k, .int .i64 n, undef, undef, undef, .int .u32 0, .nilIface, .nilIface, .pointer (some ⟨w.heap.size, 0, none⟩), undef, .int .u8 (x.2.toNat : Int),
      .slice (some ⟨b, off, none⟩) len cap, .int .i64 k, .int .i64 n, .nilIface, .nilIface, .bool false, undef, .slice (some ⟨b, off, none⟩) len cap, .int .i64 k, .int .i64 k, .int .i64 n, .int .i64 ((k : Int) + n),
      .slice (some ⟨b, off + k, none⟩) n (cap - k), .func (.func 57) #[] #[.pointer (some ⟨w.heap.size + 1, 0, none⟩)], .int .i64 (x.1 : Int), .int .u8 (x.2.toNat : Int), undef, undef, undef, undef, undef, undef], defers := [] }) ?assign ?body ?done ?stop
  case assign =>
    intro l x W K hK
    gi_wp2
    exact hK
  case body =>
    rintro l pre x W ⟨⟨hc, hf⟩, hB⟩ hlt
    have hv : valD pre < 16777216 := Nat.lt_of_lt_of_le (valD_lt pre) (by
      have : pre.length ≤ 3 := by omega
      exact Nat.le_trans (Nat.pow_le_pow_right (by omega) this) (by decide))
    have hs := get_step (valD pre) x.2 hv
    have HS := Lib.hid hs
    clear hs
    gi_wp2
    exact ⟨(KeepsOthers.setCell _ _ _).from _, ⟨(Below.refl w.heap.size W).setCell (p := ⟨w.heap.size, 0, none⟩) (Nat.le_refl _) _, fun _ => heap_setCell_other W ⟨w.heap.size, 0, none⟩ _ _ (by simp)⟩,
      ⟨by rw [HS.out, valD_snoc]; exact World.cell?_setCell_same' _ _ _ (by rw [hc]; rfl), by rw [World.frozen?_setCell]; exact hf⟩, hB.setCell (p := ⟨w.heap.size, 0, none⟩) (Nat.le_refl _) _⟩
  case done =>
    rintro D ys W hD rfl ⟨⟨hc, _⟩, hB⟩ hK
    rw [hV] at hc
    gi_wp2
    refine ⟨by simp, .inl ⟨_, _, rfl, run_takeDeferred hK, ?_⟩⟩
    exact ⟨_, results_tmp2 rfl _ _ _, rfl, hB.trans (belowK_b (w := w) (Nat.le_refl _) W D _ _ (by simp at hD; omega) hK rfl rfl)⟩
  case stop =>
    rintro D c pre W _ _ h _
    exact h.elim

end Go.Proofs.YtaknbakkahlilaaDoor
