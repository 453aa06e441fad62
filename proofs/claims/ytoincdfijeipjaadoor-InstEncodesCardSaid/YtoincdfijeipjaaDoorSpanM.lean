import Derived.Test.YtoincdfijeipjaaDoorDownM
import Derived.Below
import Derived.Deep.Draws
import Derived.Deep.AppendLies
import Derived.Maps.AppendAt
import Derived.OwnWalk
import Derived.Laws.BytesArg
import Derived.Laws.MakeOwn
import Derived.Laws.OwnMore
import Derived.Deep.OwnRows
import Derived.Tactics
import Derived.Lib.ConvBytes
import Derived.Laws.Slices
import Derived.WalkKit
import Derived.KernelRfl
import Derived.RowKit3
import Derived.Deep.LoopGhost
import Derived.Deep.QuietTactic
import Derived.BigQuiet
import Derived.WideLaws
import Derived.Deep.DeepCutAuto
import Derived.Deep.CutBlock
import Derived.Deep.RegionHeld3
import Derived.Laws.Rows
import Derived.Lib.AppendStr
import Derived.ArgAppend
import Derived.Laws.IdiomCopy
import Derived.OrdersHeld
import Derived.Laws.BitsLemmas
import Derived.RowKit
import Derived.Lib.Hide
import Derived.Laws.BitsAllLaws
import Derived.WalkLawsBesides
import Derived.WalkSpells
import Derived.LaidEql
namespace Go.Proofs.YtoincdfijeipjaaDoor
open Go.RowKit
set_option maxRecDepth 100000
set_option linter.unusedVariables false
set_option linter.unusedSimpArgs false

theorem down_at (A B : Int) (a b : Nat) (hA : A = (a : Nat)) (hB : B = (b : Nat)) (hab : b ≤ a + 1) (ha : a ≤ 31) (r : Value) (l : List Nat) (base : Nat) (hl : l.length ≤ 32) (w : World) (hbase : base ≤ w.heap.size) (h : RowN w base r l) :
    Calls Tryd.prog 44 #[r, .int .i64 A, .int .i64 B] w fun e w' => ∃ r', e = .returned r' ∧ RowN w' base r' (l ++ dn a b) ∧ Below base w w' := by
  subst hA hB
  exact down_any a b hab ha r l base hl w hbase h
theorem bits_at (C : Int) (c : Nat) (hC : C = (c : Nat)) (x : Nat) (hx : x < 4294967296) (l : List Nat) (hl : l.length ≤ 20) (hp : ∀ q, q ∈ l → q ≤ 31) (h1 : 1 ≤ l.length) (hc : c ≤ 12) (z : Int) (hz : bvN x l * ((2 ^ c : Nat) : Int) = z) (r : Value) (base : Nat) (w : World) (h : RowN w base r l) :
    Calls Tryd.prog 65 #[.int .u32 x, r, .int .i64 C] w fun e w' => e = .returned (.int .i64 z) ∧ ∃ k, w.drewN k = w' := by
  subst hC hz
  exact rbits3_any x hx l hl hp h1 c hc r base w h
set_option maxHeartbeats 2000000 in
theorem number_k85 (x : Nat) (hx : x < 4294967296) (w : World) : Calls Tryd.prog 42 #[.int .u8 85, .int .u32 x] w fun e w' => e = .returned (.int .i64 (immOf 85 x)) ∧ Below w.heap.size w w' := by
  obtain ⟨z, hz⟩ : ∃ z, immOf 85 x = z := ⟨_, rfl⟩
  obtain ⟨L1, hL1⟩ : ∃ L, dn 31 12 = L := ⟨_, rfl⟩
  have D1 := Lib.hid (down_at 31 12 31 12 rfl rfl (by decide) (by decide) (.slice none 0 0) [] w.heap.size (by decide) w (Nat.le_refl _) (World.ownsRow_nil _ _ _ _))
  rw [List.nil_append] at D1
  have B := Lib.hid (fun r w' h => bits_at 12 12 rfl x hx (dn 31 12) (by decide) (by decide) (by decide) (by decide) _ ((num_U x hx).trans hz) r w.heap.size w' h)
  rw [hL1] at D1 B
  rw [hz]
  clear hz hL1
  go_enter Tryd.func42, Tryd.ntmps42
  go_wp2_with (first | (go_at_call 44; (with_reducible refine D1.out.mono ?_); rintro e w1 ⟨r1, rfl, hr, hb⟩; have HR1 := Lib.hid hr; have HB1 := Lib.hid hb; clear hr hb) | (go_at_call 65; (with_reducible refine (B.out _ _ HR1.out).mono ?_); rintro e w9 ⟨rfl, k, rfl⟩))
  go_ret
  exact ⟨rfl, below_drewN HB1.out k⟩
set_option maxHeartbeats 2000000 in
theorem number_k73 (x : Nat) (hx : x < 4294967296) (w : World) : Calls Tryd.prog 42 #[.int .u8 73, .int .u32 x] w fun e w' => e = .returned (.int .i64 (immOf 73 x)) ∧ Below w.heap.size w w' := by
  obtain ⟨z, hz⟩ : ∃ z, immOf 73 x = z := ⟨_, rfl⟩
  obtain ⟨L1, hL1⟩ : ∃ L, dn 31 20 = L := ⟨_, rfl⟩
  have D1 := Lib.hid (down_at 31 20 31 20 rfl rfl (by decide) (by decide) (.slice none 0 0) [] w.heap.size (by decide) w (Nat.le_refl _) (World.ownsRow_nil _ _ _ _))
  rw [List.nil_append] at D1
  have B := Lib.hid (fun r w' h => bits_at 0 0 rfl x hx (dn 31 20) (by decide) (by decide) (by decide) (by decide) _ ((num_I 73 x (by decide) hx).trans hz) r w.heap.size w' h)
  rw [hL1] at D1 B
  rw [hz]
  clear hz hL1
  go_enter Tryd.func42, Tryd.ntmps42
  go_wp2_with (first | (go_at_call 44; (with_reducible refine D1.out.mono ?_); rintro e w1 ⟨r1, rfl, hr, hb⟩; have HR1 := Lib.hid hr; have HB1 := Lib.hid hb; clear hr hb) | (go_at_call 65; (with_reducible refine (B.out _ _ HR1.out).mono ?_); rintro e w9 ⟨rfl, k, rfl⟩))
  go_ret
  exact ⟨rfl, below_drewN HB1.out k⟩
set_option maxHeartbeats 2000000 in
theorem number_k76 (x : Nat) (hx : x < 4294967296) (w : World) : Calls Tryd.prog 42 #[.int .u8 76, .int .u32 x] w fun e w' => e = .returned (.int .i64 (immOf 76 x)) ∧ Below w.heap.size w w' := by
  obtain ⟨z, hz⟩ : ∃ z, immOf 76 x = z := ⟨_, rfl⟩
  obtain ⟨L1, hL1⟩ : ∃ L, dn 31 20 = L := ⟨_, rfl⟩
  have D1 := Lib.hid (down_at 31 20 31 20 rfl rfl (by decide) (by decide) (.slice none 0 0) [] w.heap.size (by decide) w (Nat.le_refl _) (World.ownsRow_nil _ _ _ _))
  rw [List.nil_append] at D1
  have B := Lib.hid (fun r w' h => bits_at 0 0 rfl x hx (dn 31 20) (by decide) (by decide) (by decide) (by decide) _ ((num_I 76 x (by decide) hx).trans hz) r w.heap.size w' h)
  rw [hL1] at D1 B
  rw [hz]
  clear hz hL1
  go_enter Tryd.func42, Tryd.ntmps42
  go_wp2_with (first | (go_at_call 44; (with_reducible refine D1.out.mono ?_); rintro e w1 ⟨r1, rfl, hr, hb⟩; have HR1 := Lib.hid hr; have HB1 := Lib.hid hb; clear hr hb) | (go_at_call 65; (with_reducible refine (B.out _ _ HR1.out).mono ?_); rintro e w9 ⟨rfl, k, rfl⟩))
  go_ret
  exact ⟨rfl, below_drewN HB1.out k⟩
set_option maxHeartbeats 2000000 in
theorem number_k70 (x : Nat) (hx : x < 4294967296) (w : World) : Calls Tryd.prog 42 #[.int .u8 70, .int .u32 x] w fun e w' => e = .returned (.int .i64 (immOf 70 x)) ∧ Below w.heap.size w w' := by
  obtain ⟨z, hz⟩ : ∃ z, immOf 70 x = z := ⟨_, rfl⟩
  obtain ⟨L1, hL1⟩ : ∃ L, dn 31 20 = L := ⟨_, rfl⟩
  have D1 := Lib.hid (down_at 31 20 31 20 rfl rfl (by decide) (by decide) (.slice none 0 0) [] w.heap.size (by decide) w (Nat.le_refl _) (World.ownsRow_nil _ _ _ _))
  rw [List.nil_append] at D1
  have B := Lib.hid (fun r w' h => bits_at 0 0 rfl x hx (dn 31 20) (by decide) (by decide) (by decide) (by decide) _ ((num_I 70 x (by decide) hx).trans hz) r w.heap.size w' h)
  rw [hL1] at D1 B
  rw [hz]
  clear hz hL1
  go_enter Tryd.func42, Tryd.ntmps42
  go_wp2_with (first | (go_at_call 44; (with_reducible refine D1.out.mono ?_); rintro e w1 ⟨r1, rfl, hr, hb⟩; have HR1 := Lib.hid hr; have HB1 := Lib.hid hb; clear hr hb) | (go_at_call 65; (with_reducible refine (B.out _ _ HR1.out).mono ?_); rintro e w9 ⟨rfl, k, rfl⟩))
  go_ret
  exact ⟨rfl, below_drewN HB1.out k⟩
set_option maxHeartbeats 2000000 in
theorem number_k83 (x : Nat) (hx : x < 4294967296) (w : World) : Calls Tryd.prog 42 #[.int .u8 83, .int .u32 x] w fun e w' => e = .returned (.int .i64 (immOf 83 x)) ∧ Below w.heap.size w w' := by
  obtain ⟨z, hz⟩ : ∃ z, immOf 83 x = z := ⟨_, rfl⟩
  obtain ⟨L1, hL1⟩ : ∃ L, dn 31 25 = L := ⟨_, rfl⟩
  obtain ⟨L2, hL2⟩ : ∃ L, (dn 31 25 ++ dn 11 7) = L := ⟨_, rfl⟩
  have D1 := Lib.hid (down_at 31 25 31 25 rfl rfl (by decide) (by decide) (.slice none 0 0) [] w.heap.size (by decide) w (Nat.le_refl _) (World.ownsRow_nil _ _ _ _))
  rw [List.nil_append] at D1
  have D2 := Lib.hid (fun r w' h1 h => down_at 11 7 11 7 rfl rfl (by decide) (by decide) r (dn 31 25) w.heap.size (by decide) w' h1 h)
  have B := Lib.hid (fun r w' h => bits_at 0 0 rfl x hx ((dn 31 25 ++ dn 11 7)) (by decide) (by decide) (by decide) (by decide) _ ((num_S x hx).trans hz) r w.heap.size w' h)
  rw [hL2] at D2 B
  rw [hL1] at D1 D2
  rw [hz]
  clear hz hL1 hL2
  go_enter Tryd.func42, Tryd.ntmps42
  go_wp2_with (first | (go_at_call 44; (with_reducible refine D1.out.mono ?_); rintro e w1 ⟨r1, rfl, hr, hb⟩; have HR1 := Lib.hid hr; have HB1 := Lib.hid hb; clear hr hb) | (go_at_call 44; (with_reducible refine (D2.out _ _ HB1.out.size HR1.out).mono ?_); rintro e w2 ⟨r2, rfl, hr, hb⟩; have HR2 := Lib.hid hr; have HB2 := Lib.hid (HB1.out.trans hb); clear hr hb) | (go_at_call 65; (with_reducible refine (B.out _ _ HR2.out).mono ?_); rintro e w9 ⟨rfl, k, rfl⟩))
  go_ret
  exact ⟨rfl, below_drewN HB2.out k⟩
set_option maxHeartbeats 2000000 in
theorem number_k66 (x : Nat) (hx : x < 4294967296) (w : World) : Calls Tryd.prog 42 #[.int .u8 66, .int .u32 x] w fun e w' => e = .returned (.int .i64 (immOf 66 x)) ∧ Below w.heap.size w w' := by
  obtain ⟨z, hz⟩ : ∃ z, immOf 66 x = z := ⟨_, rfl⟩
  have R0 : RowN (w.alloc (.cells #[.int .i64 31, .int .i64 7] 3)) w.heap.size (.slice (some ⟨w.heap.size, 0, none⟩) 2 2) [31, 7] := rowN_lit w w.heap.size [31, 7] (Nat.le_refl _) (by decide)
  obtain ⟨L1, hL1⟩ : ∃ L, ([31, 7] ++ dn 30 25) = L := ⟨_, rfl⟩
  obtain ⟨L2, hL2⟩ : ∃ L, (([31, 7] ++ dn 30 25) ++ dn 11 8) = L := ⟨_, rfl⟩
  have D1 := Lib.hid (down_at 30 25 30 25 rfl rfl (by decide) (by decide) _ [31, 7] w.heap.size (by decide) _ (by simp) R0)
  have D2 := Lib.hid (fun r w' h1 h => down_at 11 8 11 8 rfl rfl (by decide) (by decide) r (([31, 7] ++ dn 30 25)) w.heap.size (by decide) w' h1 h)
  have B := Lib.hid (fun r w' h => bits_at 1 1 rfl x hx ((([31, 7] ++ dn 30 25) ++ dn 11 8)) (by decide) (by decide) (by decide) (by decide) _ ((num_B x hx).trans hz) r w.heap.size w' h)
  rw [hL2] at D2 B
  rw [hL1] at D1 D2
  rw [hz]
  clear hz hL1 hL2 R0
  go_enter Tryd.func42, Tryd.ntmps42
  go_wp2_with (first | (go_at_call 44; (with_reducible refine D1.out.mono ?_); rintro e w1 ⟨r1, rfl, hr, hb⟩; have HR1 := Lib.hid hr; have HB1 := Lib.hid (((Below.refl _ w).alloc (Nat.le_refl _) _).trans hb); clear hr hb) | (go_at_call 44; (with_reducible refine (D2.out _ _ HB1.out.size HR1.out).mono ?_); rintro e w2 ⟨r2, rfl, hr, hb⟩; have HR2 := Lib.hid hr; have HB2 := Lib.hid (HB1.out.trans hb); clear hr hb) | (go_at_call 65; (with_reducible refine (B.out _ _ HR2.out).mono ?_); rintro e w9 ⟨rfl, k, rfl⟩))
  go_ret
  exact ⟨rfl, below_drewN HB2.out k⟩

theorem rowN_snoc {w : World} {base : Nat} {v : Value} {l m : List Nat} {q : Nat} (e : l ++ [q] = m) (h : w.ownsRow base 3 1 v (l.length + 1) ((l.map fun i => Value.int .i64 (i : Nat)) ++ [.int .i64 (q : Nat)])) : RowN w base v m := by
  subst e
  unfold RowN
  rw [List.map_append, List.length_append]
  exact h
set_option maxHeartbeats 2000000 in
theorem number_k74 (x : Nat) (hx : x < 4294967296) (w : World) : Calls Tryd.prog 42 #[.int .u8 74, .int .u32 x] w fun e w' => e = .returned (.int .i64 (immOf 74 x)) ∧ Below w.heap.size w w' := by
  obtain ⟨z, hz⟩ : ∃ z, immOf 74 x = z := ⟨_, rfl⟩
  have HI : Hid (∃ i, Tryd.prog.info? 3 = some i ∧ i.zero = some (.int .i64 0) ∧ i.size = 1 ∧ i.bytes = 8) := Lib.hid ⟨_, rfl, rfl, rfl, rfl⟩
  have R0 : RowN (w.alloc (.cells #[.int .i64 31] 3)) w.heap.size (.slice (some ⟨w.heap.size, 0, none⟩) 1 1) [31] := rowN_lit w w.heap.size [31] (Nat.le_refl _) (by decide)
  obtain ⟨L1, hL1⟩ : ∃ L, ([31] ++ dn 19 12) = L := ⟨_, rfl⟩
  have D1 := Lib.hid (down_at 19 12 19 12 rfl rfl (by decide) (by decide) _ [31] w.heap.size (by decide) _ (by simp) R0)
  have hl1 : L1.length = 9 := by rw [← hL1]; decide
  obtain ⟨L2, hL2⟩ : ∃ L, L1 ++ [20] = L := ⟨_, rfl⟩
  obtain ⟨L3, hL3⟩ : ∃ L, L2 ++ dn 30 25 = L := ⟨_, rfl⟩
  obtain ⟨L4, hL4⟩ : ∃ L, L3 ++ dn 24 21 = L := ⟨_, rfl⟩
  have hl2 : L2.length = 10 := by rw [← hL2, List.length_append, hl1]; rfl
  have hl3 : L3.length = 16 := by rw [← hL3, List.length_append, hl2]; decide
  have D2 := Lib.hid (fun r w' h1 h => down_at 30 25 30 25 rfl rfl (by decide) (by decide) r L2 w.heap.size (by omega) w' h1 h)
  have D3 := Lib.hid (fun r w' h1 h => down_at 24 21 24 21 rfl rfl (by decide) (by decide) r L3 w.heap.size (by omega) w' h1 h)
  have hL : L4 = (([31] ++ dn 19 12) ++ [20]) ++ dn 30 25 ++ dn 24 21 := by rw [← hL4, ← hL3, ← hL2, ← hL1]
  have B := Lib.hid (fun r w' h => bits_at 1 1 rfl x hx L4 (by rw [hL]; decide) (by rw [hL]; decide) (by rw [hL]; decide) (by decide) z (by rw [hL]; exact (num_J x hx).trans hz) r w.heap.size w' h)
  rw [hL1] at D1
  rw [hL3] at D2
  rw [hL4] at D3
  have HL2 := Lib.hid hL2
  have HL := Lib.hid hl1
  rw [hz]
  clear hz hL hL1 hL2 hL3 hL4 R0 hl2 hl3 hl1
  go_enter Tryd.func42, Tryd.ntmps42
  go_wp2_with (first | (go_at_call 44; (with_reducible refine D1.out.mono ?_); rintro e w1 ⟨r1, rfl, hr, hb⟩; have HR1 := Lib.hid hr; have HB1 := Lib.hid (((Below.refl _ w).alloc (Nat.le_refl _) _).trans hb); have hs1 := HB1.out.size; clear hr hb) | (at_builtin; (obtain ⟨i0, hi, hz0, hz1, hz2⟩ := HI.out); refine wpList_append_own _ rfl _ _ 90 rfl w.heap.size 3 i0 (.int .i64 0) 1 8 Tryd.underlying90 hi hz0 hz1 hz2 rfl (by decide) _ _ _ rfl (HR1.out.alloc _) ⟨w1.heap.size, 0, none⟩ 1 1 [.int .i64 20] rfl rfl (news_i w1 _ _) (by intro u hu; simp at hu; subst hu; rfl) (by rw [HL.out]; unfold maxLen; omega) (by rw [HL.out]; omega) (by simp; omega) ?_; intro v' w2 hown hgrow hnil; have HR2 := Lib.hid (rowN_snoc HL2.out hown); have HB2 := Lib.hid ((HB1.out.alloc hs1 _).grown hgrow (by simp; omega) (fun k hk => (HR1.out.lt k hk).1)); clear hown hgrow hnil hi hz0 hz1 hz2) | (go_at_call 44; (with_reducible refine (D2.out _ _ HB2.out.size HR2.out).mono ?_); rintro e w3 ⟨r3, rfl, hr, hb⟩; have HR3 := Lib.hid hr; have HB3 := Lib.hid (HB2.out.trans hb); clear hr hb) | (go_at_call 44; (with_reducible refine (D3.out _ _ HB3.out.size HR3.out).mono ?_); rintro e w4 ⟨r4, rfl, hr, hb⟩; have HR4 := Lib.hid hr; have HB4 := Lib.hid (HB3.out.trans hb); clear hr hb) | (go_at_call 65; (with_reducible refine (B.out _ _ HR4.out).mono ?_); rintro e w9 ⟨rfl, k, rfl⟩))
  go_ret
  exact ⟨rfl, below_drewN HB4.out k⟩
theorem number_k72 (x : Nat) (hx : x < 4294967296) (w : World) : Calls Tryd.prog 42 #[.int .u8 72, .int .u32 x] w fun e w' => e = .returned (.int .i64 (immOf 72 x)) ∧ Below w.heap.size w w' := by
  have e : immOf 72 x = ((x / 1048576 % 32 : Nat) : Int) := rfl
  rw [e]
  obtain ⟨y, hy⟩ : ∃ y, y = x / 1048576 % 32 := ⟨_, rfl⟩
  have ey : (x : Int) / 1048576 % 32 = (y : Int) := by omega
  have y1 : y < 32 := by omega
  rw [← hy]
  clear hy e
  go_enter Tryd.func42, Tryd.ntmps42
  go_wp2
  go_ret
  exact ⟨rfl, Below.refl _ _⟩
theorem number_k67 (x : Nat) (w : World) : Calls Tryd.prog 42 #[.int .u8 67, .int .u32 x] w fun e w' => e = .returned (.int .i64 0) ∧ Below w.heap.size w w' := by
  go_enter Tryd.func42, Tryd.ntmps42
  go_wp2
  go_ret
  exact ⟨rfl, Below.refl _ _⟩
theorem number_k82 (x : Nat) (w : World) : Calls Tryd.prog 42 #[.int .u8 82, .int .u32 x] w fun e w' => e = .returned (.int .i64 0) ∧ Below w.heap.size w w' := by
  go_enter Tryd.func42, Tryd.ntmps42
  go_wp2
  go_ret
  exact ⟨rfl, Below.refl _ _⟩
theorem number_k78 (x : Nat) (w : World) : Calls Tryd.prog 42 #[.int .u8 78, .int .u32 x] w fun e w' => e = .returned (.int .i64 0) ∧ Below w.heap.size w w' := by
  go_enter Tryd.func42, Tryd.ntmps42
  go_wp2
  go_ret
  exact ⟨rfl, Below.refl _ _⟩
theorem number_any (op : Nat) (hop : op < 57) (x : Nat) (hx : x < 4294967296) (w : World) : Calls Tryd.prog 42 #[.int .u8 (kN op : Nat), .int .u32 x] w fun e w' => e = .returned (.int .i64 (immOf (kN op) x)) ∧ Below w.heap.size w w' := by
  rcases kinds11 op hop with h | h | h | h | h | h | h | h | h | h | h
  · rw [h]; exact number_k85 x hx w
  · rw [h]; exact number_k74 x hx w
  · rw [h]; exact number_k73 x hx w
  · rw [h]; exact number_k76 x hx w
  · rw [h]; exact number_k70 x hx w
  · rw [h]; exact number_k66 x hx w
  · rw [h]; exact number_k83 x hx w
  · rw [h]; exact number_k72 x hx w
  · rw [h]; exact number_k67 x w
  · rw [h]; exact number_k82 x w
  · rw [h]; exact number_k78 x w

theorem and_top (x s t : Nat) : x &&& ((2 ^ t - 1) * 2 ^ s) = x / 2 ^ s % 2 ^ t * 2 ^ s := by
  apply Nat.eq_of_testBit_eq
  intro i
  rw [Nat.testBit_and, ← Nat.shiftLeft_eq, ← Nat.shiftLeft_eq, Nat.testBit_shiftLeft, Nat.testBit_shiftLeft, Nat.testBit_two_pow_sub_one, Nat.testBit_mod_two_pow, Nat.testBit_div_two_pow]
  by_cases h : s ≤ i
  · rw [show i - s + s = i by omega]
    simp only [ge_iff_le, h, decide_true, Bool.true_and]
    exact Bool.and_comm _ _
  · simp [show ¬ i ≥ s by omega]
/-- which bits are fields -/
def spanN (k : Nat) : Nat := if k = 85 ∨ k = 74 then 4294967168 else if k = 73 ∨ k = 76 ∨ k = 70 ∨ k = 66 ∨ k = 83 ∨ k = 67 then 4294938496 else if k = 72 ∨ k = 82 then 33525632 else 0
theorem spanN_lt (k : Nat) : spanN k < 4294967296 := by unfold spanN; split; · decide
                                                        · split; · decide
                                                          · split <;> decide
theorem span_fit (k b x : Nat) (hx : x < 4294967296) : (x &&& (4294967295 - spanN k)) = b ↔ Fit k b x := by
  have m12 : x &&& 28672 = x / 4096 % 8 * 4096 := and_top x 12 3
  have m25 : x &&& 4261412864 = x / 33554432 % 128 * 33554432 := and_top x 25 7
  have m7 : x &&& 127 = x % 128 := nat_mask7 x
  unfold spanN Fit
  by_cases h1 : k = 85 ∨ k = 74
  · rw [if_pos h1, if_pos h1, show 4294967295 - 4294967168 = 127 from rfl, m7]
  · rw [if_neg h1, if_neg h1]
    by_cases h2 : k = 73 ∨ k = 76 ∨ k = 70 ∨ k = 66 ∨ k = 83 ∨ k = 67
    · rw [if_pos h2, if_pos h2, show (4294967295 - 4294938496 : Nat) = 28672 ||| 127 from by decide, Nat.and_or_distrib_left, m12, m7, j12 (x := x / 4096 % 8 * 4096) (by omega) (by omega), Nat.add_comm]
    · rw [if_neg h2, if_neg h2]
      by_cases h3 : k = 72 ∨ k = 82
      · rw [if_pos h3, if_pos h3, show (4294967295 - 33525632 : Nat) = 4261412864 ||| (28672 ||| 127) from by decide, Nat.and_or_distrib_left, Nat.and_or_distrib_left, m25, m12, m7, j12 (x := x / 4096 % 8 * 4096) (by omega) (by omega), j25 (x := x / 33554432 % 128 * 33554432) (by omega) (by omega)]
        have e : x / 33554432 % 128 = x / 33554432 := by omega
        rw [e]
        omega
      · rw [if_neg h3, if_neg h3, show (4294967295 - 0 : Nat) = 2 ^ 32 - 1 from by decide, Nat.and_two_pow_sub_one_eq_mod, Nat.mod_eq_of_lt hx]
theorem spans_any (op : Nat) (hop : op < 57) (w : World) : Calls Tryd.prog 40 #[.int .u8 (kN op : Nat)] w fun e w' => e = .returned (.int .u32 (spanN (kN op) : Nat)) ∧ w = w' := by
  have o1 : bits .or .u32 4294963200 3968 = 4294967168 := by decide +kernel
  have o2 : bits .or .u32 3968 1015808 = 1019776 := by decide +kernel
  have o3 : bits .or .u32 1019776 4293918720 = 4294938496 := by decide +kernel
  have o4 : bits .or .u32 1019776 32505856 = 33525632 := by decide +kernel
  rcases kinds11 op hop with h | h | h | h | h | h | h | h | h | h | h
  all_goals
    rw [h]
    go_enter Tryd.func40, Tryd.ntmps40
    go_wp2
    go_ret
    exact ⟨rfl, rfl⟩

theorem w_lit : ((#[.int .u32 55, .int .u32 23, .int .u32 111, .int .u32 103, .int .u32 99, .int .u32 4195, .int .u32 16483, .int .u32 20579, .int .u32 24675, .int .u32 28771, .int .u32 3, .int .u32 4099, .int .u32 8195, .int .u32 16387, .int .u32 20483, .int .u32 35, .int .u32 4131, .int .u32 8227, .int .u32 19, .int .u32 8211, .int .u32 12307, .int .u32 16403, .int .u32 24595, .int .u32 28691, .int .u32 4115, .int .u32 20499, .int .u32 1073762323, .int .u32 51, .int .u32 1073741875, .int .u32 4147, .int .u32 8243, .int .u32 12339, .int .u32 16435, .int .u32 20531, .int .u32 1073762355, .int .u32 24627, .int .u32 28723, .int .u32 33554483, .int .u32 33558579, .int .u32 33562675, .int .u32 33566771, .int .u32 33570867, .int .u32 33574963, .int .u32 33579059, .int .u32 33583155, .int .u32 15, .int .u32 4111, .int .u32 115, .int .u32 1048691, .int .u32 807403635, .int .u32 273678451, .int .u32 4211, .int .u32 8307, .int .u32 12403, .int .u32 20595, .int .u32 24691, .int .u32 28787]) : Array Value) = wCells := by kernel_rfl
theorem w_cell (op : Nat) (h : op < 57) : ((#[.int .u32 55, .int .u32 23, .int .u32 111, .int .u32 103, .int .u32 99, .int .u32 4195, .int .u32 16483, .int .u32 20579, .int .u32 24675, .int .u32 28771, .int .u32 3, .int .u32 4099, .int .u32 8195, .int .u32 16387, .int .u32 20483, .int .u32 35, .int .u32 4131, .int .u32 8227, .int .u32 19, .int .u32 8211, .int .u32 12307, .int .u32 16403, .int .u32 24595, .int .u32 28691, .int .u32 4115, .int .u32 20499, .int .u32 1073762323, .int .u32 51, .int .u32 1073741875, .int .u32 4147, .int .u32 8243, .int .u32 12339, .int .u32 16435, .int .u32 20531, .int .u32 1073762355, .int .u32 24627, .int .u32 28723, .int .u32 33554483, .int .u32 33558579, .int .u32 33562675, .int .u32 33566771, .int .u32 33570867, .int .u32 33574963, .int .u32 33579059, .int .u32 33583155, .int .u32 15, .int .u32 4111, .int .u32 115, .int .u32 1048691, .int .u32 807403635, .int .u32 273678451, .int .u32 4211, .int .u32 8307, .int .u32 12403, .int .u32 20595, .int .u32 24691, .int .u32 28787]) : Array Value)[op]? = some (.int .u32 (wN op)) := by
  rw [w_lit]
  unfold wCells
  simp [List.getElem?_map, h]
set_option maxHeartbeats 4000000 in
theorem plain_any (op : Nat) (h : op < 57) (w : World) : Calls Tryd.prog 41 #[.int .i64 op] w fun e w' => e = .returned (.int .u32 (wN op : Nat)) ∧ Below w.heap.size w w' := by
  have hopI : (op : Int) < 57 := by omega
  have hc : (w.alloc (.cells (#[.int .u32 55, .int .u32 23, .int .u32 111, .int .u32 103, .int .u32 99, .int .u32 4195, .int .u32 16483, .int .u32 20579, .int .u32 24675, .int .u32 28771, .int .u32 3, .int .u32 4099, .int .u32 8195, .int .u32 16387, .int .u32 20483, .int .u32 35, .int .u32 4131, .int .u32 8227, .int .u32 19, .int .u32 8211, .int .u32 12307, .int .u32 16403, .int .u32 24595, .int .u32 28691, .int .u32 4115, .int .u32 20499, .int .u32 1073762323, .int .u32 51, .int .u32 1073741875, .int .u32 4147, .int .u32 8243, .int .u32 12339, .int .u32 16435, .int .u32 20531, .int .u32 1073762355, .int .u32 24627, .int .u32 28723, .int .u32 33554483, .int .u32 33558579, .int .u32 33562675, .int .u32 33566771, .int .u32 33570867, .int .u32 33574963, .int .u32 33579059, .int .u32 33583155, .int .u32 15, .int .u32 4111, .int .u32 115, .int .u32 1048691, .int .u32 807403635, .int .u32 273678451, .int .u32 4211, .int .u32 8307, .int .u32 12403, .int .u32 20595, .int .u32 24691, .int .u32 28787]) 22)).cell? ⟨w.heap.size, op, none⟩ = some (.int .u32 (wN op)) := (cell_of_row _ _ _ _ _ _ (heap_alloc_new w _)).trans (w_cell op h)
  have hb := (Below.refl w.heap.size w).alloc (Nat.le_refl _) (.cells (#[.int .u32 55, .int .u32 23, .int .u32 111, .int .u32 103, .int .u32 99, .int .u32 4195, .int .u32 16483, .int .u32 20579, .int .u32 24675, .int .u32 28771, .int .u32 3, .int .u32 4099, .int .u32 8195, .int .u32 16387, .int .u32 20483, .int .u32 35, .int .u32 4131, .int .u32 8227, .int .u32 19, .int .u32 8211, .int .u32 12307, .int .u32 16403, .int .u32 24595, .int .u32 28691, .int .u32 4115, .int .u32 20499, .int .u32 1073762323, .int .u32 51, .int .u32 1073741875, .int .u32 4147, .int .u32 8243, .int .u32 12339, .int .u32 16435, .int .u32 20531, .int .u32 1073762355, .int .u32 24627, .int .u32 28723, .int .u32 33554483, .int .u32 33558579, .int .u32 33562675, .int .u32 33566771, .int .u32 33570867, .int .u32 33574963, .int .u32 33579059, .int .u32 33583155, .int .u32 15, .int .u32 4111, .int .u32 115, .int .u32 1048691, .int .u32 807403635, .int .u32 273678451, .int .u32 4211, .int .u32 8307, .int .u32 12403, .int .u32 20595, .int .u32 24691, .int .u32 28787]) 22)
  have HB := Lib.hid hb
  have HC := Lib.hid hc
  clear hb hc
  generalize wN op = s at *
  go_enter Tryd.func41, Tryd.ntmps41
  go_upto_region 2 with (fail)
  have hc := HC.out
  have hb := HB
  generalize w.alloc (.cells (#[.int .u32 55, .int .u32 23, .int .u32 111, .int .u32 103, .int .u32 99, .int .u32 4195, .int .u32 16483, .int .u32 20579, .int .u32 24675, .int .u32 28771, .int .u32 3, .int .u32 4099, .int .u32 8195, .int .u32 16387, .int .u32 20483, .int .u32 35, .int .u32 4131, .int .u32 8227, .int .u32 19, .int .u32 8211, .int .u32 12307, .int .u32 16403, .int .u32 24595, .int .u32 28691, .int .u32 4115, .int .u32 20499, .int .u32 1073762323, .int .u32 51, .int .u32 1073741875, .int .u32 4147, .int .u32 8243, .int .u32 12339, .int .u32 16435, .int .u32 20531, .int .u32 1073762355, .int .u32 24627, .int .u32 28723, .int .u32 33554483, .int .u32 33558579, .int .u32 33562675, .int .u32 33566771, .int .u32 33570867, .int .u32 33574963, .int .u32 33579059, .int .u32 33583155, .int .u32 15, .int .u32 4111, .int .u32 115, .int .u32 1048691, .int .u32 807403635, .int .u32 273678451, .int .u32 4211, .int .u32 8307, .int .u32 12403, .int .u32 20595, .int .u32 24691, .int .u32 28787]) 22) = W at *
  go_wp2
  go_ret
  exact ⟨rfl, hb.out⟩

end Go.Proofs.YtoincdfijeipjaaDoor
