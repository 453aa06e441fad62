import Derived.Test.YtkcdnhennnjneaaGreatDoorInstMM
import Derived.Test.YtkcdnhennnjneaaGreatDoorWordDB
import Derived.Test.YtkcdnhennnjneaaGreatDoorDoorK
import Derived.Below
import Derived.Deep.Draws
import Derived.Deep.AppendLies
import Derived.Maps.AppendAt
import Derived.OwnWalk
import Derived.Laws.BytesArg
import Derived.Laws.MakeOwn
import Derived.Laws.OwnMore
import Derived.Deep.OwnRows
import Derived.Tactics
import Derived.Lib.ConvBytes
import Derived.Laws.Slices
import Derived.WalkKit
import Derived.KernelRfl
import Derived.RowKit3
import Derived.Deep.LoopGhost
import Derived.Deep.QuietTactic
import Derived.BigQuiet
import Derived.WideLaws
import Derived.Deep.DeepCutAuto
import Derived.Deep.CutBlock
import Derived.Deep.RegionHeld3
import Derived.Laws.Rows
import Derived.Lib.AppendStr
import Derived.ArgAppend
import Derived.Laws.IdiomCopy
import Derived.OrdersHeld
import Derived.Laws.BitsLemmas
import Derived.RowKit
import Derived.Lib.Hide
import Derived.Laws.BitsAllLaws
import Derived.WalkLawsBesides
import Derived.WalkSpells
import Derived.LaidEql
import Derived.Lib.SliceRun
namespace Go.Proofs.YtkcdnhennnjneaaGreatDoor
open Go.RowKit
set_option maxRecDepth 100000
set_option linter.unusedVariables false
set_option linter.unusedSimpArgs false

theorem field_div {v : Nat} (hv : v < 4294967296) (lo n : Nat) (h : lo + n ≤ 32) : fromN (fieldB v lo n) 32 = v / 2 ^ lo % 2 ^ n := by
  have hlt : v / 2 ^ lo % 2 ^ n < 2 ^ 32 := Nat.lt_of_lt_of_le (Nat.mod_lt _ (Nat.two_pow_pos n)) (Nat.pow_le_pow_right (by decide) (by omega))
  refine (eq_fromN (n := 32) hlt ?_).symm
  intro i hi
  unfold fieldB
  rw [Nat.testBit_mod_two_pow, Nat.testBit_div_two_pow, bitI_nat hv, decide_eq_true (by omega : 0 ≤ (lo : Int) + (i : Int)), Bool.true_and, show ((lo : Int) + (i : Int)).toNat = i + lo by omega]
  by_cases h : i < n
  · rw [decide_eq_true h, decide_eq_true (by omega : (i : Int) < n)]
  · rw [decide_eq_false h, decide_eq_false (by omega : ¬ (i : Int) < n)]
theorem field_at (v : Nat) (hv : v < 4294967296) (a b : Int) (lo n p : Nat) (ha : a = lo) (hb : b = n) (h : lo + n ≤ 32) (hp : v / 2 ^ lo % 2 ^ n = p) (w : World) : Calls Tryz.prog 75 #[.int .u32 v, .int .i64 a, .int .i64 b] w fun e w' => e = .returned (.int .u32 p) ∧ ∃ q, w.drewN q = w' := by
  subst ha hb hp
  have := pfield_any v hv lo n (by omega) (by omega) (by omega) w
  rw [field_div hv lo n h] at this
  exact this
/-- a word's number, as the program reckons it -/
def IsN (A : Int) (a : Nat) : Prop := A = (a : Int) ∧ a < 4294967296
theorem isN_or {A B : Int} {a b : Nat} (h1 : IsN A a) (h2 : IsN B b) : IsN (bits .or .u32 A B) (a ||| b) := by
  obtain ⟨rfl, h1⟩ := h1
  obtain ⟨rfl, h2⟩ := h2
  exact ⟨Go.u32_or_nat a b h1 h2, Nat.or_lt_two_pow (n := 32) h1 h2⟩
theorem isN_self {a : Nat} (h : a < 4294967296) : IsN (a : Int) a := ⟨rfl, h⟩
theorem isN_mul (a m : Nat) (h : a * m < 4294967296) : IsN ((a : Int) * (m : Int)) (a * m) := ⟨by simp, h⟩
theorem isN_mod (a m : Nat) : IsN ((a : Int) * (m : Int) % 4294967296) (a * m % 4294967296) := ⟨by simp, Nat.mod_lt _ (by decide)⟩
theorem u32_low5 {x : Nat} (h : x < 4294967296) : bits .and .u32 (x : Int) 31 = ((x % 32 : Nat) : Int) := by
  rw [show (31 : Int) = ((31 : Nat) : Int) from rfl, Go.u32_and_nat x 31 h (by decide), nat_mask5]
theorem u32_top20 {x : Nat} (h : x < 4294967296) : bits .andNot .u32 (x : Int) 4095 = ((x / 4096 * 4096 : Nat) : Int) := by
  rw [show (4095 : Int) = ((4095 : Nat) : Int) from rfl, Go.u32_andNot_nat x 4095 h (by decide)]
  congr 1
  apply Nat.eq_of_testBit_eq
  intro i
  rw [Nat.testBit_and, show (4294967295 - 4095 : Nat) = (2 ^ 20 - 1) <<< 12 from by decide, Nat.testBit_shiftLeft, Nat.testBit_two_pow_sub_one, show x / 4096 * 4096 = (x / 2 ^ 12) <<< 12 from by rw [Nat.shiftLeft_eq], Nat.testBit_shiftLeft, Nat.testBit_div_two_pow]
  by_cases h12 : 12 ≤ i
  · rw [show i - 12 + 12 = i by omega]
    by_cases h32 : i < 32
    · simp [h12, show i - 12 < 20 by omega]
    · have : x.testBit i = false := Nat.testBit_lt_two_pow (Nat.lt_of_lt_of_le h (by rw [show (4294967296 : Nat) = 2 ^ 32 from rfl]; exact Nat.pow_le_pow_right (by decide) (by omega)))
      simp [this]
  · simp [show ¬ i ≥ 12 by omega]

theorem kByte : ∀ (op : Nat) (h : op < 57), (({ data := #[85, 85, 74, 73, 66, 66, 66, 66, 66, 66, 76, 76, 76, 76, 76, 83, 83, 83, 73, 73, 73, 73, 73, 73, 72, 72, 72, 82, 82, 82, 82, 82, 82, 82, 82, 82, 82, 82, 82, 82, 82, 82, 82, 82, 82, 70, 70, 78, 78, 78, 78, 67, 67, 67, 67, 67, 67] } : ByteArray)[op]'h).toNat = kN op := by decide +kernel

set_option maxHeartbeats 2000000 in
theorem laid_k85 (op : Nat) (hop : op < 57) (hk : kN op = 85) (b : Nat) (hb : b < 4294967296) (rd r1 r2 imm csr : Int) (x1 x2 x3 x4 x5 : Nat) (e1 : bits .and .i64 rd 31 = (x1 : Int)) (e2 : bits .and .i64 r1 31 = (x2 : Int)) (e3 : bits .and .i64 r2 31 = (x3 : Int)) (e4 : IntKind.u32.wrap imm = (x4 : Int)) (e5 : IntKind.u32.wrap csr = (x5 : Int)) (f1 : x1 < 32) (f2 : x2 < 32) (f3 : x3 < 32) (f4 : x4 < 4294967296) (f5 : x5 < 4294967296) (w : World)
    (hg : w.cell? ⟨2, op, none⟩ = some (.int .u32 b)) :
    Calls Tryz.prog 43 #[.agg #[.int .i64 op, .int .i64 rd, .int .i64 r1, .int .i64 r2, .int .i64 imm, .int .i64 csr]] w fun e w' => e = .returned (.int .u32 (laidN 85 b x1 x2 x3 x4 x5 : Nat)) ∧ Below w.heap.size w w' := by
  obtain ⟨y, hy⟩ : ∃ y, y = x4 / 4096 * 4096 := ⟨_, rfl⟩
  have ey : bits .andNot .u32 (x4 : Int) 4095 = (y : Int) := by rw [hy]; exact u32_top20 f4
  have fy : y < 4294967296 := by omega
  have EQ : laidN 85 b x1 x2 x3 x4 x5 = (b ||| (x1 * 128 ||| x2 * 32768)) ||| y := by
    rw [hy]
    rfl
  have HE := Lib.hid EQ
  clear EQ hy
  have hK := kByte op hop
  rw [hk] at hK
  go_enter Tryz.func43, Tryz.ntmps43
  go_upto_region 1 with (fail)
  have hopI : (op : Int) < 57 := by omega
  have hlt := block_lt_of_cell hg
  have c0 : (w.alloc (.cells #[.int .i64 op, .int .i64 rd, .int .i64 r1, .int .i64 r2, .int .i64 imm, .int .i64 csr] 37)).cell? ⟨w.heap.size, 0, none⟩ = some (.int .i64 op) := by simp
  have c1 : (w.alloc (.cells #[.int .i64 op, .int .i64 rd, .int .i64 r1, .int .i64 r2, .int .i64 imm, .int .i64 csr] 37)).cell? ⟨w.heap.size, 1, none⟩ = some (.int .i64 rd) := by simp
  have c2 : (w.alloc (.cells #[.int .i64 op, .int .i64 rd, .int .i64 r1, .int .i64 r2, .int .i64 imm, .int .i64 csr] 37)).cell? ⟨w.heap.size, 2, none⟩ = some (.int .i64 r1) := by simp
  have c3 : (w.alloc (.cells #[.int .i64 op, .int .i64 rd, .int .i64 r1, .int .i64 r2, .int .i64 imm, .int .i64 csr] 37)).cell? ⟨w.heap.size, 3, none⟩ = some (.int .i64 r2) := by simp
  have c4 : (w.alloc (.cells #[.int .i64 op, .int .i64 rd, .int .i64 r1, .int .i64 r2, .int .i64 imm, .int .i64 csr] 37)).cell? ⟨w.heap.size, 4, none⟩ = some (.int .i64 imm) := by simp
  have c5 : (w.alloc (.cells #[.int .i64 op, .int .i64 rd, .int .i64 r1, .int .i64 r2, .int .i64 imm, .int .i64 csr] 37)).cell? ⟨w.heap.size, 5, none⟩ = some (.int .i64 csr) := by simp
  have cg := Go.Lib.cell?_alloc_some (.cells #[.int .i64 op, .int .i64 rd, .int .i64 r1, .int .i64 r2, .int .i64 imm, .int .i64 csr] 37) hg
  have HB := Lib.hid ((Below.refl w.heap.size w).alloc (Nat.le_refl _) (.cells #[.int .i64 op, .int .i64 rd, .int .i64 r1, .int .i64 r2, .int .i64 imm, .int .i64 csr] 37))
  generalize w.alloc (.cells #[.int .i64 op, .int .i64 rd, .int .i64 r1, .int .i64 r2, .int .i64 imm, .int .i64 csr] 37) = W at *
  go_quiet (fail)
  go_wp2_with (fail)
  go_ret
  refine ⟨?_, ?_⟩
  · rw [HE.out]
    exact ret_int (isN_or (isN_or (isN_self hb) (isN_or (isN_mul x1 128 (by omega)) (isN_mul x2 32768 (by omega)))) ⟨rfl, by omega⟩).1
  · repeat (first | exact HB.out | refine below_drewN ?_ _)
set_option maxHeartbeats 2000000 in
theorem laid_k74 (op : Nat) (hop : op < 57) (hk : kN op = 74) (b : Nat) (hb : b < 4294967296) (rd r1 r2 imm csr : Int) (x1 x2 x3 x4 x5 : Nat) (e1 : bits .and .i64 rd 31 = (x1 : Int)) (e2 : bits .and .i64 r1 31 = (x2 : Int)) (e3 : bits .and .i64 r2 31 = (x3 : Int)) (e4 : IntKind.u32.wrap imm = (x4 : Int)) (e5 : IntKind.u32.wrap csr = (x5 : Int)) (f1 : x1 < 32) (f2 : x2 < 32) (f3 : x3 < 32) (f4 : x4 < 4294967296) (f5 : x5 < 4294967296) (w : World)
    (hg : w.cell? ⟨2, op, none⟩ = some (.int .u32 b)) :
    Calls Tryz.prog 43 #[.agg #[.int .i64 op, .int .i64 rd, .int .i64 r1, .int .i64 r2, .int .i64 imm, .int .i64 csr]] w fun e w' => e = .returned (.int .u32 (laidN 74 b x1 x2 x3 x4 x5 : Nat)) ∧ Below w.heap.size w w' := by
  obtain ⟨p0, hp0⟩ : ∃ p, x4 / 2 ^ 20 % 2 ^ 1 = p := ⟨_, rfl⟩
  have fp0 : p0 < 2 := by rw [← hp0]; exact Nat.mod_lt _ (by decide)
  have G0 := Lib.hid (field_at x4 f4 20 1 20 1 p0 rfl rfl (by decide) hp0)
  obtain ⟨p1, hp1⟩ : ∃ p, x4 / 2 ^ 1 % 2 ^ 10 = p := ⟨_, rfl⟩
  have fp1 : p1 < 1024 := by rw [← hp1]; exact Nat.mod_lt _ (by decide)
  have G1 := Lib.hid (field_at x4 f4 1 10 1 10 p1 rfl rfl (by decide) hp1)
  obtain ⟨p2, hp2⟩ : ∃ p, x4 / 2 ^ 11 % 2 ^ 1 = p := ⟨_, rfl⟩
  have fp2 : p2 < 2 := by rw [← hp2]; exact Nat.mod_lt _ (by decide)
  have G2 := Lib.hid (field_at x4 f4 11 1 11 1 p2 rfl rfl (by decide) hp2)
  obtain ⟨p3, hp3⟩ : ∃ p, x4 / 2 ^ 12 % 2 ^ 8 = p := ⟨_, rfl⟩
  have fp3 : p3 < 256 := by rw [← hp3]; exact Nat.mod_lt _ (by decide)
  have G3 := Lib.hid (field_at x4 f4 12 8 12 8 p3 rfl rfl (by decide) hp3)
  have hq0 : x4 / 1048576 % 2 = p0 := by simpa using hp0
  have hq1 : x4 / 2 % 1024 = p1 := by simpa using hp1
  have hq2 : x4 / 2048 % 2 = p2 := by simpa using hp2
  have hq3 : x4 / 4096 % 256 = p3 := by simpa using hp3
  have EQ : laidN 74 b x1 x2 x3 x4 x5 = ((((b ||| (x1 * 128 ||| x2 * 32768)) ||| p0 * 2147483648) ||| p1 * 2097152) ||| p2 * 1048576) ||| p3 * 4096 := by
    rw [← hq0, ← hq1, ← hq2, ← hq3]
    rfl
  have HE := Lib.hid EQ
  clear EQ hp0 hq0 hp1 hq1 hp2 hq2 hp3 hq3
  have hK := kByte op hop
  rw [hk] at hK
  go_enter Tryz.func43, Tryz.ntmps43
  go_upto_region 1 with (fail)
  have hopI : (op : Int) < 57 := by omega
  have hlt := block_lt_of_cell hg
  have c0 : (w.alloc (.cells #[.int .i64 op, .int .i64 rd, .int .i64 r1, .int .i64 r2, .int .i64 imm, .int .i64 csr] 37)).cell? ⟨w.heap.size, 0, none⟩ = some (.int .i64 op) := by simp
  have c1 : (w.alloc (.cells #[.int .i64 op, .int .i64 rd, .int .i64 r1, .int .i64 r2, .int .i64 imm, .int .i64 csr] 37)).cell? ⟨w.heap.size, 1, none⟩ = some (.int .i64 rd) := by simp
  have c2 : (w.alloc (.cells #[.int .i64 op, .int .i64 rd, .int .i64 r1, .int .i64 r2, .int .i64 imm, .int .i64 csr] 37)).cell? ⟨w.heap.size, 2, none⟩ = some (.int .i64 r1) := by simp
  have c3 : (w.alloc (.cells #[.int .i64 op, .int .i64 rd, .int .i64 r1, .int .i64 r2, .int .i64 imm, .int .i64 csr] 37)).cell? ⟨w.heap.size, 3, none⟩ = some (.int .i64 r2) := by simp
  have c4 : (w.alloc (.cells #[.int .i64 op, .int .i64 rd, .int .i64 r1, .int .i64 r2, .int .i64 imm, .int .i64 csr] 37)).cell? ⟨w.heap.size, 4, none⟩ = some (.int .i64 imm) := by simp
  have c5 : (w.alloc (.cells #[.int .i64 op, .int .i64 rd, .int .i64 r1, .int .i64 r2, .int .i64 imm, .int .i64 csr] 37)).cell? ⟨w.heap.size, 5, none⟩ = some (.int .i64 csr) := by simp
  have cg := Go.Lib.cell?_alloc_some (.cells #[.int .i64 op, .int .i64 rd, .int .i64 r1, .int .i64 r2, .int .i64 imm, .int .i64 csr] 37) hg
  have HB := Lib.hid ((Below.refl w.heap.size w).alloc (Nat.le_refl _) (.cells #[.int .i64 op, .int .i64 rd, .int .i64 r1, .int .i64 r2, .int .i64 imm, .int .i64 csr] 37))
  generalize w.alloc (.cells #[.int .i64 op, .int .i64 rd, .int .i64 r1, .int .i64 r2, .int .i64 imm, .int .i64 csr] 37) = W at *
  go_quiet (fail)
  go_wp2_with (first | (go_at_call 75; (with_reducible refine (G0.out _).mono ?_); rintro e w' ⟨rfl, q0, rfl⟩) | (go_at_call 75; (with_reducible refine (G1.out _).mono ?_); rintro e w' ⟨rfl, q1, rfl⟩) | (go_at_call 75; (with_reducible refine (G2.out _).mono ?_); rintro e w' ⟨rfl, q2, rfl⟩) | (go_at_call 75; (with_reducible refine (G3.out _).mono ?_); rintro e w' ⟨rfl, q3, rfl⟩))
  go_ret
  refine ⟨?_, ?_⟩
  · rw [HE.out]
    exact ret_int (isN_or (isN_or (isN_or (isN_or (isN_or (isN_self hb) (isN_or (isN_mul x1 128 (by omega)) (isN_mul x2 32768 (by omega)))) (isN_mul p0 2147483648 (by omega))) (isN_mul p1 2097152 (by omega))) (isN_mul p2 1048576 (by omega))) (isN_mul p3 4096 (by omega))).1
  · repeat (first | exact HB.out | refine below_drewN ?_ _)
set_option maxHeartbeats 2000000 in
theorem laid_k73 (op : Nat) (hop : op < 57) (hk : kN op = 73) (b : Nat) (hb : b < 4294967296) (rd r1 r2 imm csr : Int) (x1 x2 x3 x4 x5 : Nat) (e1 : bits .and .i64 rd 31 = (x1 : Int)) (e2 : bits .and .i64 r1 31 = (x2 : Int)) (e3 : bits .and .i64 r2 31 = (x3 : Int)) (e4 : IntKind.u32.wrap imm = (x4 : Int)) (e5 : IntKind.u32.wrap csr = (x5 : Int)) (f1 : x1 < 32) (f2 : x2 < 32) (f3 : x3 < 32) (f4 : x4 < 4294967296) (f5 : x5 < 4294967296) (w : World)
    (hg : w.cell? ⟨2, op, none⟩ = some (.int .u32 b)) :
    Calls Tryz.prog 43 #[.agg #[.int .i64 op, .int .i64 rd, .int .i64 r1, .int .i64 r2, .int .i64 imm, .int .i64 csr]] w fun e w' => e = .returned (.int .u32 (laidN 73 b x1 x2 x3 x4 x5 : Nat)) ∧ Below w.heap.size w w' := by
  have EQ : laidN 73 b x1 x2 x3 x4 x5 = (b ||| (x1 * 128 ||| x2 * 32768)) ||| x4 * 1048576 % 4294967296 := by
    rfl
  have HE := Lib.hid EQ
  clear EQ
  have hK := kByte op hop
  rw [hk] at hK
  go_enter Tryz.func43, Tryz.ntmps43
  go_upto_region 1 with (fail)
  have hopI : (op : Int) < 57 := by omega
  have hlt := block_lt_of_cell hg
  have c0 : (w.alloc (.cells #[.int .i64 op, .int .i64 rd, .int .i64 r1, .int .i64 r2, .int .i64 imm, .int .i64 csr] 37)).cell? ⟨w.heap.size, 0, none⟩ = some (.int .i64 op) := by simp
  have c1 : (w.alloc (.cells #[.int .i64 op, .int .i64 rd, .int .i64 r1, .int .i64 r2, .int .i64 imm, .int .i64 csr] 37)).cell? ⟨w.heap.size, 1, none⟩ = some (.int .i64 rd) := by simp
  have c2 : (w.alloc (.cells #[.int .i64 op, .int .i64 rd, .int .i64 r1, .int .i64 r2, .int .i64 imm, .int .i64 csr] 37)).cell? ⟨w.heap.size, 2, none⟩ = some (.int .i64 r1) := by simp
  have c3 : (w.alloc (.cells #[.int .i64 op, .int .i64 rd, .int .i64 r1, .int .i64 r2, .int .i64 imm, .int .i64 csr] 37)).cell? ⟨w.heap.size, 3, none⟩ = some (.int .i64 r2) := by simp
  have c4 : (w.alloc (.cells #[.int .i64 op, .int .i64 rd, .int .i64 r1, .int .i64 r2, .int .i64 imm, .int .i64 csr] 37)).cell? ⟨w.heap.size, 4, none⟩ = some (.int .i64 imm) := by simp
  have c5 : (w.alloc (.cells #[.int .i64 op, .int .i64 rd, .int .i64 r1, .int .i64 r2, .int .i64 imm, .int .i64 csr] 37)).cell? ⟨w.heap.size, 5, none⟩ = some (.int .i64 csr) := by simp
  have cg := Go.Lib.cell?_alloc_some (.cells #[.int .i64 op, .int .i64 rd, .int .i64 r1, .int .i64 r2, .int .i64 imm, .int .i64 csr] 37) hg
  have HB := Lib.hid ((Below.refl w.heap.size w).alloc (Nat.le_refl _) (.cells #[.int .i64 op, .int .i64 rd, .int .i64 r1, .int .i64 r2, .int .i64 imm, .int .i64 csr] 37))
  generalize w.alloc (.cells #[.int .i64 op, .int .i64 rd, .int .i64 r1, .int .i64 r2, .int .i64 imm, .int .i64 csr] 37) = W at *
  go_quiet (fail)
  go_wp2_with (fail)
  go_ret
  refine ⟨?_, ?_⟩
  · rw [HE.out]
    exact ret_int (isN_or (isN_or (isN_self hb) (isN_or (isN_mul x1 128 (by omega)) (isN_mul x2 32768 (by omega)))) (isN_mod x4 1048576)).1
  · repeat (first | exact HB.out | refine below_drewN ?_ _)
set_option maxHeartbeats 2000000 in
theorem laid_k76 (op : Nat) (hop : op < 57) (hk : kN op = 76) (b : Nat) (hb : b < 4294967296) (rd r1 r2 imm csr : Int) (x1 x2 x3 x4 x5 : Nat) (e1 : bits .and .i64 rd 31 = (x1 : Int)) (e2 : bits .and .i64 r1 31 = (x2 : Int)) (e3 : bits .and .i64 r2 31 = (x3 : Int)) (e4 : IntKind.u32.wrap imm = (x4 : Int)) (e5 : IntKind.u32.wrap csr = (x5 : Int)) (f1 : x1 < 32) (f2 : x2 < 32) (f3 : x3 < 32) (f4 : x4 < 4294967296) (f5 : x5 < 4294967296) (w : World)
    (hg : w.cell? ⟨2, op, none⟩ = some (.int .u32 b)) :
    Calls Tryz.prog 43 #[.agg #[.int .i64 op, .int .i64 rd, .int .i64 r1, .int .i64 r2, .int .i64 imm, .int .i64 csr]] w fun e w' => e = .returned (.int .u32 (laidN 76 b x1 x2 x3 x4 x5 : Nat)) ∧ Below w.heap.size w w' := by
  have EQ : laidN 76 b x1 x2 x3 x4 x5 = (b ||| (x1 * 128 ||| x2 * 32768)) ||| x4 * 1048576 % 4294967296 := by
    rfl
  have HE := Lib.hid EQ
  clear EQ
  have hK := kByte op hop
  rw [hk] at hK
  go_enter Tryz.func43, Tryz.ntmps43
  go_upto_region 1 with (fail)
  have hopI : (op : Int) < 57 := by omega
  have hlt := block_lt_of_cell hg
  have c0 : (w.alloc (.cells #[.int .i64 op, .int .i64 rd, .int .i64 r1, .int .i64 r2, .int .i64 imm, .int .i64 csr] 37)).cell? ⟨w.heap.size, 0, none⟩ = some (.int .i64 op) := by simp
  have c1 : (w.alloc (.cells #[.int .i64 op, .int .i64 rd, .int .i64 r1, .int .i64 r2, .int .i64 imm, .int .i64 csr] 37)).cell? ⟨w.heap.size, 1, none⟩ = some (.int .i64 rd) := by simp
  have c2 : (w.alloc (.cells #[.int .i64 op, .int .i64 rd, .int .i64 r1, .int .i64 r2, .int .i64 imm, .int .i64 csr] 37)).cell? ⟨w.heap.size, 2, none⟩ = some (.int .i64 r1) := by simp
  have c3 : (w.alloc (.cells #[.int .i64 op, .int .i64 rd, .int .i64 r1, .int .i64 r2, .int .i64 imm, .int .i64 csr] 37)).cell? ⟨w.heap.size, 3, none⟩ = some (.int .i64 r2) := by simp
  have c4 : (w.alloc (.cells #[.int .i64 op, .int .i64 rd, .int .i64 r1, .int .i64 r2, .int .i64 imm, .int .i64 csr] 37)).cell? ⟨w.heap.size, 4, none⟩ = some (.int .i64 imm) := by simp
  have c5 : (w.alloc (.cells #[.int .i64 op, .int .i64 rd, .int .i64 r1, .int .i64 r2, .int .i64 imm, .int .i64 csr] 37)).cell? ⟨w.heap.size, 5, none⟩ = some (.int .i64 csr) := by simp
  have cg := Go.Lib.cell?_alloc_some (.cells #[.int .i64 op, .int .i64 rd, .int .i64 r1, .int .i64 r2, .int .i64 imm, .int .i64 csr] 37) hg
  have HB := Lib.hid ((Below.refl w.heap.size w).alloc (Nat.le_refl _) (.cells #[.int .i64 op, .int .i64 rd, .int .i64 r1, .int .i64 r2, .int .i64 imm, .int .i64 csr] 37))
  generalize w.alloc (.cells #[.int .i64 op, .int .i64 rd, .int .i64 r1, .int .i64 r2, .int .i64 imm, .int .i64 csr] 37) = W at *
  go_quiet (fail)
  go_wp2_with (fail)
  go_ret
  refine ⟨?_, ?_⟩
  · rw [HE.out]
    exact ret_int (isN_or (isN_or (isN_self hb) (isN_or (isN_mul x1 128 (by omega)) (isN_mul x2 32768 (by omega)))) (isN_mod x4 1048576)).1
  · repeat (first | exact HB.out | refine below_drewN ?_ _)
set_option maxHeartbeats 2000000 in
theorem laid_k70 (op : Nat) (hop : op < 57) (hk : kN op = 70) (b : Nat) (hb : b < 4294967296) (rd r1 r2 imm csr : Int) (x1 x2 x3 x4 x5 : Nat) (e1 : bits .and .i64 rd 31 = (x1 : Int)) (e2 : bits .and .i64 r1 31 = (x2 : Int)) (e3 : bits .and .i64 r2 31 = (x3 : Int)) (e4 : IntKind.u32.wrap imm = (x4 : Int)) (e5 : IntKind.u32.wrap csr = (x5 : Int)) (f1 : x1 < 32) (f2 : x2 < 32) (f3 : x3 < 32) (f4 : x4 < 4294967296) (f5 : x5 < 4294967296) (w : World)
    (hg : w.cell? ⟨2, op, none⟩ = some (.int .u32 b)) :
    Calls Tryz.prog 43 #[.agg #[.int .i64 op, .int .i64 rd, .int .i64 r1, .int .i64 r2, .int .i64 imm, .int .i64 csr]] w fun e w' => e = .returned (.int .u32 (laidN 70 b x1 x2 x3 x4 x5 : Nat)) ∧ Below w.heap.size w w' := by
  have EQ : laidN 70 b x1 x2 x3 x4 x5 = (b ||| (x1 * 128 ||| x2 * 32768)) ||| x4 * 1048576 % 4294967296 := by
    rfl
  have HE := Lib.hid EQ
  clear EQ
  have hK := kByte op hop
  rw [hk] at hK
  go_enter Tryz.func43, Tryz.ntmps43
  go_upto_region 1 with (fail)
  have hopI : (op : Int) < 57 := by omega
  have hlt := block_lt_of_cell hg
  have c0 : (w.alloc (.cells #[.int .i64 op, .int .i64 rd, .int .i64 r1, .int .i64 r2, .int .i64 imm, .int .i64 csr] 37)).cell? ⟨w.heap.size, 0, none⟩ = some (.int .i64 op) := by simp
  have c1 : (w.alloc (.cells #[.int .i64 op, .int .i64 rd, .int .i64 r1, .int .i64 r2, .int .i64 imm, .int .i64 csr] 37)).cell? ⟨w.heap.size, 1, none⟩ = some (.int .i64 rd) := by simp
  have c2 : (w.alloc (.cells #[.int .i64 op, .int .i64 rd, .int .i64 r1, .int .i64 r2, .int .i64 imm, .int .i64 csr] 37)).cell? ⟨w.heap.size, 2, none⟩ = some (.int .i64 r1) := by simp
  have c3 : (w.alloc (.cells #[.int .i64 op, .int .i64 rd, .int .i64 r1, .int .i64 r2, .int .i64 imm, .int .i64 csr] 37)).cell? ⟨w.heap.size, 3, none⟩ = some (.int .i64 r2) := by simp
  have c4 : (w.alloc (.cells #[.int .i64 op, .int .i64 rd, .int .i64 r1, .int .i64 r2, .int .i64 imm, .int .i64 csr] 37)).cell? ⟨w.heap.size, 4, none⟩ = some (.int .i64 imm) := by simp
  have c5 : (w.alloc (.cells #[.int .i64 op, .int .i64 rd, .int .i64 r1, .int .i64 r2, .int .i64 imm, .int .i64 csr] 37)).cell? ⟨w.heap.size, 5, none⟩ = some (.int .i64 csr) := by simp
  have cg := Go.Lib.cell?_alloc_some (.cells #[.int .i64 op, .int .i64 rd, .int .i64 r1, .int .i64 r2, .int .i64 imm, .int .i64 csr] 37) hg
  have HB := Lib.hid ((Below.refl w.heap.size w).alloc (Nat.le_refl _) (.cells #[.int .i64 op, .int .i64 rd, .int .i64 r1, .int .i64 r2, .int .i64 imm, .int .i64 csr] 37))
  generalize w.alloc (.cells #[.int .i64 op, .int .i64 rd, .int .i64 r1, .int .i64 r2, .int .i64 imm, .int .i64 csr] 37) = W at *
  go_quiet (fail)
  go_wp2_with (fail)
  go_ret
  refine ⟨?_, ?_⟩
  · rw [HE.out]
    exact ret_int (isN_or (isN_or (isN_self hb) (isN_or (isN_mul x1 128 (by omega)) (isN_mul x2 32768 (by omega)))) (isN_mod x4 1048576)).1
  · repeat (first | exact HB.out | refine below_drewN ?_ _)
set_option maxHeartbeats 2000000 in
theorem laid_k66 (op : Nat) (hop : op < 57) (hk : kN op = 66) (b : Nat) (hb : b < 4294967296) (rd r1 r2 imm csr : Int) (x1 x2 x3 x4 x5 : Nat) (e1 : bits .and .i64 rd 31 = (x1 : Int)) (e2 : bits .and .i64 r1 31 = (x2 : Int)) (e3 : bits .and .i64 r2 31 = (x3 : Int)) (e4 : IntKind.u32.wrap imm = (x4 : Int)) (e5 : IntKind.u32.wrap csr = (x5 : Int)) (f1 : x1 < 32) (f2 : x2 < 32) (f3 : x3 < 32) (f4 : x4 < 4294967296) (f5 : x5 < 4294967296) (w : World)
    (hg : w.cell? ⟨2, op, none⟩ = some (.int .u32 b)) :
    Calls Tryz.prog 43 #[.agg #[.int .i64 op, .int .i64 rd, .int .i64 r1, .int .i64 r2, .int .i64 imm, .int .i64 csr]] w fun e w' => e = .returned (.int .u32 (laidN 66 b x1 x2 x3 x4 x5 : Nat)) ∧ Below w.heap.size w w' := by
  obtain ⟨p0, hp0⟩ : ∃ p, x4 / 2 ^ 12 % 2 ^ 1 = p := ⟨_, rfl⟩
  have fp0 : p0 < 2 := by rw [← hp0]; exact Nat.mod_lt _ (by decide)
  have G0 := Lib.hid (field_at x4 f4 12 1 12 1 p0 rfl rfl (by decide) hp0)
  obtain ⟨p1, hp1⟩ : ∃ p, x4 / 2 ^ 5 % 2 ^ 6 = p := ⟨_, rfl⟩
  have fp1 : p1 < 64 := by rw [← hp1]; exact Nat.mod_lt _ (by decide)
  have G1 := Lib.hid (field_at x4 f4 5 6 5 6 p1 rfl rfl (by decide) hp1)
  obtain ⟨p2, hp2⟩ : ∃ p, x4 / 2 ^ 1 % 2 ^ 4 = p := ⟨_, rfl⟩
  have fp2 : p2 < 16 := by rw [← hp2]; exact Nat.mod_lt _ (by decide)
  have G2 := Lib.hid (field_at x4 f4 1 4 1 4 p2 rfl rfl (by decide) hp2)
  obtain ⟨p3, hp3⟩ : ∃ p, x4 / 2 ^ 11 % 2 ^ 1 = p := ⟨_, rfl⟩
  have fp3 : p3 < 2 := by rw [← hp3]; exact Nat.mod_lt _ (by decide)
  have G3 := Lib.hid (field_at x4 f4 11 1 11 1 p3 rfl rfl (by decide) hp3)
  have hq0 : x4 / 4096 % 2 = p0 := by simpa using hp0
  have hq1 : x4 / 32 % 64 = p1 := by simpa using hp1
  have hq2 : x4 / 2 % 16 = p2 := by simpa using hp2
  have hq3 : x4 / 2048 % 2 = p3 := by simpa using hp3
  have EQ : laidN 66 b x1 x2 x3 x4 x5 = ((b ||| (x1 * 128 ||| x2 * 32768)) ||| (((p0 * 2147483648 ||| p1 * 33554432) ||| p2 * 256) ||| p3 * 128)) ||| x3 * 1048576 := by
    rw [← hq0, ← hq1, ← hq2, ← hq3]
    rfl
  have HE := Lib.hid EQ
  clear EQ hp0 hq0 hp1 hq1 hp2 hq2 hp3 hq3
  have hK := kByte op hop
  rw [hk] at hK
  go_enter Tryz.func43, Tryz.ntmps43
  go_upto_region 1 with (fail)
  have hopI : (op : Int) < 57 := by omega
  have hlt := block_lt_of_cell hg
  have c0 : (w.alloc (.cells #[.int .i64 op, .int .i64 rd, .int .i64 r1, .int .i64 r2, .int .i64 imm, .int .i64 csr] 37)).cell? ⟨w.heap.size, 0, none⟩ = some (.int .i64 op) := by simp
  have c1 : (w.alloc (.cells #[.int .i64 op, .int .i64 rd, .int .i64 r1, .int .i64 r2, .int .i64 imm, .int .i64 csr] 37)).cell? ⟨w.heap.size, 1, none⟩ = some (.int .i64 rd) := by simp
  have c2 : (w.alloc (.cells #[.int .i64 op, .int .i64 rd, .int .i64 r1, .int .i64 r2, .int .i64 imm, .int .i64 csr] 37)).cell? ⟨w.heap.size, 2, none⟩ = some (.int .i64 r1) := by simp
  have c3 : (w.alloc (.cells #[.int .i64 op, .int .i64 rd, .int .i64 r1, .int .i64 r2, .int .i64 imm, .int .i64 csr] 37)).cell? ⟨w.heap.size, 3, none⟩ = some (.int .i64 r2) := by simp
  have c4 : (w.alloc (.cells #[.int .i64 op, .int .i64 rd, .int .i64 r1, .int .i64 r2, .int .i64 imm, .int .i64 csr] 37)).cell? ⟨w.heap.size, 4, none⟩ = some (.int .i64 imm) := by simp
  have c5 : (w.alloc (.cells #[.int .i64 op, .int .i64 rd, .int .i64 r1, .int .i64 r2, .int .i64 imm, .int .i64 csr] 37)).cell? ⟨w.heap.size, 5, none⟩ = some (.int .i64 csr) := by simp
  have cg := Go.Lib.cell?_alloc_some (.cells #[.int .i64 op, .int .i64 rd, .int .i64 r1, .int .i64 r2, .int .i64 imm, .int .i64 csr] 37) hg
  have HB := Lib.hid ((Below.refl w.heap.size w).alloc (Nat.le_refl _) (.cells #[.int .i64 op, .int .i64 rd, .int .i64 r1, .int .i64 r2, .int .i64 imm, .int .i64 csr] 37))
  generalize w.alloc (.cells #[.int .i64 op, .int .i64 rd, .int .i64 r1, .int .i64 r2, .int .i64 imm, .int .i64 csr] 37) = W at *
  go_quiet (fail)
  go_wp2_with (first | (go_at_call 75; (with_reducible refine (G0.out _).mono ?_); rintro e w' ⟨rfl, q0, rfl⟩) | (go_at_call 75; (with_reducible refine (G1.out _).mono ?_); rintro e w' ⟨rfl, q1, rfl⟩) | (go_at_call 75; (with_reducible refine (G2.out _).mono ?_); rintro e w' ⟨rfl, q2, rfl⟩) | (go_at_call 75; (with_reducible refine (G3.out _).mono ?_); rintro e w' ⟨rfl, q3, rfl⟩))
  go_ret
  refine ⟨?_, ?_⟩
  · rw [HE.out]
    exact ret_int (isN_or (isN_or (isN_or (isN_self hb) (isN_or (isN_mul x1 128 (by omega)) (isN_mul x2 32768 (by omega)))) (isN_or (isN_or (isN_or (isN_mul p0 2147483648 (by omega)) (isN_mul p1 33554432 (by omega))) (isN_mul p2 256 (by omega))) (isN_mul p3 128 (by omega)))) (isN_mul x3 1048576 (by omega))).1
  · repeat (first | exact HB.out | refine below_drewN ?_ _)
set_option maxHeartbeats 2000000 in
theorem laid_k83 (op : Nat) (hop : op < 57) (hk : kN op = 83) (b : Nat) (hb : b < 4294967296) (rd r1 r2 imm csr : Int) (x1 x2 x3 x4 x5 : Nat) (e1 : bits .and .i64 rd 31 = (x1 : Int)) (e2 : bits .and .i64 r1 31 = (x2 : Int)) (e3 : bits .and .i64 r2 31 = (x3 : Int)) (e4 : IntKind.u32.wrap imm = (x4 : Int)) (e5 : IntKind.u32.wrap csr = (x5 : Int)) (f1 : x1 < 32) (f2 : x2 < 32) (f3 : x3 < 32) (f4 : x4 < 4294967296) (f5 : x5 < 4294967296) (w : World)
    (hg : w.cell? ⟨2, op, none⟩ = some (.int .u32 b)) :
    Calls Tryz.prog 43 #[.agg #[.int .i64 op, .int .i64 rd, .int .i64 r1, .int .i64 r2, .int .i64 imm, .int .i64 csr]] w fun e w' => e = .returned (.int .u32 (laidN 83 b x1 x2 x3 x4 x5 : Nat)) ∧ Below w.heap.size w w' := by
  obtain ⟨p0, hp0⟩ : ∃ p, x4 / 2 ^ 5 % 2 ^ 7 = p := ⟨_, rfl⟩
  have fp0 : p0 < 128 := by rw [← hp0]; exact Nat.mod_lt _ (by decide)
  have G0 := Lib.hid (field_at x4 f4 5 7 5 7 p0 rfl rfl (by decide) hp0)
  obtain ⟨p1, hp1⟩ : ∃ p, x4 / 2 ^ 0 % 2 ^ 5 = p := ⟨_, rfl⟩
  have fp1 : p1 < 32 := by rw [← hp1]; exact Nat.mod_lt _ (by decide)
  have G1 := Lib.hid (field_at x4 f4 0 5 0 5 p1 rfl rfl (by decide) hp1)
  have hq0 : x4 / 32 % 128 = p0 := by simpa using hp0
  have hq1 : x4 % 32 = p1 := by simpa using hp1
  have EQ : laidN 83 b x1 x2 x3 x4 x5 = ((b ||| (x1 * 128 ||| x2 * 32768)) ||| (p0 * 33554432 ||| p1 * 128)) ||| x3 * 1048576 := by
    rw [← hq0, ← hq1]
    rfl
  have HE := Lib.hid EQ
  clear EQ hp0 hq0 hp1 hq1
  have hK := kByte op hop
  rw [hk] at hK
  go_enter Tryz.func43, Tryz.ntmps43
  go_upto_region 1 with (fail)
  have hopI : (op : Int) < 57 := by omega
  have hlt := block_lt_of_cell hg
  have c0 : (w.alloc (.cells #[.int .i64 op, .int .i64 rd, .int .i64 r1, .int .i64 r2, .int .i64 imm, .int .i64 csr] 37)).cell? ⟨w.heap.size, 0, none⟩ = some (.int .i64 op) := by simp
  have c1 : (w.alloc (.cells #[.int .i64 op, .int .i64 rd, .int .i64 r1, .int .i64 r2, .int .i64 imm, .int .i64 csr] 37)).cell? ⟨w.heap.size, 1, none⟩ = some (.int .i64 rd) := by simp
  have c2 : (w.alloc (.cells #[.int .i64 op, .int .i64 rd, .int .i64 r1, .int .i64 r2, .int .i64 imm, .int .i64 csr] 37)).cell? ⟨w.heap.size, 2, none⟩ = some (.int .i64 r1) := by simp
  have c3 : (w.alloc (.cells #[.int .i64 op, .int .i64 rd, .int .i64 r1, .int .i64 r2, .int .i64 imm, .int .i64 csr] 37)).cell? ⟨w.heap.size, 3, none⟩ = some (.int .i64 r2) := by simp
  have c4 : (w.alloc (.cells #[.int .i64 op, .int .i64 rd, .int .i64 r1, .int .i64 r2, .int .i64 imm, .int .i64 csr] 37)).cell? ⟨w.heap.size, 4, none⟩ = some (.int .i64 imm) := by simp
  have c5 : (w.alloc (.cells #[.int .i64 op, .int .i64 rd, .int .i64 r1, .int .i64 r2, .int .i64 imm, .int .i64 csr] 37)).cell? ⟨w.heap.size, 5, none⟩ = some (.int .i64 csr) := by simp
  have cg := Go.Lib.cell?_alloc_some (.cells #[.int .i64 op, .int .i64 rd, .int .i64 r1, .int .i64 r2, .int .i64 imm, .int .i64 csr] 37) hg
  have HB := Lib.hid ((Below.refl w.heap.size w).alloc (Nat.le_refl _) (.cells #[.int .i64 op, .int .i64 rd, .int .i64 r1, .int .i64 r2, .int .i64 imm, .int .i64 csr] 37))
  generalize w.alloc (.cells #[.int .i64 op, .int .i64 rd, .int .i64 r1, .int .i64 r2, .int .i64 imm, .int .i64 csr] 37) = W at *
  go_quiet (fail)
  go_wp2_with (first | (go_at_call 75; (with_reducible refine (G0.out _).mono ?_); rintro e w' ⟨rfl, q0, rfl⟩) | (go_at_call 75; (with_reducible refine (G1.out _).mono ?_); rintro e w' ⟨rfl, q1, rfl⟩))
  go_ret
  refine ⟨?_, ?_⟩
  · rw [HE.out]
    exact ret_int (isN_or (isN_or (isN_or (isN_self hb) (isN_or (isN_mul x1 128 (by omega)) (isN_mul x2 32768 (by omega)))) (isN_or (isN_mul p0 33554432 (by omega)) (isN_mul p1 128 (by omega)))) (isN_mul x3 1048576 (by omega))).1
  · repeat (first | exact HB.out | refine below_drewN ?_ _)
set_option maxHeartbeats 2000000 in
theorem laid_k72 (op : Nat) (hop : op < 57) (hk : kN op = 72) (b : Nat) (hb : b < 4294967296) (rd r1 r2 imm csr : Int) (x1 x2 x3 x4 x5 : Nat) (e1 : bits .and .i64 rd 31 = (x1 : Int)) (e2 : bits .and .i64 r1 31 = (x2 : Int)) (e3 : bits .and .i64 r2 31 = (x3 : Int)) (e4 : IntKind.u32.wrap imm = (x4 : Int)) (e5 : IntKind.u32.wrap csr = (x5 : Int)) (f1 : x1 < 32) (f2 : x2 < 32) (f3 : x3 < 32) (f4 : x4 < 4294967296) (f5 : x5 < 4294967296) (w : World)
    (hg : w.cell? ⟨2, op, none⟩ = some (.int .u32 b)) :
    Calls Tryz.prog 43 #[.agg #[.int .i64 op, .int .i64 rd, .int .i64 r1, .int .i64 r2, .int .i64 imm, .int .i64 csr]] w fun e w' => e = .returned (.int .u32 (laidN 72 b x1 x2 x3 x4 x5 : Nat)) ∧ Below w.heap.size w w' := by
  obtain ⟨y, hy⟩ : ∃ y, y = x4 % 32 := ⟨_, rfl⟩
  have ey : bits .and .u32 (x4 : Int) 31 = (y : Int) := by rw [hy]; exact u32_low5 f4
  have fy : y < 32 := by omega
  have EQ : laidN 72 b x1 x2 x3 x4 x5 = (b ||| (x1 * 128 ||| x2 * 32768)) ||| y * 1048576 := by
    rw [hy]
    rfl
  have HE := Lib.hid EQ
  clear EQ hy
  have hK := kByte op hop
  rw [hk] at hK
  go_enter Tryz.func43, Tryz.ntmps43
  go_upto_region 1 with (fail)
  have hopI : (op : Int) < 57 := by omega
  have hlt := block_lt_of_cell hg
  have c0 : (w.alloc (.cells #[.int .i64 op, .int .i64 rd, .int .i64 r1, .int .i64 r2, .int .i64 imm, .int .i64 csr] 37)).cell? ⟨w.heap.size, 0, none⟩ = some (.int .i64 op) := by simp
  have c1 : (w.alloc (.cells #[.int .i64 op, .int .i64 rd, .int .i64 r1, .int .i64 r2, .int .i64 imm, .int .i64 csr] 37)).cell? ⟨w.heap.size, 1, none⟩ = some (.int .i64 rd) := by simp
  have c2 : (w.alloc (.cells #[.int .i64 op, .int .i64 rd, .int .i64 r1, .int .i64 r2, .int .i64 imm, .int .i64 csr] 37)).cell? ⟨w.heap.size, 2, none⟩ = some (.int .i64 r1) := by simp
  have c3 : (w.alloc (.cells #[.int .i64 op, .int .i64 rd, .int .i64 r1, .int .i64 r2, .int .i64 imm, .int .i64 csr] 37)).cell? ⟨w.heap.size, 3, none⟩ = some (.int .i64 r2) := by simp
  have c4 : (w.alloc (.cells #[.int .i64 op, .int .i64 rd, .int .i64 r1, .int .i64 r2, .int .i64 imm, .int .i64 csr] 37)).cell? ⟨w.heap.size, 4, none⟩ = some (.int .i64 imm) := by simp
  have c5 : (w.alloc (.cells #[.int .i64 op, .int .i64 rd, .int .i64 r1, .int .i64 r2, .int .i64 imm, .int .i64 csr] 37)).cell? ⟨w.heap.size, 5, none⟩ = some (.int .i64 csr) := by simp
  have cg := Go.Lib.cell?_alloc_some (.cells #[.int .i64 op, .int .i64 rd, .int .i64 r1, .int .i64 r2, .int .i64 imm, .int .i64 csr] 37) hg
  have HB := Lib.hid ((Below.refl w.heap.size w).alloc (Nat.le_refl _) (.cells #[.int .i64 op, .int .i64 rd, .int .i64 r1, .int .i64 r2, .int .i64 imm, .int .i64 csr] 37))
  generalize w.alloc (.cells #[.int .i64 op, .int .i64 rd, .int .i64 r1, .int .i64 r2, .int .i64 imm, .int .i64 csr] 37) = W at *
  go_quiet (fail)
  go_wp2_with (fail)
  go_ret
  refine ⟨?_, ?_⟩
  · rw [HE.out]
    exact ret_int (isN_or (isN_or (isN_self hb) (isN_or (isN_mul x1 128 (by omega)) (isN_mul x2 32768 (by omega)))) (isN_mul y 1048576 (by omega))).1
  · repeat (first | exact HB.out | refine below_drewN ?_ _)
set_option maxHeartbeats 2000000 in
theorem laid_k67 (op : Nat) (hop : op < 57) (hk : kN op = 67) (b : Nat) (hb : b < 4294967296) (rd r1 r2 imm csr : Int) (x1 x2 x3 x4 x5 : Nat) (e1 : bits .and .i64 rd 31 = (x1 : Int)) (e2 : bits .and .i64 r1 31 = (x2 : Int)) (e3 : bits .and .i64 r2 31 = (x3 : Int)) (e4 : IntKind.u32.wrap imm = (x4 : Int)) (e5 : IntKind.u32.wrap csr = (x5 : Int)) (f1 : x1 < 32) (f2 : x2 < 32) (f3 : x3 < 32) (f4 : x4 < 4294967296) (f5 : x5 < 4294967296) (w : World)
    (hg : w.cell? ⟨2, op, none⟩ = some (.int .u32 b)) :
    Calls Tryz.prog 43 #[.agg #[.int .i64 op, .int .i64 rd, .int .i64 r1, .int .i64 r2, .int .i64 imm, .int .i64 csr]] w fun e w' => e = .returned (.int .u32 (laidN 67 b x1 x2 x3 x4 x5 : Nat)) ∧ Below w.heap.size w w' := by
  have EQ : laidN 67 b x1 x2 x3 x4 x5 = (b ||| (x1 * 128 ||| x2 * 32768)) ||| x5 * 1048576 % 4294967296 := by
    rfl
  have HE := Lib.hid EQ
  clear EQ
  have hK := kByte op hop
  rw [hk] at hK
  go_enter Tryz.func43, Tryz.ntmps43
  go_upto_region 1 with (fail)
  have hopI : (op : Int) < 57 := by omega
  have hlt := block_lt_of_cell hg
  have c0 : (w.alloc (.cells #[.int .i64 op, .int .i64 rd, .int .i64 r1, .int .i64 r2, .int .i64 imm, .int .i64 csr] 37)).cell? ⟨w.heap.size, 0, none⟩ = some (.int .i64 op) := by simp
  have c1 : (w.alloc (.cells #[.int .i64 op, .int .i64 rd, .int .i64 r1, .int .i64 r2, .int .i64 imm, .int .i64 csr] 37)).cell? ⟨w.heap.size, 1, none⟩ = some (.int .i64 rd) := by simp
  have c2 : (w.alloc (.cells #[.int .i64 op, .int .i64 rd, .int .i64 r1, .int .i64 r2, .int .i64 imm, .int .i64 csr] 37)).cell? ⟨w.heap.size, 2, none⟩ = some (.int .i64 r1) := by simp
  have c3 : (w.alloc (.cells #[.int .i64 op, .int .i64 rd, .int .i64 r1, .int .i64 r2, .int .i64 imm, .int .i64 csr] 37)).cell? ⟨w.heap.size, 3, none⟩ = some (.int .i64 r2) := by simp
  have c4 : (w.alloc (.cells #[.int .i64 op, .int .i64 rd, .int .i64 r1, .int .i64 r2, .int .i64 imm, .int .i64 csr] 37)).cell? ⟨w.heap.size, 4, none⟩ = some (.int .i64 imm) := by simp
  have c5 : (w.alloc (.cells #[.int .i64 op, .int .i64 rd, .int .i64 r1, .int .i64 r2, .int .i64 imm, .int .i64 csr] 37)).cell? ⟨w.heap.size, 5, none⟩ = some (.int .i64 csr) := by simp
  have cg := Go.Lib.cell?_alloc_some (.cells #[.int .i64 op, .int .i64 rd, .int .i64 r1, .int .i64 r2, .int .i64 imm, .int .i64 csr] 37) hg
  have HB := Lib.hid ((Below.refl w.heap.size w).alloc (Nat.le_refl _) (.cells #[.int .i64 op, .int .i64 rd, .int .i64 r1, .int .i64 r2, .int .i64 imm, .int .i64 csr] 37))
  generalize w.alloc (.cells #[.int .i64 op, .int .i64 rd, .int .i64 r1, .int .i64 r2, .int .i64 imm, .int .i64 csr] 37) = W at *
  go_quiet (fail)
  go_wp2_with (fail)
  go_ret
  refine ⟨?_, ?_⟩
  · rw [HE.out]
    exact ret_int (isN_or (isN_or (isN_self hb) (isN_or (isN_mul x1 128 (by omega)) (isN_mul x2 32768 (by omega)))) (isN_mod x5 1048576)).1
  · repeat (first | exact HB.out | refine below_drewN ?_ _)
set_option maxHeartbeats 2000000 in
theorem laid_k82 (op : Nat) (hop : op < 57) (hk : kN op = 82) (b : Nat) (hb : b < 4294967296) (rd r1 r2 imm csr : Int) (x1 x2 x3 x4 x5 : Nat) (e1 : bits .and .i64 rd 31 = (x1 : Int)) (e2 : bits .and .i64 r1 31 = (x2 : Int)) (e3 : bits .and .i64 r2 31 = (x3 : Int)) (e4 : IntKind.u32.wrap imm = (x4 : Int)) (e5 : IntKind.u32.wrap csr = (x5 : Int)) (f1 : x1 < 32) (f2 : x2 < 32) (f3 : x3 < 32) (f4 : x4 < 4294967296) (f5 : x5 < 4294967296) (w : World)
    (hg : w.cell? ⟨2, op, none⟩ = some (.int .u32 b)) :
    Calls Tryz.prog 43 #[.agg #[.int .i64 op, .int .i64 rd, .int .i64 r1, .int .i64 r2, .int .i64 imm, .int .i64 csr]] w fun e w' => e = .returned (.int .u32 (laidN 82 b x1 x2 x3 x4 x5 : Nat)) ∧ Below w.heap.size w w' := by
  have EQ : laidN 82 b x1 x2 x3 x4 x5 = (b ||| (x1 * 128 ||| x2 * 32768)) ||| x3 * 1048576 := by
    rfl
  have HE := Lib.hid EQ
  clear EQ
  have hK := kByte op hop
  rw [hk] at hK
  go_enter Tryz.func43, Tryz.ntmps43
  go_upto_region 1 with (fail)
  have hopI : (op : Int) < 57 := by omega
  have hlt := block_lt_of_cell hg
  have c0 : (w.alloc (.cells #[.int .i64 op, .int .i64 rd, .int .i64 r1, .int .i64 r2, .int .i64 imm, .int .i64 csr] 37)).cell? ⟨w.heap.size, 0, none⟩ = some (.int .i64 op) := by simp
  have c1 : (w.alloc (.cells #[.int .i64 op, .int .i64 rd, .int .i64 r1, .int .i64 r2, .int .i64 imm, .int .i64 csr] 37)).cell? ⟨w.heap.size, 1, none⟩ = some (.int .i64 rd) := by simp
  have c2 : (w.alloc (.cells #[.int .i64 op, .int .i64 rd, .int .i64 r1, .int .i64 r2, .int .i64 imm, .int .i64 csr] 37)).cell? ⟨w.heap.size, 2, none⟩ = some (.int .i64 r1) := by simp
  have c3 : (w.alloc (.cells #[.int .i64 op, .int .i64 rd, .int .i64 r1, .int .i64 r2, .int .i64 imm, .int .i64 csr] 37)).cell? ⟨w.heap.size, 3, none⟩ = some (.int .i64 r2) := by simp
  have c4 : (w.alloc (.cells #[.int .i64 op, .int .i64 rd, .int .i64 r1, .int .i64 r2, .int .i64 imm, .int .i64 csr] 37)).cell? ⟨w.heap.size, 4, none⟩ = some (.int .i64 imm) := by simp
  have c5 : (w.alloc (.cells #[.int .i64 op, .int .i64 rd, .int .i64 r1, .int .i64 r2, .int .i64 imm, .int .i64 csr] 37)).cell? ⟨w.heap.size, 5, none⟩ = some (.int .i64 csr) := by simp
  have cg := Go.Lib.cell?_alloc_some (.cells #[.int .i64 op, .int .i64 rd, .int .i64 r1, .int .i64 r2, .int .i64 imm, .int .i64 csr] 37) hg
  have HB := Lib.hid ((Below.refl w.heap.size w).alloc (Nat.le_refl _) (.cells #[.int .i64 op, .int .i64 rd, .int .i64 r1, .int .i64 r2, .int .i64 imm, .int .i64 csr] 37))
  generalize w.alloc (.cells #[.int .i64 op, .int .i64 rd, .int .i64 r1, .int .i64 r2, .int .i64 imm, .int .i64 csr] 37) = W at *
  go_quiet (fail)
  go_wp2_with (fail)
  go_ret
  refine ⟨?_, ?_⟩
  · rw [HE.out]
    exact ret_int (isN_or (isN_or (isN_self hb) (isN_or (isN_mul x1 128 (by omega)) (isN_mul x2 32768 (by omega)))) (isN_mul x3 1048576 (by omega))).1
  · repeat (first | exact HB.out | refine below_drewN ?_ _)
set_option maxHeartbeats 2000000 in
theorem laid_k78 (op : Nat) (hop : op < 57) (hk : kN op = 78) (b : Nat) (hb : b < 4294967296) (rd r1 r2 imm csr : Int) (x1 x2 x3 x4 x5 : Nat) (e1 : bits .and .i64 rd 31 = (x1 : Int)) (e2 : bits .and .i64 r1 31 = (x2 : Int)) (e3 : bits .and .i64 r2 31 = (x3 : Int)) (e4 : IntKind.u32.wrap imm = (x4 : Int)) (e5 : IntKind.u32.wrap csr = (x5 : Int)) (f1 : x1 < 32) (f2 : x2 < 32) (f3 : x3 < 32) (f4 : x4 < 4294967296) (f5 : x5 < 4294967296) (w : World)
    (hg : w.cell? ⟨2, op, none⟩ = some (.int .u32 b)) :
    Calls Tryz.prog 43 #[.agg #[.int .i64 op, .int .i64 rd, .int .i64 r1, .int .i64 r2, .int .i64 imm, .int .i64 csr]] w fun e w' => e = .returned (.int .u32 (laidN 78 b x1 x2 x3 x4 x5 : Nat)) ∧ Below w.heap.size w w' := by
  have EQ : laidN 78 b x1 x2 x3 x4 x5 = (b ||| (x1 * 128 ||| x2 * 32768)) ||| x3 * 1048576 := by
    rfl
  have HE := Lib.hid EQ
  clear EQ
  have hK := kByte op hop
  rw [hk] at hK
  go_enter Tryz.func43, Tryz.ntmps43
  go_upto_region 1 with (fail)
  have hopI : (op : Int) < 57 := by omega
  have hlt := block_lt_of_cell hg
  have c0 : (w.alloc (.cells #[.int .i64 op, .int .i64 rd, .int .i64 r1, .int .i64 r2, .int .i64 imm, .int .i64 csr] 37)).cell? ⟨w.heap.size, 0, none⟩ = some (.int .i64 op) := by simp
  have c1 : (w.alloc (.cells #[.int .i64 op, .int .i64 rd, .int .i64 r1, .int .i64 r2, .int .i64 imm, .int .i64 csr] 37)).cell? ⟨w.heap.size, 1, none⟩ = some (.int .i64 rd) := by simp
  have c2 : (w.alloc (.cells #[.int .i64 op, .int .i64 rd, .int .i64 r1, .int .i64 r2, .int .i64 imm, .int .i64 csr] 37)).cell? ⟨w.heap.size, 2, none⟩ = some (.int .i64 r1) := by simp
  have c3 : (w.alloc (.cells #[.int .i64 op, .int .i64 rd, .int .i64 r1, .int .i64 r2, .int .i64 imm, .int .i64 csr] 37)).cell? ⟨w.heap.size, 3, none⟩ = some (.int .i64 r2) := by simp
  have c4 : (w.alloc (.cells #[.int .i64 op, .int .i64 rd, .int .i64 r1, .int .i64 r2, .int .i64 imm, .int .i64 csr] 37)).cell? ⟨w.heap.size, 4, none⟩ = some (.int .i64 imm) := by simp
  have c5 : (w.alloc (.cells #[.int .i64 op, .int .i64 rd, .int .i64 r1, .int .i64 r2, .int .i64 imm, .int .i64 csr] 37)).cell? ⟨w.heap.size, 5, none⟩ = some (.int .i64 csr) := by simp
  have cg := Go.Lib.cell?_alloc_some (.cells #[.int .i64 op, .int .i64 rd, .int .i64 r1, .int .i64 r2, .int .i64 imm, .int .i64 csr] 37) hg
  have HB := Lib.hid ((Below.refl w.heap.size w).alloc (Nat.le_refl _) (.cells #[.int .i64 op, .int .i64 rd, .int .i64 r1, .int .i64 r2, .int .i64 imm, .int .i64 csr] 37))
  generalize w.alloc (.cells #[.int .i64 op, .int .i64 rd, .int .i64 r1, .int .i64 r2, .int .i64 imm, .int .i64 csr] 37) = W at *
  go_quiet (fail)
  go_wp2_with (fail)
  go_ret
  refine ⟨?_, ?_⟩
  · rw [HE.out]
    exact ret_int (isN_or (isN_or (isN_self hb) (isN_or (isN_mul x1 128 (by omega)) (isN_mul x2 32768 (by omega)))) (isN_mul x3 1048576 (by omega))).1
  · repeat (first | exact HB.out | refine below_drewN ?_ _)

theorem sign_12 {v : Nat} (hv : v < 4096) : wrap32 ((signN v 12 : Nat) : Int) = sx 2048 v := by
  have h := sign_math (v := v) (n := 12) (s := 20) (by omega) rfl (by decide) (by decide)
  rw [show (((12 : Nat) : Int)) = 12 from rfl] at h
  rw [← h, show (2 : Int) ^ 20 = 1048576 from by decide]
  unfold wrap32 sx
  split <;> omega
theorem sign_13 {v : Nat} (hv : v < 8192) : wrap32 ((signN v 13 : Nat) : Int) = sx 4096 v := by
  have h := sign_math (v := v) (n := 13) (s := 19) (by omega) rfl (by decide) (by decide)
  rw [show (((13 : Nat) : Int)) = 13 from rfl] at h
  rw [← h, show (2 : Int) ^ 19 = 524288 from by decide]
  unfold wrap32 sx
  split <;> omega
theorem sign_21 {v : Nat} (hv : v < 2097152) : wrap32 ((signN v 21 : Nat) : Int) = sx 1048576 v := by
  have h := sign_math (v := v) (n := 21) (s := 11) (by omega) rfl (by decide) (by decide)
  rw [show (((21 : Nat) : Int)) = 21 from rfl] at h
  rw [← h, show (2 : Int) ^ 11 = 2048 from by decide]
  unfold wrap32 sx
  split <;> omega
theorem top_sx {v : Nat} (hv : v < 4294967296) : wrap32 (v : Int) = sx 2147483648 v := by
  unfold sx
  by_cases h : v < 2147483648
  · rw [if_pos h]
    unfold wrap32
    omega
  · rw [if_neg h]
    unfold wrap32
    have e : ((2 : Int) * ((2147483648 : Nat) : Int)) = 4294967296 := by decide
    rw [e]
    omega
theorem wrap64_id {z : Int} (h1 : -2147483648 ≤ z) (h2 : z < 2147483648) : wrap64 z = z := by unfold wrap64; omega
theorem six_below (w : World) (o : Obj) (q : Nat) (a b c d e f : Value) : Below w.heap.size w (((((((w.alloc o).drewN q).setCell ⟨w.heap.size, 0, none⟩ a).setCell ⟨w.heap.size, 1, none⟩ b).setCell ⟨w.heap.size, 2, none⟩ c).setCell ⟨w.heap.size, 3, none⟩ d).setCell ⟨w.heap.size, 4, none⟩ e |>.setCell ⟨w.heap.size, 5, none⟩ f) :=
  ((((((below_drewN ((Below.refl _ w).alloc (Nat.le_refl _) _) _).setCell (Nat.le_refl _) _).setCell (Nat.le_refl _) _).setCell (Nat.le_refl _) _).setCell (Nat.le_refl _) _).setCell (Nat.le_refl _) _).setCell (Nat.le_refl _) _
theorem sx_lo {h v : Nat} (hh : h ≤ 2147483648) : -2147483648 ≤ sx h v := by unfold sx; split <;> omega
theorem sx_hi {h v : Nat} (hv : v < 2 * h) (hh : h ≤ 2147483648) : sx h v < 2147483648 := by unfold sx; split <;> omega
set_option maxHeartbeats 2000000 in
theorem near_any (x : Nat) (hx : x < 4294967296) (w : World) : Calls Tryz.prog 102 #[.int .u32 x] w fun e w' => e = .returned (.int .i64 (immOf 66 x)) ∧ ∃ q, w.drewN q = w' := by
  obtain ⟨p0, hp0⟩ : ∃ p, x / 2 ^ 31 % 2 ^ 1 = p := ⟨_, rfl⟩
  have fp0 : p0 < 2 := by rw [← hp0]; exact Nat.mod_lt _ (by decide)
  have G0 := Lib.hid (field_at x hx 31 1 31 1 p0 rfl rfl (by decide) hp0)
  obtain ⟨p1, hp1⟩ : ∃ p, x / 2 ^ 7 % 2 ^ 1 = p := ⟨_, rfl⟩
  have fp1 : p1 < 2 := by rw [← hp1]; exact Nat.mod_lt _ (by decide)
  have G1 := Lib.hid (field_at x hx 7 1 7 1 p1 rfl rfl (by decide) hp1)
  obtain ⟨p2, hp2⟩ : ∃ p, x / 2 ^ 25 % 2 ^ 6 = p := ⟨_, rfl⟩
  have fp2 : p2 < 64 := by rw [← hp2]; exact Nat.mod_lt _ (by decide)
  have G2 := Lib.hid (field_at x hx 25 6 25 6 p2 rfl rfl (by decide) hp2)
  obtain ⟨p3, hp3⟩ : ∃ p, x / 2 ^ 8 % 2 ^ 4 = p := ⟨_, rfl⟩
  have fp3 : p3 < 16 := by rw [← hp3]; exact Nat.mod_lt _ (by decide)
  have G3 := Lib.hid (field_at x hx 8 4 8 4 p3 rfl rfl (by decide) hp3)
  have q0 : x / 2147483648 = p0 := by rw [← hp0]; exact (Nat.mod_eq_of_lt (by omega)).symm
  have q1 : x / 128 % 2 = p1 := by simpa using hp1
  have q2 : x / 33554432 % 64 = p2 := by simpa using hp2
  have q3 : x / 256 % 16 = p3 := by simpa using hp3
  obtain ⟨V, hV⟩ : ∃ V, V = p0 * 4096 + p1 * 2048 + p2 * 32 + p3 * 2 := ⟨_, rfl⟩
  have fV : V < 8192 := by omega
  have eo : bits .or .u32 (bits .or .u32 (bits .or .u32 ((p0 : Int) * 4096) ((p1 : Int) * 2048)) ((p2 : Int) * 32)) ((p3 : Int) * 2) = (V : Int) := by
    refine (isN_or (isN_or (isN_or (isN_mul p0 4096 (by omega)) (isN_mul p1 2048 (by omega))) (isN_mul p2 32 (by omega))) (isN_mul p3 2 (by omega))).1.trans ?_
    rw [show p0 * 4096 ||| p1 * 2048 = p0 * 4096 + p1 * 2048 from nat_join 12 _ _ (by omega) (by omega), show (p0 * 4096 + p1 * 2048) ||| p2 * 32 = p0 * 4096 + p1 * 2048 + p2 * 32 from nat_join 11 _ _ (by omega) (by omega), show (p0 * 4096 + p1 * 2048 + p2 * 32) ||| p3 * 2 = p0 * 4096 + p1 * 2048 + p2 * 32 + p3 * 2 from nat_join 5 _ _ (by omega) (by omega), hV]
  obtain ⟨s, hs⟩ : ∃ s, s = signN V 13 := ⟨_, rfl⟩
  have hsl : s < 4294967296 := by rw [hs]; exact signN_lt _ _
  have S := Lib.hid (fun w => by have h := psign_any V (by omega) 13 w; rw [← hs] at h; exact h)
  obtain ⟨z, hz⟩ : ∃ z, z = sx 4096 V := ⟨_, rfl⟩
  have zl : -2147483648 ≤ z := by rw [hz]; exact sx_lo (by decide)
  have zh : z < 2147483648 := by rw [hz]; exact sx_hi (by omega) (by decide)
  have es : wrap32 (s : Int) = z := by rw [hs, hz]; exact sign_13 fV
  have HZ : Hid (immOf 66 x = z) := Lib.hid (by
    rw [hz, hV, ← q0, ← q1, ← q2, ← q3]; unfold immOf; rw [if_neg (by decide), if_neg (by decide), if_neg (by decide), if_pos rfl])
  clear hz hs hV hp0 hp1 hp2 hp3 q0 q1 q2 q3
  go_enter Tryz.func102, Tryz.ntmps102
  go_wp2_with (first | (go_at_call 75; (with_reducible refine (G0.out _).mono ?_); rintro e w' ⟨rfl, q0, rfl⟩) | (go_at_call 75; (with_reducible refine (G1.out _).mono ?_); rintro e w' ⟨rfl, q1, rfl⟩) | (go_at_call 75; (with_reducible refine (G2.out _).mono ?_); rintro e w' ⟨rfl, q2, rfl⟩) | (go_at_call 75; (with_reducible refine (G3.out _).mono ?_); rintro e w' ⟨rfl, q3, rfl⟩) | (go_at_call 100; refine (S.out _).mono ?_; rintro e w' ⟨rfl, rfl⟩))
  go_ret
  rw [HZ.out]
  refine ⟨rfl, ?_⟩
  exact ⟨_, rfl⟩
set_option maxHeartbeats 2000000 in
theorem far_any (x : Nat) (hx : x < 4294967296) (w : World) : Calls Tryz.prog 101 #[.int .u32 x] w fun e w' => e = .returned (.int .i64 (immOf 74 x)) ∧ ∃ q, w.drewN q = w' := by
  obtain ⟨p0, hp0⟩ : ∃ p, x / 2 ^ 31 % 2 ^ 1 = p := ⟨_, rfl⟩
  have fp0 : p0 < 2 := by rw [← hp0]; exact Nat.mod_lt _ (by decide)
  have G0 := Lib.hid (field_at x hx 31 1 31 1 p0 rfl rfl (by decide) hp0)
  obtain ⟨p1, hp1⟩ : ∃ p, x / 2 ^ 12 % 2 ^ 8 = p := ⟨_, rfl⟩
  have fp1 : p1 < 256 := by rw [← hp1]; exact Nat.mod_lt _ (by decide)
  have G1 := Lib.hid (field_at x hx 12 8 12 8 p1 rfl rfl (by decide) hp1)
  obtain ⟨p2, hp2⟩ : ∃ p, x / 2 ^ 20 % 2 ^ 1 = p := ⟨_, rfl⟩
  have fp2 : p2 < 2 := by rw [← hp2]; exact Nat.mod_lt _ (by decide)
  have G2 := Lib.hid (field_at x hx 20 1 20 1 p2 rfl rfl (by decide) hp2)
  obtain ⟨p3, hp3⟩ : ∃ p, x / 2 ^ 21 % 2 ^ 10 = p := ⟨_, rfl⟩
  have fp3 : p3 < 1024 := by rw [← hp3]; exact Nat.mod_lt _ (by decide)
  have G3 := Lib.hid (field_at x hx 21 10 21 10 p3 rfl rfl (by decide) hp3)
  have q0 : x / 2147483648 = p0 := by rw [← hp0]; exact (Nat.mod_eq_of_lt (by omega)).symm
  have q1 : x / 4096 % 256 = p1 := by simpa using hp1
  have q2 : x / 1048576 % 2 = p2 := by simpa using hp2
  have q3 : x / 2097152 % 1024 = p3 := by simpa using hp3
  obtain ⟨V, hV⟩ : ∃ V, V = p0 * 1048576 + p1 * 4096 + p2 * 2048 + p3 * 2 := ⟨_, rfl⟩
  have fV : V < 2097152 := by omega
  have eo : bits .or .u32 (bits .or .u32 (bits .or .u32 ((p0 : Int) * 1048576) ((p1 : Int) * 4096)) ((p2 : Int) * 2048)) ((p3 : Int) * 2) = (V : Int) := by
    refine (isN_or (isN_or (isN_or (isN_mul p0 1048576 (by omega)) (isN_mul p1 4096 (by omega))) (isN_mul p2 2048 (by omega))) (isN_mul p3 2 (by omega))).1.trans ?_
    rw [show p0 * 1048576 ||| p1 * 4096 = p0 * 1048576 + p1 * 4096 from nat_join 20 _ _ (by omega) (by omega), show (p0 * 1048576 + p1 * 4096) ||| p2 * 2048 = p0 * 1048576 + p1 * 4096 + p2 * 2048 from nat_join 12 _ _ (by omega) (by omega), show (p0 * 1048576 + p1 * 4096 + p2 * 2048) ||| p3 * 2 = p0 * 1048576 + p1 * 4096 + p2 * 2048 + p3 * 2 from nat_join 11 _ _ (by omega) (by omega), hV]
  obtain ⟨s, hs⟩ : ∃ s, s = signN V 21 := ⟨_, rfl⟩
  have hsl : s < 4294967296 := by rw [hs]; exact signN_lt _ _
  have S := Lib.hid (fun w => by have h := psign_any V (by omega) 21 w; rw [← hs] at h; exact h)
  obtain ⟨z, hz⟩ : ∃ z, z = sx 1048576 V := ⟨_, rfl⟩
  have zl : -2147483648 ≤ z := by rw [hz]; exact sx_lo (by decide)
  have zh : z < 2147483648 := by rw [hz]; exact sx_hi (by omega) (by decide)
  have es : wrap32 (s : Int) = z := by rw [hs, hz]; exact sign_21 fV
  have HZ : Hid (immOf 74 x = z) := Lib.hid (by
    rw [hz, hV, ← q0, ← q1, ← q2, ← q3]; unfold immOf; rw [if_neg (by decide), if_pos rfl])
  clear hz hs hV hp0 hp1 hp2 hp3 q0 q1 q2 q3
  go_enter Tryz.func101, Tryz.ntmps101
  go_wp2_with (first | (go_at_call 75; (with_reducible refine (G0.out _).mono ?_); rintro e w' ⟨rfl, q0, rfl⟩) | (go_at_call 75; (with_reducible refine (G1.out _).mono ?_); rintro e w' ⟨rfl, q1, rfl⟩) | (go_at_call 75; (with_reducible refine (G2.out _).mono ?_); rintro e w' ⟨rfl, q2, rfl⟩) | (go_at_call 75; (with_reducible refine (G3.out _).mono ?_); rintro e w' ⟨rfl, q3, rfl⟩) | (go_at_call 100; refine (S.out _).mono ?_; rintro e w' ⟨rfl, rfl⟩))
  go_ret
  rw [HZ.out]
  refine ⟨rfl, ?_⟩
  exact ⟨_, rfl⟩

set_option maxHeartbeats 2000000 in
theorem fields_k85 (x : Nat) (hx : x < 4294967296) (w : World) : Calls Tryz.prog 74 #[.int .u8 85, .int .u32 x] w fun e w' => e = .returned (.agg #[.int .i64 0, .int .i64 (rdOf 85 x), .int .i64 (r1Of 85 x), .int .i64 (r2Of 85 x), .int .i64 (immOf 85 x), .int .i64 (csrOf 85 x)]) ∧ Below w.heap.size w w' := by
  obtain ⟨p0, hp0⟩ : ∃ p, x / 2 ^ 7 % 2 ^ 5 = p := ⟨_, rfl⟩
  have fp0 : p0 < 32 := by rw [← hp0]; exact Nat.mod_lt _ (by decide)
  have G0 := Lib.hid (field_at x hx 7 5 7 5 p0 rfl rfl (by decide) hp0)
  obtain ⟨p1, hp1⟩ : ∃ p, x / 2 ^ 15 % 2 ^ 5 = p := ⟨_, rfl⟩
  have fp1 : p1 < 32 := by rw [← hp1]; exact Nat.mod_lt _ (by decide)
  have G1 := Lib.hid (field_at x hx 15 5 15 5 p1 rfl rfl (by decide) hp1)
  obtain ⟨p2, hp2⟩ : ∃ p, x / 2 ^ 20 % 2 ^ 5 = p := ⟨_, rfl⟩
  have fp2 : p2 < 32 := by rw [← hp2]; exact Nat.mod_lt _ (by decide)
  have G2 := Lib.hid (field_at x hx 20 5 20 5 p2 rfl rfl (by decide) hp2)
  obtain ⟨p3, hp3⟩ : ∃ p, x / 2 ^ 20 % 2 ^ 12 = p := ⟨_, rfl⟩
  have fp3 : p3 < 4096 := by rw [← hp3]; exact Nat.mod_lt _ (by decide)
  have G3 := Lib.hid (field_at x hx 20 12 20 12 p3 rfl rfl (by decide) hp3)
  have hq0 : x / 128 % 32 = p0 := by simpa using hp0
  have hq1 : x / 32768 % 32 = p1 := by simpa using hp1
  have hq2 : x / 1048576 % 32 = p2 := by simpa using hp2
  have hq3 : x / 1048576 = p3 := by omega
  obtain ⟨s, hs⟩ : ∃ s, s = signN p3 12 := ⟨_, rfl⟩
  have hsl : s < 4294967296 := by rw [hs]; exact signN_lt _ _
  have S := Lib.hid (fun w => by have h := psign_any p3 (by omega) 12 w; rw [← hs] at h; exact h)
  obtain ⟨z, hz⟩ : ∃ z, z = sx 2048 p3 := ⟨_, rfl⟩
  have es : wrap32 (s : Int) = z := by rw [hs, hz]; exact sign_12 fp3
  have zl : -2147483648 ≤ z := by rw [hz]; exact sx_lo (by decide)
  have zh : z < 2147483648 := by rw [hz]; exact sx_hi (by omega) (by decide)
  obtain ⟨y, hy⟩ : ∃ y, y = x / 4096 * 4096 := ⟨_, rfl⟩
  have ey : bits .andNot .u32 (x : Int) 4095 = (y : Int) := by rw [hy]; exact u32_top20 hx
  have fy : y < 4294967296 := by omega
  obtain ⟨zu, hzu⟩ : ∃ z, z = sx 2147483648 y := ⟨_, rfl⟩
  have ul : -2147483648 ≤ zu := by rw [hzu]; exact sx_lo (by decide)
  have uh : zu < 2147483648 := by rw [hzu]; exact sx_hi (by omega) (by decide)
  have EU : Hid (wrap64 (wrap32 (y : Int)) = zu) := Lib.hid (by rw [top_sx fy, ← hzu]; exact wrap64_id ul uh)
  have E1 : rdOf 85 x = (p0 : Int) := by rw [← hq0]; rfl
  have E2 : r1Of 85 x = 0 := rfl
  have E3 : r2Of 85 x = 0 := rfl
  have E4 : immOf 85 x = zu := by rw [hzu, hy]; unfold immOf; rw [if_pos rfl]
  have E5 : csrOf 85 x = 0 := rfl
  rw [E1, E2, E3, E4, E5]
  clear E1 E2 E3 E4 E5 hz hs hp0 hq0 hp1 hq1 hp2 hq2 hp3 hq3 hy hzu
  go_enter Tryz.func74, Tryz.ntmps74
  go_wp2_with (first | (go_at_call 75; (with_reducible refine (G0.out _).mono ?_); rintro e w' ⟨rfl, q0, rfl⟩) | (go_at_call 75; (with_reducible refine (G1.out _).mono ?_); rintro e w' ⟨rfl, q1, rfl⟩) | (go_at_call 75; (with_reducible refine (G2.out _).mono ?_); rintro e w' ⟨rfl, q2, rfl⟩) | (go_at_call 75; (with_reducible refine (G3.out _).mono ?_); rintro e w' ⟨rfl, q3, rfl⟩) | (go_at_call 100; (with_reducible refine (S.out _).mono ?_); rintro e w' ⟨rfl, rfl⟩))
  refine bodyPost_ret (v := ?_) ?_ rfl ⟨?_, ?_⟩
  rotate_left
  · simp [results, Tryz.results74, go_sem]
    exact rfl
  · rw [EU.out]
  · exact six_below _ _ _ _ _ _ _ _ _
set_option maxHeartbeats 2000000 in
theorem fields_k74 (x : Nat) (hx : x < 4294967296) (w : World) : Calls Tryz.prog 74 #[.int .u8 74, .int .u32 x] w fun e w' => e = .returned (.agg #[.int .i64 0, .int .i64 (rdOf 74 x), .int .i64 (r1Of 74 x), .int .i64 (r2Of 74 x), .int .i64 (immOf 74 x), .int .i64 (csrOf 74 x)]) ∧ Below w.heap.size w w' := by
  obtain ⟨p0, hp0⟩ : ∃ p, x / 2 ^ 7 % 2 ^ 5 = p := ⟨_, rfl⟩
  have fp0 : p0 < 32 := by rw [← hp0]; exact Nat.mod_lt _ (by decide)
  have G0 := Lib.hid (field_at x hx 7 5 7 5 p0 rfl rfl (by decide) hp0)
  obtain ⟨p1, hp1⟩ : ∃ p, x / 2 ^ 15 % 2 ^ 5 = p := ⟨_, rfl⟩
  have fp1 : p1 < 32 := by rw [← hp1]; exact Nat.mod_lt _ (by decide)
  have G1 := Lib.hid (field_at x hx 15 5 15 5 p1 rfl rfl (by decide) hp1)
  obtain ⟨p2, hp2⟩ : ∃ p, x / 2 ^ 20 % 2 ^ 5 = p := ⟨_, rfl⟩
  have fp2 : p2 < 32 := by rw [← hp2]; exact Nat.mod_lt _ (by decide)
  have G2 := Lib.hid (field_at x hx 20 5 20 5 p2 rfl rfl (by decide) hp2)
  obtain ⟨p3, hp3⟩ : ∃ p, x / 2 ^ 20 % 2 ^ 12 = p := ⟨_, rfl⟩
  have fp3 : p3 < 4096 := by rw [← hp3]; exact Nat.mod_lt _ (by decide)
  have G3 := Lib.hid (field_at x hx 20 12 20 12 p3 rfl rfl (by decide) hp3)
  have hq0 : x / 128 % 32 = p0 := by simpa using hp0
  have hq1 : x / 32768 % 32 = p1 := by simpa using hp1
  have hq2 : x / 1048576 % 32 = p2 := by simpa using hp2
  have hq3 : x / 1048576 = p3 := by omega
  obtain ⟨s, hs⟩ : ∃ s, s = signN p3 12 := ⟨_, rfl⟩
  have hsl : s < 4294967296 := by rw [hs]; exact signN_lt _ _
  have S := Lib.hid (fun w => by have h := psign_any p3 (by omega) 12 w; rw [← hs] at h; exact h)
  obtain ⟨z, hz⟩ : ∃ z, z = sx 2048 p3 := ⟨_, rfl⟩
  have es : wrap32 (s : Int) = z := by rw [hs, hz]; exact sign_12 fp3
  have zl : -2147483648 ≤ z := by rw [hz]; exact sx_lo (by decide)
  have zh : z < 2147483648 := by rw [hz]; exact sx_hi (by omega) (by decide)
  obtain ⟨zu, hzu⟩ : ∃ z, z = immOf 74 x := ⟨_, rfl⟩
  have N := Lib.hid (fun w => by have h := far_any x hx w; rw [← hzu] at h; exact h)
  have E1 : rdOf 74 x = (p0 : Int) := by rw [← hq0]; rfl
  have E2 : r1Of 74 x = 0 := rfl
  have E3 : r2Of 74 x = 0 := rfl
  have E4 : immOf 74 x = zu := hzu.symm
  have E5 : csrOf 74 x = 0 := rfl
  rw [E1, E2, E3, E4, E5]
  clear E1 E2 E3 E4 E5 hz hs hp0 hq0 hp1 hq1 hp2 hq2 hp3 hq3 hzu
  go_enter Tryz.func74, Tryz.ntmps74
  go_wp2_with (first | (go_at_call 75; (with_reducible refine (G0.out _).mono ?_); rintro e w' ⟨rfl, q0, rfl⟩) | (go_at_call 75; (with_reducible refine (G1.out _).mono ?_); rintro e w' ⟨rfl, q1, rfl⟩) | (go_at_call 75; (with_reducible refine (G2.out _).mono ?_); rintro e w' ⟨rfl, q2, rfl⟩) | (go_at_call 75; (with_reducible refine (G3.out _).mono ?_); rintro e w' ⟨rfl, q3, rfl⟩) | (go_at_call 100; (with_reducible refine (S.out _).mono ?_); rintro e w' ⟨rfl, rfl⟩) | (go_at_call 101; (with_reducible refine (N.out _).mono ?_); rintro e w' ⟨rfl, qn, rfl⟩))
  refine bodyPost_ret (v := ?_) ?_ rfl ⟨?_, ?_⟩
  rotate_left
  · simp [results, Tryz.results74, go_sem]
    exact rfl
  · rfl
  · exact six_below _ _ _ _ _ _ _ _ _
set_option maxHeartbeats 2000000 in
theorem fields_k73 (x : Nat) (hx : x < 4294967296) (w : World) : Calls Tryz.prog 74 #[.int .u8 73, .int .u32 x] w fun e w' => e = .returned (.agg #[.int .i64 0, .int .i64 (rdOf 73 x), .int .i64 (r1Of 73 x), .int .i64 (r2Of 73 x), .int .i64 (immOf 73 x), .int .i64 (csrOf 73 x)]) ∧ Below w.heap.size w w' := by
  obtain ⟨p0, hp0⟩ : ∃ p, x / 2 ^ 7 % 2 ^ 5 = p := ⟨_, rfl⟩
  have fp0 : p0 < 32 := by rw [← hp0]; exact Nat.mod_lt _ (by decide)
  have G0 := Lib.hid (field_at x hx 7 5 7 5 p0 rfl rfl (by decide) hp0)
  obtain ⟨p1, hp1⟩ : ∃ p, x / 2 ^ 15 % 2 ^ 5 = p := ⟨_, rfl⟩
  have fp1 : p1 < 32 := by rw [← hp1]; exact Nat.mod_lt _ (by decide)
  have G1 := Lib.hid (field_at x hx 15 5 15 5 p1 rfl rfl (by decide) hp1)
  obtain ⟨p2, hp2⟩ : ∃ p, x / 2 ^ 20 % 2 ^ 5 = p := ⟨_, rfl⟩
  have fp2 : p2 < 32 := by rw [← hp2]; exact Nat.mod_lt _ (by decide)
  have G2 := Lib.hid (field_at x hx 20 5 20 5 p2 rfl rfl (by decide) hp2)
  obtain ⟨p3, hp3⟩ : ∃ p, x / 2 ^ 20 % 2 ^ 12 = p := ⟨_, rfl⟩
  have fp3 : p3 < 4096 := by rw [← hp3]; exact Nat.mod_lt _ (by decide)
  have G3 := Lib.hid (field_at x hx 20 12 20 12 p3 rfl rfl (by decide) hp3)
  have hq0 : x / 128 % 32 = p0 := by simpa using hp0
  have hq1 : x / 32768 % 32 = p1 := by simpa using hp1
  have hq2 : x / 1048576 % 32 = p2 := by simpa using hp2
  have hq3 : x / 1048576 = p3 := by omega
  obtain ⟨s, hs⟩ : ∃ s, s = signN p3 12 := ⟨_, rfl⟩
  have hsl : s < 4294967296 := by rw [hs]; exact signN_lt _ _
  have S := Lib.hid (fun w => by have h := psign_any p3 (by omega) 12 w; rw [← hs] at h; exact h)
  obtain ⟨z, hz⟩ : ∃ z, z = sx 2048 p3 := ⟨_, rfl⟩
  have es : wrap32 (s : Int) = z := by rw [hs, hz]; exact sign_12 fp3
  have zl : -2147483648 ≤ z := by rw [hz]; exact sx_lo (by decide)
  have zh : z < 2147483648 := by rw [hz]; exact sx_hi (by omega) (by decide)
  have E1 : rdOf 73 x = (p0 : Int) := by rw [← hq0]; rfl
  have E2 : r1Of 73 x = (p1 : Int) := by rw [← hq1]; rfl
  have E3 : r2Of 73 x = 0 := rfl
  have E4 : immOf 73 x = z := by rw [hz, ← hq3]; rfl
  have E5 : csrOf 73 x = 0 := rfl
  rw [E1, E2, E3, E4, E5]
  clear E1 E2 E3 E4 E5 hz hs hp0 hq0 hp1 hq1 hp2 hq2 hp3 hq3
  go_enter Tryz.func74, Tryz.ntmps74
  go_wp2_with (first | (go_at_call 75; (with_reducible refine (G0.out _).mono ?_); rintro e w' ⟨rfl, q0, rfl⟩) | (go_at_call 75; (with_reducible refine (G1.out _).mono ?_); rintro e w' ⟨rfl, q1, rfl⟩) | (go_at_call 75; (with_reducible refine (G2.out _).mono ?_); rintro e w' ⟨rfl, q2, rfl⟩) | (go_at_call 75; (with_reducible refine (G3.out _).mono ?_); rintro e w' ⟨rfl, q3, rfl⟩) | (go_at_call 100; (with_reducible refine (S.out _).mono ?_); rintro e w' ⟨rfl, rfl⟩))
  refine bodyPost_ret (v := ?_) ?_ rfl ⟨?_, ?_⟩
  rotate_left
  · simp [results, Tryz.results74, go_sem]
    exact rfl
  · rfl
  · exact six_below _ _ _ _ _ _ _ _ _
set_option maxHeartbeats 2000000 in
theorem fields_k76 (x : Nat) (hx : x < 4294967296) (w : World) : Calls Tryz.prog 74 #[.int .u8 76, .int .u32 x] w fun e w' => e = .returned (.agg #[.int .i64 0, .int .i64 (rdOf 76 x), .int .i64 (r1Of 76 x), .int .i64 (r2Of 76 x), .int .i64 (immOf 76 x), .int .i64 (csrOf 76 x)]) ∧ Below w.heap.size w w' := by
  obtain ⟨p0, hp0⟩ : ∃ p, x / 2 ^ 7 % 2 ^ 5 = p := ⟨_, rfl⟩
  have fp0 : p0 < 32 := by rw [← hp0]; exact Nat.mod_lt _ (by decide)
  have G0 := Lib.hid (field_at x hx 7 5 7 5 p0 rfl rfl (by decide) hp0)
  obtain ⟨p1, hp1⟩ : ∃ p, x / 2 ^ 15 % 2 ^ 5 = p := ⟨_, rfl⟩
  have fp1 : p1 < 32 := by rw [← hp1]; exact Nat.mod_lt _ (by decide)
  have G1 := Lib.hid (field_at x hx 15 5 15 5 p1 rfl rfl (by decide) hp1)
  obtain ⟨p2, hp2⟩ : ∃ p, x / 2 ^ 20 % 2 ^ 5 = p := ⟨_, rfl⟩
  have fp2 : p2 < 32 := by rw [← hp2]; exact Nat.mod_lt _ (by decide)
  have G2 := Lib.hid (field_at x hx 20 5 20 5 p2 rfl rfl (by decide) hp2)
  obtain ⟨p3, hp3⟩ : ∃ p, x / 2 ^ 20 % 2 ^ 12 = p := ⟨_, rfl⟩
  have fp3 : p3 < 4096 := by rw [← hp3]; exact Nat.mod_lt _ (by decide)
  have G3 := Lib.hid (field_at x hx 20 12 20 12 p3 rfl rfl (by decide) hp3)
  have hq0 : x / 128 % 32 = p0 := by simpa using hp0
  have hq1 : x / 32768 % 32 = p1 := by simpa using hp1
  have hq2 : x / 1048576 % 32 = p2 := by simpa using hp2
  have hq3 : x / 1048576 = p3 := by omega
  obtain ⟨s, hs⟩ : ∃ s, s = signN p3 12 := ⟨_, rfl⟩
  have hsl : s < 4294967296 := by rw [hs]; exact signN_lt _ _
  have S := Lib.hid (fun w => by have h := psign_any p3 (by omega) 12 w; rw [← hs] at h; exact h)
  obtain ⟨z, hz⟩ : ∃ z, z = sx 2048 p3 := ⟨_, rfl⟩
  have es : wrap32 (s : Int) = z := by rw [hs, hz]; exact sign_12 fp3
  have zl : -2147483648 ≤ z := by rw [hz]; exact sx_lo (by decide)
  have zh : z < 2147483648 := by rw [hz]; exact sx_hi (by omega) (by decide)
  have E1 : rdOf 76 x = (p0 : Int) := by rw [← hq0]; rfl
  have E2 : r1Of 76 x = (p1 : Int) := by rw [← hq1]; rfl
  have E3 : r2Of 76 x = 0 := rfl
  have E4 : immOf 76 x = z := by rw [hz, ← hq3]; rfl
  have E5 : csrOf 76 x = 0 := rfl
  rw [E1, E2, E3, E4, E5]
  clear E1 E2 E3 E4 E5 hz hs hp0 hq0 hp1 hq1 hp2 hq2 hp3 hq3
  go_enter Tryz.func74, Tryz.ntmps74
  go_wp2_with (first | (go_at_call 75; (with_reducible refine (G0.out _).mono ?_); rintro e w' ⟨rfl, q0, rfl⟩) | (go_at_call 75; (with_reducible refine (G1.out _).mono ?_); rintro e w' ⟨rfl, q1, rfl⟩) | (go_at_call 75; (with_reducible refine (G2.out _).mono ?_); rintro e w' ⟨rfl, q2, rfl⟩) | (go_at_call 75; (with_reducible refine (G3.out _).mono ?_); rintro e w' ⟨rfl, q3, rfl⟩) | (go_at_call 100; (with_reducible refine (S.out _).mono ?_); rintro e w' ⟨rfl, rfl⟩))
  refine bodyPost_ret (v := ?_) ?_ rfl ⟨?_, ?_⟩
  rotate_left
  · simp [results, Tryz.results74, go_sem]
    exact rfl
  · rfl
  · exact six_below _ _ _ _ _ _ _ _ _
set_option maxHeartbeats 2000000 in
theorem fields_k70 (x : Nat) (hx : x < 4294967296) (w : World) : Calls Tryz.prog 74 #[.int .u8 70, .int .u32 x] w fun e w' => e = .returned (.agg #[.int .i64 0, .int .i64 (rdOf 70 x), .int .i64 (r1Of 70 x), .int .i64 (r2Of 70 x), .int .i64 (immOf 70 x), .int .i64 (csrOf 70 x)]) ∧ Below w.heap.size w w' := by
  obtain ⟨p0, hp0⟩ : ∃ p, x / 2 ^ 7 % 2 ^ 5 = p := ⟨_, rfl⟩
  have fp0 : p0 < 32 := by rw [← hp0]; exact Nat.mod_lt _ (by decide)
  have G0 := Lib.hid (field_at x hx 7 5 7 5 p0 rfl rfl (by decide) hp0)
  obtain ⟨p1, hp1⟩ : ∃ p, x / 2 ^ 15 % 2 ^ 5 = p := ⟨_, rfl⟩
  have fp1 : p1 < 32 := by rw [← hp1]; exact Nat.mod_lt _ (by decide)
  have G1 := Lib.hid (field_at x hx 15 5 15 5 p1 rfl rfl (by decide) hp1)
  obtain ⟨p2, hp2⟩ : ∃ p, x / 2 ^ 20 % 2 ^ 5 = p := ⟨_, rfl⟩
  have fp2 : p2 < 32 := by rw [← hp2]; exact Nat.mod_lt _ (by decide)
  have G2 := Lib.hid (field_at x hx 20 5 20 5 p2 rfl rfl (by decide) hp2)
  obtain ⟨p3, hp3⟩ : ∃ p, x / 2 ^ 20 % 2 ^ 12 = p := ⟨_, rfl⟩
  have fp3 : p3 < 4096 := by rw [← hp3]; exact Nat.mod_lt _ (by decide)
  have G3 := Lib.hid (field_at x hx 20 12 20 12 p3 rfl rfl (by decide) hp3)
  have hq0 : x / 128 % 32 = p0 := by simpa using hp0
  have hq1 : x / 32768 % 32 = p1 := by simpa using hp1
  have hq2 : x / 1048576 % 32 = p2 := by simpa using hp2
  have hq3 : x / 1048576 = p3 := by omega
  obtain ⟨s, hs⟩ : ∃ s, s = signN p3 12 := ⟨_, rfl⟩
  have hsl : s < 4294967296 := by rw [hs]; exact signN_lt _ _
  have S := Lib.hid (fun w => by have h := psign_any p3 (by omega) 12 w; rw [← hs] at h; exact h)
  obtain ⟨z, hz⟩ : ∃ z, z = sx 2048 p3 := ⟨_, rfl⟩
  have es : wrap32 (s : Int) = z := by rw [hs, hz]; exact sign_12 fp3
  have zl : -2147483648 ≤ z := by rw [hz]; exact sx_lo (by decide)
  have zh : z < 2147483648 := by rw [hz]; exact sx_hi (by omega) (by decide)
  have E1 : rdOf 70 x = (p0 : Int) := by rw [← hq0]; rfl
  have E2 : r1Of 70 x = (p1 : Int) := by rw [← hq1]; rfl
  have E3 : r2Of 70 x = 0 := rfl
  have E4 : immOf 70 x = z := by rw [hz, ← hq3]; rfl
  have E5 : csrOf 70 x = 0 := rfl
  rw [E1, E2, E3, E4, E5]
  clear E1 E2 E3 E4 E5 hz hs hp0 hq0 hp1 hq1 hp2 hq2 hp3 hq3
  go_enter Tryz.func74, Tryz.ntmps74
  go_wp2_with (first | (go_at_call 75; (with_reducible refine (G0.out _).mono ?_); rintro e w' ⟨rfl, q0, rfl⟩) | (go_at_call 75; (with_reducible refine (G1.out _).mono ?_); rintro e w' ⟨rfl, q1, rfl⟩) | (go_at_call 75; (with_reducible refine (G2.out _).mono ?_); rintro e w' ⟨rfl, q2, rfl⟩) | (go_at_call 75; (with_reducible refine (G3.out _).mono ?_); rintro e w' ⟨rfl, q3, rfl⟩) | (go_at_call 100; (with_reducible refine (S.out _).mono ?_); rintro e w' ⟨rfl, rfl⟩))
  refine bodyPost_ret (v := ?_) ?_ rfl ⟨?_, ?_⟩
  rotate_left
  · simp [results, Tryz.results74, go_sem]
    exact rfl
  · rfl
  · exact six_below _ _ _ _ _ _ _ _ _
set_option maxHeartbeats 2000000 in
theorem fields_k66 (x : Nat) (hx : x < 4294967296) (w : World) : Calls Tryz.prog 74 #[.int .u8 66, .int .u32 x] w fun e w' => e = .returned (.agg #[.int .i64 0, .int .i64 (rdOf 66 x), .int .i64 (r1Of 66 x), .int .i64 (r2Of 66 x), .int .i64 (immOf 66 x), .int .i64 (csrOf 66 x)]) ∧ Below w.heap.size w w' := by
  obtain ⟨p0, hp0⟩ : ∃ p, x / 2 ^ 7 % 2 ^ 5 = p := ⟨_, rfl⟩
  have fp0 : p0 < 32 := by rw [← hp0]; exact Nat.mod_lt _ (by decide)
  have G0 := Lib.hid (field_at x hx 7 5 7 5 p0 rfl rfl (by decide) hp0)
  obtain ⟨p1, hp1⟩ : ∃ p, x / 2 ^ 15 % 2 ^ 5 = p := ⟨_, rfl⟩
  have fp1 : p1 < 32 := by rw [← hp1]; exact Nat.mod_lt _ (by decide)
  have G1 := Lib.hid (field_at x hx 15 5 15 5 p1 rfl rfl (by decide) hp1)
  obtain ⟨p2, hp2⟩ : ∃ p, x / 2 ^ 20 % 2 ^ 5 = p := ⟨_, rfl⟩
  have fp2 : p2 < 32 := by rw [← hp2]; exact Nat.mod_lt _ (by decide)
  have G2 := Lib.hid (field_at x hx 20 5 20 5 p2 rfl rfl (by decide) hp2)
  obtain ⟨p3, hp3⟩ : ∃ p, x / 2 ^ 20 % 2 ^ 12 = p := ⟨_, rfl⟩
  have fp3 : p3 < 4096 := by rw [← hp3]; exact Nat.mod_lt _ (by decide)
  have G3 := Lib.hid (field_at x hx 20 12 20 12 p3 rfl rfl (by decide) hp3)
  have hq0 : x / 128 % 32 = p0 := by simpa using hp0
  have hq1 : x / 32768 % 32 = p1 := by simpa using hp1
  have hq2 : x / 1048576 % 32 = p2 := by simpa using hp2
  have hq3 : x / 1048576 = p3 := by omega
  obtain ⟨s, hs⟩ : ∃ s, s = signN p3 12 := ⟨_, rfl⟩
  have hsl : s < 4294967296 := by rw [hs]; exact signN_lt _ _
  have S := Lib.hid (fun w => by have h := psign_any p3 (by omega) 12 w; rw [← hs] at h; exact h)
  obtain ⟨z, hz⟩ : ∃ z, z = sx 2048 p3 := ⟨_, rfl⟩
  have es : wrap32 (s : Int) = z := by rw [hs, hz]; exact sign_12 fp3
  have zl : -2147483648 ≤ z := by rw [hz]; exact sx_lo (by decide)
  have zh : z < 2147483648 := by rw [hz]; exact sx_hi (by omega) (by decide)
  obtain ⟨zu, hzu⟩ : ∃ z, z = immOf 66 x := ⟨_, rfl⟩
  have N := Lib.hid (fun w => by have h := near_any x hx w; rw [← hzu] at h; exact h)
  have E1 : rdOf 66 x = 0 := rfl
  have E2 : r1Of 66 x = (p1 : Int) := by rw [← hq1]; rfl
  have E3 : r2Of 66 x = (p2 : Int) := by rw [← hq2]; rfl
  have E4 : immOf 66 x = zu := hzu.symm
  have E5 : csrOf 66 x = 0 := rfl
  rw [E1, E2, E3, E4, E5]
  clear E1 E2 E3 E4 E5 hz hs hp0 hq0 hp1 hq1 hp2 hq2 hp3 hq3 hzu
  go_enter Tryz.func74, Tryz.ntmps74
  go_wp2_with (first | (go_at_call 75; (with_reducible refine (G0.out _).mono ?_); rintro e w' ⟨rfl, q0, rfl⟩) | (go_at_call 75; (with_reducible refine (G1.out _).mono ?_); rintro e w' ⟨rfl, q1, rfl⟩) | (go_at_call 75; (with_reducible refine (G2.out _).mono ?_); rintro e w' ⟨rfl, q2, rfl⟩) | (go_at_call 75; (with_reducible refine (G3.out _).mono ?_); rintro e w' ⟨rfl, q3, rfl⟩) | (go_at_call 100; (with_reducible refine (S.out _).mono ?_); rintro e w' ⟨rfl, rfl⟩) | (go_at_call 102; (with_reducible refine (N.out _).mono ?_); rintro e w' ⟨rfl, qn, rfl⟩))
  refine bodyPost_ret (v := ?_) ?_ rfl ⟨?_, ?_⟩
  rotate_left
  · simp [results, Tryz.results74, go_sem]
    exact rfl
  · rfl
  · exact six_below _ _ _ _ _ _ _ _ _
set_option maxHeartbeats 2000000 in
theorem fields_k83 (x : Nat) (hx : x < 4294967296) (w : World) : Calls Tryz.prog 74 #[.int .u8 83, .int .u32 x] w fun e w' => e = .returned (.agg #[.int .i64 0, .int .i64 (rdOf 83 x), .int .i64 (r1Of 83 x), .int .i64 (r2Of 83 x), .int .i64 (immOf 83 x), .int .i64 (csrOf 83 x)]) ∧ Below w.heap.size w w' := by
  obtain ⟨p0, hp0⟩ : ∃ p, x / 2 ^ 7 % 2 ^ 5 = p := ⟨_, rfl⟩
  have fp0 : p0 < 32 := by rw [← hp0]; exact Nat.mod_lt _ (by decide)
  have G0 := Lib.hid (field_at x hx 7 5 7 5 p0 rfl rfl (by decide) hp0)
  obtain ⟨p1, hp1⟩ : ∃ p, x / 2 ^ 15 % 2 ^ 5 = p := ⟨_, rfl⟩
  have fp1 : p1 < 32 := by rw [← hp1]; exact Nat.mod_lt _ (by decide)
  have G1 := Lib.hid (field_at x hx 15 5 15 5 p1 rfl rfl (by decide) hp1)
  obtain ⟨p2, hp2⟩ : ∃ p, x / 2 ^ 20 % 2 ^ 5 = p := ⟨_, rfl⟩
  have fp2 : p2 < 32 := by rw [← hp2]; exact Nat.mod_lt _ (by decide)
  have G2 := Lib.hid (field_at x hx 20 5 20 5 p2 rfl rfl (by decide) hp2)
  obtain ⟨p3, hp3⟩ : ∃ p, x / 2 ^ 20 % 2 ^ 12 = p := ⟨_, rfl⟩
  have fp3 : p3 < 4096 := by rw [← hp3]; exact Nat.mod_lt _ (by decide)
  have G3 := Lib.hid (field_at x hx 20 12 20 12 p3 rfl rfl (by decide) hp3)
  obtain ⟨p4, hp4⟩ : ∃ p, x / 2 ^ 25 % 2 ^ 7 = p := ⟨_, rfl⟩
  have fp4 : p4 < 128 := by rw [← hp4]; exact Nat.mod_lt _ (by decide)
  have G4 := Lib.hid (field_at x hx 25 7 25 7 p4 rfl rfl (by decide) hp4)
  have hq0 : x / 128 % 32 = p0 := by simpa using hp0
  have hq1 : x / 32768 % 32 = p1 := by simpa using hp1
  have hq2 : x / 1048576 % 32 = p2 := by simpa using hp2
  have hq3 : x / 1048576 = p3 := by omega
  have hq4 : x / 33554432 = p4 := by omega
  obtain ⟨s, hs⟩ : ∃ s, s = signN p3 12 := ⟨_, rfl⟩
  have hsl : s < 4294967296 := by rw [hs]; exact signN_lt _ _
  have S := Lib.hid (fun w => by have h := psign_any p3 (by omega) 12 w; rw [← hs] at h; exact h)
  obtain ⟨z, hz⟩ : ∃ z, z = sx 2048 p3 := ⟨_, rfl⟩
  have es : wrap32 (s : Int) = z := by rw [hs, hz]; exact sign_12 fp3
  have zl : -2147483648 ≤ z := by rw [hz]; exact sx_lo (by decide)
  have zh : z < 2147483648 := by rw [hz]; exact sx_hi (by omega) (by decide)
  obtain ⟨V, hV⟩ : ∃ V, V = p4 * 32 + p0 := ⟨_, rfl⟩
  have fV : V < 4096 := by omega
  have eo : bits .or .u32 ((p4 : Int) * 32) (p0 : Int) = (V : Int) := by
    refine (isN_or (isN_mul p4 32 (by omega)) (isN_self (by omega))).1.trans ?_
    rw [nat_join 5 (p4 * 32) p0 (by omega) (by omega), hV]
  obtain ⟨s2, hs2⟩ : ∃ s, s = signN V 12 := ⟨_, rfl⟩
  have hsl2 : s2 < 4294967296 := by rw [hs2]; exact signN_lt _ _
  have S2 := Lib.hid (fun w => by have h := psign_any V (by omega) 12 w; rw [← hs2] at h; exact h)
  obtain ⟨zu, hzu⟩ : ∃ z, z = sx 2048 V := ⟨_, rfl⟩
  have es2 : wrap32 (s2 : Int) = zu := by rw [hs2, hzu]; exact sign_12 fV
  have ul : -2147483648 ≤ zu := by rw [hzu]; exact sx_lo (by decide)
  have uh : zu < 2147483648 := by rw [hzu]; exact sx_hi (by omega) (by decide)
  have E1 : rdOf 83 x = 0 := rfl
  have E2 : r1Of 83 x = (p1 : Int) := by rw [← hq1]; rfl
  have E3 : r2Of 83 x = (p2 : Int) := by rw [← hq2]; rfl
  have E4 : immOf 83 x = zu := by rw [hzu, hV, ← hq4, ← hq0]; rfl
  have E5 : csrOf 83 x = 0 := rfl
  rw [E1, E2, E3, E4, E5]
  clear E1 E2 E3 E4 E5 hz hs hp0 hq0 hp1 hq1 hp2 hq2 hp3 hq3 hp4 hq4 hV hs2 hzu
  go_enter Tryz.func74, Tryz.ntmps74
  go_wp2_with (first | (go_at_call 75; (with_reducible refine (G0.out _).mono ?_); rintro e w' ⟨rfl, q0, rfl⟩) | (go_at_call 75; (with_reducible refine (G1.out _).mono ?_); rintro e w' ⟨rfl, q1, rfl⟩) | (go_at_call 75; (with_reducible refine (G2.out _).mono ?_); rintro e w' ⟨rfl, q2, rfl⟩) | (go_at_call 75; (with_reducible refine (G3.out _).mono ?_); rintro e w' ⟨rfl, q3, rfl⟩) | (go_at_call 75; (with_reducible refine (G4.out _).mono ?_); rintro e w' ⟨rfl, q4, rfl⟩) | (go_at_call 100; (with_reducible refine (S.out _).mono ?_); rintro e w' ⟨rfl, rfl⟩) | (go_at_call 100; (with_reducible refine (S2.out _).mono ?_); rintro e w' ⟨rfl, rfl⟩))
  refine bodyPost_ret (v := ?_) ?_ rfl ⟨?_, ?_⟩
  rotate_left
  · simp [results, Tryz.results74, go_sem]
    exact rfl
  · rfl
  · exact six_below _ _ _ _ _ _ _ _ _
set_option maxHeartbeats 2000000 in
theorem fields_k72 (x : Nat) (hx : x < 4294967296) (w : World) : Calls Tryz.prog 74 #[.int .u8 72, .int .u32 x] w fun e w' => e = .returned (.agg #[.int .i64 0, .int .i64 (rdOf 72 x), .int .i64 (r1Of 72 x), .int .i64 (r2Of 72 x), .int .i64 (immOf 72 x), .int .i64 (csrOf 72 x)]) ∧ Below w.heap.size w w' := by
  obtain ⟨p0, hp0⟩ : ∃ p, x / 2 ^ 7 % 2 ^ 5 = p := ⟨_, rfl⟩
  have fp0 : p0 < 32 := by rw [← hp0]; exact Nat.mod_lt _ (by decide)
  have G0 := Lib.hid (field_at x hx 7 5 7 5 p0 rfl rfl (by decide) hp0)
  obtain ⟨p1, hp1⟩ : ∃ p, x / 2 ^ 15 % 2 ^ 5 = p := ⟨_, rfl⟩
  have fp1 : p1 < 32 := by rw [← hp1]; exact Nat.mod_lt _ (by decide)
  have G1 := Lib.hid (field_at x hx 15 5 15 5 p1 rfl rfl (by decide) hp1)
  obtain ⟨p2, hp2⟩ : ∃ p, x / 2 ^ 20 % 2 ^ 5 = p := ⟨_, rfl⟩
  have fp2 : p2 < 32 := by rw [← hp2]; exact Nat.mod_lt _ (by decide)
  have G2 := Lib.hid (field_at x hx 20 5 20 5 p2 rfl rfl (by decide) hp2)
  obtain ⟨p3, hp3⟩ : ∃ p, x / 2 ^ 20 % 2 ^ 12 = p := ⟨_, rfl⟩
  have fp3 : p3 < 4096 := by rw [← hp3]; exact Nat.mod_lt _ (by decide)
  have G3 := Lib.hid (field_at x hx 20 12 20 12 p3 rfl rfl (by decide) hp3)
  have hq0 : x / 128 % 32 = p0 := by simpa using hp0
  have hq1 : x / 32768 % 32 = p1 := by simpa using hp1
  have hq2 : x / 1048576 % 32 = p2 := by simpa using hp2
  have hq3 : x / 1048576 = p3 := by omega
  obtain ⟨s, hs⟩ : ∃ s, s = signN p3 12 := ⟨_, rfl⟩
  have hsl : s < 4294967296 := by rw [hs]; exact signN_lt _ _
  have S := Lib.hid (fun w => by have h := psign_any p3 (by omega) 12 w; rw [← hs] at h; exact h)
  obtain ⟨z, hz⟩ : ∃ z, z = sx 2048 p3 := ⟨_, rfl⟩
  have es : wrap32 (s : Int) = z := by rw [hs, hz]; exact sign_12 fp3
  have zl : -2147483648 ≤ z := by rw [hz]; exact sx_lo (by decide)
  have zh : z < 2147483648 := by rw [hz]; exact sx_hi (by omega) (by decide)
  have E1 : rdOf 72 x = (p0 : Int) := by rw [← hq0]; rfl
  have E2 : r1Of 72 x = (p1 : Int) := by rw [← hq1]; rfl
  have E3 : r2Of 72 x = 0 := rfl
  have E4 : immOf 72 x = (p2 : Int) := by rw [← hq2]; rfl
  have E5 : csrOf 72 x = 0 := rfl
  rw [E1, E2, E3, E4, E5]
  clear E1 E2 E3 E4 E5 hz hs hp0 hq0 hp1 hq1 hp2 hq2 hp3 hq3
  go_enter Tryz.func74, Tryz.ntmps74
  go_wp2_with (first | (go_at_call 75; (with_reducible refine (G0.out _).mono ?_); rintro e w' ⟨rfl, q0, rfl⟩) | (go_at_call 75; (with_reducible refine (G1.out _).mono ?_); rintro e w' ⟨rfl, q1, rfl⟩) | (go_at_call 75; (with_reducible refine (G2.out _).mono ?_); rintro e w' ⟨rfl, q2, rfl⟩) | (go_at_call 75; (with_reducible refine (G3.out _).mono ?_); rintro e w' ⟨rfl, q3, rfl⟩) | (go_at_call 100; (with_reducible refine (S.out _).mono ?_); rintro e w' ⟨rfl, rfl⟩))
  refine bodyPost_ret (v := ?_) ?_ rfl ⟨?_, ?_⟩
  rotate_left
  · simp [results, Tryz.results74, go_sem]
    exact rfl
  · rfl
  · exact six_below _ _ _ _ _ _ _ _ _
set_option maxHeartbeats 2000000 in
theorem fields_k67 (x : Nat) (hx : x < 4294967296) (w : World) : Calls Tryz.prog 74 #[.int .u8 67, .int .u32 x] w fun e w' => e = .returned (.agg #[.int .i64 0, .int .i64 (rdOf 67 x), .int .i64 (r1Of 67 x), .int .i64 (r2Of 67 x), .int .i64 (immOf 67 x), .int .i64 (csrOf 67 x)]) ∧ Below w.heap.size w w' := by
  obtain ⟨p0, hp0⟩ : ∃ p, x / 2 ^ 7 % 2 ^ 5 = p := ⟨_, rfl⟩
  have fp0 : p0 < 32 := by rw [← hp0]; exact Nat.mod_lt _ (by decide)
  have G0 := Lib.hid (field_at x hx 7 5 7 5 p0 rfl rfl (by decide) hp0)
  obtain ⟨p1, hp1⟩ : ∃ p, x / 2 ^ 15 % 2 ^ 5 = p := ⟨_, rfl⟩
  have fp1 : p1 < 32 := by rw [← hp1]; exact Nat.mod_lt _ (by decide)
  have G1 := Lib.hid (field_at x hx 15 5 15 5 p1 rfl rfl (by decide) hp1)
  obtain ⟨p2, hp2⟩ : ∃ p, x / 2 ^ 20 % 2 ^ 5 = p := ⟨_, rfl⟩
  have fp2 : p2 < 32 := by rw [← hp2]; exact Nat.mod_lt _ (by decide)
  have G2 := Lib.hid (field_at x hx 20 5 20 5 p2 rfl rfl (by decide) hp2)
  obtain ⟨p3, hp3⟩ : ∃ p, x / 2 ^ 20 % 2 ^ 12 = p := ⟨_, rfl⟩
  have fp3 : p3 < 4096 := by rw [← hp3]; exact Nat.mod_lt _ (by decide)
  have G3 := Lib.hid (field_at x hx 20 12 20 12 p3 rfl rfl (by decide) hp3)
  have hq0 : x / 128 % 32 = p0 := by simpa using hp0
  have hq1 : x / 32768 % 32 = p1 := by simpa using hp1
  have hq2 : x / 1048576 % 32 = p2 := by simpa using hp2
  have hq3 : x / 1048576 = p3 := by omega
  obtain ⟨s, hs⟩ : ∃ s, s = signN p3 12 := ⟨_, rfl⟩
  have hsl : s < 4294967296 := by rw [hs]; exact signN_lt _ _
  have S := Lib.hid (fun w => by have h := psign_any p3 (by omega) 12 w; rw [← hs] at h; exact h)
  obtain ⟨z, hz⟩ : ∃ z, z = sx 2048 p3 := ⟨_, rfl⟩
  have es : wrap32 (s : Int) = z := by rw [hs, hz]; exact sign_12 fp3
  have zl : -2147483648 ≤ z := by rw [hz]; exact sx_lo (by decide)
  have zh : z < 2147483648 := by rw [hz]; exact sx_hi (by omega) (by decide)
  have E1 : rdOf 67 x = (p0 : Int) := by rw [← hq0]; rfl
  have E2 : r1Of 67 x = (p1 : Int) := by rw [← hq1]; rfl
  have E3 : r2Of 67 x = 0 := rfl
  have E4 : immOf 67 x = 0 := rfl
  have E5 : csrOf 67 x = (p3 : Int) := by rw [← hq3]; rfl
  rw [E1, E2, E3, E4, E5]
  clear E1 E2 E3 E4 E5 hz hs hp0 hq0 hp1 hq1 hp2 hq2 hp3 hq3
  go_enter Tryz.func74, Tryz.ntmps74
  go_wp2_with (first | (go_at_call 75; (with_reducible refine (G0.out _).mono ?_); rintro e w' ⟨rfl, q0, rfl⟩) | (go_at_call 75; (with_reducible refine (G1.out _).mono ?_); rintro e w' ⟨rfl, q1, rfl⟩) | (go_at_call 75; (with_reducible refine (G2.out _).mono ?_); rintro e w' ⟨rfl, q2, rfl⟩) | (go_at_call 75; (with_reducible refine (G3.out _).mono ?_); rintro e w' ⟨rfl, q3, rfl⟩) | (go_at_call 100; (with_reducible refine (S.out _).mono ?_); rintro e w' ⟨rfl, rfl⟩))
  refine bodyPost_ret (v := ?_) ?_ rfl ⟨?_, ?_⟩
  rotate_left
  · simp [results, Tryz.results74, go_sem]
    exact rfl
  · rfl
  · exact six_below _ _ _ _ _ _ _ _ _
set_option maxHeartbeats 2000000 in
theorem fields_k82 (x : Nat) (hx : x < 4294967296) (w : World) : Calls Tryz.prog 74 #[.int .u8 82, .int .u32 x] w fun e w' => e = .returned (.agg #[.int .i64 0, .int .i64 (rdOf 82 x), .int .i64 (r1Of 82 x), .int .i64 (r2Of 82 x), .int .i64 (immOf 82 x), .int .i64 (csrOf 82 x)]) ∧ Below w.heap.size w w' := by
  obtain ⟨p0, hp0⟩ : ∃ p, x / 2 ^ 7 % 2 ^ 5 = p := ⟨_, rfl⟩
  have fp0 : p0 < 32 := by rw [← hp0]; exact Nat.mod_lt _ (by decide)
  have G0 := Lib.hid (field_at x hx 7 5 7 5 p0 rfl rfl (by decide) hp0)
  obtain ⟨p1, hp1⟩ : ∃ p, x / 2 ^ 15 % 2 ^ 5 = p := ⟨_, rfl⟩
  have fp1 : p1 < 32 := by rw [← hp1]; exact Nat.mod_lt _ (by decide)
  have G1 := Lib.hid (field_at x hx 15 5 15 5 p1 rfl rfl (by decide) hp1)
  obtain ⟨p2, hp2⟩ : ∃ p, x / 2 ^ 20 % 2 ^ 5 = p := ⟨_, rfl⟩
  have fp2 : p2 < 32 := by rw [← hp2]; exact Nat.mod_lt _ (by decide)
  have G2 := Lib.hid (field_at x hx 20 5 20 5 p2 rfl rfl (by decide) hp2)
  obtain ⟨p3, hp3⟩ : ∃ p, x / 2 ^ 20 % 2 ^ 12 = p := ⟨_, rfl⟩
  have fp3 : p3 < 4096 := by rw [← hp3]; exact Nat.mod_lt _ (by decide)
  have G3 := Lib.hid (field_at x hx 20 12 20 12 p3 rfl rfl (by decide) hp3)
  have hq0 : x / 128 % 32 = p0 := by simpa using hp0
  have hq1 : x / 32768 % 32 = p1 := by simpa using hp1
  have hq2 : x / 1048576 % 32 = p2 := by simpa using hp2
  have hq3 : x / 1048576 = p3 := by omega
  obtain ⟨s, hs⟩ : ∃ s, s = signN p3 12 := ⟨_, rfl⟩
  have hsl : s < 4294967296 := by rw [hs]; exact signN_lt _ _
  have S := Lib.hid (fun w => by have h := psign_any p3 (by omega) 12 w; rw [← hs] at h; exact h)
  obtain ⟨z, hz⟩ : ∃ z, z = sx 2048 p3 := ⟨_, rfl⟩
  have es : wrap32 (s : Int) = z := by rw [hs, hz]; exact sign_12 fp3
  have zl : -2147483648 ≤ z := by rw [hz]; exact sx_lo (by decide)
  have zh : z < 2147483648 := by rw [hz]; exact sx_hi (by omega) (by decide)
  have E1 : rdOf 82 x = (p0 : Int) := by rw [← hq0]; rfl
  have E2 : r1Of 82 x = (p1 : Int) := by rw [← hq1]; rfl
  have E3 : r2Of 82 x = (p2 : Int) := by rw [← hq2]; rfl
  have E4 : immOf 82 x = 0 := rfl
  have E5 : csrOf 82 x = 0 := rfl
  rw [E1, E2, E3, E4, E5]
  clear E1 E2 E3 E4 E5 hz hs hp0 hq0 hp1 hq1 hp2 hq2 hp3 hq3
  go_enter Tryz.func74, Tryz.ntmps74
  go_wp2_with (first | (go_at_call 75; (with_reducible refine (G0.out _).mono ?_); rintro e w' ⟨rfl, q0, rfl⟩) | (go_at_call 75; (with_reducible refine (G1.out _).mono ?_); rintro e w' ⟨rfl, q1, rfl⟩) | (go_at_call 75; (with_reducible refine (G2.out _).mono ?_); rintro e w' ⟨rfl, q2, rfl⟩) | (go_at_call 75; (with_reducible refine (G3.out _).mono ?_); rintro e w' ⟨rfl, q3, rfl⟩) | (go_at_call 100; (with_reducible refine (S.out _).mono ?_); rintro e w' ⟨rfl, rfl⟩))
  refine bodyPost_ret (v := ?_) ?_ rfl ⟨?_, ?_⟩
  rotate_left
  · simp [results, Tryz.results74, go_sem]
    exact rfl
  · rfl
  · exact six_below _ _ _ _ _ _ _ _ _
set_option maxHeartbeats 2000000 in
theorem fields_k78 (x : Nat) (hx : x < 4294967296) (w : World) : Calls Tryz.prog 74 #[.int .u8 78, .int .u32 x] w fun e w' => e = .returned (.agg #[.int .i64 0, .int .i64 (rdOf 78 x), .int .i64 (r1Of 78 x), .int .i64 (r2Of 78 x), .int .i64 (immOf 78 x), .int .i64 (csrOf 78 x)]) ∧ Below w.heap.size w w' := by
  obtain ⟨p0, hp0⟩ : ∃ p, x / 2 ^ 7 % 2 ^ 5 = p := ⟨_, rfl⟩
  have fp0 : p0 < 32 := by rw [← hp0]; exact Nat.mod_lt _ (by decide)
  have G0 := Lib.hid (field_at x hx 7 5 7 5 p0 rfl rfl (by decide) hp0)
  obtain ⟨p1, hp1⟩ : ∃ p, x / 2 ^ 15 % 2 ^ 5 = p := ⟨_, rfl⟩
  have fp1 : p1 < 32 := by rw [← hp1]; exact Nat.mod_lt _ (by decide)
  have G1 := Lib.hid (field_at x hx 15 5 15 5 p1 rfl rfl (by decide) hp1)
  obtain ⟨p2, hp2⟩ : ∃ p, x / 2 ^ 20 % 2 ^ 5 = p := ⟨_, rfl⟩
  have fp2 : p2 < 32 := by rw [← hp2]; exact Nat.mod_lt _ (by decide)
  have G2 := Lib.hid (field_at x hx 20 5 20 5 p2 rfl rfl (by decide) hp2)
  obtain ⟨p3, hp3⟩ : ∃ p, x / 2 ^ 20 % 2 ^ 12 = p := ⟨_, rfl⟩
  have fp3 : p3 < 4096 := by rw [← hp3]; exact Nat.mod_lt _ (by decide)
  have G3 := Lib.hid (field_at x hx 20 12 20 12 p3 rfl rfl (by decide) hp3)
  have hq0 : x / 128 % 32 = p0 := by simpa using hp0
  have hq1 : x / 32768 % 32 = p1 := by simpa using hp1
  have hq2 : x / 1048576 % 32 = p2 := by simpa using hp2
  have hq3 : x / 1048576 = p3 := by omega
  obtain ⟨s, hs⟩ : ∃ s, s = signN p3 12 := ⟨_, rfl⟩
  have hsl : s < 4294967296 := by rw [hs]; exact signN_lt _ _
  have S := Lib.hid (fun w => by have h := psign_any p3 (by omega) 12 w; rw [← hs] at h; exact h)
  obtain ⟨z, hz⟩ : ∃ z, z = sx 2048 p3 := ⟨_, rfl⟩
  have es : wrap32 (s : Int) = z := by rw [hs, hz]; exact sign_12 fp3
  have zl : -2147483648 ≤ z := by rw [hz]; exact sx_lo (by decide)
  have zh : z < 2147483648 := by rw [hz]; exact sx_hi (by omega) (by decide)
  have E1 : rdOf 78 x = 0 := rfl
  have E2 : r1Of 78 x = 0 := rfl
  have E3 : r2Of 78 x = 0 := rfl
  have E4 : immOf 78 x = 0 := rfl
  have E5 : csrOf 78 x = 0 := rfl
  rw [E1, E2, E3, E4, E5]
  clear E1 E2 E3 E4 E5 hz hs hp0 hq0 hp1 hq1 hp2 hq2 hp3 hq3
  go_enter Tryz.func74, Tryz.ntmps74
  go_wp2_with (first | (go_at_call 75; (with_reducible refine (G0.out _).mono ?_); rintro e w' ⟨rfl, q0, rfl⟩) | (go_at_call 75; (with_reducible refine (G1.out _).mono ?_); rintro e w' ⟨rfl, q1, rfl⟩) | (go_at_call 75; (with_reducible refine (G2.out _).mono ?_); rintro e w' ⟨rfl, q2, rfl⟩) | (go_at_call 75; (with_reducible refine (G3.out _).mono ?_); rintro e w' ⟨rfl, q3, rfl⟩) | (go_at_call 100; (with_reducible refine (S.out _).mono ?_); rintro e w' ⟨rfl, rfl⟩))
  refine bodyPost_ret (v := ?_) ?_ rfl ⟨?_, ?_⟩
  rotate_left
  · simp [results, Tryz.results74, go_sem]
    exact rfl
  · rfl
  · exact six_below _ _ _ _ _ _ _ _ _

theorem i64_and31 (x : Int) : bits .and .i64 x 31 = (((x % 32).toNat : Nat) : Int) := by
  show IntKind.i64.wrap ((BitVec.ofInt 64 x &&& BitVec.ofInt 64 31).toNat : Int) = _
  rw [BitVec.toNat_and, BitVec.toNat_ofInt, show (BitVec.ofInt 64 31).toNat = 31 from by decide, nat_mask5, Go.IntKind.wrap_i64]
  have : ((2 : Int) ^ 64) = 18446744073709551616 := by decide
  have h2 : (((2 ^ 64 : Nat)) : Int) = 18446744073709551616 := by decide
  rw [h2]
  omega
theorem kinds11 : ∀ op, op < 57 → kN op = 85 ∨ kN op = 74 ∨ kN op = 73 ∨ kN op = 76 ∨ kN op = 70 ∨ kN op = 66 ∨ kN op = 83 ∨ kN op = 72 ∨ kN op = 67 ∨ kN op = 82 ∨ kN op = 78 := by decide +kernel
theorem wN_lt : ∀ op, op < 57 → wN op < 4294967296 := by decide +kernel
/-- the words' table lies -/
def TabW (w : World) : Prop := ∀ j, j < 57 → w.cell? ⟨2, j, none⟩ = some (.int .u32 (wN j))
theorem TabW.below {w w' : World} (h : TabW w) (hb : Below w.heap.size w w') : TabW w' := fun j hj => (World.cell?_of_block (hb.block _ (block_lt_of_cell (h j hj)))).trans (h j hj)
/-- an instruction -/
abbrev instV (op rd r1 r2 imm csr : Int) : Value := .agg #[.int .i64 op, .int .i64 rd, .int .i64 r1, .int .i64 r2, .int .i64 imm, .int .i64 csr]
abbrev readV (op x : Nat) : Value := instV op (rdOf (kN op) x) (r1Of (kN op) x) (r2Of (kN op) x) (immOf (kN op) x) (csrOf (kN op) x)
theorem laid_any (op : Nat) (hop : op < 57) (rd r1 r2 imm csr : Int) (w : World) (hT : TabW w) :
    Calls Tryz.prog 43 #[instV op rd r1 r2 imm csr] w fun e w' => e = .returned (.int .u32 (laidI (kN op) (wN op) rd r1 r2 imm csr : Nat)) ∧ Below w.heap.size w w' := by
  have e1 := i64_and31 rd
  have e2 := i64_and31 r1
  have e3 := i64_and31 r2
  have e4 : IntKind.u32.wrap imm = (((imm % 4294967296).toNat : Nat) : Int) := by rw [Go.IntKind.wrap_u32]; omega
  have e5 : IntKind.u32.wrap csr = (((csr % 4294967296).toNat : Nat) : Int) := by rw [Go.IntKind.wrap_u32]; omega
  have f1 : (rd % 32).toNat < 32 := by clear e1 e2 e3 e4 e5; omega
  have f2 : (r1 % 32).toNat < 32 := by clear e1 e2 e3 e4 e5; omega
  have f3 : (r2 % 32).toNat < 32 := by clear e1 e2 e3 e4 e5; omega
  have f4 : (imm % 4294967296).toNat < 4294967296 := by clear e1 e2 e3 e4 e5; omega
  have f5 : (csr % 4294967296).toNat < 4294967296 := by clear e1 e2 e3 e4 e5; omega
  have hg := hT op hop
  unfold laidI
  rcases kinds11 op hop with h | h | h | h | h | h | h | h | h | h | h
  · have := laid_k85 op hop h (wN op) (wN_lt op hop) rd r1 r2 imm csr _ _ _ _ _ e1 e2 e3 e4 e5 f1 f2 f3 f4 f5 w hg; rw [h]; exact this
  · have := laid_k74 op hop h (wN op) (wN_lt op hop) rd r1 r2 imm csr _ _ _ _ _ e1 e2 e3 e4 e5 f1 f2 f3 f4 f5 w hg; rw [h]; exact this
  · have := laid_k73 op hop h (wN op) (wN_lt op hop) rd r1 r2 imm csr _ _ _ _ _ e1 e2 e3 e4 e5 f1 f2 f3 f4 f5 w hg; rw [h]; exact this
  · have := laid_k76 op hop h (wN op) (wN_lt op hop) rd r1 r2 imm csr _ _ _ _ _ e1 e2 e3 e4 e5 f1 f2 f3 f4 f5 w hg; rw [h]; exact this
  · have := laid_k70 op hop h (wN op) (wN_lt op hop) rd r1 r2 imm csr _ _ _ _ _ e1 e2 e3 e4 e5 f1 f2 f3 f4 f5 w hg; rw [h]; exact this
  · have := laid_k66 op hop h (wN op) (wN_lt op hop) rd r1 r2 imm csr _ _ _ _ _ e1 e2 e3 e4 e5 f1 f2 f3 f4 f5 w hg; rw [h]; exact this
  · have := laid_k83 op hop h (wN op) (wN_lt op hop) rd r1 r2 imm csr _ _ _ _ _ e1 e2 e3 e4 e5 f1 f2 f3 f4 f5 w hg; rw [h]; exact this
  · have := laid_k72 op hop h (wN op) (wN_lt op hop) rd r1 r2 imm csr _ _ _ _ _ e1 e2 e3 e4 e5 f1 f2 f3 f4 f5 w hg; rw [h]; exact this
  · have := laid_k67 op hop h (wN op) (wN_lt op hop) rd r1 r2 imm csr _ _ _ _ _ e1 e2 e3 e4 e5 f1 f2 f3 f4 f5 w hg; rw [h]; exact this
  · have := laid_k82 op hop h (wN op) (wN_lt op hop) rd r1 r2 imm csr _ _ _ _ _ e1 e2 e3 e4 e5 f1 f2 f3 f4 f5 w hg; rw [h]; exact this
  · have := laid_k78 op hop h (wN op) (wN_lt op hop) rd r1 r2 imm csr _ _ _ _ _ e1 e2 e3 e4 e5 f1 f2 f3 f4 f5 w hg; rw [h]; exact this
theorem fields_any (op : Nat) (hop : op < 57) (x : Nat) (hx : x < 4294967296) (w : World) :
    Calls Tryz.prog 74 #[.int .u8 (kN op : Nat), .int .u32 x] w fun e w' => e = .returned (instV 0 (rdOf (kN op) x) (r1Of (kN op) x) (r2Of (kN op) x) (immOf (kN op) x) (csrOf (kN op) x)) ∧ Below w.heap.size w w' := by
  rcases kinds11 op hop with h | h | h | h | h | h | h | h | h | h | h
  · rw [h]; exact fields_k85 x hx w
  · rw [h]; exact fields_k74 x hx w
  · rw [h]; exact fields_k73 x hx w
  · rw [h]; exact fields_k76 x hx w
  · rw [h]; exact fields_k70 x hx w
  · rw [h]; exact fields_k66 x hx w
  · rw [h]; exact fields_k83 x hx w
  · rw [h]; exact fields_k72 x hx w
  · rw [h]; exact fields_k67 x hx w
  · rw [h]; exact fields_k82 x hx w
  · rw [h]; exact fields_k78 x hx w
set_option maxHeartbeats 2000000 in
theorem read_any (op : Nat) (hop : op < 57) (x : Nat) (hx : x < 4294967296) (w : World) :
    Calls Tryz.prog 42 #[.int .i64 op, .int .u32 x] w fun e w' => e = .returned (readV op x) ∧ Below w.heap.size w w' := by
  have F := Lib.hid (fun w => fields_any op hop x hx w)
  unfold readV
  generalize rdOf (kN op) x = a1 at *
  generalize r1Of (kN op) x = a2 at *
  generalize r2Of (kN op) x = a3 at *
  generalize immOf (kN op) x = a4 at *
  generalize csrOf (kN op) x = a5 at *
  have hK := kByte op hop
  generalize kN op = k at *
  have hopI : (op : Int) < 57 := by omega
  go_enter Tryz.func42, Tryz.ntmps42
  go_wp2_with (go_at_call 74; refine (F.out _).mono ?_; rintro e w1 ⟨rfl, hb⟩; have hrow : w1.heap[w.heap.size]? = some (.cells #[.int .i64 0, .int .i64 0, .int .i64 0, .int .i64 0, .int .i64 0, .int .i64 0] 37 (0, 0)) := (hb.block w.heap.size (by simp)).trans (heap_alloc_new w _); have fr := fun j => frozen_of_row _ _ j _ _ hrow; have c0 : w1.cell? ⟨w.heap.size, 0, none⟩ = some (.int .i64 0) := cell_of_row _ _ _ _ _ _ hrow; have c1 : w1.cell? ⟨w.heap.size, 1, none⟩ = some (.int .i64 0) := cell_of_row _ _ _ _ _ _ hrow; have c2 : w1.cell? ⟨w.heap.size, 2, none⟩ = some (.int .i64 0) := cell_of_row _ _ _ _ _ _ hrow; have c3 : w1.cell? ⟨w.heap.size, 3, none⟩ = some (.int .i64 0) := cell_of_row _ _ _ _ _ _ hrow; have c4 : w1.cell? ⟨w.heap.size, 4, none⟩ = some (.int .i64 0) := cell_of_row _ _ _ _ _ _ hrow; have c5 : w1.cell? ⟨w.heap.size, 5, none⟩ = some (.int .i64 0) := cell_of_row _ _ _ _ _ _ hrow; have hlt : w.heap.size < w1.heap.size := heap_lt hrow; have HBb := Lib.hid hb; clear hb hrow)
  refine bodyPost_ret (v := ?_) ?_ rfl ⟨?_, ?_⟩
  rotate_left
  · simp [results, Tryz.results42, go_sem, c0, c1, c2, c3, c4, c5, hlt]
    exact rfl
  · rfl
  · have h1 : Below w.heap.size w w1 := ((Below.refl _ w).alloc (Nat.le_refl _) _).trans (HBb.out.mono (by simp))
    exact ((((((h1.setCell (Nat.le_refl _) _).setCell (Nat.le_refl _) _).setCell (Nat.le_refl _) _).setCell (Nat.le_refl _) _).setCell (Nat.le_refl _) _).setCell (Nat.le_refl _) _).alloc (by simp; omega) _

end Go.Proofs.YtkcdnhennnjneaaGreatDoor
