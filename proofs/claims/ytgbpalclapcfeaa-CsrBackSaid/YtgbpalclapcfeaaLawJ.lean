import Derived.Test.YtgbpalclapcfeaaLawI
import Derived.Below
import Derived.Deep.Draws
import Derived.Deep.AppendLies
import Derived.Maps.AppendAt
import Derived.OwnWalk
import Derived.Laws.BytesArg
import Derived.Laws.MakeOwn
import Derived.Laws.OwnMore
import Derived.Deep.OwnRows
import Derived.Tactics
import Derived.Lib.ConvBytes
import Derived.Laws.Slices
import Derived.WalkKit
import Derived.KernelRfl
import Derived.RowKit3
import Derived.Deep.LoopGhost
import Derived.Deep.QuietTactic
import Derived.BigQuiet
import Derived.WideLaws
import Derived.Deep.DeepCutAuto
import Derived.Deep.CutBlock
import Derived.Deep.RegionHeld3
import Derived.Laws.Rows
import Derived.Lib.AppendStr
import Derived.ArgAppend
import Derived.Laws.IdiomCopy
import Derived.OrdersHeld
import Derived.Laws.BitsLemmas
import Derived.RowKit
import Derived.Lib.Hide
import Derived.Laws.BitsAllLaws
import Derived.WalkLawsBesides
import Derived.WalkSpells
import Derived.LaidEql
namespace Go.Proofs.Ytgbpalclapcfeaa
open Go.RowKit
set_option maxRecDepth 100000
set_option linter.unusedVariables false
set_option linter.unusedSimpArgs false

set_option maxHeartbeats 4000000 in
theorem csrBack_core (st en ve sc ep ca va co : Nat) (a0 a1 : Int) (v : Nat) (i k : Nat) (hi : i < 9) (hk : k < 9) (A0 A1 : Int) (hw0 : IntKind.u64.wrap a0 = A0) (hw1 : IntKind.u64.wrap a1 = A1) (hA0 : wrap64 (A0.tmod 9) = (i : Int)) (hA1 : wrap64 (A1.tmod 9) = (k : Int))
    (R S : Int) (hh : Nat) (hR : regI i = R) (hS : regI k = S) (hH : hldI i = hh) (y0 y1 y2 y3 y4 y5 y6 y7 a b c : Nat)
    (X : Nat) (hX : Go.bits .and .u32 (v : Int) (hh : Int) = (X : Int)) (h0 : i = 0 → Go.bits .andNot .u32 (a : Int) 6144 = (X : Int)) (h1 : i ≠ 0 → a = X) (hbc : i = k ∨ b = c)
    (HW : Hid (∀ w : World, Calls Try.prog 19 #[.agg #[.int .u32 st, .int .u32 en, .int .u32 ve, .int .u32 sc, .int .u32 ep, .int .u32 ca, .int .u32 va, .int .u64 co], .int .i64 R, .int .u32 v] w fun e w' => e = .returned (.tuple #[.agg #[.int .u32 y0, .int .u32 y1, .int .u32 y2, .int .u32 y3, .int .u32 y4, .int .u32 y5, .int .u32 y6, .int .u64 y7], .nilIface]) ∧ Below w.heap.size w w'))
    (HA : Hid (∀ w : World, Calls Try.prog 20 #[.agg #[.int .u32 y0, .int .u32 y1, .int .u32 y2, .int .u32 y3, .int .u32 y4, .int .u32 y5, .int .u32 y6, .int .u64 y7], .int .i64 R, .int .u32 0] w fun e w' => e = .returned (.tuple #[.int .u32 a, .nilIface]) ∧ Below w.heap.size w w'))
    (HB : Hid (∀ w : World, Calls Try.prog 20 #[.agg #[.int .u32 y0, .int .u32 y1, .int .u32 y2, .int .u32 y3, .int .u32 y4, .int .u32 y5, .int .u32 y6, .int .u64 y7], .int .i64 S, .int .u32 0] w fun e w' => e = .returned (.tuple #[.int .u32 b, .nilIface]) ∧ Below w.heap.size w w'))
    (HC : Hid (∀ w : World, Calls Try.prog 20 #[.agg #[.int .u32 st, .int .u32 en, .int .u32 ve, .int .u32 sc, .int .u32 ep, .int .u32 ca, .int .u32 va, .int .u64 co], .int .i64 S, .int .u32 0] w fun e w' => e = .returned (.tuple #[.int .u32 c, .nilIface]) ∧ Below w.heap.size w w')) (w : World) :
    Calls Try.prog 6 #[.agg #[.int .u32 st, .int .u32 en, .int .u32 ve, .int .u32 sc, .int .u32 ep, .int .u32 ca, .int .u32 va, .int .u64 co], .agg #[.int .i64 a0, .int .i64 a1], .int .u32 v] w fun e w' => e = .returned (.bool true) ∧ Below w.heap.size w w' := by
  have K0 := Lib.hid (fun n => Bk.start w ((w.alloc (.cells #[.int .u32 st, .int .u32 en, .int .u32 ve, .int .u32 sc, .int .u32 ep, .int .u32 ca, .int .u32 va, .int .u64 co] 25)).alloc (.cells #[.int .i64 a0, .int .i64 a1] 39)) (by simp; omega) (((Below.refl _ _).alloc (Nat.le_refl _) _).alloc (by simp) _) ⟨st, en, ve, sc, ep, ca, va, co⟩ i k n hi hk (w.heap.size + 1 + 1) (by simp) R S hh hR hS hH)
  clear hR hS hH
  have HI := Lib.hid hi
  go_enter Try.func6, Try.ntmps6
  go_upto_region 3 with (fail)
  go_quiet (fail)
  simp only [hA0, hA1]
  go_upto_region 4 with (fail)
  go_cut [11] (fun x w' => x = .pointer (some ⟨w.heap.size + 1 + 1 + 1 + 1, 0, none⟩) ∧ Bk w (w.heap.size + 1 + 1) (w.heap.size + 1 + 1 + 1) (w.heap.size + 1 + 1 + 1 + 1) ⟨st, en, ve, sc, ep, ca, va, co⟩ i k R S hh w')
  case first =>
    go_wp2_with fail
    go_meet
    exact ⟨rfl, K0.out nq⟩
  case rest =>
    obtain ⟨rfl, hcut⟩ := hcut
    have K1 := Lib.hid hcut
    clear hcut K0
    have K1' := Lib.hid K1.out.2.2.2.1.facts
    obtain ⟨r0, r1, r2, _, r4, r5, r6⟩ := K1.out
    obtain ⟨f0, f1, f2, f3, f4, f5, f6, f7, f8, f9⟩ := K1'.out
    go_upto_region 5 with (fail)
    go_cut [12, 13] (fun y e w' => (∃ BY : Nat, y = .pointer (some ⟨BY, 0, none⟩) ∧ BoxS w' BY 27 ⟨y0, y1, y2, y3, y4, y5, y6, y7⟩) ∧ e = .nilIface ∧ Bk w (w.heap.size + 1 + 1) (w.heap.size + 1 + 1 + 1) (w.heap.size + 1 + 1 + 1 + 1) ⟨st, en, ve, sc, ep, ca, va, co⟩ i k R S hh w')
    case first =>
      clear HA HB HC hX h0 h1 hbc hw0 hw1 hA0 hA1 K1' r1 r2 r5 r6 hi hk
      have hi9 : i < 9 := HI.out
      go_region_with (go_at_call 19; refine (HW.out _).mono ?_; rintro e w1 ⟨rfl, hb⟩; (first
        | (have K2 := Lib.hid ((K1.out.drew 1).below hb))
        | (have K2 := Lib.hid (((K1.out.drew 1).alloc _).below hb); have Z2 := Lib.hid (show BoxS w1 wc.heap.size 27 St.zero from (BoxS.new wc.drew St.zero 27).below hb); have Z3 := Lib.hid Z2.out.facts; obtain ⟨z0, z1, z2, z3, z4, z5, z6, z7, z8, z9⟩ := Z3.out)); clear hb)
      all_goals
        go_wp2_with fail
        go_meet
        first
          | (have hz := Z2.out.store8 y0 y1 y2 y3 y4 y5 y6 y7
             have hsz := K1.out.2.2.2.2.2.2.size
             have hx := K1.out.2.2.2.1.lt
             have hr := K1.out.2.2.2.2.1
             have hh1 := K1.out.2.2.2.2.2.1
             exact ⟨⟨_, rfl, hz⟩, rfl, ((((((((K2.out.set hr hh1 hx hsz 0 _).set hr hh1 hx hsz 1 _).set hr hh1 hx hsz 2 _).set hr hh1 hx hsz 3 _).set hr hh1 hx hsz 4 _).set hr hh1 hx hsz 5 _).set hr hh1 hx hsz 6 _).set hr hh1 hx hsz 7 _)⟩)
          | (refine ⟨⟨_, rfl, ?_⟩, rfl, ?_⟩
             · exact BoxS.new w1 ⟨y0, y1, y2, y3, y4, y5, y6, y7⟩ 27
             · exact K2.out.alloc _)
    case rest =>
      obtain ⟨⟨BY, rfl, hy⟩, rfl, hk5⟩ := hcut
      clear f0 f1 f2 f3 f4 f5 f6 f7 f8 f9 r0 r1 r2 r4 r5 r6 K1' K1
      have K6 := Lib.hid (show BoxS wc BY 27 ⟨y0, y1, y2, y3, y4, y5, y6, y7⟩ ∧ Bk w (w.heap.size + 1 + 1) (w.heap.size + 1 + 1 + 1) (w.heap.size + 1 + 1 + 1 + 1) ⟨st, en, ve, sc, ep, ca, va, co⟩ i k R S hh wc from ⟨hy, hk5⟩)
      clear hy hk5
      obtain ⟨r0, r1, r2, _, r4, r5, r6⟩ := K6.out.2
      obtain ⟨f0, f1, f2, f3, f4, f5, f6, f7, f8, f9⟩ := K6.out.1.facts
      go_upto_region 6 with (fail)
      go_cut [14, 15] (fun x e w' => x = .int .u32 a ∧ e = .nilIface ∧ BoxS w' BY 27 ⟨y0, y1, y2, y3, y4, y5, y6, y7⟩ ∧ Bk w (w.heap.size + 1 + 1) (w.heap.size + 1 + 1 + 1) (w.heap.size + 1 + 1 + 1 + 1) ⟨st, en, ve, sc, ep, ca, va, co⟩ i k R S hh w')
      case first =>
        go_region_with (go_at_call 20; refine (HA.out _).mono ?_; rintro e w1 ⟨rfl, hb⟩; have K7 := Lib.hid (And.intro ((K6.out.1.drew 1).below hb) ((K6.out.2.drew 1).below hb)); clear hb)
        all_goals
          go_wp2_with fail
          go_meet
          exact ⟨rfl, rfl, K7.out⟩
      case rest =>
        obtain ⟨rfl, rfl, hcut⟩ := hcut
        clear f0 f1 f2 f3 f4 f5 f6 f7 f8 f9 r0 r1 r2 r4 r5 r6 K6
        have K6 := Lib.hid hcut
        clear hcut
        obtain ⟨r0, r1, r2, _, r4, r5, r6⟩ := K6.out.2
        obtain ⟨f0, f1, f2, f3, f4, f5, f6, f7, f8, f9⟩ := K6.out.1.facts
        go_upto_region 7 with (fail)
        go_cut [16, 17] (fun x e w' => x = .int .u32 b ∧ e = .nilIface ∧ BoxS w' BY 27 ⟨y0, y1, y2, y3, y4, y5, y6, y7⟩ ∧ Bk w (w.heap.size + 1 + 1) (w.heap.size + 1 + 1 + 1) (w.heap.size + 1 + 1 + 1 + 1) ⟨st, en, ve, sc, ep, ca, va, co⟩ i k R S hh w')
        case first =>
          go_region_with (go_at_call 20; refine (HB.out _).mono ?_; rintro e w1 ⟨rfl, hb⟩; have K7 := Lib.hid (And.intro ((K6.out.1.drew 1).below hb) ((K6.out.2.drew 1).below hb)); clear hb)
          all_goals
            go_wp2_with fail
            go_meet
            exact ⟨rfl, rfl, K7.out⟩
        case rest =>
          obtain ⟨rfl, rfl, hcut⟩ := hcut
          clear f0 f1 f2 f3 f4 f5 f6 f7 f8 f9 r0 r1 r2 r4 r5 r6 K6
          have K6 := Lib.hid hcut
          clear hcut
          obtain ⟨r0, r1, r2, _, r4, r5, r6⟩ := K6.out.2
          obtain ⟨f0, f1, f2, f3, f4, f5, f6, f7, f8, f9⟩ := K6.out.2.2.2.2.1.facts
          go_upto_region 8 with (fail)
          go_cut [18, 19] (fun x e w' => x = .int .u32 c ∧ e = .nilIface ∧ BoxS w' BY 27 ⟨y0, y1, y2, y3, y4, y5, y6, y7⟩ ∧ Bk w (w.heap.size + 1 + 1) (w.heap.size + 1 + 1 + 1) (w.heap.size + 1 + 1 + 1 + 1) ⟨st, en, ve, sc, ep, ca, va, co⟩ i k R S hh w')
          case first =>
            go_region_with (go_at_call 20; refine (HC.out _).mono ?_; rintro e w1 ⟨rfl, hb⟩; have K7 := Lib.hid (And.intro ((K6.out.1.drew 1).below hb) ((K6.out.2.drew 1).below hb)); clear hb)
            all_goals
              go_wp2_with fail
              go_meet
              exact ⟨rfl, rfl, K7.out⟩
          case rest =>
            obtain ⟨rfl, rfl, hcut⟩ := hcut
            clear f0 f1 f2 f3 f4 f5 f6 f7 f8 f9 r0 r1 r2 r4 r5 r6 K6
            have K6 := Lib.hid hcut
            clear hcut
            obtain ⟨r0, r1, r2, _, r4, r5, r6⟩ := K6.out.2
            obtain ⟨f0, f1, f2, f3, f4, f5, f6, f7, f8, f9⟩ := K6.out.2.2.2.2.1.facts
            have HI9 : i < 9 := hi
            by_cases hi0 : i = 0
            · have e0 := h0 hi0
              have t0 : ((i : Int) == 0) = true := by simp [hi0]
              by_cases hik : i = k
              · have t1 : ((i : Int) == (k : Int)) = true := by simp [hik]
                clear hi0 hik h0 h1 hbc hi hk hA0 hA1 hw0 hw1
                go_wp2_with (go_at_call 14; refine (sureC_any _).mono ?_; rintro e w5 ⟨rfl, hb5⟩)
                go_ret
                exact ⟨rfl, K6.out.2.2.2.2.2.2.2.trans (hb5.mono K6.out.2.2.2.2.2.2.2.size)⟩
              · have t1 : ((i : Int) == (k : Int)) = false := by rw [Bool.eq_false_iff]; simp; omega
                obtain rfl := hbc.resolve_left hik
                clear hi0 hik h0 h1 hi hk hA0 hA1 hw0 hw1
                go_wp2_with (go_at_call 14; refine (sureC_any _).mono ?_; rintro e w5 ⟨rfl, hb5⟩)
                go_ret
                exact ⟨rfl, K6.out.2.2.2.2.2.2.2.trans (hb5.mono K6.out.2.2.2.2.2.2.2.size)⟩
            · obtain rfl := h1 hi0
              have t0 : ((i : Int) == 0) = false := by rw [Bool.eq_false_iff]; simp; omega
              by_cases hik : i = k
              · have t1 : ((i : Int) == (k : Int)) = true := by simp [hik]
                clear hi0 hik h0 hbc hi hk hA0 hA1 hw0 hw1
                go_wp2_with (go_at_call 14; refine (sureC_any _).mono ?_; rintro e w5 ⟨rfl, hb5⟩)
                go_ret
                exact ⟨rfl, K6.out.2.2.2.2.2.2.2.trans (hb5.mono K6.out.2.2.2.2.2.2.2.size)⟩
              · have t1 : ((i : Int) == (k : Int)) = false := by rw [Bool.eq_false_iff]; simp; omega
                obtain rfl := hbc.resolve_left hik
                clear hi0 hik h0 hi hk hA0 hA1 hw0 hw1
                go_wp2_with (go_at_call 14; refine (sureC_any _).mono ?_; rintro e w5 ⟨rfl, hb5⟩)
                go_ret
                exact ⟨rfl, K6.out.2.2.2.2.2.2.2.trans (hb5.mono K6.out.2.2.2.2.2.2.2.size)⟩

/-- what the registers hold -/
def regV (s : St) (k : Nat) : Nat := match k with | 0 => s.status ||| 6144 | 1 => s.enable | 2 => s.vector | 3 => s.scratch | 4 => s.epc | 5 => s.cause | 6 => s.value | 7 => s.count % 4294967296 | _ => s.count / 4294967296
theorem wr_0 (s : St) (v : Nat) : writeV s 768 v = ({ s with status := v &&& 136 }, 0) := by simp [writeV]
theorem rd_0 (s : St) : readV s 768 0 = some (s.status ||| 6144) := by simp [readV]
theorem rg_0 : regI 0 = 768 := rfl
theorem rv_0 (s : St) : regV s 0 = s.status ||| 6144 := rfl
theorem wr_1 (s : St) (v : Nat) : writeV s 772 v = ({ s with enable := v &&& 2184 }, 0) := by simp [writeV]
theorem rd_1 (s : St) : readV s 772 0 = some (s.enable) := by simp [readV]
theorem rg_1 : regI 1 = 772 := rfl
theorem rv_1 (s : St) : regV s 1 = s.enable := rfl
theorem wr_2 (s : St) (v : Nat) : writeV s 773 v = ({ s with vector := clr v 2 }, 0) := by simp [writeV]
theorem rd_2 (s : St) : readV s 773 0 = some (s.vector) := by simp [readV]
theorem rg_2 : regI 2 = 773 := rfl
theorem rv_2 (s : St) : regV s 2 = s.vector := rfl
theorem wr_3 (s : St) (v : Nat) : writeV s 832 v = ({ s with scratch := v }, 0) := by simp [writeV]
theorem rd_3 (s : St) : readV s 832 0 = some (s.scratch) := by simp [readV]
theorem rg_3 : regI 3 = 832 := rfl
theorem rv_3 (s : St) : regV s 3 = s.scratch := rfl
theorem wr_4 (s : St) (v : Nat) : writeV s 833 v = ({ s with epc := clr v 3 }, 0) := by simp [writeV]
theorem rd_4 (s : St) : readV s 833 0 = some (s.epc) := by simp [readV]
theorem rg_4 : regI 4 = 833 := rfl
theorem rv_4 (s : St) : regV s 4 = s.epc := rfl
theorem wr_5 (s : St) (v : Nat) : writeV s 834 v = ({ s with cause := v }, 0) := by simp [writeV]
theorem rd_5 (s : St) : readV s 834 0 = some (s.cause) := by simp [readV]
theorem rg_5 : regI 5 = 834 := rfl
theorem rv_5 (s : St) : regV s 5 = s.cause := rfl
theorem wr_6 (s : St) (v : Nat) : writeV s 835 v = ({ s with value := v }, 0) := by simp [writeV]
theorem rd_6 (s : St) : readV s 835 0 = some (s.value) := by simp [readV]
theorem rg_6 : regI 6 = 835 := rfl
theorem rv_6 (s : St) : regV s 6 = s.value := rfl
theorem wr_7 (s : St) (v : Nat) : writeV s 2816 v = ({ s with count := s.count / 4294967296 * 4294967296 + v }, 0) := by simp [writeV]
theorem rd_7 (s : St) : readV s 2816 0 = some (s.count % 4294967296) := by simp [readV]
theorem rg_7 : regI 7 = 2816 := rfl
theorem rv_7 (s : St) : regV s 7 = s.count % 4294967296 := rfl
theorem wr_8 (s : St) (v : Nat) : writeV s 2944 v = ({ s with count := v * 4294967296 + s.count % 4294967296 }, 0) := by simp [writeV]
theorem rd_8 (s : St) : readV s 2944 0 = some (s.count / 4294967296) := by simp [readV]
theorem rg_8 : regI 8 = 2944 := rfl
theorem rv_8 (s : St) : regV s 8 = s.count / 4294967296 := rfl
theorem regI_write (s : St) (v : Nat) (i : Nat) (hi : i < 9) : (writeV s (regI i) v).2 = 0 := by
  rcases nine i hi with rfl | rfl | rfl | rfl | rfl | rfl | rfl | rfl | rfl
  · rw [rg_0, wr_0]
  · rw [rg_1, wr_1]
  · rw [rg_2, wr_2]
  · rw [rg_3, wr_3]
  · rw [rg_4, wr_4]
  · rw [rg_5, wr_5]
  · rw [rg_6, wr_6]
  · rw [rg_7, wr_7]
  · rw [rg_8, wr_8]
theorem read_reg (s : St) (k : Nat) (hk : k < 9) : readV s (regI k) 0 = some (regV s k) := by
  rcases nine k hk with rfl | rfl | rfl | rfl | rfl | rfl | rfl | rfl | rfl
  · rw [rg_0, rd_0, rv_0]
  · rw [rg_1, rd_1, rv_1]
  · rw [rg_2, rd_2, rv_2]
  · rw [rg_3, rd_3, rv_3]
  · rw [rg_4, rd_4, rv_4]
  · rw [rg_5, rd_5, rv_5]
  · rw [rg_6, rd_6, rv_6]
  · rw [rg_7, rd_7, rv_7]
  · rw [rg_8, rd_8, rv_8]
theorem and_all {v : Nat} (hv : v < 4294967296) : v &&& 4294967295 = v := by
  rw [show (4294967295 : Nat) = 2 ^ 32 - 1 from rfl, Nat.and_two_pow_sub_one_eq_mod]; exact Nat.mod_eq_of_lt hv
theorem lo_back (x v : Nat) (hv : v < 4294967296) : (x * 4294967296 + v) % 4294967296 = v := by
  rw [Nat.add_comm, Nat.add_mul_mod_self_right, Nat.mod_eq_of_lt hv]
theorem hi_back (x v : Nat) (hv : v < 4294967296) : (x * 4294967296 + v) / 4294967296 = x := by
  rw [Nat.add_comm, Nat.add_mul_div_right _ _ (by decide), Nat.div_eq_of_lt hv, Nat.zero_add]
/-- what is read behind a write -/
def backA (v i : Nat) : Nat := if i = 0 then (v &&& 136) ||| 6144 else v &&& hldI i
theorem bk_0 (v : Nat) : backA v 0 = (v &&& 136) ||| 6144 := rfl
theorem bk_1 (v : Nat) : backA v 1 = v &&& 2184 := rfl
theorem bk_2 (v : Nat) : backA v 2 = v &&& 4294967293 := rfl
theorem bk_3 (v : Nat) : backA v 3 = v &&& 4294967295 := rfl
theorem bk_4 (v : Nat) : backA v 4 = v &&& 4294967292 := rfl
theorem bk_5 (v : Nat) : backA v 5 = v &&& 4294967295 := rfl
theorem bk_6 (v : Nat) : backA v 6 = v &&& 4294967295 := rfl
theorem bk_7 (v : Nat) : backA v 7 = v &&& 4294967295 := rfl
theorem bk_8 (v : Nat) : backA v 8 = v &&& 4294967295 := rfl
theorem back_same (s : St) {v : Nat} (hv : v < 4294967296) (i : Nat) (hi : i < 9) : readV (writeV s (regI i) v).1 (regI i) 0 = some (backA v i) := by
  rw [read_reg _ i hi]
  rcases nine i hi with rfl | rfl | rfl | rfl | rfl | rfl | rfl | rfl | rfl
  · rw [rg_0, wr_0, rv_0, bk_0]
  · rw [rg_1, wr_1, rv_1, bk_1]
  · rw [rg_2, wr_2, rv_2, bk_2]; rfl
  · rw [rg_3, wr_3, rv_3, bk_3]; simp only [and_all hv]
  · rw [rg_4, wr_4, rv_4, bk_4]; rfl
  · rw [rg_5, wr_5, rv_5, bk_5]; simp only [and_all hv]
  · rw [rg_6, wr_6, rv_6, bk_6]; simp only [and_all hv]
  · rw [rg_7, wr_7, rv_7, bk_7]; simp only [lo_back _ v hv, and_all hv]
  · rw [rg_8, wr_8, rv_8, bk_8]; simp only [hi_back v _ (Nat.mod_lt _ (by decide)), and_all hv]
theorem back_other (s : St) {v : Nat} (hv : v < 4294967296) (i k : Nat) (hi : i < 9) (hk : k < 9) (h : i ≠ k) : regV (writeV s (regI i) v).1 k = regV s k := by
  rcases nine i hi with rfl | rfl | rfl | rfl | rfl | rfl | rfl | rfl | rfl
  · rw [rg_0, wr_0]
    rcases nine k hk with rfl | rfl | rfl | rfl | rfl | rfl | rfl | rfl | rfl
    · exact absurd rfl h
    · rw [rv_1, rv_1]
    · rw [rv_2, rv_2]
    · rw [rv_3, rv_3]
    · rw [rv_4, rv_4]
    · rw [rv_5, rv_5]
    · rw [rv_6, rv_6]
    · rw [rv_7, rv_7]
    · rw [rv_8, rv_8]
  · rw [rg_1, wr_1]
    rcases nine k hk with rfl | rfl | rfl | rfl | rfl | rfl | rfl | rfl | rfl
    · rw [rv_0, rv_0]
    · exact absurd rfl h
    · rw [rv_2, rv_2]
    · rw [rv_3, rv_3]
    · rw [rv_4, rv_4]
    · rw [rv_5, rv_5]
    · rw [rv_6, rv_6]
    · rw [rv_7, rv_7]
    · rw [rv_8, rv_8]
  · rw [rg_2, wr_2]
    rcases nine k hk with rfl | rfl | rfl | rfl | rfl | rfl | rfl | rfl | rfl
    · rw [rv_0, rv_0]
    · rw [rv_1, rv_1]
    · exact absurd rfl h
    · rw [rv_3, rv_3]
    · rw [rv_4, rv_4]
    · rw [rv_5, rv_5]
    · rw [rv_6, rv_6]
    · rw [rv_7, rv_7]
    · rw [rv_8, rv_8]
  · rw [rg_3, wr_3]
    rcases nine k hk with rfl | rfl | rfl | rfl | rfl | rfl | rfl | rfl | rfl
    · rw [rv_0, rv_0]
    · rw [rv_1, rv_1]
    · rw [rv_2, rv_2]
    · exact absurd rfl h
    · rw [rv_4, rv_4]
    · rw [rv_5, rv_5]
    · rw [rv_6, rv_6]
    · rw [rv_7, rv_7]
    · rw [rv_8, rv_8]
  · rw [rg_4, wr_4]
    rcases nine k hk with rfl | rfl | rfl | rfl | rfl | rfl | rfl | rfl | rfl
    · rw [rv_0, rv_0]
    · rw [rv_1, rv_1]
    · rw [rv_2, rv_2]
    · rw [rv_3, rv_3]
    · exact absurd rfl h
    · rw [rv_5, rv_5]
    · rw [rv_6, rv_6]
    · rw [rv_7, rv_7]
    · rw [rv_8, rv_8]
  · rw [rg_5, wr_5]
    rcases nine k hk with rfl | rfl | rfl | rfl | rfl | rfl | rfl | rfl | rfl
    · rw [rv_0, rv_0]
    · rw [rv_1, rv_1]
    · rw [rv_2, rv_2]
    · rw [rv_3, rv_3]
    · rw [rv_4, rv_4]
    · exact absurd rfl h
    · rw [rv_6, rv_6]
    · rw [rv_7, rv_7]
    · rw [rv_8, rv_8]
  · rw [rg_6, wr_6]
    rcases nine k hk with rfl | rfl | rfl | rfl | rfl | rfl | rfl | rfl | rfl
    · rw [rv_0, rv_0]
    · rw [rv_1, rv_1]
    · rw [rv_2, rv_2]
    · rw [rv_3, rv_3]
    · rw [rv_4, rv_4]
    · rw [rv_5, rv_5]
    · exact absurd rfl h
    · rw [rv_7, rv_7]
    · rw [rv_8, rv_8]
  · rw [rg_7, wr_7]
    rcases nine k hk with rfl | rfl | rfl | rfl | rfl | rfl | rfl | rfl | rfl
    · rw [rv_0, rv_0]
    · rw [rv_1, rv_1]
    · rw [rv_2, rv_2]
    · rw [rv_3, rv_3]
    · rw [rv_4, rv_4]
    · rw [rv_5, rv_5]
    · rw [rv_6, rv_6]
    · exact absurd rfl h
    · rw [rv_8, rv_8]; simp only [hi_back _ v hv]
  · rw [rg_8, wr_8]
    rcases nine k hk with rfl | rfl | rfl | rfl | rfl | rfl | rfl | rfl | rfl
    · rw [rv_0, rv_0]
    · rw [rv_1, rv_1]
    · rw [rv_2, rv_2]
    · rw [rv_3, rv_3]
    · rw [rv_4, rv_4]
    · rw [rv_5, rv_5]
    · rw [rv_6, rv_6]
    · rw [rv_7, rv_7]; simp only [lo_back v _ (Nat.mod_lt _ (by decide))]
    · exact absurd rfl h
theorem hldI_lt (i : Nat) (hi : i < 9) : hldI i < 4294967296 := by
  rcases nine i hi with rfl | rfl | rfl | rfl | rfl | rfl | rfl | rfl | rfl <;> decide
theorem tb136 (j : Nat) : (136 : Nat).testBit j = (decide (j = 3) || decide (j = 7)) := by
  have e : (136 : Nat) = 2 ^ 3 ||| 2 ^ 7 := by decide
  rw [e, Nat.testBit_or, pow_tb, pow_tb]
  rw [Bool.eq_iff_iff]; simp; omega
theorem back_zero {v : Nat} (hv : v < 4294967296) : clr ((v &&& 136) ||| 6144) 6144 = v &&& 136 := by
  have hl : (v &&& 136) ||| 6144 < 4294967296 := Nat.or_lt_two_pow (n := 32) (and_lt32 hv) (by decide)
  apply word_ext (clr_lt hl) (and_lt32 hv)
  intro j hj
  rw [tb_clr (by omega) hj, Nat.testBit_or, Nat.testBit_and, tb136]
  have e : (6144 : Nat).testBit j = (decide (j = 11) || decide (j = 12)) := by
    have e : (6144 : Nat) = 2 ^ 11 ||| 2 ^ 12 := by decide
    rw [e, Nat.testBit_or, pow_tb, pow_tb, Bool.eq_iff_iff]; simp; omega
  rw [e]
  by_cases h11 : j = 11
  · subst h11; simp
  · by_cases h12 : j = 12
    · subst h12; simp
    · simp [h11, h12]

theorem wrap_mod (a : Int) : ∃ (A : Int) (i : Nat), IntKind.u64.wrap a = A ∧ i < 9 ∧ wrap64 (A.tmod 9) = (i : Int) := by
  refine ⟨_, (a % 18446744073709551616 % 9).toNat, rfl, by omega, ?_⟩
  rw [Go.IntKind.wrap_u64]
  have h0 : 0 ≤ a % 18446744073709551616 := Int.emod_nonneg _ (by decide)
  rw [Int.tmod_eq_emod_of_nonneg h0]
  unfold wrap64
  omega
theorem csrBack_walk (st en ve sc ep ca va co : Nat) (g1 : st < 4294967296) (g2 : en < 4294967296) (g3 : ve < 4294967296) (g4 : sc < 4294967296) (g5 : ep < 4294967296) (g6 : ca < 4294967296) (g7 : va < 4294967296) (g8 : co < 18446744073709551616) (a0 a1 : Int) (_l0 : -9223372036854775808 ≤ a0) (_m0 : a0 < 9223372036854775808) (_l1 : -9223372036854775808 ≤ a1) (_m1 : a1 < 9223372036854775808) (v : Nat) (hv : v < 4294967296) (w : World) :
    Calls Try.prog 6 #[.agg #[.int .u32 st, .int .u32 en, .int .u32 ve, .int .u32 sc, .int .u32 ep, .int .u32 ca, .int .u32 va, .int .u64 co], .agg #[.int .i64 a0, .int .i64 a1], .int .u32 v] w fun e w' => e = .returned (.bool true) ∧ Below w.heap.size w w' := by
  have hok : St.ok ⟨st, en, ve, sc, ep, ca, va, co⟩ := ⟨g1, g2, g3, g4, g5, g6, g7, g8⟩
  obtain ⟨A0, i, hw0, hi, hA0⟩ := wrap_mod a0
  obtain ⟨A1, k, hw1, hk, hA1⟩ := wrap_mod a1
  have hyok := writeV_ok hok (regI i) hv
  have hwr := regI_write ⟨st, en, ve, sc, ep, ca, va, co⟩ v i hi
  have hsa := back_same ⟨st, en, ve, sc, ep, ca, va, co⟩ hv i hi
  have hoth := fun h => back_other ⟨st, en, ve, sc, ep, ca, va, co⟩ hv i k hi hk h
  have HW := fun w => write_any ⟨st, en, ve, sc, ep, ca, va, co⟩ hok (regI i) v hv w
  have hC := fun w => read_any ⟨st, en, ve, sc, ep, ca, va, co⟩ hok (regI k) 0 (by omega) w
  rw [read_reg _ k hk] at hC
  have hA := fun w => read_any _ hyok (regI i) 0 (by omega) w
  have hB := fun w => read_any _ hyok (regI k) 0 (by omega) w
  rw [hsa] at hA
  rw [read_reg _ k hk] at hB
  generalize writeV ⟨st, en, ve, sc, ep, ca, va, co⟩ (regI i) v = yy at *
  obtain ⟨⟨y0, y1, y2, y3, y4, y5, y6, y7⟩, er⟩ := yy
  simp only at hwr
  subst hwr
  have hX : Go.bits .and .u32 (v : Int) (hldI i : Int) = ((v &&& hldI i : Nat) : Int) := Go.u32_and_nat v (hldI i) hv (hldI_lt i hi)
  exact csrBack_core st en ve sc ep ca va co a0 a1 v i k hi hk A0 A1 hw0 hw1 hA0 hA1 (regI i) (regI k) (hldI i) rfl rfl rfl y0 y1 y2 y3 y4 y5 y6 y7 (backA v i) (regV ⟨y0, y1, y2, y3, y4, y5, y6, y7⟩ k) (regV ⟨st, en, ve, sc, ep, ca, va, co⟩ k)
    (v &&& hldI i) hX
    (fun h => by
      subst h
      have hl : (v &&& 136) ||| 6144 < 4294967296 := Nat.or_lt_two_pow (n := 32) (and_lt32 hv) (by decide)
      show Go.bits .andNot .u32 (((v &&& 136) ||| 6144 : Nat) : Int) 6144 = ((v &&& 136 : Nat) : Int)
      exact (u32c_andNot (v := (v &&& 136) ||| 6144) 6144 hl (by omega)).trans (by rw [back_zero hv]))
    (fun h => by unfold backA; rw [if_neg h])
    (by by_cases h : i = k
        · exact .inl h
        · exact .inr (hoth h))
    (Lib.hid HW) (Lib.hid hA) (Lib.hid hB) (Lib.hid hC) w

end Go.Proofs.Ytgbpalclapcfeaa
