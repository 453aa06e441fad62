import Derived.Test.YtphlgaklfibciaaDoorHoM
import Derived.Test.YtphlgaklfibciaaDoorHoD
import Derived.Test.YtphlgaklfibciaaDoorHartBz
import Derived.Below
import Derived.Deep.Draws
import Derived.Deep.AppendLies
import Derived.Maps.AppendAt
import Derived.OwnWalk
import Derived.Laws.BytesArg
import Derived.Laws.MakeOwn
import Derived.Laws.OwnMore
import Derived.Deep.OwnRows
import Derived.Tactics
import Derived.Lib.ConvBytes
import Derived.Laws.Slices
import Derived.WalkKit
import Derived.KernelRfl
import Derived.RowKit3
import Derived.Deep.LoopGhost
import Derived.Deep.QuietTactic
import Derived.BigQuiet
import Derived.WideLaws
import Derived.Deep.DeepCutAuto
import Derived.Deep.CutBlock
import Derived.Deep.RegionHeld3
import Derived.Laws.Rows
import Derived.Lib.AppendStr
import Derived.ArgAppend
import Derived.Laws.IdiomCopy
import Derived.OrdersHeld
import Derived.Laws.BitsLemmas
import Derived.RowKit
import Derived.Lib.Hide
import Derived.Laws.BitsAllLaws
import Derived.WalkLawsBesides
import Derived.WalkSpells
import Derived.LaidEql
namespace Go.Proofs.YtphlgaklfibciaaDoor
open Go.RowKit
set_option maxRecDepth 100000
set_option linter.unusedVariables false
set_option linter.unusedSimpArgs false

/-- a slice of words that came in -/
def WordsAt (W : World) (A : Option Addr) (len cap : Nat) (f : Nat → Nat) : Prop :=
  len ≤ cap ∧ len ≤ 140737488351232 ∧ (∀ j, f j < 4294967296) ∧ (len = 0 ∨ ∃ b off, A = some ⟨b, off, none⟩ ∧ b < W.heap.size ∧ ∀ j, j < len → W.cell? ⟨b, off + j, none⟩ = some (.int .u32 (f j : Nat)))
/-- what the world of the law holds -/
structure HolW (w0 : World) (X : Nat) (h : HS) (w : World) : Prop where
  a : HAt w X h
  r : ∃ c : Array Value, w.heap[X]? = some (.cells c 44 (0, 0)) ∧ c.size = 42
  b : Below w0.heap.size w0 w
  x : w0.heap.size ≤ X
theorem HolW.below {w0 wa wb : World} {X : Nat} {h : HS} (s : HolW w0 X h wa) (hb : Below wa.heap.size wa wb) : HolW w0 X h wb := by
  obtain ⟨c, hc, hz⟩ := s.r
  exact ⟨s.a.below hb, ⟨c, (hb.block _ (heap_lt hc)).trans hc, hz⟩, s.b.trans (hb.mono s.b.size), s.x⟩
theorem HolW.setRow {w0 w : World} {X : Nat} {h : HS} (s : HolW w0 X h w) {g : Nat} (hX : X ≠ g) (hg : w0.heap.size ≤ g) (cs : Array Value) : HolW w0 X h (w.setRow g cs) := by
  obtain ⟨c, hc, hz⟩ := s.r
  exact ⟨s.a.setRow hX cs, ⟨c, setRow_row hc hX, hz⟩, below_setRow s.b hg cs, s.x⟩
theorem HolW.put {w0 w : World} {X : Nat} {h : HS} (s : HolW w0 X h w) (z : HS) : HolW w0 X z (w.setRow X z.cells.toArray) := by
  obtain ⟨c, hc, hz⟩ := s.r
  have hn := setRow_heap _ _ _ z.cells.toArray _ _ hc
  exact ⟨HAt.of_row (r := []) (by rw [List.append_nil]; exact hn), ⟨_, hn, hs_size z⟩, below_setRow s.b s.x _, s.x⟩
theorem HolW.drew1 {w0 w : World} {X : Nat} {h : HS} (s : HolW w0 X h w) : HolW w0 X h w.drew := s.below (Below.drew (Below.refl _ _))
theorem HolW.lx {w0 w : World} {X : Nat} {h : HS} (s : HolW w0 X h w) : X < w.heap.size := s.a.2.2
theorem begin_ex (h : HS) (g : GoodH h) (ln : Nat) (hl : ln < 4294967296) : ∃ (s : HS) (is : Bool), GoodH s ∧ (is = false → s.wait = true) ∧ Hid (∀ w : World, Calls Tryd.prog 13 #[.agg h.cells.toArray, .int .u32 ln] w fun e w' => e = .returned (.tuple #[.agg s.cells.toArray, .bool is]) ∧ Below w.heap.size w w') := by
  cases hs : stayB h ln with
  | true => exact ⟨h, false, g, fun _ => stay_wait hs, Lib.hid fun w => hbegin_no h g.1 ln hl hs w⟩
  | false => exact ⟨beginH h ln, true, good_begin g ln, (fun e => by cases e), Lib.hid fun w => hbegin_on h g.1 ln hl hs w⟩
theorem done_ex (h : HS) (g : GoodH h) {a0 : Int} {a1 : Nat} {a2 : Int} {a3 : Bool} {a4 : Int} {a5 : Nat} (k0 : a0 = 1 ∨ a0 = 2) (k2 : a2 = 1 ∨ a2 = 2 ∨ a2 = 4) (k4 : 0 ≤ a4) (k5 : a4 < 32) (v : Nat) (hv : v < 4294967296) : ∃ s : HS, GoodH s ∧ Hid (∀ w : World, Calls Tryd.prog 16 #[.agg h.cells.toArray, .agg #[.int .i64 a0, .int .u32 a1, .int .i64 a2, .bool a3, .int .i64 a4, .int .u32 a5], .int .u32 v] w fun e w' => e = .returned (.agg s.cells.toArray) ∧ Below w.heap.size w w') := by
  have hn : (h.pc + 4) % 4294967296 < 4294967296 := Nat.mod_lt _ (by decide)
  obtain ⟨rd, rfl⟩ := Int.eq_ofNat_of_zero_le k4
  rcases k0 with rfl | rfl
  · rcases k2 with rfl | rfl | rfl <;> cases a3
    · exact ⟨_, good_to (good_set g rd (fromN_lt _ 32)) hn, Lib.hid fun w => hdone_1_1 h g.1 a1 rd (by omega) a5 v hv w⟩
    · exact ⟨_, good_to (good_set g rd (signN_lt _ _)) hn, Lib.hid fun w => hdone_1_1s h g.1 a1 rd (by omega) a5 v hv w⟩
    · exact ⟨_, good_to (good_set g rd (fromN_lt _ 32)) hn, Lib.hid fun w => hdone_1_2 h g.1 a1 rd (by omega) a5 v hv w⟩
    · exact ⟨_, good_to (good_set g rd (signN_lt _ _)) hn, Lib.hid fun w => hdone_1_2s h g.1 a1 rd (by omega) a5 v hv w⟩
    · exact ⟨_, good_to (good_set g rd (fromN_lt _ 32)) hn, Lib.hid fun w => hdone_1_4 h g.1 a1 rd (by omega) a5 v hv w⟩
    · exact ⟨_, good_to (good_set g rd (signN_lt _ _)) hn, Lib.hid fun w => hdone_1_4s h g.1 a1 rd (by omega) a5 v hv w⟩
  · exact ⟨_, good_to g hn, Lib.hid fun w => hdone_2 h g.1 a1 a2 a3 rd a5 v w⟩
theorem fault_ex (h : HS) (g : GoodH h) {a0 : Int} {a1 : Nat} (hl : a1 < 4294967296) {a2 : Int} {a3 : Bool} {a4 : Int} {a5 : Nat} (k0 : a0 = 1 ∨ a0 = 2) (k4 : 0 ≤ a4) (k5 : a4 < 32) : ∃ s : HS, GoodH s ∧ Hid (∀ w : World, Calls Tryd.prog 15 #[.agg h.cells.toArray, .agg #[.int .i64 a0, .int .u32 a1, .int .i64 a2, .bool a3, .int .i64 a4, .int .u32 a5]] w fun e w' => e = .returned (.agg s.cells.toArray) ∧ Below w.heap.size w w') := by
  rcases k0 with rfl | rfl
  · exact ⟨_, good_trap g (by decide) hl, Lib.hid fun w => hfault_1 h g.1 a1 hl a2 a3 a4 k4 k5 a5 w⟩
  · exact ⟨_, good_trap g (by decide) hl, Lib.hid fun w => hfault_2 h g.1 a1 hl a2 a3 a4 k4 k5 a5 w⟩

theorem wpList_load_midW {P : Program} {ops : Array Oper} {rest : List Oper} {op : Oper} {a : Act} {w : World} {Q : Exit → Act → World → Prop} (hw : Region.wanted op (yielded ops a.tmps) = true) (ty : TypeId) (x : Operand) (ho : op.op = .load ty x)
    (b o : Nat) (hx : a.eval x = .pointer (some ⟨b, o, none⟩)) (cs : List Value) (d : TypeDesc) (hc : w.rangeAt b o cs)
    (hu : P.underlying ty = some d) (hd : d.isRow = true) (hi : (P.info? ty).map (·.size) = some cs.length)
    (h : wpList P ops Q rest (a.put op.dst (.agg cs.toArray)) w) : wpList P ops Q (op :: rest) a w :=
  wpList_step fun K hK => by
    rw [if_pos hw]
    exact wp_load_mid ty x ho b o hx cs d hc hu hd hi (hK _ _ h)

set_option maxHeartbeats 16000000 in
theorem holds_yes (h : HS) (G : GoodH h) (A1 A2 : Option Addr) (n1 c1 n2 c2 : Nat) (f1 f2 : Nat → Nat) (w : World) (B1 : WordsAt w A1 n1 c1 f1) (B2 : WordsAt w A2 n2 c2 f2) (hT : TabW w) : Calls Tryd.prog 4 #[.agg h.cells.toArray, .slice A1 n1 c1, .slice A2 n2 c2] w fun e w' => e = .returned (.bool true) ∧ Below w.heap.size w w' := by
  have GV := Lib.hid (fun w => give_any h w)
  have SU := Lib.hid (fun w hT => hsure_any w hT)
  have CK := Lib.hid (fun w => hcheck_ok h G.1 G.may w)
  have HTT := Lib.hid hT
  have Q1 := Lib.hid B1
  have Q2 := Lib.hid B2
  have hsz := hs_size h
  have hone := hs_one h
  obtain ⟨cs, hcs⟩ : ∃ cs, cs = h.cells.toArray := ⟨_, rfl⟩
  rw [← hcs] at GV
  rw [← hcs] at CK
  rw [← hcs] at hsz
  rw [← hcs] at hone
  rw [← hcs]
  have HC := Lib.hid hcs
  have HG := Lib.hid G
  clear hcs B1 B2 hT G
  go_enter Tryd.func4, Tryd.ntmps4
  go_upto_region 1 with (fail)
  generalize hW : World.alloc w _ = W0
  have q0 : W0.heap[w.heap.size]? = some (.cells cs 40 (0, 0)) := by rw [← hW]; exact heap_alloc_new w _
  have b0 : Below w.heap.size w W0 := by rw [← hW]; exact (Below.refl _ w).alloc (Nat.le_refl _) _
  clear hW
  refine wp_region_lit ?_
  refine wpList_load_row rfl 40 _ rfl w.heap.size rfl _ cs (0, 0) _ q0 Tryd.underlying40 rfl (by rw [hsz]; kernel_rfl) ?_
  try simp only [Act.put, List.setIfInBounds_toArray, List.set_cons_zero, List.set_cons_succ]
  refine wpList_callR rfl (some 15) rfl 10 #[.agg cs] (by kernel_rfl) (.agg cs) (Below W0.heap.size W0) (GV.out _) ?_
  intro w1 hb1
  try simp only [Act.put, List.setIfInBounds_toArray, List.set_cons_zero, List.set_cons_succ]
  refine Go.Great.wpList_allocTo rfl (some 7) rfl (.pointer (some ⟨w1.heap.size, 0, none⟩)) (.cells Z42 44) rfl ?_
  try simp only [Act.put, List.setIfInBounds_toArray, List.set_cons_zero, List.set_cons_succ]
  refine Go.wpList_store_rowTo rfl 44 _ _ rfl rfl w1.heap.size cs rfl rfl _ _ (heap_alloc_new _ _) (by rw [hsz]; kernel_rfl) (by rw [hsz]; rfl) hone ?_
  rw [World.setRow_alloc_new]
  have rX0 := heap_alloc_new w1 (.cells cs 44)
  have bw2 : Below w.heap.size w (w1.alloc (.cells cs 44)) := (b0.trans (hb1.mono b0.size)).alloc (b0.trans (hb1.mono b0.size)).size _
  have hXw : w.heap.size ≤ w1.heap.size := (b0.trans (hb1.mono b0.size)).size
  generalize w1.alloc (.cells cs 44) = w2 at rX0 bw2 ⊢
  obtain ⟨X, hX⟩ : ∃ X, X = w1.heap.size := ⟨_, rfl⟩
  rw [← hX] at rX0 hXw ⊢
  clear hX hb1 q0
  go_upto_region 2 with (fail)
  refine wp_region_lit ?_
  refine wpList_load_row rfl 44 _ rfl X rfl _ cs (0, 0) _ rX0 Tryd.underlying44 rfl (by rw [hsz]; kernel_rfl) ?_
  try simp only [Act.put, List.setIfInBounds_toArray, List.set_cons_zero, List.set_cons_succ]
  refine wpList_callR rfl (some 17) rfl 11 #[.agg cs] (by kernel_rfl) .nilIface (Below w2.heap.size w2) (CK.out _) ?_
  intro w3 hb3
  try simp only [Act.put, List.setIfInBounds_toArray, List.set_cons_zero, List.set_cons_succ]
  have rX := (hb3.block X (heap_lt rX0)).trans rX0
  have bw3 := bw2.trans (hb3.mono bw2.size)
  have W0S : HolW w X h w3 := ⟨HAt.of_row (h := h) (r := []) (by rw [List.append_nil, ← HC.out]; exact rX), ⟨_, rX, hsz⟩, bw3, hXw⟩
  clear rX0 bw2 hb3 rX bw3 hXw b0 hsz hone GV CK
  go_upto_region 5 with (fail)
  go_loopw [8] (fun i wr => ∃ (j : Nat) (g : HS), i = .int .i64 j ∧ j ≤ n1 ∧ GoodH g ∧ HolW w X g wr) (fun i _ => 60 - (intOf i).toNat)
  case atStart => exact ⟨0, h, rfl, Nat.zero_le _, HG.out, W0S⟩
  case round =>
    rename_i wr
    clear W0S HG HC
    obtain ⟨j, g, rfl, hjn, Gg, SW⟩ := hrel
    have hn1 := Q1.out.2.1
    have hn2 := Q2.out.2.1
    have SS := Lib.hid SW
    have TS := Lib.hid (HTT.out.below SW.b)
    have GG := Lib.hid Gg
    clear SW Gg
    by_cases hj : j < n1
    rotate_left
    · have hjI : ¬ (j : Int) < (n1 : Int) := by omega
      clear hn1 hn2
      go_upto_region 27 with (fail)
      go_wp2_with (go_at_call 12; refine (SU.out _ TS.out).mono ?_; rintro e w4 ⟨rfl, hb⟩; have G4 := Lib.hid (SS.out.b.trans (hb.mono SS.out.b.size)); clear hb)
      go_ret
      exact ⟨rfl, G4.out⟩
    by_cases h60 : j < 60
    rotate_left
    · have hjI : (j : Int) < (n1 : Int) := by omega
      have h60I : ¬ (j : Int) < 60 := by omega
      clear hn1 hn2
      go_upto_region 27 with (fail)
      go_wp2_with (go_at_call 12; refine (SU.out _ TS.out).mono ?_; rintro e w4 ⟨rfl, hb⟩; have G4 := Lib.hid (SS.out.b.trans (hb.mono SS.out.b.size)); clear hb)
      go_ret
      exact ⟨rfl, G4.out⟩
    have hjI : (j : Int) < (n1 : Int) := by omega
    have h60I : (j : Int) < 60 := by omega
    obtain ⟨_, _, hf1, ho1⟩ := Q1.out
    obtain ⟨b1, o1, rfl, hb1l, hc1⟩ := ho1.resolve_left (by omega)
    obtain ⟨x, hx⟩ : ∃ x, x = f1 j := ⟨_, rfl⟩
    have hxl : x < 4294967296 := by rw [hx]; exact hf1 j
    have L1 := hc1 j hj
    rw [← hx] at L1
    have HL1 := Lib.hid L1
    have HXL := Lib.hid hxl
    have HBL := Lib.hid hb1l
    clear hf1 ho1 hc1 hx L1 hxl hb1l
    go_upto_region 8 with (fail)
    go_upto_if 33 with (fail)
    go_cut [9, 33] (fun y t w' => ∃ line : Nat, y = .int .u32 (line : Nat) ∧ line < 4294967296 ∧ w' = wr)
    case first =>
      by_cases h2 : j < n2
      · have h2I : (j : Int) < (n2 : Int) := by omega
        obtain ⟨_, _, hf2, ho2⟩ := Q2.out
        obtain ⟨b2, o2, rfl, hb2l, hc2⟩ := ho2.resolve_left (by omega)
        obtain ⟨y2, hy2⟩ : ∃ y2, y2 = f2 j := ⟨_, rfl⟩
        have hyl := Lib.hid (show y2 < 4294967296 by rw [hy2]; exact hf2 j)
        have L2 : wr.cell? ⟨b2, o2 + j, none⟩ = some (.int .u32 (y2 : Nat)) := by rw [hy2]; exact (SS.out.b.cell (p := ⟨b2, o2 + j, none⟩) hb2l).trans (hc2 j h2)
        have hd : decide (j < n2) = true := decide_eq_true h2
        rw [hd]
        clear hf2 ho2 hc2 hy2 hb2l hn1 hd
        go_wp2
        go_meet
        exact ⟨y2, rfl, hyl.out, rfl⟩
      · have h2I : ¬ (j : Int) < (n2 : Int) := by omega
        have hd : decide (j < n2) = false := decide_eq_false h2
        rw [hd]
        clear hn1 hn2 hd
        go_wp2
        go_meet
        exact ⟨0, rfl, by decide, rfl⟩
    case rest =>
      obtain ⟨line, rfl, hll, rfl⟩ := hcut
      obtain ⟨s, is, Gs, hwait, BG⟩ := begin_ex g GG.out line hll
      have CK := Lib.hid (fun w => hcheck_ok s Gs.1 Gs.may w)
      obtain ⟨z, a0, a1, a2, a3, a4, a5, DO, Gz, hA⟩ := hdo_good s Gs x line HXL.out hll
      obtain ⟨ss, hss⟩ : ∃ ss, ss = s.cells.toArray := ⟨_, rfl⟩
      rw [← hss] at BG
      rw [← hss] at CK
      have HSS := Lib.hid hss
      obtain ⟨qs, hqs⟩ : ∃ qs, qs = g.cells := ⟨_, rfl⟩
      rw [← hqs] at BG
      have HQ := Lib.hid hqs
      have hsz := hs_size s
      have hone := hs_one s
      rw [← hss] at hsz hone
      have Z7 := Lib.hid hsz
      have O7 := Lib.hid hone
      have GS := Lib.hid Gs
      have GZ := Lib.hid Gz
      have HA := Lib.hid hA
      have HW := Lib.hid hwait
      have HLL := Lib.hid hll
      clear hss hqs hsz hone Gs Gz hA hwait hll hn1 hn2
      go_upto_region 10 with (fail)
      refine wp_region_lit ?_
      refine wpList_load_mid rfl 44 _ rfl X 0 rfl qs _ (by rw [HQ.out]; exact SS.out.a.range) Tryd.underlying44 rfl (by rw [HQ.out, HS.len]; kernel_rfl) ?_
      try simp only [Act.put, List.setIfInBounds_toArray, List.set_cons_zero, List.set_cons_succ]
      refine Go.Great.wpList_runTo rfl (some 40) rfl (.int .u32 (line : Nat)) wc (by kernel_rfl) ?_
      try simp only [Act.put, List.setIfInBounds_toArray, List.set_cons_zero, List.set_cons_succ]
      refine wpList_callR rfl (some 41) rfl 13 #[.agg qs.toArray, .int .u32 line] (by kernel_rfl) (.tuple #[.agg ss, .bool is]) (Below wc.heap.size wc) (BG.out _) ?_
      intro w5 hb5
      try simp only [Act.put, List.setIfInBounds_toArray, List.set_cons_zero, List.set_cons_succ]
      refine Go.Great.wpList_runTo rfl (some 38) rfl (.tuple #[.agg ss, .bool is]) w5 (by kernel_rfl) ?_
      try simp only [Act.put, List.setIfInBounds_toArray, List.set_cons_zero, List.set_cons_succ]
      refine Go.Great.wpList_runTo rfl (some 42) rfl (.agg ss) w5 (by kernel_rfl) ?_
      try simp only [Act.put, List.setIfInBounds_toArray, List.set_cons_zero, List.set_cons_succ]
      refine Go.Great.wpList_runTo rfl (some 43) rfl (.bool is) w5 (by kernel_rfl) ?_
      try simp only [Act.put, List.setIfInBounds_toArray, List.set_cons_zero, List.set_cons_succ]
      refine Go.Great.wpList_allocTo rfl (some 10) rfl (.pointer (some ⟨w5.heap.size, 0, none⟩)) (.cells Z42 44) rfl ?_
      try simp only [Act.put, List.setIfInBounds_toArray, List.set_cons_zero, List.set_cons_succ]
      refine Go.wpList_store_rowTo rfl 44 _ _ rfl rfl w5.heap.size ss rfl rfl _ _ (heap_alloc_new _ _) (by rw [Z7.out]; kernel_rfl) (by rw [Z7.out]; rfl) O7.out ?_
      rw [World.setRow_alloc_new]
      have rY := heap_alloc_new w5 (.cells ss 44)
      have S1 := SS.out.below hb5
      have nXY : X ≠ w5.heap.size := Nat.ne_of_lt S1.lx
      have gY : w.heap.size ≤ w5.heap.size := S1.b.size
      have S2 := S1.below ((Below.refl _ _).alloc (Nat.le_refl _) (.cells ss 44))
      generalize hwc : w5.alloc (.cells ss 44) = wd at rY S2 ⊢
      obtain ⟨Y, hY⟩ : ∃ Y, Y = w5.heap.size := ⟨_, rfl⟩
      rw [← hY] at rY nXY gY ⊢
      clear hY hwc hb5 S1
      have RY := Lib.hid rY
      have SY := Lib.hid S2
      clear S2 rY BG
      go_upto_region 11 with (fail)
      refine wp_region_lit ?_
      refine wpList_load_row rfl 44 _ rfl Y rfl _ ss (0, 0) _ RY.out Tryd.underlying44 rfl (by rw [Z7.out]; kernel_rfl) ?_
      try simp only [Act.put, List.setIfInBounds_toArray, List.set_cons_zero, List.set_cons_succ]
      refine wpList_callR rfl (some 45) rfl 11 #[.agg ss] (by kernel_rfl) (.nilIface) (Below wd.heap.size wd) (CK.out _) ?_
      intro w3 hb3
      try simp only [Act.put, List.setIfInBounds_toArray, List.set_cons_zero, List.set_cons_succ]
      have R3 := Lib.hid ((hb3.block _ (heap_lt RY.out)).trans RY.out)
      have S3 := Lib.hid (SY.out.below hb3)
      clear hb3 RY SY
      go_upto_region 13 with (fail)
      refine wp_region_lit ?_
      refine wpList_load_row rfl 44 _ rfl Y rfl _ ss (0, 0) _ R3.out Tryd.underlying44 rfl (by rw [Z7.out]; kernel_rfl) ?_
      try simp only [Act.put, List.setIfInBounds_toArray, List.set_cons_zero, List.set_cons_succ]
      obtain ⟨cX, hcX, hcZ⟩ := S3.out.r
      refine Go.wpList_store_rowTo rfl 44 _ _ rfl rfl X ss rfl rfl _ _ hcX (by rw [Z7.out]; kernel_rfl) (by rw [Z7.out]; exact hcZ) O7.out ?_
      try simp only [Act.put, List.setIfInBounds_toArray, List.set_cons_zero, List.set_cons_succ]
      have S4 : Hid (HolW w X s (w3.setRow X ss)) := Lib.hid (by rw [HSS.out]; exact S3.out.put s)
      generalize w3.setRow X ss = w4 at S4 ⊢
      clear hcX hcZ S3 R3
      cases is with
      | false =>
        have c33 : w4.cell? ⟨X, 33, none⟩ = some (.bool true) := by rw [← HW.out rfl]; exact S4.out.a.1 33 (by decide)
        have cf := S4.out.a.fz
        go_wp2
        go_roundw
        case rel => exact ⟨j + 1, s, by go_num, by omega, GS.out, S4.out⟩
        case measure => simp [intOf]; omega
      | true =>
        go_upto_region 17 with (fail)
        obtain ⟨q2, hq2⟩ : ∃ q2, q2 = s.cells := ⟨_, rfl⟩
        rw [← hq2] at DO
        have HQ2 := Lib.hid hq2
        clear hq2
        obtain ⟨zs, hzs⟩ : ∃ zs, zs = z.cells.toArray := ⟨_, rfl⟩
        have hsz := hs_size z
        have hone := hs_one z
        rw [← hzs] at DO hsz hone
        have HZZ := Lib.hid hzs
        have Z8 := Lib.hid hsz
        have O8 := Lib.hid hone
        clear hzs hsz hone
        have L4 := Lib.hid ((S4.out.b.cell (p := ⟨b1, o1 + j, none⟩) HBL.out).trans HL1.out)
        go_cut [12, 13] (fun y e w' => ∃ Z A, y = .pointer (some ⟨Z, 0, none⟩) ∧ e = .pointer (some ⟨A, 0, none⟩) ∧ X ≠ Z ∧ X ≠ A ∧ Z ≠ A ∧ w.heap.size ≤ Z ∧ w.heap.size ≤ A ∧ HolW w X s w' ∧ w'.heap[Z]? = some (.cells zs 44 (0, 0)) ∧ w'.heap[A]? = some (.cells #[.int .i64 a0, .int .u32 (a1 : Nat), .int .i64 a2, .bool a3, .int .i64 a4, .int .u32 (a5 : Nat)] 50 (0, 0)))
        case first =>
          refine wp_region_held_drew (S := HolW w X s) (by kernel_rfl) S4.out.drew1 (fun hHeld => ?_)
          refine wpAnyH_take (i := 0) (v := .agg q2.toArray) rfl (by kernel_rfl) (by kernel_rfl) (by kernel_rfl) (fun _ _ _ h => h) ?_ (by assumption) ?_
          · exact yieldsIf_load_mid (by rfl) 44 _ rfl X 0 rfl q2 _ (fun w hw => by rw [HQ2.out]; exact hw.a.range) Tryd.underlying44 rfl (by rw [HQ2.out, HS.len]; kernel_rfl)
          try simp only [Act.put, List.getElem_toArray, List.getElem_cons_zero, List.getElem_cons_succ, List.setIfInBounds_toArray, List.set_cons_zero, List.set_cons_succ]
          refine wpAnyH_take (i := 1) (v := .slice (some ⟨b1, o1, none⟩) n1 c1) rfl (by kernel_rfl) (by kernel_rfl) (by kernel_rfl) (fun _ _ _ h => h) (Or.inl ⟨by rfl, ?_⟩) (by assumption) ?_
          · (intro w hSw; clear hSw; go_simp; try first | with_reducible rfl | rfl)
          try simp only [Act.put, List.getElem_toArray, List.getElem_cons_zero, List.getElem_cons_succ, List.setIfInBounds_toArray, List.set_cons_zero, List.set_cons_succ]
          refine wpAnyH_take (i := 2) (v := .int .i64 j) rfl (by kernel_rfl) (by kernel_rfl) (by kernel_rfl) (fun _ _ _ h => h) (Or.inl ⟨by rfl, ?_⟩) (by assumption) ?_
          · (intro w hSw; clear hSw; go_simp; try first | with_reducible rfl | rfl)
          try simp only [Act.put, List.getElem_toArray, List.getElem_cons_zero, List.getElem_cons_succ, List.setIfInBounds_toArray, List.set_cons_zero, List.set_cons_succ]
          refine wpAnyH_take (i := 3) (v := .pointer (some ⟨b1, o1 + j, none⟩)) rfl (by kernel_rfl) (by kernel_rfl) (by kernel_rfl) (fun _ _ _ h => h) (Or.inl ⟨by rfl, ?_⟩) (by assumption) ?_
          · (intro w hSw; clear hSw; go_simp; try first | with_reducible rfl | rfl)
          try simp only [Act.put, List.getElem_toArray, List.getElem_cons_zero, List.getElem_cons_succ, List.setIfInBounds_toArray, List.set_cons_zero, List.set_cons_succ]
          refine wpAnyH_take (i := 4) (v := .int .u32 (x : Nat)) rfl (by kernel_rfl) (by kernel_rfl) (by kernel_rfl) (fun _ _ _ h => h) (Or.inl ⟨by rfl, ?_⟩) (by assumption) ?_
          · (intro w hSw; have q := (hSw.b.cell (p := ⟨b1, o1 + j, none⟩) HBL.out).trans HL1.out; clear hSw; go_simp; try first | with_reducible rfl | rfl)
          try simp only [Act.put, List.getElem_toArray, List.getElem_cons_zero, List.getElem_cons_succ, List.setIfInBounds_toArray, List.set_cons_zero, List.set_cons_succ]
          refine wpAnyH_take (i := 5) (v := .int .u32 (line : Nat)) rfl (by kernel_rfl) (by kernel_rfl) (by kernel_rfl) (fun _ _ _ h => h) (Or.inl ⟨by rfl, ?_⟩) (by assumption) ?_
          · (intro w hSw; clear hSw; go_simp; try first | with_reducible rfl | rfl)
          try simp only [Act.put, List.getElem_toArray, List.getElem_cons_zero, List.getElem_cons_succ, List.setIfInBounds_toArray, List.set_cons_zero, List.set_cons_succ]
          have hS0 := hHeld
          clear hHeld
          generalize hw0 : World.drew _ = w0 at *
          clear hw0
          refine wpAnyH_ready (rs := [6, 10, 11]) (by kernel_rfl) (by simp) ?_
          refine AllReadyH.cons rfl (fun K0_6 hK0_6 => ?_) (AllReadyH.cons rfl (fun K0_10 hK0_10 => ?_) (AllReadyH.cons rfl (fun K0_11 hK0_11 => ?_) AllReadyH.nil))
          ·
            go_simp
            go_at_call 14
            refine (DO.out _ (HTT.out.below hS0.b)).mono ?_
            rintro e w1 ⟨rfl, bw1⟩
            refine hK0_6.out _ _ (hS0.below bw1) (fun hS1 => ?_)
            try simp only [Act.put, List.getElem_toArray, List.getElem_cons_zero, List.getElem_cons_succ, List.setIfInBounds_toArray, List.set_cons_zero, List.set_cons_succ]
            refine wpAnyH_take (i := 7) (v := .tuple #[.agg zs, .agg #[.int .i64 a0, .int .u32 (a1 : Nat), .int .i64 a2, .bool a3, .int .i64 a4, .int .u32 (a5 : Nat)]]) rfl (by kernel_rfl) (by kernel_rfl) (by kernel_rfl) (fun _ _ _ h => h) (Or.inl ⟨by rfl, ?_⟩) (by assumption) ?_
            · (intro w hSw; clear hSw; go_simp; try first | with_reducible rfl | rfl)
            try simp only [Act.put, List.getElem_toArray, List.getElem_cons_zero, List.getElem_cons_succ, List.setIfInBounds_toArray, List.set_cons_zero, List.set_cons_succ]
            refine wpAnyH_take (i := 8) (v := .agg zs) rfl (by kernel_rfl) (by kernel_rfl) (by kernel_rfl) (fun _ _ _ h => h) (Or.inl ⟨by rfl, ?_⟩) (by assumption) ?_
            · (intro w hSw; clear hSw; go_simp; try first | with_reducible rfl | rfl)
            try simp only [Act.put, List.getElem_toArray, List.getElem_cons_zero, List.getElem_cons_succ, List.setIfInBounds_toArray, List.set_cons_zero, List.set_cons_succ]
            refine wpAnyH_take (i := 9) (v := .agg #[.int .i64 a0, .int .u32 (a1 : Nat), .int .i64 a2, .bool a3, .int .i64 a4, .int .u32 (a5 : Nat)]) rfl (by kernel_rfl) (by kernel_rfl) (by kernel_rfl) (fun _ _ _ h => h) (Or.inl ⟨by rfl, ?_⟩) (by assumption) ?_
            · (intro w hSw; clear hSw; go_simp; try first | with_reducible rfl | rfl)
            try simp only [Act.put, List.getElem_toArray, List.getElem_cons_zero, List.getElem_cons_succ, List.setIfInBounds_toArray, List.set_cons_zero, List.set_cons_succ]
            refine wpAnyH_ready (rs := [10, 11]) (by kernel_rfl) (by simp) ?_
            refine AllReadyH.cons rfl (fun K1_10 hK1_10 => ?_) (AllReadyH.cons rfl (fun K1_11 hK1_11 => ?_) AllReadyH.nil)
            ·
              refine wp_runK2 (.pointer (some ⟨w1.heap.size, 0, none⟩)) (w1.alloc (.cells Z42 44)) (by kernel_rfl) ?_
              have yY_w2 := heap_alloc_new w1 (.cells Z42 44)
              have bw2 : Below w1.heap.size w1 (w1.alloc (.cells Z42 44)) := (Below.refl _ _).alloc (Nat.le_refl _) _
              have lw2 := hS1.lx
              have sw2 := hS1.b.size
              refine hK1_10.out _ _ (hS1.below bw2) (fun hS2 => ?_)
              try simp only [Act.put, List.getElem_toArray, List.getElem_cons_zero, List.getElem_cons_succ, List.setIfInBounds_toArray, List.set_cons_zero, List.set_cons_succ]
              generalize hww2 : w1.alloc (.cells Z42 44) = w2 at *
              clear hww2
              refine wpAnyH_ready (rs := [11]) (by kernel_rfl) (by simp) ?_
              refine AllReadyH.cons rfl (fun K2_11 hK2_11 => ?_) AllReadyH.nil
              ·
                refine wp_runK2 (.pointer (some ⟨w2.heap.size, 0, none⟩)) (w2.alloc (.cells acc0 50)) (by kernel_rfl) ?_
                have yA_w3 := heap_alloc_new w2 (.cells acc0 50)
                have bw3 : Below w2.heap.size w2 (w2.alloc (.cells acc0 50)) := (Below.refl _ _).alloc (Nat.le_refl _) _
                have lw3 := hS2.lx
                have sw3 := hS2.b.size
                refine hK2_11.out _ _ (hS2.below bw3) (fun hS3 => ?_)
                try simp only [Act.put, List.getElem_toArray, List.getElem_cons_zero, List.getElem_cons_succ, List.setIfInBounds_toArray, List.set_cons_zero, List.set_cons_succ]
                have yY_w3 := row_alloc yY_w2 (.cells acc0 50)
                have dY_w3 := heap_lt yY_w2
                generalize hww3 : w2.alloc (.cells acc0 50) = w3 at *
                clear hww3
                have nXY : X ≠ w1.heap.size := by omega
                have nXA : X ≠ w2.heap.size := by omega
                have nYA : w1.heap.size ≠ w2.heap.size := by omega
                have gY : w.heap.size ≤ w1.heap.size := by omega
                have gA : w.heap.size ≤ w2.heap.size := by omega
                refine wpAnyH_ready (rs := [12]) (by kernel_rfl) (by simp) ?_
                refine AllReadyH.cons rfl (fun K12 hK12 => ?_) AllReadyH.nil
                refine wp_store_row 44 _ _ rfl w1.heap.size zs rfl rfl _ _ yY_w3 (by rw [Z8.out]; kernel_rfl) (by rw [Z8.out]; rfl) O8.out ?_
                refine hK12.out _ _ (hS3.setRow nXY gY _) (fun hSa => ?_)
                try simp only [Act.put, List.getElem_toArray, List.getElem_cons_zero, List.getElem_cons_succ, List.setIfInBounds_toArray, List.set_cons_zero, List.set_cons_succ]
                have ya := setRow_heap _ _ _ zs _ _ yY_w3
                have yb := setRow_row (g := w1.heap.size) (cs := zs) yA_w3 (Ne.symm nYA)
                refine wpAnyH_ready (rs := [13]) (by kernel_rfl) (by simp) ?_
                refine AllReadyH.cons rfl (fun K13 hK13 => ?_) AllReadyH.nil
                refine wp_store_row 50 _ _ rfl w2.heap.size #[.int .i64 a0, .int .u32 (a1 : Nat), .int .i64 a2, .bool a3, .int .i64 a4, .int .u32 (a5 : Nat)] rfl rfl _ _ yb (by kernel_rfl) (by rfl) (by kernel_rfl) ?_
                refine hK13.out _ _ (hSa.setRow nXA gA _) (fun hSb => ?_)
                try simp only [Act.put, List.getElem_toArray, List.getElem_cons_zero, List.getElem_cons_succ, List.setIfInBounds_toArray, List.set_cons_zero, List.set_cons_succ]
                have yc := setRow_row (g := w2.heap.size) (cs := #[.int .i64 a0, .int .u32 (a1 : Nat), .int .i64 a2, .bool a3, .int .i64 a4, .int .u32 (a5 : Nat)]) ya nYA
                have yd := setRow_heap _ _ _ #[.int .i64 a0, .int .u32 (a1 : Nat), .int .i64 a2, .bool a3, .int .i64 a4, .int .u32 (a5 : Nat)] _ _ yb
                refine wpAnyH_done (by kernel_rfl) ?_ _
                (try go_wp2_with fail)
                go_meet
                exact ⟨w1.heap.size, w2.heap.size, rfl, rfl, nXY, nXA, nYA, gY, gA, hSb, yc, yd⟩
            ·
              refine wp_runK2 (.pointer (some ⟨w1.heap.size, 0, none⟩)) (w1.alloc (.cells acc0 50)) (by kernel_rfl) ?_
              have yA_w2 := heap_alloc_new w1 (.cells acc0 50)
              have bw2 : Below w1.heap.size w1 (w1.alloc (.cells acc0 50)) := (Below.refl _ _).alloc (Nat.le_refl _) _
              have lw2 := hS1.lx
              have sw2 := hS1.b.size
              refine hK1_11.out _ _ (hS1.below bw2) (fun hS2 => ?_)
              try simp only [Act.put, List.getElem_toArray, List.getElem_cons_zero, List.getElem_cons_succ, List.setIfInBounds_toArray, List.set_cons_zero, List.set_cons_succ]
              generalize hww2 : w1.alloc (.cells acc0 50) = w2 at *
              clear hww2
              refine wpAnyH_ready (rs := [10]) (by kernel_rfl) (by simp) ?_
              refine AllReadyH.cons rfl (fun K2_10 hK2_10 => ?_) AllReadyH.nil
              ·
                refine wp_runK2 (.pointer (some ⟨w2.heap.size, 0, none⟩)) (w2.alloc (.cells Z42 44)) (by kernel_rfl) ?_
                have yY_w3 := heap_alloc_new w2 (.cells Z42 44)
                have bw3 : Below w2.heap.size w2 (w2.alloc (.cells Z42 44)) := (Below.refl _ _).alloc (Nat.le_refl _) _
                have lw3 := hS2.lx
                have sw3 := hS2.b.size
                refine hK2_10.out _ _ (hS2.below bw3) (fun hS3 => ?_)
                try simp only [Act.put, List.getElem_toArray, List.getElem_cons_zero, List.getElem_cons_succ, List.setIfInBounds_toArray, List.set_cons_zero, List.set_cons_succ]
                have yA_w3 := row_alloc yA_w2 (.cells Z42 44)
                have dA_w3 := heap_lt yA_w2
                generalize hww3 : w2.alloc (.cells Z42 44) = w3 at *
                clear hww3
                have nXY : X ≠ w2.heap.size := by omega
                have nXA : X ≠ w1.heap.size := by omega
                have nYA : w2.heap.size ≠ w1.heap.size := by omega
                have gY : w.heap.size ≤ w2.heap.size := by omega
                have gA : w.heap.size ≤ w1.heap.size := by omega
                refine wpAnyH_ready (rs := [12]) (by kernel_rfl) (by simp) ?_
                refine AllReadyH.cons rfl (fun K12 hK12 => ?_) AllReadyH.nil
                refine wp_store_row 44 _ _ rfl w2.heap.size zs rfl rfl _ _ yY_w3 (by rw [Z8.out]; kernel_rfl) (by rw [Z8.out]; rfl) O8.out ?_
                refine hK12.out _ _ (hS3.setRow nXY gY _) (fun hSa => ?_)
                try simp only [Act.put, List.getElem_toArray, List.getElem_cons_zero, List.getElem_cons_succ, List.setIfInBounds_toArray, List.set_cons_zero, List.set_cons_succ]
                have ya := setRow_heap _ _ _ zs _ _ yY_w3
                have yb := setRow_row (g := w2.heap.size) (cs := zs) yA_w3 (Ne.symm nYA)
                refine wpAnyH_ready (rs := [13]) (by kernel_rfl) (by simp) ?_
                refine AllReadyH.cons rfl (fun K13 hK13 => ?_) AllReadyH.nil
                refine wp_store_row 50 _ _ rfl w1.heap.size #[.int .i64 a0, .int .u32 (a1 : Nat), .int .i64 a2, .bool a3, .int .i64 a4, .int .u32 (a5 : Nat)] rfl rfl _ _ yb (by kernel_rfl) (by rfl) (by kernel_rfl) ?_
                refine hK13.out _ _ (hSa.setRow nXA gA _) (fun hSb => ?_)
                try simp only [Act.put, List.getElem_toArray, List.getElem_cons_zero, List.getElem_cons_succ, List.setIfInBounds_toArray, List.set_cons_zero, List.set_cons_succ]
                have yc := setRow_row (g := w1.heap.size) (cs := #[.int .i64 a0, .int .u32 (a1 : Nat), .int .i64 a2, .bool a3, .int .i64 a4, .int .u32 (a5 : Nat)]) ya nYA
                have yd := setRow_heap _ _ _ #[.int .i64 a0, .int .u32 (a1 : Nat), .int .i64 a2, .bool a3, .int .i64 a4, .int .u32 (a5 : Nat)] _ _ yb
                refine wpAnyH_done (by kernel_rfl) ?_ _
                (try go_wp2_with fail)
                go_meet
                exact ⟨w2.heap.size, w1.heap.size, rfl, rfl, nXY, nXA, nYA, gY, gA, hSb, yc, yd⟩
          ·
            refine wp_runK2 (.pointer (some ⟨w0.heap.size, 0, none⟩)) (w0.alloc (.cells Z42 44)) (by kernel_rfl) ?_
            have yY_w1 := heap_alloc_new w0 (.cells Z42 44)
            have bw1 : Below w0.heap.size w0 (w0.alloc (.cells Z42 44)) := (Below.refl _ _).alloc (Nat.le_refl _) _
            have lw1 := hS0.lx
            have sw1 := hS0.b.size
            refine hK0_10.out _ _ (hS0.below bw1) (fun hS1 => ?_)
            try simp only [Act.put, List.getElem_toArray, List.getElem_cons_zero, List.getElem_cons_succ, List.setIfInBounds_toArray, List.set_cons_zero, List.set_cons_succ]
            generalize hww1 : w0.alloc (.cells Z42 44) = w1 at *
            clear hww1
            refine wpAnyH_ready (rs := [6, 11]) (by kernel_rfl) (by simp) ?_
            refine AllReadyH.cons rfl (fun K1_6 hK1_6 => ?_) (AllReadyH.cons rfl (fun K1_11 hK1_11 => ?_) AllReadyH.nil)
            ·
              go_simp
              go_at_call 14
              refine (DO.out _ (HTT.out.below hS1.b)).mono ?_
              rintro e w2 ⟨rfl, bw2⟩
              refine hK1_6.out _ _ (hS1.below bw2) (fun hS2 => ?_)
              try simp only [Act.put, List.getElem_toArray, List.getElem_cons_zero, List.getElem_cons_succ, List.setIfInBounds_toArray, List.set_cons_zero, List.set_cons_succ]
              have yY_w2 := (bw2.block _ (heap_lt yY_w1)).trans yY_w1
              refine wpAnyH_take (i := 7) (v := .tuple #[.agg zs, .agg #[.int .i64 a0, .int .u32 (a1 : Nat), .int .i64 a2, .bool a3, .int .i64 a4, .int .u32 (a5 : Nat)]]) rfl (by kernel_rfl) (by kernel_rfl) (by kernel_rfl) (fun _ _ _ h => h) (Or.inl ⟨by rfl, ?_⟩) (by assumption) ?_
              · (intro w hSw; clear hSw; go_simp; try first | with_reducible rfl | rfl)
              try simp only [Act.put, List.getElem_toArray, List.getElem_cons_zero, List.getElem_cons_succ, List.setIfInBounds_toArray, List.set_cons_zero, List.set_cons_succ]
              refine wpAnyH_take (i := 8) (v := .agg zs) rfl (by kernel_rfl) (by kernel_rfl) (by kernel_rfl) (fun _ _ _ h => h) (Or.inl ⟨by rfl, ?_⟩) (by assumption) ?_
              · (intro w hSw; clear hSw; go_simp; try first | with_reducible rfl | rfl)
              try simp only [Act.put, List.getElem_toArray, List.getElem_cons_zero, List.getElem_cons_succ, List.setIfInBounds_toArray, List.set_cons_zero, List.set_cons_succ]
              refine wpAnyH_take (i := 9) (v := .agg #[.int .i64 a0, .int .u32 (a1 : Nat), .int .i64 a2, .bool a3, .int .i64 a4, .int .u32 (a5 : Nat)]) rfl (by kernel_rfl) (by kernel_rfl) (by kernel_rfl) (fun _ _ _ h => h) (Or.inl ⟨by rfl, ?_⟩) (by assumption) ?_
              · (intro w hSw; clear hSw; go_simp; try first | with_reducible rfl | rfl)
              try simp only [Act.put, List.getElem_toArray, List.getElem_cons_zero, List.getElem_cons_succ, List.setIfInBounds_toArray, List.set_cons_zero, List.set_cons_succ]
              refine wpAnyH_ready (rs := [11]) (by kernel_rfl) (by simp) ?_
              refine AllReadyH.cons rfl (fun K2_11 hK2_11 => ?_) AllReadyH.nil
              ·
                refine wp_runK2 (.pointer (some ⟨w2.heap.size, 0, none⟩)) (w2.alloc (.cells acc0 50)) (by kernel_rfl) ?_
                have yA_w3 := heap_alloc_new w2 (.cells acc0 50)
                have bw3 : Below w2.heap.size w2 (w2.alloc (.cells acc0 50)) := (Below.refl _ _).alloc (Nat.le_refl _) _
                have lw3 := hS2.lx
                have sw3 := hS2.b.size
                refine hK2_11.out _ _ (hS2.below bw3) (fun hS3 => ?_)
                try simp only [Act.put, List.getElem_toArray, List.getElem_cons_zero, List.getElem_cons_succ, List.setIfInBounds_toArray, List.set_cons_zero, List.set_cons_succ]
                have yY_w3 := row_alloc yY_w2 (.cells acc0 50)
                have dY_w3 := heap_lt yY_w2
                generalize hww3 : w2.alloc (.cells acc0 50) = w3 at *
                clear hww3
                have nXY : X ≠ w0.heap.size := by omega
                have nXA : X ≠ w2.heap.size := by omega
                have nYA : w0.heap.size ≠ w2.heap.size := by omega
                have gY : w.heap.size ≤ w0.heap.size := by omega
                have gA : w.heap.size ≤ w2.heap.size := by omega
                refine wpAnyH_ready (rs := [12]) (by kernel_rfl) (by simp) ?_
                refine AllReadyH.cons rfl (fun K12 hK12 => ?_) AllReadyH.nil
                refine wp_store_row 44 _ _ rfl w0.heap.size zs rfl rfl _ _ yY_w3 (by rw [Z8.out]; kernel_rfl) (by rw [Z8.out]; rfl) O8.out ?_
                refine hK12.out _ _ (hS3.setRow nXY gY _) (fun hSa => ?_)
                try simp only [Act.put, List.getElem_toArray, List.getElem_cons_zero, List.getElem_cons_succ, List.setIfInBounds_toArray, List.set_cons_zero, List.set_cons_succ]
                have ya := setRow_heap _ _ _ zs _ _ yY_w3
                have yb := setRow_row (g := w0.heap.size) (cs := zs) yA_w3 (Ne.symm nYA)
                refine wpAnyH_ready (rs := [13]) (by kernel_rfl) (by simp) ?_
                refine AllReadyH.cons rfl (fun K13 hK13 => ?_) AllReadyH.nil
                refine wp_store_row 50 _ _ rfl w2.heap.size #[.int .i64 a0, .int .u32 (a1 : Nat), .int .i64 a2, .bool a3, .int .i64 a4, .int .u32 (a5 : Nat)] rfl rfl _ _ yb (by kernel_rfl) (by rfl) (by kernel_rfl) ?_
                refine hK13.out _ _ (hSa.setRow nXA gA _) (fun hSb => ?_)
                try simp only [Act.put, List.getElem_toArray, List.getElem_cons_zero, List.getElem_cons_succ, List.setIfInBounds_toArray, List.set_cons_zero, List.set_cons_succ]
                have yc := setRow_row (g := w2.heap.size) (cs := #[.int .i64 a0, .int .u32 (a1 : Nat), .int .i64 a2, .bool a3, .int .i64 a4, .int .u32 (a5 : Nat)]) ya nYA
                have yd := setRow_heap _ _ _ #[.int .i64 a0, .int .u32 (a1 : Nat), .int .i64 a2, .bool a3, .int .i64 a4, .int .u32 (a5 : Nat)] _ _ yb
                refine wpAnyH_done (by kernel_rfl) ?_ _
                (try go_wp2_with fail)
                go_meet
                exact ⟨w0.heap.size, w2.heap.size, rfl, rfl, nXY, nXA, nYA, gY, gA, hSb, yc, yd⟩
            ·
              refine wp_runK2 (.pointer (some ⟨w1.heap.size, 0, none⟩)) (w1.alloc (.cells acc0 50)) (by kernel_rfl) ?_
              have yA_w2 := heap_alloc_new w1 (.cells acc0 50)
              have bw2 : Below w1.heap.size w1 (w1.alloc (.cells acc0 50)) := (Below.refl _ _).alloc (Nat.le_refl _) _
              have lw2 := hS1.lx
              have sw2 := hS1.b.size
              refine hK1_11.out _ _ (hS1.below bw2) (fun hS2 => ?_)
              try simp only [Act.put, List.getElem_toArray, List.getElem_cons_zero, List.getElem_cons_succ, List.setIfInBounds_toArray, List.set_cons_zero, List.set_cons_succ]
              have yY_w2 := row_alloc yY_w1 (.cells acc0 50)
              have dY_w2 := heap_lt yY_w1
              generalize hww2 : w1.alloc (.cells acc0 50) = w2 at *
              clear hww2
              refine wpAnyH_ready (rs := [6]) (by kernel_rfl) (by simp) ?_
              refine AllReadyH.cons rfl (fun K2_6 hK2_6 => ?_) AllReadyH.nil
              ·
                go_simp
                go_at_call 14
                refine (DO.out _ (HTT.out.below hS2.b)).mono ?_
                rintro e w3 ⟨rfl, bw3⟩
                refine hK2_6.out _ _ (hS2.below bw3) (fun hS3 => ?_)
                try simp only [Act.put, List.getElem_toArray, List.getElem_cons_zero, List.getElem_cons_succ, List.setIfInBounds_toArray, List.set_cons_zero, List.set_cons_succ]
                have yY_w3 := (bw3.block _ (heap_lt yY_w2)).trans yY_w2
                have yA_w3 := (bw3.block _ (heap_lt yA_w2)).trans yA_w2
                refine wpAnyH_take (i := 7) (v := .tuple #[.agg zs, .agg #[.int .i64 a0, .int .u32 (a1 : Nat), .int .i64 a2, .bool a3, .int .i64 a4, .int .u32 (a5 : Nat)]]) rfl (by kernel_rfl) (by kernel_rfl) (by kernel_rfl) (fun _ _ _ h => h) (Or.inl ⟨by rfl, ?_⟩) (by assumption) ?_
                · (intro w hSw; clear hSw; go_simp; try first | with_reducible rfl | rfl)
                try simp only [Act.put, List.getElem_toArray, List.getElem_cons_zero, List.getElem_cons_succ, List.setIfInBounds_toArray, List.set_cons_zero, List.set_cons_succ]
                refine wpAnyH_take (i := 8) (v := .agg zs) rfl (by kernel_rfl) (by kernel_rfl) (by kernel_rfl) (fun _ _ _ h => h) (Or.inl ⟨by rfl, ?_⟩) (by assumption) ?_
                · (intro w hSw; clear hSw; go_simp; try first | with_reducible rfl | rfl)
                try simp only [Act.put, List.getElem_toArray, List.getElem_cons_zero, List.getElem_cons_succ, List.setIfInBounds_toArray, List.set_cons_zero, List.set_cons_succ]
                refine wpAnyH_take (i := 9) (v := .agg #[.int .i64 a0, .int .u32 (a1 : Nat), .int .i64 a2, .bool a3, .int .i64 a4, .int .u32 (a5 : Nat)]) rfl (by kernel_rfl) (by kernel_rfl) (by kernel_rfl) (fun _ _ _ h => h) (Or.inl ⟨by rfl, ?_⟩) (by assumption) ?_
                · (intro w hSw; clear hSw; go_simp; try first | with_reducible rfl | rfl)
                try simp only [Act.put, List.getElem_toArray, List.getElem_cons_zero, List.getElem_cons_succ, List.setIfInBounds_toArray, List.set_cons_zero, List.set_cons_succ]
                have nXY : X ≠ w0.heap.size := by omega
                have nXA : X ≠ w1.heap.size := by omega
                have nYA : w0.heap.size ≠ w1.heap.size := by omega
                have gY : w.heap.size ≤ w0.heap.size := by omega
                have gA : w.heap.size ≤ w1.heap.size := by omega
                refine wpAnyH_ready (rs := [12]) (by kernel_rfl) (by simp) ?_
                refine AllReadyH.cons rfl (fun K12 hK12 => ?_) AllReadyH.nil
                refine wp_store_row 44 _ _ rfl w0.heap.size zs rfl rfl _ _ yY_w3 (by rw [Z8.out]; kernel_rfl) (by rw [Z8.out]; rfl) O8.out ?_
                refine hK12.out _ _ (hS3.setRow nXY gY _) (fun hSa => ?_)
                try simp only [Act.put, List.getElem_toArray, List.getElem_cons_zero, List.getElem_cons_succ, List.setIfInBounds_toArray, List.set_cons_zero, List.set_cons_succ]
                have ya := setRow_heap _ _ _ zs _ _ yY_w3
                have yb := setRow_row (g := w0.heap.size) (cs := zs) yA_w3 (Ne.symm nYA)
                refine wpAnyH_ready (rs := [13]) (by kernel_rfl) (by simp) ?_
                refine AllReadyH.cons rfl (fun K13 hK13 => ?_) AllReadyH.nil
                refine wp_store_row 50 _ _ rfl w1.heap.size #[.int .i64 a0, .int .u32 (a1 : Nat), .int .i64 a2, .bool a3, .int .i64 a4, .int .u32 (a5 : Nat)] rfl rfl _ _ yb (by kernel_rfl) (by rfl) (by kernel_rfl) ?_
                refine hK13.out _ _ (hSa.setRow nXA gA _) (fun hSb => ?_)
                try simp only [Act.put, List.getElem_toArray, List.getElem_cons_zero, List.getElem_cons_succ, List.setIfInBounds_toArray, List.set_cons_zero, List.set_cons_succ]
                have yc := setRow_row (g := w1.heap.size) (cs := #[.int .i64 a0, .int .u32 (a1 : Nat), .int .i64 a2, .bool a3, .int .i64 a4, .int .u32 (a5 : Nat)]) ya nYA
                have yd := setRow_heap _ _ _ #[.int .i64 a0, .int .u32 (a1 : Nat), .int .i64 a2, .bool a3, .int .i64 a4, .int .u32 (a5 : Nat)] _ _ yb
                refine wpAnyH_done (by kernel_rfl) ?_ _
                (try go_wp2_with fail)
                go_meet
                exact ⟨w0.heap.size, w1.heap.size, rfl, rfl, nXY, nXA, nYA, gY, gA, hSb, yc, yd⟩
          ·
            refine wp_runK2 (.pointer (some ⟨w0.heap.size, 0, none⟩)) (w0.alloc (.cells acc0 50)) (by kernel_rfl) ?_
            have yA_w1 := heap_alloc_new w0 (.cells acc0 50)
            have bw1 : Below w0.heap.size w0 (w0.alloc (.cells acc0 50)) := (Below.refl _ _).alloc (Nat.le_refl _) _
            have lw1 := hS0.lx
            have sw1 := hS0.b.size
            refine hK0_11.out _ _ (hS0.below bw1) (fun hS1 => ?_)
            try simp only [Act.put, List.getElem_toArray, List.getElem_cons_zero, List.getElem_cons_succ, List.setIfInBounds_toArray, List.set_cons_zero, List.set_cons_succ]
            generalize hww1 : w0.alloc (.cells acc0 50) = w1 at *
            clear hww1
            refine wpAnyH_ready (rs := [6, 10]) (by kernel_rfl) (by simp) ?_
            refine AllReadyH.cons rfl (fun K1_6 hK1_6 => ?_) (AllReadyH.cons rfl (fun K1_10 hK1_10 => ?_) AllReadyH.nil)
            ·
              go_simp
              go_at_call 14
              refine (DO.out _ (HTT.out.below hS1.b)).mono ?_
              rintro e w2 ⟨rfl, bw2⟩
              refine hK1_6.out _ _ (hS1.below bw2) (fun hS2 => ?_)
              try simp only [Act.put, List.getElem_toArray, List.getElem_cons_zero, List.getElem_cons_succ, List.setIfInBounds_toArray, List.set_cons_zero, List.set_cons_succ]
              have yA_w2 := (bw2.block _ (heap_lt yA_w1)).trans yA_w1
              refine wpAnyH_take (i := 7) (v := .tuple #[.agg zs, .agg #[.int .i64 a0, .int .u32 (a1 : Nat), .int .i64 a2, .bool a3, .int .i64 a4, .int .u32 (a5 : Nat)]]) rfl (by kernel_rfl) (by kernel_rfl) (by kernel_rfl) (fun _ _ _ h => h) (Or.inl ⟨by rfl, ?_⟩) (by assumption) ?_
              · (intro w hSw; clear hSw; go_simp; try first | with_reducible rfl | rfl)
              try simp only [Act.put, List.getElem_toArray, List.getElem_cons_zero, List.getElem_cons_succ, List.setIfInBounds_toArray, List.set_cons_zero, List.set_cons_succ]
              refine wpAnyH_take (i := 8) (v := .agg zs) rfl (by kernel_rfl) (by kernel_rfl) (by kernel_rfl) (fun _ _ _ h => h) (Or.inl ⟨by rfl, ?_⟩) (by assumption) ?_
              · (intro w hSw; clear hSw; go_simp; try first | with_reducible rfl | rfl)
              try simp only [Act.put, List.getElem_toArray, List.getElem_cons_zero, List.getElem_cons_succ, List.setIfInBounds_toArray, List.set_cons_zero, List.set_cons_succ]
              refine wpAnyH_take (i := 9) (v := .agg #[.int .i64 a0, .int .u32 (a1 : Nat), .int .i64 a2, .bool a3, .int .i64 a4, .int .u32 (a5 : Nat)]) rfl (by kernel_rfl) (by kernel_rfl) (by kernel_rfl) (fun _ _ _ h => h) (Or.inl ⟨by rfl, ?_⟩) (by assumption) ?_
              · (intro w hSw; clear hSw; go_simp; try first | with_reducible rfl | rfl)
              try simp only [Act.put, List.getElem_toArray, List.getElem_cons_zero, List.getElem_cons_succ, List.setIfInBounds_toArray, List.set_cons_zero, List.set_cons_succ]
              refine wpAnyH_ready (rs := [10]) (by kernel_rfl) (by simp) ?_
              refine AllReadyH.cons rfl (fun K2_10 hK2_10 => ?_) AllReadyH.nil
              ·
                refine wp_runK2 (.pointer (some ⟨w2.heap.size, 0, none⟩)) (w2.alloc (.cells Z42 44)) (by kernel_rfl) ?_
                have yY_w3 := heap_alloc_new w2 (.cells Z42 44)
                have bw3 : Below w2.heap.size w2 (w2.alloc (.cells Z42 44)) := (Below.refl _ _).alloc (Nat.le_refl _) _
                have lw3 := hS2.lx
                have sw3 := hS2.b.size
                refine hK2_10.out _ _ (hS2.below bw3) (fun hS3 => ?_)
                try simp only [Act.put, List.getElem_toArray, List.getElem_cons_zero, List.getElem_cons_succ, List.setIfInBounds_toArray, List.set_cons_zero, List.set_cons_succ]
                have yA_w3 := row_alloc yA_w2 (.cells Z42 44)
                have dA_w3 := heap_lt yA_w2
                generalize hww3 : w2.alloc (.cells Z42 44) = w3 at *
                clear hww3
                have nXY : X ≠ w2.heap.size := by omega
                have nXA : X ≠ w0.heap.size := by omega
                have nYA : w2.heap.size ≠ w0.heap.size := by omega
                have gY : w.heap.size ≤ w2.heap.size := by omega
                have gA : w.heap.size ≤ w0.heap.size := by omega
                refine wpAnyH_ready (rs := [12]) (by kernel_rfl) (by simp) ?_
                refine AllReadyH.cons rfl (fun K12 hK12 => ?_) AllReadyH.nil
                refine wp_store_row 44 _ _ rfl w2.heap.size zs rfl rfl _ _ yY_w3 (by rw [Z8.out]; kernel_rfl) (by rw [Z8.out]; rfl) O8.out ?_
                refine hK12.out _ _ (hS3.setRow nXY gY _) (fun hSa => ?_)
                try simp only [Act.put, List.getElem_toArray, List.getElem_cons_zero, List.getElem_cons_succ, List.setIfInBounds_toArray, List.set_cons_zero, List.set_cons_succ]
                have ya := setRow_heap _ _ _ zs _ _ yY_w3
                have yb := setRow_row (g := w2.heap.size) (cs := zs) yA_w3 (Ne.symm nYA)
                refine wpAnyH_ready (rs := [13]) (by kernel_rfl) (by simp) ?_
                refine AllReadyH.cons rfl (fun K13 hK13 => ?_) AllReadyH.nil
                refine wp_store_row 50 _ _ rfl w0.heap.size #[.int .i64 a0, .int .u32 (a1 : Nat), .int .i64 a2, .bool a3, .int .i64 a4, .int .u32 (a5 : Nat)] rfl rfl _ _ yb (by kernel_rfl) (by rfl) (by kernel_rfl) ?_
                refine hK13.out _ _ (hSa.setRow nXA gA _) (fun hSb => ?_)
                try simp only [Act.put, List.getElem_toArray, List.getElem_cons_zero, List.getElem_cons_succ, List.setIfInBounds_toArray, List.set_cons_zero, List.set_cons_succ]
                have yc := setRow_row (g := w0.heap.size) (cs := #[.int .i64 a0, .int .u32 (a1 : Nat), .int .i64 a2, .bool a3, .int .i64 a4, .int .u32 (a5 : Nat)]) ya nYA
                have yd := setRow_heap _ _ _ #[.int .i64 a0, .int .u32 (a1 : Nat), .int .i64 a2, .bool a3, .int .i64 a4, .int .u32 (a5 : Nat)] _ _ yb
                refine wpAnyH_done (by kernel_rfl) ?_ _
                (try go_wp2_with fail)
                go_meet
                exact ⟨w2.heap.size, w0.heap.size, rfl, rfl, nXY, nXA, nYA, gY, gA, hSb, yc, yd⟩
            ·
              refine wp_runK2 (.pointer (some ⟨w1.heap.size, 0, none⟩)) (w1.alloc (.cells Z42 44)) (by kernel_rfl) ?_
              have yY_w2 := heap_alloc_new w1 (.cells Z42 44)
              have bw2 : Below w1.heap.size w1 (w1.alloc (.cells Z42 44)) := (Below.refl _ _).alloc (Nat.le_refl _) _
              have lw2 := hS1.lx
              have sw2 := hS1.b.size
              refine hK1_10.out _ _ (hS1.below bw2) (fun hS2 => ?_)
              try simp only [Act.put, List.getElem_toArray, List.getElem_cons_zero, List.getElem_cons_succ, List.setIfInBounds_toArray, List.set_cons_zero, List.set_cons_succ]
              have yA_w2 := row_alloc yA_w1 (.cells Z42 44)
              have dA_w2 := heap_lt yA_w1
              generalize hww2 : w1.alloc (.cells Z42 44) = w2 at *
              clear hww2
              refine wpAnyH_ready (rs := [6]) (by kernel_rfl) (by simp) ?_
              refine AllReadyH.cons rfl (fun K2_6 hK2_6 => ?_) AllReadyH.nil
              ·
                go_simp
                go_at_call 14
                refine (DO.out _ (HTT.out.below hS2.b)).mono ?_
                rintro e w3 ⟨rfl, bw3⟩
                refine hK2_6.out _ _ (hS2.below bw3) (fun hS3 => ?_)
                try simp only [Act.put, List.getElem_toArray, List.getElem_cons_zero, List.getElem_cons_succ, List.setIfInBounds_toArray, List.set_cons_zero, List.set_cons_succ]
                have yA_w3 := (bw3.block _ (heap_lt yA_w2)).trans yA_w2
                have yY_w3 := (bw3.block _ (heap_lt yY_w2)).trans yY_w2
                refine wpAnyH_take (i := 7) (v := .tuple #[.agg zs, .agg #[.int .i64 a0, .int .u32 (a1 : Nat), .int .i64 a2, .bool a3, .int .i64 a4, .int .u32 (a5 : Nat)]]) rfl (by kernel_rfl) (by kernel_rfl) (by kernel_rfl) (fun _ _ _ h => h) (Or.inl ⟨by rfl, ?_⟩) (by assumption) ?_
                · (intro w hSw; clear hSw; go_simp; try first | with_reducible rfl | rfl)
                try simp only [Act.put, List.getElem_toArray, List.getElem_cons_zero, List.getElem_cons_succ, List.setIfInBounds_toArray, List.set_cons_zero, List.set_cons_succ]
                refine wpAnyH_take (i := 8) (v := .agg zs) rfl (by kernel_rfl) (by kernel_rfl) (by kernel_rfl) (fun _ _ _ h => h) (Or.inl ⟨by rfl, ?_⟩) (by assumption) ?_
                · (intro w hSw; clear hSw; go_simp; try first | with_reducible rfl | rfl)
                try simp only [Act.put, List.getElem_toArray, List.getElem_cons_zero, List.getElem_cons_succ, List.setIfInBounds_toArray, List.set_cons_zero, List.set_cons_succ]
                refine wpAnyH_take (i := 9) (v := .agg #[.int .i64 a0, .int .u32 (a1 : Nat), .int .i64 a2, .bool a3, .int .i64 a4, .int .u32 (a5 : Nat)]) rfl (by kernel_rfl) (by kernel_rfl) (by kernel_rfl) (fun _ _ _ h => h) (Or.inl ⟨by rfl, ?_⟩) (by assumption) ?_
                · (intro w hSw; clear hSw; go_simp; try first | with_reducible rfl | rfl)
                try simp only [Act.put, List.getElem_toArray, List.getElem_cons_zero, List.getElem_cons_succ, List.setIfInBounds_toArray, List.set_cons_zero, List.set_cons_succ]
                have nXY : X ≠ w1.heap.size := by omega
                have nXA : X ≠ w0.heap.size := by omega
                have nYA : w1.heap.size ≠ w0.heap.size := by omega
                have gY : w.heap.size ≤ w1.heap.size := by omega
                have gA : w.heap.size ≤ w0.heap.size := by omega
                refine wpAnyH_ready (rs := [12]) (by kernel_rfl) (by simp) ?_
                refine AllReadyH.cons rfl (fun K12 hK12 => ?_) AllReadyH.nil
                refine wp_store_row 44 _ _ rfl w1.heap.size zs rfl rfl _ _ yY_w3 (by rw [Z8.out]; kernel_rfl) (by rw [Z8.out]; rfl) O8.out ?_
                refine hK12.out _ _ (hS3.setRow nXY gY _) (fun hSa => ?_)
                try simp only [Act.put, List.getElem_toArray, List.getElem_cons_zero, List.getElem_cons_succ, List.setIfInBounds_toArray, List.set_cons_zero, List.set_cons_succ]
                have ya := setRow_heap _ _ _ zs _ _ yY_w3
                have yb := setRow_row (g := w1.heap.size) (cs := zs) yA_w3 (Ne.symm nYA)
                refine wpAnyH_ready (rs := [13]) (by kernel_rfl) (by simp) ?_
                refine AllReadyH.cons rfl (fun K13 hK13 => ?_) AllReadyH.nil
                refine wp_store_row 50 _ _ rfl w0.heap.size #[.int .i64 a0, .int .u32 (a1 : Nat), .int .i64 a2, .bool a3, .int .i64 a4, .int .u32 (a5 : Nat)] rfl rfl _ _ yb (by kernel_rfl) (by rfl) (by kernel_rfl) ?_
                refine hK13.out _ _ (hSa.setRow nXA gA _) (fun hSb => ?_)
                try simp only [Act.put, List.getElem_toArray, List.getElem_cons_zero, List.getElem_cons_succ, List.setIfInBounds_toArray, List.set_cons_zero, List.set_cons_succ]
                have yc := setRow_row (g := w0.heap.size) (cs := #[.int .i64 a0, .int .u32 (a1 : Nat), .int .i64 a2, .bool a3, .int .i64 a4, .int .u32 (a5 : Nat)]) ya nYA
                have yd := setRow_heap _ _ _ #[.int .i64 a0, .int .u32 (a1 : Nat), .int .i64 a2, .bool a3, .int .i64 a4, .int .u32 (a5 : Nat)] _ _ yb
                refine wpAnyH_done (by kernel_rfl) ?_ _
                (try go_wp2_with fail)
                go_meet
                exact ⟨w1.heap.size, w0.heap.size, rfl, rfl, nXY, nXA, nYA, gY, gA, hSb, yc, yd⟩
        case rest =>
          obtain ⟨Z, A, rfl, rfl, nXZ, nXA, nZA, gZ, gA, S5, rZ, rA⟩ := hcut
          have S5h := Lib.hid S5
          have RZ := Lib.hid rZ
          have RA := Lib.hid rA
          have k0 : wc.cell? ⟨A, 0, none⟩ = some (.int .i64 a0) := cell_of_row _ _ _ _ _ _ rA
          have k1 : wc.cell? ⟨A, 1, none⟩ = some (.int .u32 (a1 : Nat)) := cell_of_row _ _ _ _ _ _ rA
          have k2 : wc.cell? ⟨A, 2, none⟩ = some (.int .i64 a2) := cell_of_row _ _ _ _ _ _ rA
          have k4 : wc.cell? ⟨A, 4, none⟩ = some (.int .i64 a4) := cell_of_row _ _ _ _ _ _ rA
          have kf : ∀ j, wc.frozen? ⟨A, j, none⟩ = false := fun j => frozen_of_row _ _ _ _ _ rA
          clear S5 rZ rA DO S4 L4
          go_upto_region 18 with (fail)
          rcases HA.out with rfl | ⟨m0, m1, m2, m3, m4, m5, rfl⟩
          · clear k1 k2 k4
            go_upto_region 24 with (fail)
            have CK2 := Lib.hid (fun w => hcheck_ok z GZ.out.1 GZ.out.may w)
            rw [← HZZ.out] at CK2
            refine wp_region_lit ?_
            refine wpList_load_row rfl 44 _ rfl Z rfl _ zs (0, 0) _ RZ.out Tryd.underlying44 rfl (by rw [Z8.out]; kernel_rfl) ?_
            try simp only [Act.put, List.setIfInBounds_toArray, List.set_cons_zero, List.set_cons_succ]
            refine wpList_callR rfl (some 114) rfl 11 #[.agg zs] (by kernel_rfl) (.nilIface) (Below wc.heap.size wc) (CK2.out _) ?_
            intro w8 hb8
            try simp only [Act.put, List.setIfInBounds_toArray, List.set_cons_zero, List.set_cons_succ]
            have R8 := Lib.hid ((hb8.block _ (heap_lt RZ.out)).trans RZ.out)
            have S8 := Lib.hid (S5h.out.below hb8)
            clear hb8
            go_upto_region 26 with (fail)
            refine wp_region_lit ?_
            refine wpList_load_row rfl 44 _ rfl Z rfl _ zs (0, 0) _ R8.out Tryd.underlying44 rfl (by rw [Z8.out]; kernel_rfl) ?_
            try simp only [Act.put, List.setIfInBounds_toArray, List.set_cons_zero, List.set_cons_succ]
            obtain ⟨cX, hcX, hcZ⟩ := S8.out.r
            refine Go.wpList_store_rowTo rfl 44 _ _ rfl rfl X zs rfl rfl _ _ hcX (by rw [Z8.out]; kernel_rfl) (by rw [Z8.out]; exact hcZ) O8.out ?_
            try simp only [Act.put, List.setIfInBounds_toArray, List.set_cons_zero, List.set_cons_succ]
            have S9 : Hid (HolW w X z (w8.setRow X zs)) := Lib.hid (by rw [HZZ.out]; exact S8.out.put z)
            generalize w8.setRow X zs = w9 at S9 ⊢
            clear hcX hcZ S8 R8
            go_wp2
            go_roundw
            case rel => exact ⟨j + 1, z, by go_num, by omega, GZ.out, S9.out⟩
            case measure => simp [intOf]; omega
          ·
            have f0 : (a0 == 0) = false := by simp; omega
            have f1 : (a0 != 0) = true := by simp; omega
            have f2 : ¬ a0 = 0 := by omega
            have M := Lib.hid (And.intro m0 (And.intro m1 (And.intro m2 (And.intro m3 (And.intro m4 m5)))))
            go_upto_region 19 with (fail)
            have RG1 := S5h.out.a.range
            have RG2 := range_row RZ.out
            have RL := HS.len z
            have ES := st_self z
            rw [HZZ.out] at RG2
            simp only [List.toList_toArray] at RG2
            generalize z.cells = ql at RG1 RG2 RL ES
            have V1 := Lib.hid RG1
            have V2 := Lib.hid RG2
            have V3 := Lib.hid RL
            clear RG1 RG2 RL m0 m1 f0 f1 f2 k0
            go_cut [102] (fun y w' => y = .bool false ∧ w' = wc)
            case first =>
              have x4 : ¬ a4 < 0 := by omega
              have x5 : ¬ 31 < a4 := by omega
              clear m4 m5 hjI h60I
              rcases m2 with rfl | rfl | rfl
              · have t1 : Int.tmod (a1 : Int) 1 = 0 := by rw [Int.tmod_eq_emod_of_nonneg (by omega)]; exact m3
                go_wp2_with (first | (refine wpList_load_midW (by rfl) 44 _ rfl Z 0 rfl ql _ V2.out Tryd.underlying44 rfl (by rw [V3.out]; kernel_rfl) ?_) | (refine wpList_load_midW (by rfl) 44 _ rfl X 0 rfl ql _ V1.out Tryd.underlying44 rfl (by rw [V3.out]; kernel_rfl) ?_))
                go_meet
                exact ⟨rfl, rfl⟩
              · have t1 : Int.tmod (a1 : Int) 2 = 0 := by rw [Int.tmod_eq_emod_of_nonneg (by omega)]; exact m3
                go_wp2_with (first | (refine wpList_load_midW (by rfl) 44 _ rfl Z 0 rfl ql _ V2.out Tryd.underlying44 rfl (by rw [V3.out]; kernel_rfl) ?_) | (refine wpList_load_midW (by rfl) 44 _ rfl X 0 rfl ql _ V1.out Tryd.underlying44 rfl (by rw [V3.out]; kernel_rfl) ?_))
                go_meet
                exact ⟨rfl, rfl⟩
              · have t1 : Int.tmod (a1 : Int) 4 = 0 := by rw [Int.tmod_eq_emod_of_nonneg (by omega)]; exact m3
                go_wp2_with (first | (refine wpList_load_midW (by rfl) 44 _ rfl Z 0 rfl ql _ V2.out Tryd.underlying44 rfl (by rw [V3.out]; kernel_rfl) ?_) | (refine wpList_load_midW (by rfl) 44 _ rfl X 0 rfl ql _ V1.out Tryd.underlying44 rfl (by rw [V3.out]; kernel_rfl) ?_))
                go_meet
                exact ⟨rfl, rfl⟩
            case rest =>
              obtain ⟨rfl, rfl⟩ := hcut
              clear ES k1 k2 k4 kf V1 V2 V3 m2 m3 m4 m5
              go_upto_if 105 with (fail)
              go_cut [105] (fun t w' => ∃ s2 : HS, GoodH s2 ∧ HolW w X z w' ∧ w'.heap[Z]? = some (.cells s2.cells.toArray 44 (0, 0)))
              case first =>
                have l0 : (line : Int) % 3 = ((line % 3 : Nat) : Int) := by omega
                have l1 : Int.tmod (line : Int) 3 = ((line % 3 : Nat) : Int) := by rw [Int.tmod_eq_emod_of_nonneg (by omega)]; exact l0
                obtain ⟨r3, hr3⟩ : ∃ r3, r3 = line % 3 := ⟨_, rfl⟩
                rw [← hr3] at l0 l1
                clear hr3
                by_cases h3 : r3 = 0
                · subst h3
                  obtain ⟨s2, G2, FN⟩ := fault_ex z GZ.out (a1 := a1) M.out.2.1 (a2 := a2) (a3 := a3) (a5 := a5) M.out.1 M.out.2.2.2.2.1 M.out.2.2.2.2.2
                  rw [← HZZ.out] at FN
                  obtain ⟨ts, hts⟩ : ∃ ts, ts = s2.cells.toArray := ⟨_, rfl⟩
                  have hsz := hs_size s2
                  have hone := hs_one s2
                  rw [← hts] at FN hsz hone
                  go_upto_region 22 with (fail)
                  refine wp_region_lit ?_
                  refine wpList_load_row rfl 44 _ rfl Z rfl _ zs (0, 0) _ RZ.out Tryd.underlying44 rfl (by rw [Z8.out]; kernel_rfl) ?_
                  try simp only [Act.put, List.setIfInBounds_toArray, List.set_cons_zero, List.set_cons_succ]
                  refine wpList_load_row rfl 50 _ rfl A rfl _ #[.int .i64 a0, .int .u32 (a1 : Nat), .int .i64 a2, .bool a3, .int .i64 a4, .int .u32 (a5 : Nat)] (0, 0) _ RA.out Tryd.underlying50 rfl (by kernel_rfl) ?_
                  try simp only [Act.put, List.setIfInBounds_toArray, List.set_cons_zero, List.set_cons_succ]
                  refine wpList_callR rfl (some 108) rfl 15 #[.agg zs, .agg #[.int .i64 a0, .int .u32 (a1 : Nat), .int .i64 a2, .bool a3, .int .i64 a4, .int .u32 (a5 : Nat)]] (by kernel_rfl) (.agg ts) (Below wc.heap.size wc) (FN.out _) ?_
                  intro w6 hb6
                  try simp only [Act.put, List.setIfInBounds_toArray, List.set_cons_zero, List.set_cons_succ]
                  have rZ6 := (hb6.block _ (heap_lt RZ.out)).trans RZ.out
                  refine Go.wpList_store_rowTo rfl 44 _ _ rfl rfl Z ts rfl rfl _ _ rZ6 (by rw [hsz]; kernel_rfl) (by rw [hsz]; exact Z8.out) hone ?_
                  try simp only [Act.put, List.setIfInBounds_toArray, List.set_cons_zero, List.set_cons_succ]
                  have S6 := (S5h.out.below hb6).setRow nXZ gZ ts
                  have R6 := setRow_heap _ _ _ ts _ _ rZ6
                  generalize w6.setRow Z ts = w7 at S6 R6 ⊢
                  have HS6 := Lib.hid S6
                  have HR6 := Lib.hid R6
                  have HT6 := Lib.hid hts
                  clear S6 R6 rZ6 hb6 hts hsz hone
                  (try go_wp2_with fail)
                  go_meet
                  exact ⟨s2, G2, HS6.out, by rw [← HT6.out]; exact HR6.out⟩
                · have h3a : ((r3 : Int) == 0) = false := by simp; omega
                  have h3b : ¬ (r3 : Int) = 0 := by omega
                  obtain ⟨s2, G2, FN⟩ := done_ex z GZ.out (a1 := a1) (a3 := a3) (a5 := a5) M.out.1 M.out.2.2.1 M.out.2.2.2.2.1 M.out.2.2.2.2.2 line HLL.out
                  rw [← HZZ.out] at FN
                  obtain ⟨ts, hts⟩ : ∃ ts, ts = s2.cells.toArray := ⟨_, rfl⟩
                  have hsz := hs_size s2
                  have hone := hs_one s2
                  rw [← hts] at FN hsz hone
                  go_upto_region 23 with (fail)
                  refine wp_region_lit ?_
                  refine wpList_load_row rfl 44 _ rfl Z rfl _ zs (0, 0) _ RZ.out Tryd.underlying44 rfl (by rw [Z8.out]; kernel_rfl) ?_
                  try simp only [Act.put, List.setIfInBounds_toArray, List.set_cons_zero, List.set_cons_succ]
                  refine wpList_load_row rfl 50 _ rfl A rfl _ #[.int .i64 a0, .int .u32 (a1 : Nat), .int .i64 a2, .bool a3, .int .i64 a4, .int .u32 (a5 : Nat)] (0, 0) _ RA.out Tryd.underlying50 rfl (by kernel_rfl) ?_
                  try simp only [Act.put, List.setIfInBounds_toArray, List.set_cons_zero, List.set_cons_succ]
                  refine Go.Great.wpList_runTo rfl (some 111) rfl (.int .u32 (line : Nat)) wc (by kernel_rfl) ?_
                  try simp only [Act.put, List.setIfInBounds_toArray, List.set_cons_zero, List.set_cons_succ]
                  refine wpList_callR rfl (some 112) rfl 16 #[.agg zs, .agg #[.int .i64 a0, .int .u32 (a1 : Nat), .int .i64 a2, .bool a3, .int .i64 a4, .int .u32 (a5 : Nat)], .int .u32 line] (by kernel_rfl) (.agg ts) (Below wc.heap.size wc) (FN.out _) ?_
                  intro w6 hb6
                  try simp only [Act.put, List.setIfInBounds_toArray, List.set_cons_zero, List.set_cons_succ]
                  have rZ6 := (hb6.block _ (heap_lt RZ.out)).trans RZ.out
                  refine Go.wpList_store_rowTo rfl 44 _ _ rfl rfl Z ts rfl rfl _ _ rZ6 (by rw [hsz]; kernel_rfl) (by rw [hsz]; exact Z8.out) hone ?_
                  try simp only [Act.put, List.setIfInBounds_toArray, List.set_cons_zero, List.set_cons_succ]
                  have S6 := (S5h.out.below hb6).setRow nXZ gZ ts
                  have R6 := setRow_heap _ _ _ ts _ _ rZ6
                  generalize w6.setRow Z ts = w7 at S6 R6 ⊢
                  have HS6 := Lib.hid S6
                  have HR6 := Lib.hid R6
                  have HT6 := Lib.hid hts
                  clear S6 R6 rZ6 hb6 hts hsz hone
                  (try go_wp2_with fail)
                  go_meet
                  exact ⟨s2, G2, HS6.out, by rw [← HT6.out]; exact HR6.out⟩
              case rest =>
                obtain ⟨s2, G2, S6, r6⟩ := hcut
                obtain ⟨ts, hts⟩ : ∃ ts, ts = s2.cells.toArray := ⟨_, rfl⟩
                have hsz := hs_size s2
                have hone := hs_one s2
                rw [← hts] at r6 hsz hone
                have S6h := Lib.hid S6
                have R6 := Lib.hid r6
                have G2h := Lib.hid G2
                have HT6 := Lib.hid hts
                have Z9 := Lib.hid hsz
                have O9 := Lib.hid hone
                clear S6 r6 G2 hts hsz hone
                go_upto_region 24 with (fail)
                have CK2 := Lib.hid (fun w => hcheck_ok s2 G2h.out.1 G2h.out.may w)
                rw [← HT6.out] at CK2
                refine wp_region_lit ?_
                refine wpList_load_row rfl 44 _ rfl Z rfl _ ts (0, 0) _ R6.out Tryd.underlying44 rfl (by rw [Z9.out]; kernel_rfl) ?_
                try simp only [Act.put, List.setIfInBounds_toArray, List.set_cons_zero, List.set_cons_succ]
                refine wpList_callR rfl (some 114) rfl 11 #[.agg ts] (by kernel_rfl) (.nilIface) (Below wc.heap.size wc) (CK2.out _) ?_
                intro w8 hb8
                try simp only [Act.put, List.setIfInBounds_toArray, List.set_cons_zero, List.set_cons_succ]
                have R8 := Lib.hid ((hb8.block _ (heap_lt R6.out)).trans R6.out)
                have S8 := Lib.hid (S6h.out.below hb8)
                clear hb8
                go_upto_region 26 with (fail)
                refine wp_region_lit ?_
                refine wpList_load_row rfl 44 _ rfl Z rfl _ ts (0, 0) _ R8.out Tryd.underlying44 rfl (by rw [Z9.out]; kernel_rfl) ?_
                try simp only [Act.put, List.setIfInBounds_toArray, List.set_cons_zero, List.set_cons_succ]
                obtain ⟨cX, hcX, hcZ⟩ := S8.out.r
                refine Go.wpList_store_rowTo rfl 44 _ _ rfl rfl X ts rfl rfl _ _ hcX (by rw [Z9.out]; kernel_rfl) (by rw [Z9.out]; exact hcZ) O9.out ?_
                try simp only [Act.put, List.setIfInBounds_toArray, List.set_cons_zero, List.set_cons_succ]
                have S9 : Hid (HolW w X s2 (w8.setRow X ts)) := Lib.hid (by rw [HT6.out]; exact S8.out.put s2)
                generalize w8.setRow X ts = w9 at S9 ⊢
                clear hcX hcZ S8 R8
                go_wp2
                go_roundw
                case rel => exact ⟨j + 1, s2, by go_num, by omega, G2h.out, S9.out⟩
                case measure => simp [intOf]; omega

set_option maxHeartbeats 8000000 in
theorem holds_no (h : HS) (hk : h.ok) (A1 A2 : Option Addr) (n1 c1 n2 c2 : Nat) (hm : mayH h = false) (w : World) (hT : TabW w) : Calls Tryd.prog 4 #[.agg h.cells.toArray, .slice A1 n1 c1, .slice A2 n2 c2] w fun e w' => e = .returned (.bool true) ∧ Below w.heap.size w w' := by
  have GV := Lib.hid (fun w => give_any h w)
  have SU := Lib.hid (fun w hT => hsure_any w hT)
  have CK := Lib.hid (fun w => hcheck_no h hk hm w)
  have hE1 : errV 1 = .iface 64 (.int .i64 1) := rfl
  rw [hE1] at CK
  clear hE1
  have hsz := hs_size h
  have hone := hs_one h
  obtain ⟨cs, hcs⟩ : ∃ cs, cs = h.cells.toArray := ⟨_, rfl⟩
  rw [← hcs] at GV
  rw [← hcs] at CK
  rw [← hcs] at hsz
  rw [← hcs] at hone
  rw [← hcs]
  have HC := Lib.hid hcs
  clear hcs
  go_enter Tryd.func4, Tryd.ntmps4
  go_upto_region 1 with (fail)
  generalize hW : World.alloc w _ = W0
  have q0 : W0.heap[w.heap.size]? = some (.cells cs 40 (0, 0)) := by rw [← hW]; exact heap_alloc_new w _
  have b0 : Below w.heap.size w W0 := by rw [← hW]; exact (Below.refl _ w).alloc (Nat.le_refl _) _
  clear hW
  refine wp_region_lit ?_
  refine wpList_load_row rfl 40 _ rfl w.heap.size rfl _ cs (0, 0) _ q0 Tryd.underlying40 rfl (by rw [hsz]; kernel_rfl) ?_
  try simp only [Act.put, List.setIfInBounds_toArray, List.set_cons_zero, List.set_cons_succ]
  refine wpList_callR rfl (some 15) rfl 10 #[.agg cs] (by kernel_rfl) (.agg cs) (Below W0.heap.size W0) (GV.out _) ?_
  intro w1 hb1
  try simp only [Act.put, List.setIfInBounds_toArray, List.set_cons_zero, List.set_cons_succ]
  refine Go.Great.wpList_allocTo rfl (some 7) rfl (.pointer (some ⟨w1.heap.size, 0, none⟩)) (.cells Z42 44) rfl ?_
  try simp only [Act.put, List.setIfInBounds_toArray, List.set_cons_zero, List.set_cons_succ]
  refine Go.wpList_store_rowTo rfl 44 _ _ rfl rfl w1.heap.size cs rfl rfl _ _ (heap_alloc_new _ _) (by rw [hsz]; kernel_rfl) (by rw [hsz]; rfl) hone ?_
  rw [World.setRow_alloc_new]
  have rX0 := heap_alloc_new w1 (.cells cs 44)
  have bw2 : Below w.heap.size w (w1.alloc (.cells cs 44)) := (b0.trans (hb1.mono b0.size)).alloc (b0.trans (hb1.mono b0.size)).size _
  have hXw : w.heap.size ≤ w1.heap.size := (b0.trans (hb1.mono b0.size)).size
  have bw02 : Below W0.heap.size W0 (w1.alloc (.cells cs 44)) := hb1.alloc hb1.size _
  generalize w1.alloc (.cells cs 44) = w2 at rX0 bw2 bw02 ⊢
  obtain ⟨X, hX⟩ : ∃ X, X = w1.heap.size := ⟨_, rfl⟩
  rw [← hX] at rX0 hXw ⊢
  clear hX hb1 q0
  go_upto_region 2 with (fail)
  refine wp_region_lit ?_
  refine wpList_load_row rfl 44 _ rfl X rfl _ cs (0, 0) _ rX0 Tryd.underlying44 rfl (by rw [hsz]; kernel_rfl) ?_
  try simp only [Act.put, List.setIfInBounds_toArray, List.set_cons_zero, List.set_cons_succ]
  refine wpList_callR rfl (some 17) rfl 11 #[.agg cs] (by kernel_rfl) (.iface 64 (.int .i64 1)) (Below w2.heap.size w2) (CK.out _) ?_
  intro w3 hb3
  try simp only [Act.put, List.setIfInBounds_toArray, List.set_cons_zero, List.set_cons_succ]
  have rX := (hb3.block X (heap_lt rX0)).trans rX0
  have bw3 := bw2.trans (hb3.mono bw2.size)
  have bw03 := bw02.trans (hb3.mono bw02.size)
  clear rX0 bw2 hb3
  have T3 := Lib.hid (hT.below bw3)
  have G3 := Lib.hid bw3
  clear hsz hone hT b0 rX bw3 bw02 bw03 hXw hk hm
  go_wp2_with (go_at_call 12; refine (SU.out _ T3.out).mono ?_; rintro e w4 ⟨rfl, hb⟩; have G4 := Lib.hid (G3.out.trans (hb.mono G3.out.size)); clear hb)
  go_ret
  exact ⟨rfl, G4.out⟩
theorem hartHolds_h (h : HS) (hk : h.ok) (A1 : Option Addr) (n1 c1 : Nat) (f1 : Nat → Nat) (A2 : Option Addr) (n2 c2 : Nat) (f2 : Nat → Nat) (w : World) (B1 : WordsAt w A1 n1 c1 f1) (B2 : WordsAt w A2 n2 c2 f2) (hT : TabW w) : Calls Tryd.prog 4 #[.agg h.cells.toArray, .slice A1 n1 c1, .slice A2 n2 c2] w fun e w' => e = .returned (.bool true) ∧ Below w.heap.size w w' := by
  cases hm : mayH h with
  | true => exact holds_yes h (good_of hk hm) A1 A2 n1 c1 n2 c2 f1 f2 w B1 B2 hT
  | false => exact holds_no h hk A1 A2 n1 c1 n2 c2 hm w hT

end Go.Proofs.YtphlgaklfibciaaDoor
