import Derived.Test.YtoincdfijeipjaaDoorHartBe
import Derived.Test.YtoincdfijeipjaaDoorHartBc
import Derived.Test.YtoincdfijeipjaaDoorAsD
import Derived.Below
import Derived.Deep.Draws
import Derived.Deep.AppendLies
import Derived.Maps.AppendAt
import Derived.OwnWalk
import Derived.Laws.BytesArg
import Derived.Laws.MakeOwn
import Derived.Laws.OwnMore
import Derived.Deep.OwnRows
import Derived.Tactics
import Derived.Lib.ConvBytes
import Derived.Laws.Slices
import Derived.WalkKit
import Derived.KernelRfl
import Derived.RowKit3
import Derived.Deep.LoopGhost
import Derived.Deep.QuietTactic
import Derived.BigQuiet
import Derived.WideLaws
import Derived.Deep.DeepCutAuto
import Derived.Deep.CutBlock
import Derived.Deep.RegionHeld3
import Derived.Laws.Rows
import Derived.Lib.AppendStr
import Derived.ArgAppend
import Derived.Laws.IdiomCopy
import Derived.OrdersHeld
import Derived.Laws.BitsLemmas
import Derived.RowKit
import Derived.Lib.Hide
import Derived.Laws.BitsAllLaws
import Derived.WalkLawsBesides
import Derived.WalkSpells
import Derived.LaidEql
namespace Go.Proofs.YtoincdfijeipjaaDoor
open Go.RowKit
set_option maxRecDepth 100000
set_option linter.unusedVariables false
set_option linter.unusedSimpArgs false

theorem num_nil (w : World) : Calls Tryd.prog 35 #[.nilIface] w fun e w' => e = .returned (.int .i64 0) ∧ Below w.heap.size w w' := by
  go_enter Tryd.func35, Tryd.ntmps35
  go_wp2
  go_ret
  exact ⟨rfl, (Below.refl _ _).alloc (Nat.le_refl _) _⟩
set_option maxHeartbeats 1000000 in
theorem num_err (n : Int) (w : World) (hg : w.cell? ⟨2, 0, none⟩ = some errTy) : Calls Tryd.prog 35 #[.iface 84 (.int .i64 n)] w fun e w' => e = .returned (.int .i64 n) ∧ Below w.heap.size w w' := by
  have hgA : (w.alloc (.cells #[.int .i64 0] 84)).cell? ⟨2, 0, none⟩ = some errTy := by
    rw [World.cell?_alloc_lt _ _ ⟨2, 0, none⟩ (block_lt_of_cell hg)]; exact hg
  have htA : (w.alloc (.cells #[.int .i64 0] 84)).cell? ⟨w.heap.size, 0, none⟩ = some (.int .i64 0) := by simp
  have hfA : (w.alloc (.cells #[.int .i64 0] 84)).frozen? ⟨w.heap.size, 0, none⟩ = false := by simp
  have A := Lib.hid (as_hit n ⟨w.heap.size, 0, none⟩ (.int .i64 0) _ hgA htA hfA)
  clear hgA htA hfA hg
  go_enter Tryd.func35, Tryd.ntmps35
  go_wp2_with (go_at_call 43; refine A.out.mono ?_; rintro e w' ⟨rfl, rfl⟩)
  go_ret
  refine ⟨rfl, ?_⟩
  repeat' (first | (with_reducible exact Below.refl _ _) | (with_reducible refine Below.setCell ?_ ?_ _) | (with_reducible refine Below.alloc ?_ ?_ _) | (simp; done) | (simp; omega))
/-- an error's number, whatever the error -/
theorem num_any (n : Int) (w : World) (hg : w.cell? ⟨2, 0, none⟩ = some errTy) : Calls Tryd.prog 35 #[errV n] w fun e w' => e = .returned (.int .i64 n) ∧ Below w.heap.size w w' := by
  by_cases h : n = 0
  · subst h; exact num_nil w
  · have hE : errV n = .iface 84 (.int .i64 n) := by unfold errV; rw [if_neg h]
    rw [hE]; exact num_err n w hg

structure BegW (w0 : World) (X Y Z : Nat) (cs zs : Array Value) (w : World) : Prop where
  x : w.heap[X]? = some (.cells cs 65 (0, 0))
  y : w.heap[Y]? = some (.cells zs 55 (0, 0))
  z : w.heap[Z]? = some (.cells zs 65 (0, 0))
  b : Below w0.heap.size w0 w
  g : w.cell? ⟨2, 0, none⟩ = some errTy
theorem BegW.below {w0 wa wb : World} {X Y Z : Nat} {cs zs : Array Value} (s : BegW w0 X Y Z cs zs wa) (hb : Below wa.heap.size wa wb) : BegW w0 X Y Z cs zs wb :=
  ⟨(hb.block _ (heap_lt s.x)).trans s.x, (hb.block _ (heap_lt s.y)).trans s.y, (hb.block _ (heap_lt s.z)).trans s.z, s.b.trans (hb.mono s.b.size), (hb.cell (p := ⟨2, 0, none⟩) (block_lt_of_cell s.g)).trans s.g⟩
theorem hbegin_two (h : HS) (hk : h.ok) (ln : Nat) (hl : ln < 4294967296) : ∃ (z : HS) (on : Bool), (∀ w : World, Calls Tryd.prog 31 #[.agg h.cells.toArray, .int .u32 ln] w fun e w' => e = .returned (.tuple #[.agg z.cells.toArray, .bool on]) ∧ Below w.heap.size w w') ∧ (∀ w : World, Calls Tryd.prog 34 #[.agg h.cells.toArray, .int .u32 ln] w fun e w' => e = .returned (.tuple #[.agg z.cells.toArray, .bool on]) ∧ Below w.heap.size w w') := by
  cases hs : stayB h ln with
  | true => exact ⟨h, false, fun w => hbegin_no h hk ln hl hs w, fun w => rbegin8_no h hk ln hl hs w⟩
  | false => exact ⟨beginH h ln, true, fun w => hbegin_on h hk ln hl hs w, fun w => rbegin8_on h hk ln hl hs w⟩
theorem hcheck_two (h : HS) (hk : h.ok) : ∃ n : Int, (∀ w : World, Calls Tryd.prog 29 #[.agg h.cells.toArray] w fun e w' => e = .returned (errV n) ∧ Below w.heap.size w w') ∧ (∀ w : World, Calls Tryd.prog 36 #[.agg h.cells.toArray] w fun e w' => e = .returned (.int .i64 n) ∧ Below w.heap.size w w') := by
  cases hm : mayH h with
  | true => exact ⟨0, fun w => hcheck_ok h hk hm w, fun w => by have q := rcheck8_any h hk w; rw [if_pos hm] at q; exact q⟩
  | false => exact ⟨1, fun w => hcheck_no h hk hm w, fun w => by have q := rcheck8_any h hk w; rw [if_neg (by simp [hm])] at q; exact q⟩
set_option maxHeartbeats 8000000 in
theorem hartBegins_h (h : HS) (hk : h.ok) (ln pc : Nat) (hl : ln < 4294967296) (hp : pc < 4294967296) (w : World) (hT : TabW w) (hg : w.cell? ⟨2, 0, none⟩ = some errTy) : Calls Tryd.prog 10 #[.agg h.cells.toArray, .int .u32 ln, .int .u32 pc] w fun e w' => e = .returned (.bool true) ∧ Below w.heap.size w w' := by
  obtain ⟨z, on, BG0, RB0⟩ := hbegin_two h hk ln hl
  obtain ⟨n, CK0, RK0⟩ := hcheck_two h hk
  have NM0 := fun (w : World) hg => num_any n w hg
  obtain ⟨er, her⟩ : ∃ er, er = errV n := ⟨_, rfl⟩
  rw [← her] at CK0 NM0
  clear her
  have GV := Lib.hid (fun w => give_any h w)
  have GZ := Lib.hid (fun w => give_any z w)
  have GR := Lib.hid (fun w => give_any (resetH pc) w)
  have RS := Lib.hid (fun w => reset_any pc hp w)
  have RR := Lib.hid (fun w => rreset8_any pc hp w)
  have SU := Lib.hid (fun w hT => hsure_any w hT)
  have BG := Lib.hid BG0
  have RB := Lib.hid RB0
  have CK := Lib.hid CK0
  have RK := Lib.hid RK0
  have NM := Lib.hid NM0
  have HT := Lib.hid hT
  have HG := Lib.hid hg
  have hsz := hs_size h
  have zsz := hs_size z
  have zone := hs_one z
  have ES := st_self z
  have ER := st_self (resetH pc)
  obtain ⟨cs, hcs⟩ : ∃ cs, cs = h.cells.toArray := ⟨_, rfl⟩
  obtain ⟨zs, hzs⟩ : ∃ zs, zs = z.cells.toArray := ⟨_, rfl⟩
  obtain ⟨rs, hrs⟩ : ∃ rs, rs = (resetH pc).cells.toArray := ⟨_, rfl⟩
  rw [← hcs] at GV BG RB CK RK hsz ⊢
  rw [← hzs] at GZ BG RB zsz zone ES
  rw [← hrs] at GR RS RR ER
  have HS := Lib.hid hsz
  have ZS := Lib.hid zsz
  have ZO := Lib.hid zone
  have KES := Lib.hid ES
  have KER := Lib.hid ER
  clear hcs hzs hrs hk hl hp BG0 RB0 CK0 RK0 NM0 hT hg hsz zsz zone ES ER
  go_enter Tryd.func10, Tryd.ntmps10
  go_upto_region 1 with (fail)
  have x0 := heap_alloc_new w (.cells cs 65)
  have b0 : Below w.heap.size w (w.alloc (.cells cs 65)) := (Below.refl _ w).alloc (Nat.le_refl _) _
  generalize w.alloc (.cells cs 65) = W0 at x0 b0 ⊢
  refine wp_region_lit ?_
  refine wpList_load_row rfl 65 _ rfl w.heap.size rfl _ cs (0, 0) _ x0 Tryd.underlying65 rfl (by rw [HS.out]; kernel_rfl) ?_
  try simp only [Act.put, List.getElem_toArray, List.getElem_cons_zero, List.getElem_cons_succ, List.setIfInBounds_toArray, List.set_cons_zero, List.set_cons_succ]
  refine wpList_callR rfl (some 13) rfl 28 #[.agg cs] (by kernel_rfl) (.agg cs) (Below W0.heap.size W0) (GV.out _) ?_
  intro w1 hb1
  try simp only [Act.put, List.getElem_toArray, List.getElem_cons_zero, List.getElem_cons_succ, List.setIfInBounds_toArray, List.set_cons_zero, List.set_cons_succ]
  refine Go.Great.wpList_runTo rfl (some 14) rfl (.int .u32 (ln : Nat)) w1 (by kernel_rfl) ?_
  try simp only [Act.put, List.getElem_toArray, List.getElem_cons_zero, List.getElem_cons_succ, List.setIfInBounds_toArray, List.set_cons_zero, List.set_cons_succ]
  refine wpList_callR rfl (some 15) rfl 31 #[.agg cs, .int .u32 (ln : Nat)] (by kernel_rfl) (.tuple #[.agg zs, .bool on]) (Below w1.heap.size w1) (BG.out _) ?_
  intro w2 hb2
  try simp only [Act.put, List.getElem_toArray, List.getElem_cons_zero, List.getElem_cons_succ, List.setIfInBounds_toArray, List.set_cons_zero, List.set_cons_succ]
  refine Go.Great.wpList_runTo rfl (some 11) rfl (.tuple #[.agg zs, .bool on]) w2 (by kernel_rfl) ?_
  try simp only [Act.put, List.getElem_toArray, List.getElem_cons_zero, List.getElem_cons_succ, List.setIfInBounds_toArray, List.set_cons_zero, List.set_cons_succ]
  refine Go.Great.wpList_runTo rfl (some 16) rfl (.agg zs) w2 (by kernel_rfl) ?_
  try simp only [Act.put, List.getElem_toArray, List.getElem_cons_zero, List.getElem_cons_succ, List.setIfInBounds_toArray, List.set_cons_zero, List.set_cons_succ]
  refine Go.Great.wpList_runTo rfl (some 17) rfl (.bool on) w2 (by kernel_rfl) ?_
  try simp only [Act.put, List.getElem_toArray, List.getElem_cons_zero, List.getElem_cons_succ, List.setIfInBounds_toArray, List.set_cons_zero, List.set_cons_succ]
  refine Go.Great.wpList_allocTo rfl (some 7) rfl (.pointer (some ⟨w2.heap.size, 0, none⟩)) (.cells Z42 55) rfl ?_
  try simp only [Act.put, List.getElem_toArray, List.getElem_cons_zero, List.getElem_cons_succ, List.setIfInBounds_toArray, List.set_cons_zero, List.set_cons_succ]
  refine Go.wpList_store_rowTo rfl 55 _ _ rfl rfl w2.heap.size zs rfl rfl _ _ (heap_alloc_new _ _) (by rw [ZS.out]; kernel_rfl) (by rw [ZS.out]; rfl) ZO.out ?_
  try simp only [Act.put, List.getElem_toArray, List.getElem_cons_zero, List.getElem_cons_succ, List.setIfInBounds_toArray, List.set_cons_zero, List.set_cons_succ]
  rw [World.setRow_alloc_new]
  have b2 : Below w.heap.size w w2 := (b0.trans (hb1.mono b0.size)).trans (hb2.mono (b0.trans (hb1.mono b0.size)).size)
  have x2 := (hb2.block _ (heap_lt ((hb1.block _ (heap_lt x0)).trans x0))).trans ((hb1.block _ (heap_lt x0)).trans x0)
  have y3 := heap_alloc_new w2 (.cells zs 55)
  have x3 := row_alloc x2 (.cells zs 55)
  have b3 := b2.alloc b2.size (.cells zs 55)
  generalize w2.alloc (.cells zs 55) = w3 at y3 x3 b3 ⊢
  obtain ⟨Y, hY⟩ : ∃ Y, Y = w2.heap.size := ⟨_, rfl⟩
  rw [← hY] at y3 ⊢
  clear hb1 hb2 x0 b0 x2 b2 hY
  go_upto_region 2 with (fail)
  refine wp_region_lit ?_
  refine wpList_load_row rfl 65 _ rfl w.heap.size rfl _ cs (0, 0) _ x3 Tryd.underlying65 rfl (by rw [HS.out]; kernel_rfl) ?_
  try simp only [Act.put, List.getElem_toArray, List.getElem_cons_zero, List.getElem_cons_succ, List.setIfInBounds_toArray, List.set_cons_zero, List.set_cons_succ]
  refine Go.Great.wpList_runTo rfl (some 20) rfl (.int .u32 (ln : Nat)) w3 (by kernel_rfl) ?_
  try simp only [Act.put, List.getElem_toArray, List.getElem_cons_zero, List.getElem_cons_succ, List.setIfInBounds_toArray, List.set_cons_zero, List.set_cons_succ]
  refine wpList_callR rfl (some 21) rfl 34 #[.agg cs, .int .u32 (ln : Nat)] (by kernel_rfl) (.tuple #[.agg zs, .bool on]) (Below w3.heap.size w3) (RB.out _) ?_
  intro w4 hb4
  try simp only [Act.put, List.getElem_toArray, List.getElem_cons_zero, List.getElem_cons_succ, List.setIfInBounds_toArray, List.set_cons_zero, List.set_cons_succ]
  refine Go.Great.wpList_runTo rfl (some 18) rfl (.tuple #[.agg zs, .bool on]) w4 (by kernel_rfl) ?_
  try simp only [Act.put, List.getElem_toArray, List.getElem_cons_zero, List.getElem_cons_succ, List.setIfInBounds_toArray, List.set_cons_zero, List.set_cons_succ]
  refine Go.Great.wpList_runTo rfl (some 22) rfl (.agg zs) w4 (by kernel_rfl) ?_
  try simp only [Act.put, List.getElem_toArray, List.getElem_cons_zero, List.getElem_cons_succ, List.setIfInBounds_toArray, List.set_cons_zero, List.set_cons_succ]
  refine Go.Great.wpList_runTo rfl (some 23) rfl (.bool on) w4 (by kernel_rfl) ?_
  try simp only [Act.put, List.getElem_toArray, List.getElem_cons_zero, List.getElem_cons_succ, List.setIfInBounds_toArray, List.set_cons_zero, List.set_cons_succ]
  refine Go.Great.wpList_allocTo rfl (some 9) rfl (.pointer (some ⟨w4.heap.size, 0, none⟩)) (.cells Z42 65) rfl ?_
  try simp only [Act.put, List.getElem_toArray, List.getElem_cons_zero, List.getElem_cons_succ, List.setIfInBounds_toArray, List.set_cons_zero, List.set_cons_succ]
  refine Go.wpList_store_rowTo rfl 65 _ _ rfl rfl w4.heap.size zs rfl rfl _ _ (heap_alloc_new _ _) (by rw [ZS.out]; kernel_rfl) (by rw [ZS.out]; rfl) ZO.out ?_
  try simp only [Act.put, List.getElem_toArray, List.getElem_cons_zero, List.getElem_cons_succ, List.setIfInBounds_toArray, List.set_cons_zero, List.set_cons_succ]
  rw [World.setRow_alloc_new]
  have x4 := (hb4.block _ (heap_lt x3)).trans x3
  have y4 := (hb4.block _ (heap_lt y3)).trans y3
  have b4 := b3.trans (hb4.mono b3.size)
  have z5 := heap_alloc_new w4 (.cells zs 65)
  have x5 := row_alloc x4 (.cells zs 65)
  have y5 := row_alloc y4 (.cells zs 65)
  have b5 := b4.alloc b4.size (.cells zs 65)
  generalize w4.alloc (.cells zs 65) = w5 at z5 x5 y5 b5 ⊢
  obtain ⟨Z, hZ⟩ : ∃ Z, Z = w4.heap.size := ⟨_, rfl⟩
  rw [← hZ] at z5 ⊢
  have g5 := (b5.cell (p := ⟨2, 0, none⟩) (block_lt_of_cell HG.out)).trans HG.out
  have SS := Lib.hid (show BegW w w.heap.size Y Z cs zs w5 from ⟨x5, y5, z5, b5, g5⟩)
  clear x3 y3 b3 x4 y4 b4 hb4 x5 y5 z5 b5 g5 hZ
  go_upto_region 3 with (fail)
  refine wp_region_held_drew (S := BegW w w.heap.size Y Z cs zs) (by kernel_rfl) (SS.out.below (Below.drew (Below.refl _ _))) (fun hHeld => ?_)
  refine wpAnyH_take (i := 0) (v := .agg zs) rfl (by kernel_rfl) (by kernel_rfl) (by kernel_rfl) (fun _ _ _ h => h) ?_ (by assumption) ?_
  · exact yieldsIf_load_mid (by rfl) 55 _ rfl Y 0 rfl (zs).toList _ (fun w hw => range_row hw.y) Tryd.underlying55 rfl (by rw [Array.length_toList, ZS.out]; kernel_rfl)
  try simp only [Act.put, List.getElem_toArray, List.getElem_cons_zero, List.getElem_cons_succ, List.setIfInBounds_toArray, List.set_cons_zero, List.set_cons_succ]
  refine wpAnyH_take (i := 1) (v := .agg zs) rfl (by kernel_rfl) (by kernel_rfl) (by kernel_rfl) (fun _ _ _ h => h) ?_ (by assumption) ?_
  · exact yieldsIf_load_mid (by rfl) 65 _ rfl Z 0 rfl (zs).toList _ (fun w hw => range_row hw.z) Tryd.underlying65 rfl (by rw [Array.length_toList, ZS.out]; kernel_rfl)
  try simp only [Act.put, List.getElem_toArray, List.getElem_cons_zero, List.getElem_cons_succ, List.setIfInBounds_toArray, List.set_cons_zero, List.set_cons_succ]
  refine wpAnyH_ready (rs := [2]) (by kernel_rfl) (by simp) ?_
  refine AllReadyH.cons rfl (fun K2 hK2 => ?_) AllReadyH.nil
  go_simp
  go_at_call 28
  refine (GZ.out _).mono ?_
  rintro e v6 ⟨rfl, hb2⟩
  refine hK2.out _ _ ((by assumption : BegW w w.heap.size Y Z cs zs _).below hb2) (fun hHeld2 => ?_)
  try simp only [Act.put, List.getElem_toArray, List.getElem_cons_zero, List.getElem_cons_succ, List.setIfInBounds_toArray, List.set_cons_zero, List.set_cons_succ]
  clear hb2
  refine wpAnyH_take (i := 3) (v := .bool true) rfl (by kernel_rfl) (by kernel_rfl) (by kernel_rfl) (fun _ _ _ h => h) (Or.inl ⟨by rfl, ?_⟩) (by assumption) ?_
  · (intro w hSw; clear hSw; have ES := KES.out; go_simp; try with_reducible rfl)
  try simp only [Act.put, List.getElem_toArray, List.getElem_cons_zero, List.getElem_cons_succ, List.setIfInBounds_toArray, List.set_cons_zero, List.set_cons_succ]
  refine wpAnyH_take (i := 4) (v := .bool true) rfl (by kernel_rfl) (by kernel_rfl) (by kernel_rfl) (fun _ _ _ h => h) (Or.inl ⟨by rfl, ?_⟩) (by assumption) ?_
  · (intro w hSw; clear hSw; go_simp; try with_reducible rfl)
  try simp only [Act.put, List.getElem_toArray, List.getElem_cons_zero, List.getElem_cons_succ, List.setIfInBounds_toArray, List.set_cons_zero, List.set_cons_succ]
  refine wpAnyH_take (i := 5) (v := .bool on) rfl (by kernel_rfl) (by kernel_rfl) (by kernel_rfl) (fun _ _ _ h => h) (Or.inl ⟨by rfl, ?_⟩) (by assumption) ?_
  · (intro w hSw; clear hSw; go_simp; try with_reducible rfl)
  try simp only [Act.put, List.getElem_toArray, List.getElem_cons_zero, List.getElem_cons_succ, List.setIfInBounds_toArray, List.set_cons_zero, List.set_cons_succ]
  refine wpAnyH_take (i := 6) (v := .bool on) rfl (by kernel_rfl) (by kernel_rfl) (by kernel_rfl) (fun _ _ _ h => h) (Or.inl ⟨by rfl, ?_⟩) (by assumption) ?_
  · (intro w hSw; clear hSw; go_simp; try with_reducible rfl)
  try simp only [Act.put, List.getElem_toArray, List.getElem_cons_zero, List.getElem_cons_succ, List.setIfInBounds_toArray, List.set_cons_zero, List.set_cons_succ]
  refine wpAnyH_take (i := 7) (v := .bool true) rfl (by kernel_rfl) (by kernel_rfl) (by kernel_rfl) (fun _ _ _ h => h) (Or.inl ⟨by rfl, ?_⟩) (by assumption) ?_
  · (intro w hSw; clear hSw; go_simp; try with_reducible rfl)
  try simp only [Act.put, List.getElem_toArray, List.getElem_cons_zero, List.getElem_cons_succ, List.setIfInBounds_toArray, List.set_cons_zero, List.set_cons_succ]
  refine wpAnyH_take (i := 8) (v := .bool true) rfl (by kernel_rfl) (by kernel_rfl) (by kernel_rfl) (fun _ _ _ h => h) (Or.inl ⟨by rfl, ?_⟩) (by assumption) ?_
  · (intro w hSw; clear hSw; go_simp; try with_reducible rfl)
  try simp only [Act.put, List.getElem_toArray, List.getElem_cons_zero, List.getElem_cons_succ, List.setIfInBounds_toArray, List.set_cons_zero, List.set_cons_succ]
  refine wpAnyH_take (i := 9) (v := .bool true) rfl (by kernel_rfl) (by kernel_rfl) (by kernel_rfl) (fun _ _ _ h => h) (Or.inl ⟨by rfl, ?_⟩) (by assumption) ?_
  · (intro w hSw; clear hSw; go_simp; try with_reducible rfl)
  try simp only [Act.put, List.getElem_toArray, List.getElem_cons_zero, List.getElem_cons_succ, List.setIfInBounds_toArray, List.set_cons_zero, List.set_cons_succ]
  refine wpAnyH_take (i := 10) (v := .agg cs) rfl (by kernel_rfl) (by kernel_rfl) (by kernel_rfl) (fun _ _ _ h => h) ?_ (by assumption) ?_
  · exact yieldsIf_load_mid (by rfl) 65 _ rfl w.heap.size 0 rfl (cs).toList _ (fun w hw => range_row hw.x) Tryd.underlying65 rfl (by rw [Array.length_toList, HS.out]; kernel_rfl)
  try simp only [Act.put, List.getElem_toArray, List.getElem_cons_zero, List.getElem_cons_succ, List.setIfInBounds_toArray, List.set_cons_zero, List.set_cons_succ]
  refine wpAnyH_take (i := 14) (v := .agg cs) rfl (by kernel_rfl) (by kernel_rfl) (by kernel_rfl) (fun _ _ _ h => h) ?_ (by assumption) ?_
  · exact yieldsIf_load_mid (by rfl) 65 _ rfl w.heap.size 0 rfl (cs).toList _ (fun w hw => range_row hw.x) Tryd.underlying65 rfl (by rw [Array.length_toList, HS.out]; kernel_rfl)
  try simp only [Act.put, List.getElem_toArray, List.getElem_cons_zero, List.getElem_cons_succ, List.setIfInBounds_toArray, List.set_cons_zero, List.set_cons_succ]
  refine wpAnyH_ready (rs := [11]) (by kernel_rfl) (by simp) ?_
  refine AllReadyH.cons rfl (fun K11 hK11 => ?_) AllReadyH.nil
  go_simp
  go_at_call 28
  refine (GV.out _).mono ?_
  rintro e v7 ⟨rfl, hb11⟩
  refine hK11.out _ _ ((by assumption : BegW w w.heap.size Y Z cs zs _).below hb11) (fun hHeld11 => ?_)
  try simp only [Act.put, List.getElem_toArray, List.getElem_cons_zero, List.getElem_cons_succ, List.setIfInBounds_toArray, List.set_cons_zero, List.set_cons_succ]
  clear hb11
  refine wpAnyH_ready (rs := [12]) (by kernel_rfl) (by simp) ?_
  refine AllReadyH.cons rfl (fun K12 hK12 => ?_) AllReadyH.nil
  go_simp
  go_at_call 29
  refine (CK.out _).mono ?_
  rintro e v8 ⟨rfl, hb12⟩
  refine hK12.out _ _ ((by assumption : BegW w w.heap.size Y Z cs zs _).below hb12) (fun hHeld12 => ?_)
  try simp only [Act.put, List.getElem_toArray, List.getElem_cons_zero, List.getElem_cons_succ, List.setIfInBounds_toArray, List.set_cons_zero, List.set_cons_succ]
  clear hb12
  refine wpAnyH_ready (rs := [13]) (by kernel_rfl) (by simp) ?_
  refine AllReadyH.cons rfl (fun K13 hK13 => ?_) AllReadyH.nil
  go_simp
  go_at_call 35
  refine (NM.out _ (by assumption : BegW w w.heap.size Y Z cs zs _).g).mono ?_
  rintro e v9 ⟨rfl, hb13⟩
  refine hK13.out _ _ ((by assumption : BegW w w.heap.size Y Z cs zs _).below hb13) (fun hHeld13 => ?_)
  try simp only [Act.put, List.getElem_toArray, List.getElem_cons_zero, List.getElem_cons_succ, List.setIfInBounds_toArray, List.set_cons_zero, List.set_cons_succ]
  clear hb13
  refine wpAnyH_ready (rs := [15]) (by kernel_rfl) (by simp) ?_
  refine AllReadyH.cons rfl (fun K15 hK15 => ?_) AllReadyH.nil
  go_simp
  go_at_call 36
  refine (RK.out _).mono ?_
  rintro e v10 ⟨rfl, hb15⟩
  refine hK15.out _ _ ((by assumption : BegW w w.heap.size Y Z cs zs _).below hb15) (fun hHeld15 => ?_)
  try simp only [Act.put, List.getElem_toArray, List.getElem_cons_zero, List.getElem_cons_succ, List.setIfInBounds_toArray, List.set_cons_zero, List.set_cons_succ]
  clear hb15
  refine wpAnyH_take (i := 16) (v := .bool true) rfl (by kernel_rfl) (by kernel_rfl) (by kernel_rfl) (fun _ _ _ h => h) (Or.inl ⟨by rfl, ?_⟩) (by assumption) ?_
  · (intro w hSw; clear hSw; go_simp; try with_reducible rfl)
  try simp only [Act.put, List.getElem_toArray, List.getElem_cons_zero, List.getElem_cons_succ, List.setIfInBounds_toArray, List.set_cons_zero, List.set_cons_succ]
  refine wpAnyH_take (i := 17) (v := .bool true) rfl (by kernel_rfl) (by kernel_rfl) (by kernel_rfl) (fun _ _ _ h => h) (Or.inl ⟨by rfl, ?_⟩) (by assumption) ?_
  · (intro w hSw; clear hSw; go_simp; try with_reducible rfl)
  try simp only [Act.put, List.getElem_toArray, List.getElem_cons_zero, List.getElem_cons_succ, List.setIfInBounds_toArray, List.set_cons_zero, List.set_cons_succ]
  refine wpAnyH_take (i := 18) (v := .bool true) rfl (by kernel_rfl) (by kernel_rfl) (by kernel_rfl) (fun _ _ _ h => h) (Or.inl ⟨by rfl, ?_⟩) (by assumption) ?_
  · (intro w hSw; clear hSw; go_simp; try with_reducible rfl)
  try simp only [Act.put, List.getElem_toArray, List.getElem_cons_zero, List.getElem_cons_succ, List.setIfInBounds_toArray, List.set_cons_zero, List.set_cons_succ]
  refine wpAnyH_take (i := 19) (v := .int .u32 (pc : Nat)) rfl (by kernel_rfl) (by kernel_rfl) (by kernel_rfl) (fun _ _ _ h => h) (Or.inl ⟨by rfl, ?_⟩) (by assumption) ?_
  · (intro w hSw; clear hSw; go_simp; try with_reducible rfl)
  try simp only [Act.put, List.getElem_toArray, List.getElem_cons_zero, List.getElem_cons_succ, List.setIfInBounds_toArray, List.set_cons_zero, List.set_cons_succ]
  refine wpAnyH_take (i := 21) (v := .int .u32 (pc : Nat)) rfl (by kernel_rfl) (by kernel_rfl) (by kernel_rfl) (fun _ _ _ h => h) (Or.inl ⟨by rfl, ?_⟩) (by assumption) ?_
  · (intro w hSw; clear hSw; go_simp; try with_reducible rfl)
  try simp only [Act.put, List.getElem_toArray, List.getElem_cons_zero, List.getElem_cons_succ, List.setIfInBounds_toArray, List.set_cons_zero, List.set_cons_succ]
  refine wpAnyH_ready (rs := [20]) (by kernel_rfl) (by simp) ?_
  refine AllReadyH.cons rfl (fun K20 hK20 => ?_) AllReadyH.nil
  go_simp
  go_at_call 25
  refine (RS.out _).mono ?_
  rintro e v11 ⟨rfl, hb20⟩
  refine hK20.out _ _ ((by assumption : BegW w w.heap.size Y Z cs zs _).below hb20) (fun hHeld20 => ?_)
  try simp only [Act.put, List.getElem_toArray, List.getElem_cons_zero, List.getElem_cons_succ, List.setIfInBounds_toArray, List.set_cons_zero, List.set_cons_succ]
  clear hb20
  refine wpAnyH_ready (rs := [22]) (by kernel_rfl) (by simp) ?_
  refine AllReadyH.cons rfl (fun K22 hK22 => ?_) AllReadyH.nil
  go_simp
  go_at_call 37
  refine (RR.out _).mono ?_
  rintro e v12 ⟨rfl, hb22⟩
  refine hK22.out _ _ ((by assumption : BegW w w.heap.size Y Z cs zs _).below hb22) (fun hHeld22 => ?_)
  try simp only [Act.put, List.getElem_toArray, List.getElem_cons_zero, List.getElem_cons_succ, List.setIfInBounds_toArray, List.set_cons_zero, List.set_cons_succ]
  clear hb22
  refine wpAnyH_ready (rs := [23]) (by kernel_rfl) (by simp) ?_
  refine AllReadyH.cons rfl (fun K23 hK23 => ?_) AllReadyH.nil
  go_simp
  go_at_call 28
  refine (GR.out _).mono ?_
  rintro e v13 ⟨rfl, hb23⟩
  refine hK23.out _ _ ((by assumption : BegW w w.heap.size Y Z cs zs _).below hb23) (fun hHeld23 => ?_)
  try simp only [Act.put, List.getElem_toArray, List.getElem_cons_zero, List.getElem_cons_succ, List.setIfInBounds_toArray, List.set_cons_zero, List.set_cons_succ]
  clear hb23
  refine wpAnyH_take (i := 24) (v := .bool true) rfl (by kernel_rfl) (by kernel_rfl) (by kernel_rfl) (fun _ _ _ h => h) (Or.inl ⟨by rfl, ?_⟩) (by assumption) ?_
  · (intro w hSw; clear hSw; have ER := KER.out; go_simp; try with_reducible rfl)
  try simp only [Act.put, List.getElem_toArray, List.getElem_cons_zero, List.getElem_cons_succ, List.setIfInBounds_toArray, List.set_cons_zero, List.set_cons_succ]
  refine wpAnyH_take (i := 25) (v := .bool true) rfl (by kernel_rfl) (by kernel_rfl) (by kernel_rfl) (fun _ _ _ h => h) (Or.inl ⟨by rfl, ?_⟩) (by assumption) ?_
  · (intro w hSw; clear hSw; go_simp; try with_reducible rfl)
  try simp only [Act.put, List.getElem_toArray, List.getElem_cons_zero, List.getElem_cons_succ, List.setIfInBounds_toArray, List.set_cons_zero, List.set_cons_succ]
  refine wpAnyH_take (i := 26) (v := .bool true) rfl (by kernel_rfl) (by kernel_rfl) (by kernel_rfl) (fun _ _ _ h => h) (Or.inl ⟨by rfl, ?_⟩) (by assumption) ?_
  · (intro w hSw; clear hSw; go_simp; try with_reducible rfl)
  try simp only [Act.put, List.getElem_toArray, List.getElem_cons_zero, List.getElem_cons_succ, List.setIfInBounds_toArray, List.set_cons_zero, List.set_cons_succ]
  refine wpAnyH_ready (rs := [27]) (by kernel_rfl) (by simp) ?_
  refine AllReadyH.cons rfl (fun K27 hK27 => ?_) AllReadyH.nil
  go_simp
  go_at_call 27
  refine (SU.out _ (HT.out.below (by assumption : BegW w w.heap.size Y Z cs zs _).b)).mono ?_
  rintro e v14 ⟨rfl, hb27⟩
  refine hK27.out _ _ ((by assumption : BegW w w.heap.size Y Z cs zs _).below hb27) (fun hHeld27 => ?_)
  try simp only [Act.put, List.getElem_toArray, List.getElem_cons_zero, List.getElem_cons_succ, List.setIfInBounds_toArray, List.set_cons_zero, List.set_cons_succ]
  clear hb27
  refine wpAnyH_take (i := 28) (v := .bool true) rfl (by kernel_rfl) (by kernel_rfl) (by kernel_rfl) (fun _ _ _ h => h) (Or.inl ⟨by rfl, ?_⟩) (by assumption) ?_
  · (intro w hSw; clear hSw; go_simp; try with_reducible rfl)
  try simp only [Act.put, List.getElem_toArray, List.getElem_cons_zero, List.getElem_cons_succ, List.setIfInBounds_toArray, List.set_cons_zero, List.set_cons_succ]
  refine wpAnyH_ready (rs := [29]) (by kernel_rfl) (by simp) ?_
  refine AllReadyH.cons rfl (fun K29 hK29 => ?_) AllReadyH.nil
  go_simp
  refine hK29.out _ _ (by assumption) (fun hHeld29 => ?_)
  try simp only [Act.put, List.getElem_toArray, List.getElem_cons_zero, List.getElem_cons_succ, List.setIfInBounds_toArray, List.set_cons_zero, List.set_cons_succ]
  have G := Lib.hid (hHeld29.b)
  refine wpAnyH_done (by kernel_rfl) ?_ _
  go_wp2
  go_ret
  exact ⟨rfl, G.out⟩

end Go.Proofs.YtoincdfijeipjaaDoor
