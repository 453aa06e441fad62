import Derived.Test.YtphlgaklfibciaaDoorHartBz
import Derived.Below
import Derived.Deep.Draws
import Derived.Deep.AppendLies
import Derived.Maps.AppendAt
import Derived.OwnWalk
import Derived.Laws.BytesArg
import Derived.Laws.MakeOwn
import Derived.Laws.OwnMore
import Derived.Deep.OwnRows
import Derived.Tactics
import Derived.Lib.ConvBytes
import Derived.Laws.Slices
import Derived.WalkKit
import Derived.KernelRfl
import Derived.RowKit3
import Derived.Deep.LoopGhost
import Derived.Deep.QuietTactic
import Derived.BigQuiet
import Derived.WideLaws
import Derived.Deep.DeepCutAuto
import Derived.Deep.CutBlock
import Derived.Deep.RegionHeld3
import Derived.Laws.Rows
import Derived.Lib.AppendStr
import Derived.ArgAppend
import Derived.Laws.IdiomCopy
import Derived.OrdersHeld
import Derived.Laws.BitsLemmas
import Derived.RowKit
import Derived.Lib.Hide
import Derived.Laws.BitsAllLaws
import Derived.WalkLawsBesides
import Derived.WalkSpells
import Derived.LaidEql
namespace Go.Proofs.YtphlgaklfibciaaDoor
open Go.RowKit
set_option maxRecDepth 100000
set_option linter.unusedVariables false
set_option linter.unusedSimpArgs false

theorem belowKN {B : Nat} {a w : World} (h : Below B a w) (n : Nat) : Below B a (w.drewN n) := h.trans ⟨rfl, rfl, rfl, Nat.le_refl _, fun _ _ => rfl⟩
theorem row_setOwnK {w : World} {b i : Nat} {cs : Array Value} {T : TypeId} {fr : Nat × Nat} (hb : w.heap[b]? = some (.cells cs T fr)) (v : Value) :
    (w.setCell ⟨b, i, none⟩ v).heap[b]? = some (.cells (cs.setIfInBounds i v) T fr) := by
  simp [World.setCell, Array.getElem?_modify, hb]
theorem his_any (rd : Int) (h0 : 0 ≤ rd) (h1 : rd < 32) (w : World) : Calls Tryd.prog 36 #[.int .i64 rd] w fun e w' => e = .returned (.bool true) ∧ w = w' := by
  go_enter Tryd.func36, Tryd.ntmps36
  go_wp2
  go_ret
  exact ⟨rfl, rfl⟩
theorem three_rows (w : World) (o1 o2 o3 : Obj) (t1 t2 t3 : TypeId) (c1 c2 c3 : Array Value) (e1 : o1 = .cells c1 t1 (0, 0)) (e2 : o2 = .cells c2 t2 (0, 0)) (e3 : o3 = .cells c3 t3 (0, 0)) : (((w.alloc o1).alloc o2).alloc o3).heap[w.heap.size]? = some (.cells c1 t1 (0, 0)) ∧ (((w.alloc o1).alloc o2).alloc o3).heap[w.heap.size + 1]? = some (.cells c2 t2 (0, 0)) ∧ (((w.alloc o1).alloc o2).alloc o3).heap[w.heap.size + 1 + 1]? = some (.cells c3 t3 (0, 0)) ∧ Below w.heap.size w (((w.alloc o1).alloc o2).alloc o3) := by
  subst e1 e2 e3
  have z1 : (w.alloc (.cells c1 t1)).heap.size = w.heap.size + 1 := by simp
  have z2 : ((w.alloc (.cells c1 t1)).alloc (.cells c2 t2)).heap.size = w.heap.size + 1 + 1 := by simp
  refine ⟨row_alloc (row_alloc (heap_alloc_new _ _) _) _, ?_, ?_, (((Below.refl _ w).alloc (Nat.le_refl _) _).alloc (by omega) _).alloc (by omega) _⟩
  · have q := row_alloc (heap_alloc_new (w.alloc (.cells c1 t1)) (.cells c2 t2)) (.cells c3 t3)
    rw [z1] at q; exact q
  · have q := heap_alloc_new ((w.alloc (.cells c1 t1)).alloc (.cells c2 t2)) (.cells c3 t3)
    rw [z2] at q; exact q
set_option maxHeartbeats 4000000 in
theorem hfault_1 (h : HS) (hk : h.ok) (at_ : Nat) (ha : at_ < 4294967296) (n : Int) (sg : Bool) (rd : Int) (h0 : 0 ≤ rd) (h1 : rd < 32) (val : Nat) (w : World) : Calls Tryd.prog 15 #[.agg h.cells.toArray, .agg #[.int .i64 1, .int .u32 at_, .int .i64 n, .bool sg, .int .i64 rd, .int .u32 val]] w fun e w' => e = .returned (.agg (trapH h 5 at_).cells.toArray) ∧ Below w.heap.size w w' := by
  have IS := Lib.hid (fun w => his_any rd h0 h1 w)
  obtain ⟨B0, hB0⟩ : ∃ B0, B0 = w.heap.size := ⟨_, rfl⟩
  have TR := Lib.hid (fun W H => htrap_any h hk B0 5 at_ (by decide) ha W H)
  rw [hB0] at TR
  clear hk ha hB0
  obtain ⟨cs, hcs⟩ : ∃ cs, cs = h.cells.toArray := ⟨_, rfl⟩
  have HC := Lib.hid hcs
  rw [← hcs]
  clear hcs
  obtain ⟨g, hg⟩ : ∃ g, g = trapH h 5 at_ := ⟨_, rfl⟩
  rw [← hg]
  have HG := Lib.hid hg
  obtain ⟨zs, hzs⟩ : ∃ zs, zs = g.cells := ⟨_, rfl⟩
  have HZS := Lib.hid hzs
  rw [← hzs]
  clear hzs hg
  go_enter Tryd.func15, Tryd.ntmps15
  go_upto_region 1 with (fail)
  generalize hW : World.alloc (World.alloc (World.alloc w _) _) _ = W
  obtain ⟨r0, r1, r2, bw⟩ : W.heap[w.heap.size]? = some (.cells cs 44 (0, 0)) ∧ W.heap[w.heap.size + 1]? = some (.cells #[.int .i64 1, .int .u32 at_, .int .i64 n, .bool sg, .int .i64 rd, .int .u32 val] 50 (0, 0)) ∧ W.heap[w.heap.size + 1 + 1]? = some (.cells Z42 44 (0, 0)) ∧ Below w.heap.size w W := by rw [← hW]; exact three_rows w _ _ _ _ _ _ _ _ _ rfl rfl rfl
  clear hW
  have H0 := HAt.of_row (h := h) (r := []) (by rw [List.append_nil, ← HC.out]; exact r0)
  have a0 : W.cell? ⟨w.heap.size + 1, 0, none⟩ = some (.int .i64 1) := cell_of_row _ _ _ _ _ _ r1
  have a1 : W.cell? ⟨w.heap.size + 1, 1, none⟩ = some (.int .u32 (at_ : Nat)) := cell_of_row _ _ _ _ _ _ r1
  have a2 : W.cell? ⟨w.heap.size + 1, 2, none⟩ = some (.int .i64 n) := cell_of_row _ _ _ _ _ _ r1
  have a3 : W.cell? ⟨w.heap.size + 1, 3, none⟩ = some (.bool sg) := cell_of_row _ _ _ _ _ _ r1
  have a4 : W.cell? ⟨w.heap.size + 1, 4, none⟩ = some (.int .i64 rd) := cell_of_row _ _ _ _ _ _ r1
  have a5 : W.cell? ⟨w.heap.size + 1, 5, none⟩ = some (.int .u32 (val : Nat)) := cell_of_row _ _ _ _ _ _ r1
  have af : ∀ j, W.frozen? ⟨w.heap.size + 1, j, none⟩ = false := fun j => frozen_of_row _ _ _ _ _ r1
  have KH := Lib.hid H0
  have K1 := Lib.hid r1
  have K2 := Lib.hid r2
  have KB := Lib.hid bw
  clear H0 r0 r1 r2 bw
  rw [← HG.out] at TR
  go_upto_region 7 with (first | (go_at_call 36; refine (IS.out _).mono ?_; rintro e w1 ⟨rfl, rfl⟩) | (go_at_call 32; refine (TR.out _ (by repeat' (first | (with_reducible exact KH.out) | (with_reducible refine HAt.drew1 ?_) | (with_reducible refine HAt.drew ?_ _)))).mono ?_; rintro e w2 ⟨rfl, h2, o2⟩; have HM2 := Lib.hid h2; have RM2 := Lib.hid ((o2.over (w.heap.size + 1 + 1) (by omega) (heap_lt K2.out)).trans K2.out); have AM2 := Lib.hid ((o2.over (w.heap.size + 1) (by omega) (heap_lt K1.out)).trans K1.out); have BM2 := Lib.hid (show Below w.heap.size w w2 from Below.trans (by repeat' (first | (with_reducible exact KB.out) | (with_reducible refine Below.drew ?_) | (with_reducible refine belowKN ?_ _))) o2.below); clear h2 o2))
  have HF := HM2
  have RF := RM2
  have BF := BM2
  have hsz := hs_size g
  have hone := hs_one g
  have hrg := HF.out.range
  have hlen := HS.len g
  rw [← HZS.out] at hsz hone hrg hlen
  have HZ := Lib.hid hsz
  have HO := Lib.hid hone
  have HRG := Lib.hid hrg
  have HL := Lib.hid hlen
  clear hsz hone hrg hlen
  refine wp_region_lit ?_
  refine wpList_load_mid rfl 44 _ rfl w.heap.size 0 rfl zs _ HRG.out Tryd.underlying44 rfl (by rw [HL.out]; kernel_rfl) ?_
  try simp only [Act.put, List.setIfInBounds_toArray, List.set_cons_zero, List.set_cons_succ]
  refine Go.wpList_store_rowTo rfl 44 _ _ rfl rfl (w.heap.size + 1 + 1) zs.toArray rfl rfl _ _ RF.out (by rw [HZ.out]; kernel_rfl) (by rw [HZ.out]; rfl) HO.out ?_
  try simp only [Act.put, List.setIfInBounds_toArray, List.set_cons_zero, List.set_cons_succ]
  have F1 := Lib.hid (setRow_heap _ _ _ zs.toArray _ _ RF.out)
  have FB := Lib.hid (below_setRow BF.out (by omega : w.heap.size ≤ w.heap.size + 1 + 1) zs.toArray)
  go_wp2
  exact bodyPost_ret (results_cell_row (p := 4) (ty := 44) (by kernel_rfl) _ _ (w.heap.size + 1 + 1) _ _ _ _ rfl F1.out Tryd.underlying44 rfl (by rw [HZ.out]; kernel_rfl)) rfl ⟨rfl, FB.out⟩
set_option maxHeartbeats 4000000 in
theorem hfault_2 (h : HS) (hk : h.ok) (at_ : Nat) (ha : at_ < 4294967296) (n : Int) (sg : Bool) (rd : Int) (h0 : 0 ≤ rd) (h1 : rd < 32) (val : Nat) (w : World) : Calls Tryd.prog 15 #[.agg h.cells.toArray, .agg #[.int .i64 2, .int .u32 at_, .int .i64 n, .bool sg, .int .i64 rd, .int .u32 val]] w fun e w' => e = .returned (.agg (trapH h 7 at_).cells.toArray) ∧ Below w.heap.size w w' := by
  have IS := Lib.hid (fun w => his_any rd h0 h1 w)
  obtain ⟨B0, hB0⟩ : ∃ B0, B0 = w.heap.size := ⟨_, rfl⟩
  have TR := Lib.hid (fun W H => htrap_any h hk B0 7 at_ (by decide) ha W H)
  rw [hB0] at TR
  clear hk ha hB0
  obtain ⟨cs, hcs⟩ : ∃ cs, cs = h.cells.toArray := ⟨_, rfl⟩
  have HC := Lib.hid hcs
  rw [← hcs]
  clear hcs
  obtain ⟨g, hg⟩ : ∃ g, g = trapH h 7 at_ := ⟨_, rfl⟩
  rw [← hg]
  have HG := Lib.hid hg
  obtain ⟨zs, hzs⟩ : ∃ zs, zs = g.cells := ⟨_, rfl⟩
  have HZS := Lib.hid hzs
  rw [← hzs]
  clear hzs hg
  go_enter Tryd.func15, Tryd.ntmps15
  go_upto_region 1 with (fail)
  generalize hW : World.alloc (World.alloc (World.alloc w _) _) _ = W
  obtain ⟨r0, r1, r2, bw⟩ : W.heap[w.heap.size]? = some (.cells cs 44 (0, 0)) ∧ W.heap[w.heap.size + 1]? = some (.cells #[.int .i64 2, .int .u32 at_, .int .i64 n, .bool sg, .int .i64 rd, .int .u32 val] 50 (0, 0)) ∧ W.heap[w.heap.size + 1 + 1]? = some (.cells Z42 44 (0, 0)) ∧ Below w.heap.size w W := by rw [← hW]; exact three_rows w _ _ _ _ _ _ _ _ _ rfl rfl rfl
  clear hW
  have H0 := HAt.of_row (h := h) (r := []) (by rw [List.append_nil, ← HC.out]; exact r0)
  have a0 : W.cell? ⟨w.heap.size + 1, 0, none⟩ = some (.int .i64 2) := cell_of_row _ _ _ _ _ _ r1
  have a1 : W.cell? ⟨w.heap.size + 1, 1, none⟩ = some (.int .u32 (at_ : Nat)) := cell_of_row _ _ _ _ _ _ r1
  have a2 : W.cell? ⟨w.heap.size + 1, 2, none⟩ = some (.int .i64 n) := cell_of_row _ _ _ _ _ _ r1
  have a3 : W.cell? ⟨w.heap.size + 1, 3, none⟩ = some (.bool sg) := cell_of_row _ _ _ _ _ _ r1
  have a4 : W.cell? ⟨w.heap.size + 1, 4, none⟩ = some (.int .i64 rd) := cell_of_row _ _ _ _ _ _ r1
  have a5 : W.cell? ⟨w.heap.size + 1, 5, none⟩ = some (.int .u32 (val : Nat)) := cell_of_row _ _ _ _ _ _ r1
  have af : ∀ j, W.frozen? ⟨w.heap.size + 1, j, none⟩ = false := fun j => frozen_of_row _ _ _ _ _ r1
  have KH := Lib.hid H0
  have K1 := Lib.hid r1
  have K2 := Lib.hid r2
  have KB := Lib.hid bw
  clear H0 r0 r1 r2 bw
  rw [← HG.out] at TR
  go_upto_region 7 with (first | (go_at_call 36; refine (IS.out _).mono ?_; rintro e w1 ⟨rfl, rfl⟩) | (go_at_call 32; refine (TR.out _ (by repeat' (first | (with_reducible exact KH.out) | (with_reducible refine HAt.drew1 ?_) | (with_reducible refine HAt.drew ?_ _)))).mono ?_; rintro e w2 ⟨rfl, h2, o2⟩; have HM2 := Lib.hid h2; have RM2 := Lib.hid ((o2.over (w.heap.size + 1 + 1) (by omega) (heap_lt K2.out)).trans K2.out); have AM2 := Lib.hid ((o2.over (w.heap.size + 1) (by omega) (heap_lt K1.out)).trans K1.out); have BM2 := Lib.hid (show Below w.heap.size w w2 from Below.trans (by repeat' (first | (with_reducible exact KB.out) | (with_reducible refine Below.drew ?_) | (with_reducible refine belowKN ?_ _))) o2.below); clear h2 o2))
  have HF := HM2
  have RF := RM2
  have BF := BM2
  have hsz := hs_size g
  have hone := hs_one g
  have hrg := HF.out.range
  have hlen := HS.len g
  rw [← HZS.out] at hsz hone hrg hlen
  have HZ := Lib.hid hsz
  have HO := Lib.hid hone
  have HRG := Lib.hid hrg
  have HL := Lib.hid hlen
  clear hsz hone hrg hlen
  refine wp_region_lit ?_
  refine wpList_load_mid rfl 44 _ rfl w.heap.size 0 rfl zs _ HRG.out Tryd.underlying44 rfl (by rw [HL.out]; kernel_rfl) ?_
  try simp only [Act.put, List.setIfInBounds_toArray, List.set_cons_zero, List.set_cons_succ]
  refine Go.wpList_store_rowTo rfl 44 _ _ rfl rfl (w.heap.size + 1 + 1) zs.toArray rfl rfl _ _ RF.out (by rw [HZ.out]; kernel_rfl) (by rw [HZ.out]; rfl) HO.out ?_
  try simp only [Act.put, List.setIfInBounds_toArray, List.set_cons_zero, List.set_cons_succ]
  have F1 := Lib.hid (setRow_heap _ _ _ zs.toArray _ _ RF.out)
  have FB := Lib.hid (below_setRow BF.out (by omega : w.heap.size ≤ w.heap.size + 1 + 1) zs.toArray)
  go_wp2
  exact bodyPost_ret (results_cell_row (p := 4) (ty := 44) (by kernel_rfl) _ _ (w.heap.size + 1 + 1) _ _ _ _ rfl F1.out Tryd.underlying44 rfl (by rw [HZ.out]; kernel_rfl)) rfl ⟨rfl, FB.out⟩
set_option maxHeartbeats 4000000 in
theorem hdone_1_1s (h : HS) (hk : h.ok) (at_ rd : Nat) (hrd : rd < 32) (val v : Nat) (hv : v < 4294967296) (w : World) : Calls Tryd.prog 16 #[.agg h.cells.toArray, .agg #[.int .i64 1, .int .u32 at_, .int .i64 1, .bool true, .int .i64 rd, .int .u32 val], .int .u32 v] w fun e w' => e = .returned (.agg (toH (setH h rd (signN (fromN (fieldB v 0 8) 32) 8)) ((h.pc + 4) % 4294967296)).cells.toArray) ∧ Below w.heap.size w w' := by
  obtain ⟨B0, hB0⟩ : ∃ B0, B0 = w.heap.size := ⟨_, rfl⟩
  have hpc := hk.pc
  have e1 : IntKind.u32.wrap ((h.pc : Int) + 4) = (((h.pc + 4) % 4294967296 : Nat) : Int) := by rw [Go.IntKind.wrap_u32]; omega
  have e2 : ((h.pc : Int) + 4) % 4294967296 = (((h.pc + 4) % 4294967296 : Nat) : Int) := by omega
  have IS := Lib.hid (fun w => his_any (rd : Int) (by omega) (by omega) w)
  have FI := Lib.hid (fun w => pfield_any v hv 0 8 (by decide) (by decide) (by decide) w)
  have fl : fromN (fieldB v 0 8) 32 < 4294967296 := fromN_lt _ 32
  obtain ⟨fx, hfx⟩ : ∃ fx, fx = fromN (fieldB v 0 8) 32 := ⟨_, rfl⟩
  rw [← hfx] at FI fl ⊢
  have SG := Lib.hid (fun w => psign_any fx fl 8 w)
  have xl := signN_lt fx 8
  obtain ⟨x, hx⟩ : ∃ x, x = signN fx 8 := ⟨_, rfl⟩
  rw [← hx] at SG xl ⊢
  have ST := Lib.hid (fun W H => hset_any h B0 rd x hrd W H)
  have pcs : (setH h rd x).pc = h.pc := by unfold setH; split <;> rfl
  have hk2 := setH_ok hk (rd := rd) xl
  obtain ⟨s1, hs1⟩ : ∃ s1, s1 = setH h rd x := ⟨_, rfl⟩
  rw [← hs1] at ST pcs hk2 ⊢
  obtain ⟨q, hq⟩ : ∃ q, q = (h.pc + 4) % 4294967296 := ⟨_, rfl⟩
  rw [← hq] at e1 e2 ⊢
  have hql : q < 4294967296 := by omega
  have TO := Lib.hid (fun W H => hto_any s1 hk2 B0 q hql W H)
  rw [hB0] at TO ST
  obtain ⟨pc, hpq⟩ : ∃ pc, pc = h.pc := ⟨_, rfl⟩
  rw [← hpq] at e1 e2 pcs
  have PCS := Lib.hid pcs
  clear hk hB0 hpc hql hq hpq hk2 pcs hs1 hv fl xl hx hfx hrd
  obtain ⟨cs, hcs⟩ : ∃ cs, cs = h.cells.toArray := ⟨_, rfl⟩
  have HC := Lib.hid hcs
  rw [← hcs]
  clear hcs
  obtain ⟨g, hg⟩ : ∃ g, g = toH s1 q := ⟨_, rfl⟩
  rw [← hg]
  have HG := Lib.hid hg
  obtain ⟨zs, hzs⟩ : ∃ zs, zs = g.cells := ⟨_, rfl⟩
  have HZS := Lib.hid hzs
  rw [← hzs]
  clear hzs hg
  go_enter Tryd.func16, Tryd.ntmps16
  go_upto_region 1 with (fail)
  generalize hW : World.alloc (World.alloc (World.alloc w _) _) _ = W
  obtain ⟨r0, r1, r2, bw⟩ : W.heap[w.heap.size]? = some (.cells cs 44 (0, 0)) ∧ W.heap[w.heap.size + 1]? = some (.cells #[.int .i64 1, .int .u32 at_, .int .i64 1, .bool true, .int .i64 rd, .int .u32 val] 50 (0, 0)) ∧ W.heap[w.heap.size + 1 + 1]? = some (.cells Z42 44 (0, 0)) ∧ Below w.heap.size w W := by rw [← hW]; exact three_rows w _ _ _ _ _ _ _ _ _ rfl rfl rfl
  clear hW
  have H0 := HAt.of_row (h := h) (r := []) (by rw [List.append_nil, ← HC.out]; exact r0)
  have a0 : W.cell? ⟨w.heap.size + 1, 0, none⟩ = some (.int .i64 1) := cell_of_row _ _ _ _ _ _ r1
  have a1 : W.cell? ⟨w.heap.size + 1, 1, none⟩ = some (.int .u32 (at_ : Nat)) := cell_of_row _ _ _ _ _ _ r1
  have a2 : W.cell? ⟨w.heap.size + 1, 2, none⟩ = some (.int .i64 1) := cell_of_row _ _ _ _ _ _ r1
  have a3 : W.cell? ⟨w.heap.size + 1, 3, none⟩ = some (.bool true) := cell_of_row _ _ _ _ _ _ r1
  have a4 : W.cell? ⟨w.heap.size + 1, 4, none⟩ = some (.int .i64 rd) := cell_of_row _ _ _ _ _ _ r1
  have a5 : W.cell? ⟨w.heap.size + 1, 5, none⟩ = some (.int .u32 (val : Nat)) := cell_of_row _ _ _ _ _ _ r1
  have af : ∀ j, W.frozen? ⟨w.heap.size + 1, j, none⟩ = false := fun j => frozen_of_row _ _ _ _ _ r1
  have KH := Lib.hid H0
  have K1 := Lib.hid r1
  have K2 := Lib.hid r2
  have KB := Lib.hid bw
  clear H0 r0 r1 r2 bw
  rw [← HG.out] at TO
  go_upto_region 5 with (first | (go_at_call 36; refine (IS.out _).mono ?_; rintro e w1 ⟨rfl, rfl⟩) | (go_at_call 37; refine (FI.out _).mono ?_; rintro e w' ⟨rfl, qf, rfl⟩) | (go_at_call 38; refine (SG.out _).mono ?_; rintro e w' ⟨rfl, rfl⟩))
  go_upto_region 8 with (go_at_call 39; refine (ST.out _ (by repeat' (first | (with_reducible exact KH.out) | (with_reducible refine HAt.drew1 ?_) | (with_reducible refine HAt.drew ?_ _)))).mono ?_; rintro e w2 ⟨rfl, h2, o2⟩; have HM2 := Lib.hid h2; have RM2 := Lib.hid ((o2.over (w.heap.size + 1 + 1) (by omega) (heap_lt K2.out)).trans K2.out); have AM2 := Lib.hid ((o2.over (w.heap.size + 1) (by omega) (heap_lt K1.out)).trans K1.out); have BM2 := Lib.hid (show Below w.heap.size w w2 from Below.trans (by repeat' (first | (with_reducible exact KB.out) | (with_reducible refine Below.drew ?_) | (with_reducible refine belowKN ?_ _))) o2.below); clear h2 o2)
  have c0 : w2.cell? ⟨w.heap.size, 0, none⟩ = some (.int .u32 (pc : Nat)) := by rw [← PCS.out]; exact HM2.out.pc_
  have cf := HM2.out.fz
  clear a0 a1 a2 a3 a4 a5 af
  go_upto_region 9 with (go_at_call 35; refine (TO.out _ (by repeat' (first | (with_reducible exact HM2.out) | (with_reducible refine HAt.drew1 ?_) | (with_reducible refine HAt.drew ?_ _)))).mono ?_; rintro e w3 ⟨rfl, h3, o3⟩; have HM3 := Lib.hid h3; have RM3 := Lib.hid ((o3.over (w.heap.size + 1 + 1) (by omega) (heap_lt RM2.out)).trans RM2.out); have AM3 := Lib.hid ((o3.over (w.heap.size + 1) (by omega) (heap_lt AM2.out)).trans AM2.out); have BM3 := Lib.hid (show Below w.heap.size w w3 from Below.trans (by repeat' (first | (with_reducible exact BM2.out) | (with_reducible refine Below.drew ?_) | (with_reducible refine belowKN ?_ _))) o3.below); clear h3 o3)
  have HF := HM3
  have RF := RM3
  have BF := BM3
  have hsz := hs_size g
  have hone := hs_one g
  have hrg := HF.out.range
  have hlen := HS.len g
  rw [← HZS.out] at hsz hone hrg hlen
  have HZ := Lib.hid hsz
  have HO := Lib.hid hone
  have HRG := Lib.hid hrg
  have HL := Lib.hid hlen
  clear hsz hone hrg hlen
  refine wp_region_lit ?_
  refine wpList_load_mid rfl 44 _ rfl w.heap.size 0 rfl zs _ HRG.out Tryd.underlying44 rfl (by rw [HL.out]; kernel_rfl) ?_
  try simp only [Act.put, List.setIfInBounds_toArray, List.set_cons_zero, List.set_cons_succ]
  refine Go.wpList_store_rowTo rfl 44 _ _ rfl rfl (w.heap.size + 1 + 1) zs.toArray rfl rfl _ _ RF.out (by rw [HZ.out]; kernel_rfl) (by rw [HZ.out]; rfl) HO.out ?_
  try simp only [Act.put, List.setIfInBounds_toArray, List.set_cons_zero, List.set_cons_succ]
  have F1 := Lib.hid (setRow_heap _ _ _ zs.toArray _ _ RF.out)
  have FB := Lib.hid (below_setRow BF.out (by omega : w.heap.size ≤ w.heap.size + 1 + 1) zs.toArray)
  go_wp2
  exact bodyPost_ret (results_cell_row (p := 6) (ty := 44) (by kernel_rfl) _ _ (w.heap.size + 1 + 1) _ _ _ _ rfl F1.out Tryd.underlying44 rfl (by rw [HZ.out]; kernel_rfl)) rfl ⟨rfl, FB.out⟩
set_option maxHeartbeats 4000000 in
theorem hdone_1_2s (h : HS) (hk : h.ok) (at_ rd : Nat) (hrd : rd < 32) (val v : Nat) (hv : v < 4294967296) (w : World) : Calls Tryd.prog 16 #[.agg h.cells.toArray, .agg #[.int .i64 1, .int .u32 at_, .int .i64 2, .bool true, .int .i64 rd, .int .u32 val], .int .u32 v] w fun e w' => e = .returned (.agg (toH (setH h rd (signN (fromN (fieldB v 0 16) 32) 16)) ((h.pc + 4) % 4294967296)).cells.toArray) ∧ Below w.heap.size w w' := by
  obtain ⟨B0, hB0⟩ : ∃ B0, B0 = w.heap.size := ⟨_, rfl⟩
  have hpc := hk.pc
  have e1 : IntKind.u32.wrap ((h.pc : Int) + 4) = (((h.pc + 4) % 4294967296 : Nat) : Int) := by rw [Go.IntKind.wrap_u32]; omega
  have e2 : ((h.pc : Int) + 4) % 4294967296 = (((h.pc + 4) % 4294967296 : Nat) : Int) := by omega
  have IS := Lib.hid (fun w => his_any (rd : Int) (by omega) (by omega) w)
  have FI := Lib.hid (fun w => pfield_any v hv 0 16 (by decide) (by decide) (by decide) w)
  have fl : fromN (fieldB v 0 16) 32 < 4294967296 := fromN_lt _ 32
  obtain ⟨fx, hfx⟩ : ∃ fx, fx = fromN (fieldB v 0 16) 32 := ⟨_, rfl⟩
  rw [← hfx] at FI fl ⊢
  have SG := Lib.hid (fun w => psign_any fx fl 16 w)
  have xl := signN_lt fx 16
  obtain ⟨x, hx⟩ : ∃ x, x = signN fx 16 := ⟨_, rfl⟩
  rw [← hx] at SG xl ⊢
  have ST := Lib.hid (fun W H => hset_any h B0 rd x hrd W H)
  have pcs : (setH h rd x).pc = h.pc := by unfold setH; split <;> rfl
  have hk2 := setH_ok hk (rd := rd) xl
  obtain ⟨s1, hs1⟩ : ∃ s1, s1 = setH h rd x := ⟨_, rfl⟩
  rw [← hs1] at ST pcs hk2 ⊢
  obtain ⟨q, hq⟩ : ∃ q, q = (h.pc + 4) % 4294967296 := ⟨_, rfl⟩
  rw [← hq] at e1 e2 ⊢
  have hql : q < 4294967296 := by omega
  have TO := Lib.hid (fun W H => hto_any s1 hk2 B0 q hql W H)
  rw [hB0] at TO ST
  obtain ⟨pc, hpq⟩ : ∃ pc, pc = h.pc := ⟨_, rfl⟩
  rw [← hpq] at e1 e2 pcs
  have PCS := Lib.hid pcs
  clear hk hB0 hpc hql hq hpq hk2 pcs hs1 hv fl xl hx hfx hrd
  obtain ⟨cs, hcs⟩ : ∃ cs, cs = h.cells.toArray := ⟨_, rfl⟩
  have HC := Lib.hid hcs
  rw [← hcs]
  clear hcs
  obtain ⟨g, hg⟩ : ∃ g, g = toH s1 q := ⟨_, rfl⟩
  rw [← hg]
  have HG := Lib.hid hg
  obtain ⟨zs, hzs⟩ : ∃ zs, zs = g.cells := ⟨_, rfl⟩
  have HZS := Lib.hid hzs
  rw [← hzs]
  clear hzs hg
  go_enter Tryd.func16, Tryd.ntmps16
  go_upto_region 1 with (fail)
  generalize hW : World.alloc (World.alloc (World.alloc w _) _) _ = W
  obtain ⟨r0, r1, r2, bw⟩ : W.heap[w.heap.size]? = some (.cells cs 44 (0, 0)) ∧ W.heap[w.heap.size + 1]? = some (.cells #[.int .i64 1, .int .u32 at_, .int .i64 2, .bool true, .int .i64 rd, .int .u32 val] 50 (0, 0)) ∧ W.heap[w.heap.size + 1 + 1]? = some (.cells Z42 44 (0, 0)) ∧ Below w.heap.size w W := by rw [← hW]; exact three_rows w _ _ _ _ _ _ _ _ _ rfl rfl rfl
  clear hW
  have H0 := HAt.of_row (h := h) (r := []) (by rw [List.append_nil, ← HC.out]; exact r0)
  have a0 : W.cell? ⟨w.heap.size + 1, 0, none⟩ = some (.int .i64 1) := cell_of_row _ _ _ _ _ _ r1
  have a1 : W.cell? ⟨w.heap.size + 1, 1, none⟩ = some (.int .u32 (at_ : Nat)) := cell_of_row _ _ _ _ _ _ r1
  have a2 : W.cell? ⟨w.heap.size + 1, 2, none⟩ = some (.int .i64 2) := cell_of_row _ _ _ _ _ _ r1
  have a3 : W.cell? ⟨w.heap.size + 1, 3, none⟩ = some (.bool true) := cell_of_row _ _ _ _ _ _ r1
  have a4 : W.cell? ⟨w.heap.size + 1, 4, none⟩ = some (.int .i64 rd) := cell_of_row _ _ _ _ _ _ r1
  have a5 : W.cell? ⟨w.heap.size + 1, 5, none⟩ = some (.int .u32 (val : Nat)) := cell_of_row _ _ _ _ _ _ r1
  have af : ∀ j, W.frozen? ⟨w.heap.size + 1, j, none⟩ = false := fun j => frozen_of_row _ _ _ _ _ r1
  have KH := Lib.hid H0
  have K1 := Lib.hid r1
  have K2 := Lib.hid r2
  have KB := Lib.hid bw
  clear H0 r0 r1 r2 bw
  rw [← HG.out] at TO
  go_upto_region 5 with (first | (go_at_call 36; refine (IS.out _).mono ?_; rintro e w1 ⟨rfl, rfl⟩) | (go_at_call 37; refine (FI.out _).mono ?_; rintro e w' ⟨rfl, qf, rfl⟩) | (go_at_call 38; refine (SG.out _).mono ?_; rintro e w' ⟨rfl, rfl⟩))
  go_upto_region 8 with (go_at_call 39; refine (ST.out _ (by repeat' (first | (with_reducible exact KH.out) | (with_reducible refine HAt.drew1 ?_) | (with_reducible refine HAt.drew ?_ _)))).mono ?_; rintro e w2 ⟨rfl, h2, o2⟩; have HM2 := Lib.hid h2; have RM2 := Lib.hid ((o2.over (w.heap.size + 1 + 1) (by omega) (heap_lt K2.out)).trans K2.out); have AM2 := Lib.hid ((o2.over (w.heap.size + 1) (by omega) (heap_lt K1.out)).trans K1.out); have BM2 := Lib.hid (show Below w.heap.size w w2 from Below.trans (by repeat' (first | (with_reducible exact KB.out) | (with_reducible refine Below.drew ?_) | (with_reducible refine belowKN ?_ _))) o2.below); clear h2 o2)
  have c0 : w2.cell? ⟨w.heap.size, 0, none⟩ = some (.int .u32 (pc : Nat)) := by rw [← PCS.out]; exact HM2.out.pc_
  have cf := HM2.out.fz
  clear a0 a1 a2 a3 a4 a5 af
  go_upto_region 9 with (go_at_call 35; refine (TO.out _ (by repeat' (first | (with_reducible exact HM2.out) | (with_reducible refine HAt.drew1 ?_) | (with_reducible refine HAt.drew ?_ _)))).mono ?_; rintro e w3 ⟨rfl, h3, o3⟩; have HM3 := Lib.hid h3; have RM3 := Lib.hid ((o3.over (w.heap.size + 1 + 1) (by omega) (heap_lt RM2.out)).trans RM2.out); have AM3 := Lib.hid ((o3.over (w.heap.size + 1) (by omega) (heap_lt AM2.out)).trans AM2.out); have BM3 := Lib.hid (show Below w.heap.size w w3 from Below.trans (by repeat' (first | (with_reducible exact BM2.out) | (with_reducible refine Below.drew ?_) | (with_reducible refine belowKN ?_ _))) o3.below); clear h3 o3)
  have HF := HM3
  have RF := RM3
  have BF := BM3
  have hsz := hs_size g
  have hone := hs_one g
  have hrg := HF.out.range
  have hlen := HS.len g
  rw [← HZS.out] at hsz hone hrg hlen
  have HZ := Lib.hid hsz
  have HO := Lib.hid hone
  have HRG := Lib.hid hrg
  have HL := Lib.hid hlen
  clear hsz hone hrg hlen
  refine wp_region_lit ?_
  refine wpList_load_mid rfl 44 _ rfl w.heap.size 0 rfl zs _ HRG.out Tryd.underlying44 rfl (by rw [HL.out]; kernel_rfl) ?_
  try simp only [Act.put, List.setIfInBounds_toArray, List.set_cons_zero, List.set_cons_succ]
  refine Go.wpList_store_rowTo rfl 44 _ _ rfl rfl (w.heap.size + 1 + 1) zs.toArray rfl rfl _ _ RF.out (by rw [HZ.out]; kernel_rfl) (by rw [HZ.out]; rfl) HO.out ?_
  try simp only [Act.put, List.setIfInBounds_toArray, List.set_cons_zero, List.set_cons_succ]
  have F1 := Lib.hid (setRow_heap _ _ _ zs.toArray _ _ RF.out)
  have FB := Lib.hid (below_setRow BF.out (by omega : w.heap.size ≤ w.heap.size + 1 + 1) zs.toArray)
  go_wp2
  exact bodyPost_ret (results_cell_row (p := 6) (ty := 44) (by kernel_rfl) _ _ (w.heap.size + 1 + 1) _ _ _ _ rfl F1.out Tryd.underlying44 rfl (by rw [HZ.out]; kernel_rfl)) rfl ⟨rfl, FB.out⟩
set_option maxHeartbeats 4000000 in
theorem hdone_1_4s (h : HS) (hk : h.ok) (at_ rd : Nat) (hrd : rd < 32) (val v : Nat) (hv : v < 4294967296) (w : World) : Calls Tryd.prog 16 #[.agg h.cells.toArray, .agg #[.int .i64 1, .int .u32 at_, .int .i64 4, .bool true, .int .i64 rd, .int .u32 val], .int .u32 v] w fun e w' => e = .returned (.agg (toH (setH h rd (signN (fromN (fieldB v 0 32) 32) 32)) ((h.pc + 4) % 4294967296)).cells.toArray) ∧ Below w.heap.size w w' := by
  obtain ⟨B0, hB0⟩ : ∃ B0, B0 = w.heap.size := ⟨_, rfl⟩
  have hpc := hk.pc
  have e1 : IntKind.u32.wrap ((h.pc : Int) + 4) = (((h.pc + 4) % 4294967296 : Nat) : Int) := by rw [Go.IntKind.wrap_u32]; omega
  have e2 : ((h.pc : Int) + 4) % 4294967296 = (((h.pc + 4) % 4294967296 : Nat) : Int) := by omega
  have IS := Lib.hid (fun w => his_any (rd : Int) (by omega) (by omega) w)
  have FI := Lib.hid (fun w => pfield_any v hv 0 32 (by decide) (by decide) (by decide) w)
  have fl : fromN (fieldB v 0 32) 32 < 4294967296 := fromN_lt _ 32
  obtain ⟨fx, hfx⟩ : ∃ fx, fx = fromN (fieldB v 0 32) 32 := ⟨_, rfl⟩
  rw [← hfx] at FI fl ⊢
  have SG := Lib.hid (fun w => psign_any fx fl 32 w)
  have xl := signN_lt fx 32
  obtain ⟨x, hx⟩ : ∃ x, x = signN fx 32 := ⟨_, rfl⟩
  rw [← hx] at SG xl ⊢
  have ST := Lib.hid (fun W H => hset_any h B0 rd x hrd W H)
  have pcs : (setH h rd x).pc = h.pc := by unfold setH; split <;> rfl
  have hk2 := setH_ok hk (rd := rd) xl
  obtain ⟨s1, hs1⟩ : ∃ s1, s1 = setH h rd x := ⟨_, rfl⟩
  rw [← hs1] at ST pcs hk2 ⊢
  obtain ⟨q, hq⟩ : ∃ q, q = (h.pc + 4) % 4294967296 := ⟨_, rfl⟩
  rw [← hq] at e1 e2 ⊢
  have hql : q < 4294967296 := by omega
  have TO := Lib.hid (fun W H => hto_any s1 hk2 B0 q hql W H)
  rw [hB0] at TO ST
  obtain ⟨pc, hpq⟩ : ∃ pc, pc = h.pc := ⟨_, rfl⟩
  rw [← hpq] at e1 e2 pcs
  have PCS := Lib.hid pcs
  clear hk hB0 hpc hql hq hpq hk2 pcs hs1 hv fl xl hx hfx hrd
  obtain ⟨cs, hcs⟩ : ∃ cs, cs = h.cells.toArray := ⟨_, rfl⟩
  have HC := Lib.hid hcs
  rw [← hcs]
  clear hcs
  obtain ⟨g, hg⟩ : ∃ g, g = toH s1 q := ⟨_, rfl⟩
  rw [← hg]
  have HG := Lib.hid hg
  obtain ⟨zs, hzs⟩ : ∃ zs, zs = g.cells := ⟨_, rfl⟩
  have HZS := Lib.hid hzs
  rw [← hzs]
  clear hzs hg
  go_enter Tryd.func16, Tryd.ntmps16
  go_upto_region 1 with (fail)
  generalize hW : World.alloc (World.alloc (World.alloc w _) _) _ = W
  obtain ⟨r0, r1, r2, bw⟩ : W.heap[w.heap.size]? = some (.cells cs 44 (0, 0)) ∧ W.heap[w.heap.size + 1]? = some (.cells #[.int .i64 1, .int .u32 at_, .int .i64 4, .bool true, .int .i64 rd, .int .u32 val] 50 (0, 0)) ∧ W.heap[w.heap.size + 1 + 1]? = some (.cells Z42 44 (0, 0)) ∧ Below w.heap.size w W := by rw [← hW]; exact three_rows w _ _ _ _ _ _ _ _ _ rfl rfl rfl
  clear hW
  have H0 := HAt.of_row (h := h) (r := []) (by rw [List.append_nil, ← HC.out]; exact r0)
  have a0 : W.cell? ⟨w.heap.size + 1, 0, none⟩ = some (.int .i64 1) := cell_of_row _ _ _ _ _ _ r1
  have a1 : W.cell? ⟨w.heap.size + 1, 1, none⟩ = some (.int .u32 (at_ : Nat)) := cell_of_row _ _ _ _ _ _ r1
  have a2 : W.cell? ⟨w.heap.size + 1, 2, none⟩ = some (.int .i64 4) := cell_of_row _ _ _ _ _ _ r1
  have a3 : W.cell? ⟨w.heap.size + 1, 3, none⟩ = some (.bool true) := cell_of_row _ _ _ _ _ _ r1
  have a4 : W.cell? ⟨w.heap.size + 1, 4, none⟩ = some (.int .i64 rd) := cell_of_row _ _ _ _ _ _ r1
  have a5 : W.cell? ⟨w.heap.size + 1, 5, none⟩ = some (.int .u32 (val : Nat)) := cell_of_row _ _ _ _ _ _ r1
  have af : ∀ j, W.frozen? ⟨w.heap.size + 1, j, none⟩ = false := fun j => frozen_of_row _ _ _ _ _ r1
  have KH := Lib.hid H0
  have K1 := Lib.hid r1
  have K2 := Lib.hid r2
  have KB := Lib.hid bw
  clear H0 r0 r1 r2 bw
  rw [← HG.out] at TO
  go_upto_region 5 with (first | (go_at_call 36; refine (IS.out _).mono ?_; rintro e w1 ⟨rfl, rfl⟩) | (go_at_call 37; refine (FI.out _).mono ?_; rintro e w' ⟨rfl, qf, rfl⟩) | (go_at_call 38; refine (SG.out _).mono ?_; rintro e w' ⟨rfl, rfl⟩))
  go_upto_region 8 with (go_at_call 39; refine (ST.out _ (by repeat' (first | (with_reducible exact KH.out) | (with_reducible refine HAt.drew1 ?_) | (with_reducible refine HAt.drew ?_ _)))).mono ?_; rintro e w2 ⟨rfl, h2, o2⟩; have HM2 := Lib.hid h2; have RM2 := Lib.hid ((o2.over (w.heap.size + 1 + 1) (by omega) (heap_lt K2.out)).trans K2.out); have AM2 := Lib.hid ((o2.over (w.heap.size + 1) (by omega) (heap_lt K1.out)).trans K1.out); have BM2 := Lib.hid (show Below w.heap.size w w2 from Below.trans (by repeat' (first | (with_reducible exact KB.out) | (with_reducible refine Below.drew ?_) | (with_reducible refine belowKN ?_ _))) o2.below); clear h2 o2)
  have c0 : w2.cell? ⟨w.heap.size, 0, none⟩ = some (.int .u32 (pc : Nat)) := by rw [← PCS.out]; exact HM2.out.pc_
  have cf := HM2.out.fz
  clear a0 a1 a2 a3 a4 a5 af
  go_upto_region 9 with (go_at_call 35; refine (TO.out _ (by repeat' (first | (with_reducible exact HM2.out) | (with_reducible refine HAt.drew1 ?_) | (with_reducible refine HAt.drew ?_ _)))).mono ?_; rintro e w3 ⟨rfl, h3, o3⟩; have HM3 := Lib.hid h3; have RM3 := Lib.hid ((o3.over (w.heap.size + 1 + 1) (by omega) (heap_lt RM2.out)).trans RM2.out); have AM3 := Lib.hid ((o3.over (w.heap.size + 1) (by omega) (heap_lt AM2.out)).trans AM2.out); have BM3 := Lib.hid (show Below w.heap.size w w3 from Below.trans (by repeat' (first | (with_reducible exact BM2.out) | (with_reducible refine Below.drew ?_) | (with_reducible refine belowKN ?_ _))) o3.below); clear h3 o3)
  have HF := HM3
  have RF := RM3
  have BF := BM3
  have hsz := hs_size g
  have hone := hs_one g
  have hrg := HF.out.range
  have hlen := HS.len g
  rw [← HZS.out] at hsz hone hrg hlen
  have HZ := Lib.hid hsz
  have HO := Lib.hid hone
  have HRG := Lib.hid hrg
  have HL := Lib.hid hlen
  clear hsz hone hrg hlen
  refine wp_region_lit ?_
  refine wpList_load_mid rfl 44 _ rfl w.heap.size 0 rfl zs _ HRG.out Tryd.underlying44 rfl (by rw [HL.out]; kernel_rfl) ?_
  try simp only [Act.put, List.setIfInBounds_toArray, List.set_cons_zero, List.set_cons_succ]
  refine Go.wpList_store_rowTo rfl 44 _ _ rfl rfl (w.heap.size + 1 + 1) zs.toArray rfl rfl _ _ RF.out (by rw [HZ.out]; kernel_rfl) (by rw [HZ.out]; rfl) HO.out ?_
  try simp only [Act.put, List.setIfInBounds_toArray, List.set_cons_zero, List.set_cons_succ]
  have F1 := Lib.hid (setRow_heap _ _ _ zs.toArray _ _ RF.out)
  have FB := Lib.hid (below_setRow BF.out (by omega : w.heap.size ≤ w.heap.size + 1 + 1) zs.toArray)
  go_wp2
  exact bodyPost_ret (results_cell_row (p := 6) (ty := 44) (by kernel_rfl) _ _ (w.heap.size + 1 + 1) _ _ _ _ rfl F1.out Tryd.underlying44 rfl (by rw [HZ.out]; kernel_rfl)) rfl ⟨rfl, FB.out⟩
set_option maxHeartbeats 4000000 in
theorem hdone_1_1 (h : HS) (hk : h.ok) (at_ rd : Nat) (hrd : rd < 32) (val v : Nat) (hv : v < 4294967296) (w : World) : Calls Tryd.prog 16 #[.agg h.cells.toArray, .agg #[.int .i64 1, .int .u32 at_, .int .i64 1, .bool false, .int .i64 rd, .int .u32 val], .int .u32 v] w fun e w' => e = .returned (.agg (toH (setH h rd (fromN (fieldB v 0 8) 32)) ((h.pc + 4) % 4294967296)).cells.toArray) ∧ Below w.heap.size w w' := by
  obtain ⟨B0, hB0⟩ : ∃ B0, B0 = w.heap.size := ⟨_, rfl⟩
  have hpc := hk.pc
  have e1 : IntKind.u32.wrap ((h.pc : Int) + 4) = (((h.pc + 4) % 4294967296 : Nat) : Int) := by rw [Go.IntKind.wrap_u32]; omega
  have e2 : ((h.pc : Int) + 4) % 4294967296 = (((h.pc + 4) % 4294967296 : Nat) : Int) := by omega
  have IS := Lib.hid (fun w => his_any (rd : Int) (by omega) (by omega) w)
  have FI := Lib.hid (fun w => pfield_any v hv 0 8 (by decide) (by decide) (by decide) w)
  have fl : fromN (fieldB v 0 8) 32 < 4294967296 := fromN_lt _ 32
  obtain ⟨fx, hfx⟩ : ∃ fx, fx = fromN (fieldB v 0 8) 32 := ⟨_, rfl⟩
  rw [← hfx] at FI fl ⊢
  obtain ⟨x, hx⟩ : ∃ x, x = fx := ⟨_, rfl⟩
  rw [← hx] at FI fl ⊢
  have xl := fl
  have ST := Lib.hid (fun W H => hset_any h B0 rd x hrd W H)
  have pcs : (setH h rd x).pc = h.pc := by unfold setH; split <;> rfl
  have hk2 := setH_ok hk (rd := rd) xl
  obtain ⟨s1, hs1⟩ : ∃ s1, s1 = setH h rd x := ⟨_, rfl⟩
  rw [← hs1] at ST pcs hk2 ⊢
  obtain ⟨q, hq⟩ : ∃ q, q = (h.pc + 4) % 4294967296 := ⟨_, rfl⟩
  rw [← hq] at e1 e2 ⊢
  have hql : q < 4294967296 := by omega
  have TO := Lib.hid (fun W H => hto_any s1 hk2 B0 q hql W H)
  rw [hB0] at TO ST
  obtain ⟨pc, hpq⟩ : ∃ pc, pc = h.pc := ⟨_, rfl⟩
  rw [← hpq] at e1 e2 pcs
  have PCS := Lib.hid pcs
  clear hk hB0 hpc hql hq hpq hk2 pcs hs1 hv fl xl hx hfx hrd
  obtain ⟨cs, hcs⟩ : ∃ cs, cs = h.cells.toArray := ⟨_, rfl⟩
  have HC := Lib.hid hcs
  rw [← hcs]
  clear hcs
  obtain ⟨g, hg⟩ : ∃ g, g = toH s1 q := ⟨_, rfl⟩
  rw [← hg]
  have HG := Lib.hid hg
  obtain ⟨zs, hzs⟩ : ∃ zs, zs = g.cells := ⟨_, rfl⟩
  have HZS := Lib.hid hzs
  rw [← hzs]
  clear hzs hg
  go_enter Tryd.func16, Tryd.ntmps16
  go_upto_region 1 with (fail)
  generalize hW : World.alloc (World.alloc (World.alloc w _) _) _ = W
  obtain ⟨r0, r1, r2, bw⟩ : W.heap[w.heap.size]? = some (.cells cs 44 (0, 0)) ∧ W.heap[w.heap.size + 1]? = some (.cells #[.int .i64 1, .int .u32 at_, .int .i64 1, .bool false, .int .i64 rd, .int .u32 val] 50 (0, 0)) ∧ W.heap[w.heap.size + 1 + 1]? = some (.cells Z42 44 (0, 0)) ∧ Below w.heap.size w W := by rw [← hW]; exact three_rows w _ _ _ _ _ _ _ _ _ rfl rfl rfl
  clear hW
  have H0 := HAt.of_row (h := h) (r := []) (by rw [List.append_nil, ← HC.out]; exact r0)
  have a0 : W.cell? ⟨w.heap.size + 1, 0, none⟩ = some (.int .i64 1) := cell_of_row _ _ _ _ _ _ r1
  have a1 : W.cell? ⟨w.heap.size + 1, 1, none⟩ = some (.int .u32 (at_ : Nat)) := cell_of_row _ _ _ _ _ _ r1
  have a2 : W.cell? ⟨w.heap.size + 1, 2, none⟩ = some (.int .i64 1) := cell_of_row _ _ _ _ _ _ r1
  have a3 : W.cell? ⟨w.heap.size + 1, 3, none⟩ = some (.bool false) := cell_of_row _ _ _ _ _ _ r1
  have a4 : W.cell? ⟨w.heap.size + 1, 4, none⟩ = some (.int .i64 rd) := cell_of_row _ _ _ _ _ _ r1
  have a5 : W.cell? ⟨w.heap.size + 1, 5, none⟩ = some (.int .u32 (val : Nat)) := cell_of_row _ _ _ _ _ _ r1
  have af : ∀ j, W.frozen? ⟨w.heap.size + 1, j, none⟩ = false := fun j => frozen_of_row _ _ _ _ _ r1
  have KH := Lib.hid H0
  have K1 := Lib.hid r1
  have K2 := Lib.hid r2
  have KB := Lib.hid bw
  clear H0 r0 r1 r2 bw
  rw [← HG.out] at TO
  go_upto_region 5 with (first | (go_at_call 36; refine (IS.out _).mono ?_; rintro e w1 ⟨rfl, rfl⟩) | (go_at_call 37; refine (FI.out _).mono ?_; rintro e w' ⟨rfl, qf, rfl⟩))
  go_upto_region 8 with (go_at_call 39; refine (ST.out _ (by repeat' (first | (with_reducible exact KH.out) | (with_reducible refine HAt.drew1 ?_) | (with_reducible refine HAt.drew ?_ _)))).mono ?_; rintro e w2 ⟨rfl, h2, o2⟩; have HM2 := Lib.hid h2; have RM2 := Lib.hid ((o2.over (w.heap.size + 1 + 1) (by omega) (heap_lt K2.out)).trans K2.out); have AM2 := Lib.hid ((o2.over (w.heap.size + 1) (by omega) (heap_lt K1.out)).trans K1.out); have BM2 := Lib.hid (show Below w.heap.size w w2 from Below.trans (by repeat' (first | (with_reducible exact KB.out) | (with_reducible refine Below.drew ?_) | (with_reducible refine belowKN ?_ _))) o2.below); clear h2 o2)
  have c0 : w2.cell? ⟨w.heap.size, 0, none⟩ = some (.int .u32 (pc : Nat)) := by rw [← PCS.out]; exact HM2.out.pc_
  have cf := HM2.out.fz
  clear a0 a1 a2 a3 a4 a5 af
  go_upto_region 9 with (go_at_call 35; refine (TO.out _ (by repeat' (first | (with_reducible exact HM2.out) | (with_reducible refine HAt.drew1 ?_) | (with_reducible refine HAt.drew ?_ _)))).mono ?_; rintro e w3 ⟨rfl, h3, o3⟩; have HM3 := Lib.hid h3; have RM3 := Lib.hid ((o3.over (w.heap.size + 1 + 1) (by omega) (heap_lt RM2.out)).trans RM2.out); have AM3 := Lib.hid ((o3.over (w.heap.size + 1) (by omega) (heap_lt AM2.out)).trans AM2.out); have BM3 := Lib.hid (show Below w.heap.size w w3 from Below.trans (by repeat' (first | (with_reducible exact BM2.out) | (with_reducible refine Below.drew ?_) | (with_reducible refine belowKN ?_ _))) o3.below); clear h3 o3)
  have HF := HM3
  have RF := RM3
  have BF := BM3
  have hsz := hs_size g
  have hone := hs_one g
  have hrg := HF.out.range
  have hlen := HS.len g
  rw [← HZS.out] at hsz hone hrg hlen
  have HZ := Lib.hid hsz
  have HO := Lib.hid hone
  have HRG := Lib.hid hrg
  have HL := Lib.hid hlen
  clear hsz hone hrg hlen
  refine wp_region_lit ?_
  refine wpList_load_mid rfl 44 _ rfl w.heap.size 0 rfl zs _ HRG.out Tryd.underlying44 rfl (by rw [HL.out]; kernel_rfl) ?_
  try simp only [Act.put, List.setIfInBounds_toArray, List.set_cons_zero, List.set_cons_succ]
  refine Go.wpList_store_rowTo rfl 44 _ _ rfl rfl (w.heap.size + 1 + 1) zs.toArray rfl rfl _ _ RF.out (by rw [HZ.out]; kernel_rfl) (by rw [HZ.out]; rfl) HO.out ?_
  try simp only [Act.put, List.setIfInBounds_toArray, List.set_cons_zero, List.set_cons_succ]
  have F1 := Lib.hid (setRow_heap _ _ _ zs.toArray _ _ RF.out)
  have FB := Lib.hid (below_setRow BF.out (by omega : w.heap.size ≤ w.heap.size + 1 + 1) zs.toArray)
  go_wp2
  exact bodyPost_ret (results_cell_row (p := 6) (ty := 44) (by kernel_rfl) _ _ (w.heap.size + 1 + 1) _ _ _ _ rfl F1.out Tryd.underlying44 rfl (by rw [HZ.out]; kernel_rfl)) rfl ⟨rfl, FB.out⟩
set_option maxHeartbeats 4000000 in
theorem hdone_1_2 (h : HS) (hk : h.ok) (at_ rd : Nat) (hrd : rd < 32) (val v : Nat) (hv : v < 4294967296) (w : World) : Calls Tryd.prog 16 #[.agg h.cells.toArray, .agg #[.int .i64 1, .int .u32 at_, .int .i64 2, .bool false, .int .i64 rd, .int .u32 val], .int .u32 v] w fun e w' => e = .returned (.agg (toH (setH h rd (fromN (fieldB v 0 16) 32)) ((h.pc + 4) % 4294967296)).cells.toArray) ∧ Below w.heap.size w w' := by
  obtain ⟨B0, hB0⟩ : ∃ B0, B0 = w.heap.size := ⟨_, rfl⟩
  have hpc := hk.pc
  have e1 : IntKind.u32.wrap ((h.pc : Int) + 4) = (((h.pc + 4) % 4294967296 : Nat) : Int) := by rw [Go.IntKind.wrap_u32]; omega
  have e2 : ((h.pc : Int) + 4) % 4294967296 = (((h.pc + 4) % 4294967296 : Nat) : Int) := by omega
  have IS := Lib.hid (fun w => his_any (rd : Int) (by omega) (by omega) w)
  have FI := Lib.hid (fun w => pfield_any v hv 0 16 (by decide) (by decide) (by decide) w)
  have fl : fromN (fieldB v 0 16) 32 < 4294967296 := fromN_lt _ 32
  obtain ⟨fx, hfx⟩ : ∃ fx, fx = fromN (fieldB v 0 16) 32 := ⟨_, rfl⟩
  rw [← hfx] at FI fl ⊢
  obtain ⟨x, hx⟩ : ∃ x, x = fx := ⟨_, rfl⟩
  rw [← hx] at FI fl ⊢
  have xl := fl
  have ST := Lib.hid (fun W H => hset_any h B0 rd x hrd W H)
  have pcs : (setH h rd x).pc = h.pc := by unfold setH; split <;> rfl
  have hk2 := setH_ok hk (rd := rd) xl
  obtain ⟨s1, hs1⟩ : ∃ s1, s1 = setH h rd x := ⟨_, rfl⟩
  rw [← hs1] at ST pcs hk2 ⊢
  obtain ⟨q, hq⟩ : ∃ q, q = (h.pc + 4) % 4294967296 := ⟨_, rfl⟩
  rw [← hq] at e1 e2 ⊢
  have hql : q < 4294967296 := by omega
  have TO := Lib.hid (fun W H => hto_any s1 hk2 B0 q hql W H)
  rw [hB0] at TO ST
  obtain ⟨pc, hpq⟩ : ∃ pc, pc = h.pc := ⟨_, rfl⟩
  rw [← hpq] at e1 e2 pcs
  have PCS := Lib.hid pcs
  clear hk hB0 hpc hql hq hpq hk2 pcs hs1 hv fl xl hx hfx hrd
  obtain ⟨cs, hcs⟩ : ∃ cs, cs = h.cells.toArray := ⟨_, rfl⟩
  have HC := Lib.hid hcs
  rw [← hcs]
  clear hcs
  obtain ⟨g, hg⟩ : ∃ g, g = toH s1 q := ⟨_, rfl⟩
  rw [← hg]
  have HG := Lib.hid hg
  obtain ⟨zs, hzs⟩ : ∃ zs, zs = g.cells := ⟨_, rfl⟩
  have HZS := Lib.hid hzs
  rw [← hzs]
  clear hzs hg
  go_enter Tryd.func16, Tryd.ntmps16
  go_upto_region 1 with (fail)
  generalize hW : World.alloc (World.alloc (World.alloc w _) _) _ = W
  obtain ⟨r0, r1, r2, bw⟩ : W.heap[w.heap.size]? = some (.cells cs 44 (0, 0)) ∧ W.heap[w.heap.size + 1]? = some (.cells #[.int .i64 1, .int .u32 at_, .int .i64 2, .bool false, .int .i64 rd, .int .u32 val] 50 (0, 0)) ∧ W.heap[w.heap.size + 1 + 1]? = some (.cells Z42 44 (0, 0)) ∧ Below w.heap.size w W := by rw [← hW]; exact three_rows w _ _ _ _ _ _ _ _ _ rfl rfl rfl
  clear hW
  have H0 := HAt.of_row (h := h) (r := []) (by rw [List.append_nil, ← HC.out]; exact r0)
  have a0 : W.cell? ⟨w.heap.size + 1, 0, none⟩ = some (.int .i64 1) := cell_of_row _ _ _ _ _ _ r1
  have a1 : W.cell? ⟨w.heap.size + 1, 1, none⟩ = some (.int .u32 (at_ : Nat)) := cell_of_row _ _ _ _ _ _ r1
  have a2 : W.cell? ⟨w.heap.size + 1, 2, none⟩ = some (.int .i64 2) := cell_of_row _ _ _ _ _ _ r1
  have a3 : W.cell? ⟨w.heap.size + 1, 3, none⟩ = some (.bool false) := cell_of_row _ _ _ _ _ _ r1
  have a4 : W.cell? ⟨w.heap.size + 1, 4, none⟩ = some (.int .i64 rd) := cell_of_row _ _ _ _ _ _ r1
  have a5 : W.cell? ⟨w.heap.size + 1, 5, none⟩ = some (.int .u32 (val : Nat)) := cell_of_row _ _ _ _ _ _ r1
  have af : ∀ j, W.frozen? ⟨w.heap.size + 1, j, none⟩ = false := fun j => frozen_of_row _ _ _ _ _ r1
  have KH := Lib.hid H0
  have K1 := Lib.hid r1
  have K2 := Lib.hid r2
  have KB := Lib.hid bw
  clear H0 r0 r1 r2 bw
  rw [← HG.out] at TO
  go_upto_region 5 with (first | (go_at_call 36; refine (IS.out _).mono ?_; rintro e w1 ⟨rfl, rfl⟩) | (go_at_call 37; refine (FI.out _).mono ?_; rintro e w' ⟨rfl, qf, rfl⟩))
  go_upto_region 8 with (go_at_call 39; refine (ST.out _ (by repeat' (first | (with_reducible exact KH.out) | (with_reducible refine HAt.drew1 ?_) | (with_reducible refine HAt.drew ?_ _)))).mono ?_; rintro e w2 ⟨rfl, h2, o2⟩; have HM2 := Lib.hid h2; have RM2 := Lib.hid ((o2.over (w.heap.size + 1 + 1) (by omega) (heap_lt K2.out)).trans K2.out); have AM2 := Lib.hid ((o2.over (w.heap.size + 1) (by omega) (heap_lt K1.out)).trans K1.out); have BM2 := Lib.hid (show Below w.heap.size w w2 from Below.trans (by repeat' (first | (with_reducible exact KB.out) | (with_reducible refine Below.drew ?_) | (with_reducible refine belowKN ?_ _))) o2.below); clear h2 o2)
  have c0 : w2.cell? ⟨w.heap.size, 0, none⟩ = some (.int .u32 (pc : Nat)) := by rw [← PCS.out]; exact HM2.out.pc_
  have cf := HM2.out.fz
  clear a0 a1 a2 a3 a4 a5 af
  go_upto_region 9 with (go_at_call 35; refine (TO.out _ (by repeat' (first | (with_reducible exact HM2.out) | (with_reducible refine HAt.drew1 ?_) | (with_reducible refine HAt.drew ?_ _)))).mono ?_; rintro e w3 ⟨rfl, h3, o3⟩; have HM3 := Lib.hid h3; have RM3 := Lib.hid ((o3.over (w.heap.size + 1 + 1) (by omega) (heap_lt RM2.out)).trans RM2.out); have AM3 := Lib.hid ((o3.over (w.heap.size + 1) (by omega) (heap_lt AM2.out)).trans AM2.out); have BM3 := Lib.hid (show Below w.heap.size w w3 from Below.trans (by repeat' (first | (with_reducible exact BM2.out) | (with_reducible refine Below.drew ?_) | (with_reducible refine belowKN ?_ _))) o3.below); clear h3 o3)
  have HF := HM3
  have RF := RM3
  have BF := BM3
  have hsz := hs_size g
  have hone := hs_one g
  have hrg := HF.out.range
  have hlen := HS.len g
  rw [← HZS.out] at hsz hone hrg hlen
  have HZ := Lib.hid hsz
  have HO := Lib.hid hone
  have HRG := Lib.hid hrg
  have HL := Lib.hid hlen
  clear hsz hone hrg hlen
  refine wp_region_lit ?_
  refine wpList_load_mid rfl 44 _ rfl w.heap.size 0 rfl zs _ HRG.out Tryd.underlying44 rfl (by rw [HL.out]; kernel_rfl) ?_
  try simp only [Act.put, List.setIfInBounds_toArray, List.set_cons_zero, List.set_cons_succ]
  refine Go.wpList_store_rowTo rfl 44 _ _ rfl rfl (w.heap.size + 1 + 1) zs.toArray rfl rfl _ _ RF.out (by rw [HZ.out]; kernel_rfl) (by rw [HZ.out]; rfl) HO.out ?_
  try simp only [Act.put, List.setIfInBounds_toArray, List.set_cons_zero, List.set_cons_succ]
  have F1 := Lib.hid (setRow_heap _ _ _ zs.toArray _ _ RF.out)
  have FB := Lib.hid (below_setRow BF.out (by omega : w.heap.size ≤ w.heap.size + 1 + 1) zs.toArray)
  go_wp2
  exact bodyPost_ret (results_cell_row (p := 6) (ty := 44) (by kernel_rfl) _ _ (w.heap.size + 1 + 1) _ _ _ _ rfl F1.out Tryd.underlying44 rfl (by rw [HZ.out]; kernel_rfl)) rfl ⟨rfl, FB.out⟩
set_option maxHeartbeats 4000000 in
theorem hdone_1_4 (h : HS) (hk : h.ok) (at_ rd : Nat) (hrd : rd < 32) (val v : Nat) (hv : v < 4294967296) (w : World) : Calls Tryd.prog 16 #[.agg h.cells.toArray, .agg #[.int .i64 1, .int .u32 at_, .int .i64 4, .bool false, .int .i64 rd, .int .u32 val], .int .u32 v] w fun e w' => e = .returned (.agg (toH (setH h rd (fromN (fieldB v 0 32) 32)) ((h.pc + 4) % 4294967296)).cells.toArray) ∧ Below w.heap.size w w' := by
  obtain ⟨B0, hB0⟩ : ∃ B0, B0 = w.heap.size := ⟨_, rfl⟩
  have hpc := hk.pc
  have e1 : IntKind.u32.wrap ((h.pc : Int) + 4) = (((h.pc + 4) % 4294967296 : Nat) : Int) := by rw [Go.IntKind.wrap_u32]; omega
  have e2 : ((h.pc : Int) + 4) % 4294967296 = (((h.pc + 4) % 4294967296 : Nat) : Int) := by omega
  have IS := Lib.hid (fun w => his_any (rd : Int) (by omega) (by omega) w)
  have FI := Lib.hid (fun w => pfield_any v hv 0 32 (by decide) (by decide) (by decide) w)
  have fl : fromN (fieldB v 0 32) 32 < 4294967296 := fromN_lt _ 32
  obtain ⟨fx, hfx⟩ : ∃ fx, fx = fromN (fieldB v 0 32) 32 := ⟨_, rfl⟩
  rw [← hfx] at FI fl ⊢
  obtain ⟨x, hx⟩ : ∃ x, x = fx := ⟨_, rfl⟩
  rw [← hx] at FI fl ⊢
  have xl := fl
  have ST := Lib.hid (fun W H => hset_any h B0 rd x hrd W H)
  have pcs : (setH h rd x).pc = h.pc := by unfold setH; split <;> rfl
  have hk2 := setH_ok hk (rd := rd) xl
  obtain ⟨s1, hs1⟩ : ∃ s1, s1 = setH h rd x := ⟨_, rfl⟩
  rw [← hs1] at ST pcs hk2 ⊢
  obtain ⟨q, hq⟩ : ∃ q, q = (h.pc + 4) % 4294967296 := ⟨_, rfl⟩
  rw [← hq] at e1 e2 ⊢
  have hql : q < 4294967296 := by omega
  have TO := Lib.hid (fun W H => hto_any s1 hk2 B0 q hql W H)
  rw [hB0] at TO ST
  obtain ⟨pc, hpq⟩ : ∃ pc, pc = h.pc := ⟨_, rfl⟩
  rw [← hpq] at e1 e2 pcs
  have PCS := Lib.hid pcs
  clear hk hB0 hpc hql hq hpq hk2 pcs hs1 hv fl xl hx hfx hrd
  obtain ⟨cs, hcs⟩ : ∃ cs, cs = h.cells.toArray := ⟨_, rfl⟩
  have HC := Lib.hid hcs
  rw [← hcs]
  clear hcs
  obtain ⟨g, hg⟩ : ∃ g, g = toH s1 q := ⟨_, rfl⟩
  rw [← hg]
  have HG := Lib.hid hg
  obtain ⟨zs, hzs⟩ : ∃ zs, zs = g.cells := ⟨_, rfl⟩
  have HZS := Lib.hid hzs
  rw [← hzs]
  clear hzs hg
  go_enter Tryd.func16, Tryd.ntmps16
  go_upto_region 1 with (fail)
  generalize hW : World.alloc (World.alloc (World.alloc w _) _) _ = W
  obtain ⟨r0, r1, r2, bw⟩ : W.heap[w.heap.size]? = some (.cells cs 44 (0, 0)) ∧ W.heap[w.heap.size + 1]? = some (.cells #[.int .i64 1, .int .u32 at_, .int .i64 4, .bool false, .int .i64 rd, .int .u32 val] 50 (0, 0)) ∧ W.heap[w.heap.size + 1 + 1]? = some (.cells Z42 44 (0, 0)) ∧ Below w.heap.size w W := by rw [← hW]; exact three_rows w _ _ _ _ _ _ _ _ _ rfl rfl rfl
  clear hW
  have H0 := HAt.of_row (h := h) (r := []) (by rw [List.append_nil, ← HC.out]; exact r0)
  have a0 : W.cell? ⟨w.heap.size + 1, 0, none⟩ = some (.int .i64 1) := cell_of_row _ _ _ _ _ _ r1
  have a1 : W.cell? ⟨w.heap.size + 1, 1, none⟩ = some (.int .u32 (at_ : Nat)) := cell_of_row _ _ _ _ _ _ r1
  have a2 : W.cell? ⟨w.heap.size + 1, 2, none⟩ = some (.int .i64 4) := cell_of_row _ _ _ _ _ _ r1
  have a3 : W.cell? ⟨w.heap.size + 1, 3, none⟩ = some (.bool false) := cell_of_row _ _ _ _ _ _ r1
  have a4 : W.cell? ⟨w.heap.size + 1, 4, none⟩ = some (.int .i64 rd) := cell_of_row _ _ _ _ _ _ r1
  have a5 : W.cell? ⟨w.heap.size + 1, 5, none⟩ = some (.int .u32 (val : Nat)) := cell_of_row _ _ _ _ _ _ r1
  have af : ∀ j, W.frozen? ⟨w.heap.size + 1, j, none⟩ = false := fun j => frozen_of_row _ _ _ _ _ r1
  have KH := Lib.hid H0
  have K1 := Lib.hid r1
  have K2 := Lib.hid r2
  have KB := Lib.hid bw
  clear H0 r0 r1 r2 bw
  rw [← HG.out] at TO
  go_upto_region 5 with (first | (go_at_call 36; refine (IS.out _).mono ?_; rintro e w1 ⟨rfl, rfl⟩) | (go_at_call 37; refine (FI.out _).mono ?_; rintro e w' ⟨rfl, qf, rfl⟩))
  go_upto_region 8 with (go_at_call 39; refine (ST.out _ (by repeat' (first | (with_reducible exact KH.out) | (with_reducible refine HAt.drew1 ?_) | (with_reducible refine HAt.drew ?_ _)))).mono ?_; rintro e w2 ⟨rfl, h2, o2⟩; have HM2 := Lib.hid h2; have RM2 := Lib.hid ((o2.over (w.heap.size + 1 + 1) (by omega) (heap_lt K2.out)).trans K2.out); have AM2 := Lib.hid ((o2.over (w.heap.size + 1) (by omega) (heap_lt K1.out)).trans K1.out); have BM2 := Lib.hid (show Below w.heap.size w w2 from Below.trans (by repeat' (first | (with_reducible exact KB.out) | (with_reducible refine Below.drew ?_) | (with_reducible refine belowKN ?_ _))) o2.below); clear h2 o2)
  have c0 : w2.cell? ⟨w.heap.size, 0, none⟩ = some (.int .u32 (pc : Nat)) := by rw [← PCS.out]; exact HM2.out.pc_
  have cf := HM2.out.fz
  clear a0 a1 a2 a3 a4 a5 af
  go_upto_region 9 with (go_at_call 35; refine (TO.out _ (by repeat' (first | (with_reducible exact HM2.out) | (with_reducible refine HAt.drew1 ?_) | (with_reducible refine HAt.drew ?_ _)))).mono ?_; rintro e w3 ⟨rfl, h3, o3⟩; have HM3 := Lib.hid h3; have RM3 := Lib.hid ((o3.over (w.heap.size + 1 + 1) (by omega) (heap_lt RM2.out)).trans RM2.out); have AM3 := Lib.hid ((o3.over (w.heap.size + 1) (by omega) (heap_lt AM2.out)).trans AM2.out); have BM3 := Lib.hid (show Below w.heap.size w w3 from Below.trans (by repeat' (first | (with_reducible exact BM2.out) | (with_reducible refine Below.drew ?_) | (with_reducible refine belowKN ?_ _))) o3.below); clear h3 o3)
  have HF := HM3
  have RF := RM3
  have BF := BM3
  have hsz := hs_size g
  have hone := hs_one g
  have hrg := HF.out.range
  have hlen := HS.len g
  rw [← HZS.out] at hsz hone hrg hlen
  have HZ := Lib.hid hsz
  have HO := Lib.hid hone
  have HRG := Lib.hid hrg
  have HL := Lib.hid hlen
  clear hsz hone hrg hlen
  refine wp_region_lit ?_
  refine wpList_load_mid rfl 44 _ rfl w.heap.size 0 rfl zs _ HRG.out Tryd.underlying44 rfl (by rw [HL.out]; kernel_rfl) ?_
  try simp only [Act.put, List.setIfInBounds_toArray, List.set_cons_zero, List.set_cons_succ]
  refine Go.wpList_store_rowTo rfl 44 _ _ rfl rfl (w.heap.size + 1 + 1) zs.toArray rfl rfl _ _ RF.out (by rw [HZ.out]; kernel_rfl) (by rw [HZ.out]; rfl) HO.out ?_
  try simp only [Act.put, List.setIfInBounds_toArray, List.set_cons_zero, List.set_cons_succ]
  have F1 := Lib.hid (setRow_heap _ _ _ zs.toArray _ _ RF.out)
  have FB := Lib.hid (below_setRow BF.out (by omega : w.heap.size ≤ w.heap.size + 1 + 1) zs.toArray)
  go_wp2
  exact bodyPost_ret (results_cell_row (p := 6) (ty := 44) (by kernel_rfl) _ _ (w.heap.size + 1 + 1) _ _ _ _ rfl F1.out Tryd.underlying44 rfl (by rw [HZ.out]; kernel_rfl)) rfl ⟨rfl, FB.out⟩
set_option maxHeartbeats 4000000 in
theorem hdone_2 (h : HS) (hk : h.ok) (at_ : Nat) (n : Int) (sg : Bool) (rd : Int) (val v : Nat) (w : World) : Calls Tryd.prog 16 #[.agg h.cells.toArray, .agg #[.int .i64 2, .int .u32 at_, .int .i64 n, .bool sg, .int .i64 rd, .int .u32 val], .int .u32 v] w fun e w' => e = .returned (.agg (toH h ((h.pc + 4) % 4294967296)).cells.toArray) ∧ Below w.heap.size w w' := by
  obtain ⟨B0, hB0⟩ : ∃ B0, B0 = w.heap.size := ⟨_, rfl⟩
  have hpc := hk.pc
  have e1 : IntKind.u32.wrap ((h.pc : Int) + 4) = (((h.pc + 4) % 4294967296 : Nat) : Int) := by rw [Go.IntKind.wrap_u32]; omega
  have e2 : ((h.pc : Int) + 4) % 4294967296 = (((h.pc + 4) % 4294967296 : Nat) : Int) := by omega
  obtain ⟨q, hq⟩ : ∃ q, q = (h.pc + 4) % 4294967296 := ⟨_, rfl⟩
  rw [← hq] at e1 e2 ⊢
  have hql : q < 4294967296 := by omega
  have TO := Lib.hid (fun W H => hto_any h hk B0 q hql W H)
  rw [hB0] at TO
  obtain ⟨pc, hpq⟩ : ∃ pc, pc = h.pc := ⟨_, rfl⟩
  rw [← hpq] at e1 e2
  have PCS := Lib.hid hpq.symm
  clear hk hB0 hpc hql hq hpq
  obtain ⟨cs, hcs⟩ : ∃ cs, cs = h.cells.toArray := ⟨_, rfl⟩
  have HC := Lib.hid hcs
  rw [← hcs]
  clear hcs
  obtain ⟨g, hg⟩ : ∃ g, g = toH h q := ⟨_, rfl⟩
  rw [← hg]
  have HG := Lib.hid hg
  obtain ⟨zs, hzs⟩ : ∃ zs, zs = g.cells := ⟨_, rfl⟩
  have HZS := Lib.hid hzs
  rw [← hzs]
  clear hzs hg
  go_enter Tryd.func16, Tryd.ntmps16
  go_upto_region 1 with (fail)
  generalize hW : World.alloc (World.alloc (World.alloc w _) _) _ = W
  obtain ⟨r0, r1, r2, bw⟩ : W.heap[w.heap.size]? = some (.cells cs 44 (0, 0)) ∧ W.heap[w.heap.size + 1]? = some (.cells #[.int .i64 2, .int .u32 at_, .int .i64 n, .bool sg, .int .i64 rd, .int .u32 val] 50 (0, 0)) ∧ W.heap[w.heap.size + 1 + 1]? = some (.cells Z42 44 (0, 0)) ∧ Below w.heap.size w W := by rw [← hW]; exact three_rows w _ _ _ _ _ _ _ _ _ rfl rfl rfl
  clear hW
  have H0 := HAt.of_row (h := h) (r := []) (by rw [List.append_nil, ← HC.out]; exact r0)
  have a0 : W.cell? ⟨w.heap.size + 1, 0, none⟩ = some (.int .i64 2) := cell_of_row _ _ _ _ _ _ r1
  have a1 : W.cell? ⟨w.heap.size + 1, 1, none⟩ = some (.int .u32 (at_ : Nat)) := cell_of_row _ _ _ _ _ _ r1
  have a2 : W.cell? ⟨w.heap.size + 1, 2, none⟩ = some (.int .i64 n) := cell_of_row _ _ _ _ _ _ r1
  have a3 : W.cell? ⟨w.heap.size + 1, 3, none⟩ = some (.bool sg) := cell_of_row _ _ _ _ _ _ r1
  have a4 : W.cell? ⟨w.heap.size + 1, 4, none⟩ = some (.int .i64 rd) := cell_of_row _ _ _ _ _ _ r1
  have a5 : W.cell? ⟨w.heap.size + 1, 5, none⟩ = some (.int .u32 (val : Nat)) := cell_of_row _ _ _ _ _ _ r1
  have af : ∀ j, W.frozen? ⟨w.heap.size + 1, j, none⟩ = false := fun j => frozen_of_row _ _ _ _ _ r1
  have KH := Lib.hid H0
  have K1 := Lib.hid r1
  have K2 := Lib.hid r2
  have KB := Lib.hid bw
  clear H0 r0 r1 r2 bw
  skip
  rw [← HG.out] at TO
  have c0 : W.cell? ⟨w.heap.size, 0, none⟩ = some (.int .u32 (pc : Nat)) := by rw [← PCS.out]; exact KH.out.pc_
  have cf := KH.out.fz
  go_upto_region 9 with (go_at_call 35; refine (TO.out _ (by repeat' (first | (with_reducible exact KH.out) | (with_reducible refine HAt.drew1 ?_) | (with_reducible refine HAt.drew ?_ _)))).mono ?_; rintro e w3 ⟨rfl, h3, o3⟩; have HM3 := Lib.hid h3; have RM3 := Lib.hid ((o3.over (w.heap.size + 1 + 1) (by omega) (heap_lt K2.out)).trans K2.out); have AM3 := Lib.hid ((o3.over (w.heap.size + 1) (by omega) (heap_lt K1.out)).trans K1.out); have BM3 := Lib.hid (show Below w.heap.size w w3 from Below.trans (by repeat' (first | (with_reducible exact KB.out) | (with_reducible refine Below.drew ?_) | (with_reducible refine belowKN ?_ _))) o3.below); clear h3 o3)
  have HF := HM3
  have RF := RM3
  have BF := BM3
  have hsz := hs_size g
  have hone := hs_one g
  have hrg := HF.out.range
  have hlen := HS.len g
  rw [← HZS.out] at hsz hone hrg hlen
  have HZ := Lib.hid hsz
  have HO := Lib.hid hone
  have HRG := Lib.hid hrg
  have HL := Lib.hid hlen
  clear hsz hone hrg hlen
  refine wp_region_lit ?_
  refine wpList_load_mid rfl 44 _ rfl w.heap.size 0 rfl zs _ HRG.out Tryd.underlying44 rfl (by rw [HL.out]; kernel_rfl) ?_
  try simp only [Act.put, List.setIfInBounds_toArray, List.set_cons_zero, List.set_cons_succ]
  refine Go.wpList_store_rowTo rfl 44 _ _ rfl rfl (w.heap.size + 1 + 1) zs.toArray rfl rfl _ _ RF.out (by rw [HZ.out]; kernel_rfl) (by rw [HZ.out]; rfl) HO.out ?_
  try simp only [Act.put, List.setIfInBounds_toArray, List.set_cons_zero, List.set_cons_succ]
  have F1 := Lib.hid (setRow_heap _ _ _ zs.toArray _ _ RF.out)
  have FB := Lib.hid (below_setRow BF.out (by omega : w.heap.size ≤ w.heap.size + 1 + 1) zs.toArray)
  go_wp2
  exact bodyPost_ret (results_cell_row (p := 6) (ty := 44) (by kernel_rfl) _ _ (w.heap.size + 1 + 1) _ _ _ _ rfl F1.out Tryd.underlying44 rfl (by rw [HZ.out]; kernel_rfl)) rfl ⟨rfl, FB.out⟩

end Go.Proofs.YtphlgaklfibciaaDoor
