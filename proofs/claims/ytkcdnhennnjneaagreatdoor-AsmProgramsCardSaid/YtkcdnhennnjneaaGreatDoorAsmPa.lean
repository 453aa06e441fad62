import Derived.Test.YtkcdnhennnjneaaGreatDoorAsmRd
import Derived.Below
import Derived.Deep.Draws
import Derived.Deep.AppendLies
import Derived.Maps.AppendAt
import Derived.OwnWalk
import Derived.Laws.BytesArg
import Derived.Laws.MakeOwn
import Derived.Laws.OwnMore
import Derived.Deep.OwnRows
import Derived.Tactics
import Derived.Lib.ConvBytes
import Derived.Laws.Slices
import Derived.WalkKit
import Derived.KernelRfl
import Derived.RowKit3
import Derived.Deep.LoopGhost
import Derived.Deep.QuietTactic
import Derived.BigQuiet
import Derived.WideLaws
import Derived.Deep.DeepCutAuto
import Derived.Deep.CutBlock
import Derived.Deep.RegionHeld3
import Derived.Laws.Rows
import Derived.Lib.AppendStr
import Derived.ArgAppend
import Derived.Laws.IdiomCopy
import Derived.OrdersHeld
import Derived.Laws.BitsLemmas
import Derived.RowKit
import Derived.Lib.Hide
import Derived.Laws.BitsAllLaws
import Derived.WalkLawsBesides
import Derived.WalkSpells
import Derived.LaidEql
namespace Go.Proofs.YtkcdnhennnjneaaGreatDoor
open Go.RowKit
set_option maxRecDepth 100000
set_option linter.unusedVariables false
set_option linter.unusedSimpArgs false

theorem aparts_any {B : Nat} (x : List UInt8) (hx : x.length ≤ 70000) (w : World) (E : Env B w) : Calls Tryz.prog 44 #[.string (bs x)] w fun e w' => (∃ A, e = .returned (.tuple #[.string (bs (partsT x).1), .slice A (partsT x).2.length (partsT x).2.length]) ∧ ((partsT x).2 = [] ∨ ∃ N, A = some ⟨N, 0, none⟩ ∧ w.heap.size ≤ N ∧ w'.heap[N]? = some (.cells ((partsT x).2.map fun y => Value.string (bs y)).toArray 9 (0, 0)))) ∧ Below w.heap.size w w' := by
  have CU : Hid (∀ w, Env B w → Calls Tryz.prog 51 #[.string (bs x), .string ⟨#[32]⟩] w fun e w' => e = .returned (.tuple #[.string (bs (Lib.cut x [32]).1), .string (bs (Lib.cut x [32]).2.1), .bool (Lib.cut x [32]).2.2]) ∧ ∃ n, w.drewN n = w') := Lib.hid (fun w E => cut_any x [32] hx w E)
  obtain ⟨l1, l2⟩ := cut_len x [32]
  have HE := Lib.hid E
  unfold partsT
  obtain ⟨a, ha⟩ : ∃ a, a = (Lib.cut x [32]).1 := ⟨_, rfl⟩
  obtain ⟨r, hr⟩ : ∃ r, r = (Lib.cut x [32]).2.1 := ⟨_, rfl⟩
  obtain ⟨m, hm⟩ : ∃ m, m = (Lib.cut x [32]).2.2 := ⟨_, rfl⟩
  rw [← ha, ← hr, ← hm] at CU
  rw [← ha, ← hr, ← hm]
  rw [← hr] at l2
  have SP : Hid (∀ w, Env B w → Calls Tryz.prog 50 #[.string (bs r), .string ⟨#[44, 32]⟩] w fun e w' => e = .returned (.slice (some ⟨w.heap.size, 0, none⟩) (Lib.split r [44, 32]).length (Lib.split r [44, 32]).length) ∧ w' = w.alloc (.cells ((Lib.split r [44, 32]).map fun x => Value.string (bs x)).toArray 9)) := Lib.hid (fun w E => split_any r [44, 32] (by omega) (by decide) w E)
  clear ha hr hm l1 l2 hx E
  generalize Lib.split r [44, 32] = l at SP ⊢
  cases m with
  | false =>
    simp only [if_false, Bool.false_eq_true]
    go_enter Tryz.func44, Tryz.ntmps44
    go_wp2_with (go_at_call 51; refine (CU.out _ HE.out).mono ?_; rintro e w' ⟨rfl, kd, rfl⟩)
    go_ret2
    exact ⟨⟨none, rfl, Or.inl trivial⟩, belowKN (Below.refl _ _) kd⟩
  | true =>
    simp only [if_true]
    go_enter Tryz.func44, Tryz.ntmps44
    go_wp2_with (first | (go_at_call 51; refine (CU.out _ HE.out).mono ?_; rintro e w' ⟨rfl, kd, rfl⟩; have E1 := Lib.hid (HE.out.below (belowKN (Below.refl _ _) kd)); have B1 := Lib.hid (belowKN (Below.refl w.heap.size w) kd)) | (go_at_call 50; refine (SP.out _ E1.out).mono ?_; rintro e w2 ⟨rfl, hw2⟩; have B2 : Hid (Below w.heap.size w w2) := Lib.hid (by rw [hw2]; exact B1.out.alloc B1.out.size _); have R2 := Lib.hid (heap_alloc_new (w.drewN kd) (.cells (l.map fun x => Value.string (bs x)).toArray 9)); rw [← hw2] at R2; clear hw2))
    go_ret2
    exact ⟨⟨_, rfl, Or.inr ⟨_, rfl, B1.out.size, R2.out⟩⟩, B2.out⟩

theorem scan_new {w : World} {A : Option Addr} {l : List (List UInt8)} {K : Nat} (hr : w.heap[K]? = some (.cells #[.slice A l.length l.length, .bool false] 93 (0, 0))) (hs : ∀ x ∈ l, x.length ≤ 70000) (h : l = [] ∨ ∃ N, A = some ⟨N, 0, none⟩ ∧ N < K ∧ w.heap[N]? = some (.cells (l.map fun y => Value.string (bs y)).toArray 9 (0, 0))) : ScanAt K ⟨l, false⟩ w := by
  refine ⟨⟨A, l.length, cell_of_row _ _ _ _ _ _ hr, Nat.le_refl _, ?_⟩, cell_of_row _ _ _ _ _ _ hr, fun j => frozen_of_row _ _ _ _ _ hr, hs, heap_lt hr⟩
  rcases h with h1 | ⟨N, h1, h2, h3⟩
  · exact Or.inl h1
  · exact Or.inr ⟨N, 0, h1, h2, fun j x hx => by
      rw [Nat.zero_add, cell_of_row _ _ _ _ _ _ h3, List.getElem?_toArray, List.getElem?_map, show l[j]? = some x from hx]; rfl⟩
theorem split_small : ∀ (f : Nat) (s sep : List UInt8), s.length < f → sep ≠ [] → ∀ y ∈ Lib.split s sep, y.length ≤ s.length
  | 0, _, _, h, _ => by omega
  | f + 1, s, sep, h, hs => by
    intro y hy
    have hl : 0 < sep.length := List.length_pos_iff.2 hs
    rcases Lib.index_spec s sep with ⟨h1, _⟩ | ⟨i, h1, hi, h3, _⟩
    · rw [split_miss h1] at hy
      rw [List.mem_singleton.1 hy]; exact Nat.le_refl _
    · rw [split_hit hs h1] at hy
      rcases List.mem_cons.1 hy with h4 | h4
      · rw [h4, List.length_take]; omega
      · rcases Lib.occAt_room h3 with hr2 | hr2
        · have := split_small f _ sep (by rw [List.length_drop]; omega) hs y h4
          rw [List.length_drop] at this; omega
        · exact absurd hr2 hs
theorem parts_small {x : List UInt8} (hx : x.length ≤ 70000) : (∀ y ∈ (partsT x).2, y.length ≤ 70000) ∧ (partsT x).1.length ≤ 70000 := by
  obtain ⟨l1, l2⟩ := cut_len x [32]
  unfold partsT
  split
  · refine ⟨fun y hy => ?_, by show (Lib.cut x [32]).1.length ≤ 70000; omega⟩
    have := split_small _ (Lib.cut x [32]).2.1 [44, 32] (Nat.lt_succ_self _) (by simp) y hy
    omega
  · exact ⟨(fun y hy => by cases hy), by show (Lib.cut x [32]).1.length ≤ 70000; omega⟩
def zIns : Value := .agg #[.int .i64 0, .int .i64 0, .int .i64 0, .int .i64 0, .int .i64 0, .int .i64 0]
set_option maxHeartbeats 2000000 in
theorem aparse_none {B : Nat} (x : List UInt8) (hx : x.length ≤ 70000) (hf : findT (partsT x).1 = none) (w : World) (E : Env B w) : Calls Tryz.prog 17 #[.string (bs x)] w fun e w' => e = .returned (.tuple #[zIns, errV 3]) ∧ Below w.heap.size w w' := by
  have hE1 : errV 3 = .iface 56 (.int .i64 3) := rfl
  rw [hE1]
  have r0 := heap_alloc_new w (.cells #[.int .i64 0, .int .i64 0, .int .i64 0, .int .i64 0, .int .i64 0, .int .i64 0] 37)
  have b0 : Below w.heap.size w (w.alloc (.cells #[.int .i64 0, .int .i64 0, .int .i64 0, .int .i64 0, .int .i64 0, .int .i64 0] 37)) := (Below.refl _ _).alloc (Nat.le_refl _) _
  have E0 := Lib.hid (E.below b0)
  have B0 := Lib.hid b0
  obtain ⟨R, hR⟩ : ∃ R, R = w.heap.size := ⟨_, rfl⟩
  rw [← hR] at r0
  have R0 := Lib.hid r0
  have PA := Lib.hid (fun w E => aparts_any (B := B) x hx w E)
  have hm : ∀ j, j < 57 → nmTab.getD j [] ≠ (bs (partsT x).1).data.toList := fun j hj e => by
    have h1 := List.find?_eq_none.1 hf j (List.mem_range.2 hj)
    exact h1 (by rw [e, bs_list]; simp)
  have FM : Hid (∀ w, TabS w → Calls Tryz.prog 45 #[.string (bs (partsT x).1)] w fun e w' => e = .returned (.tuple #[.int .i64 0, .iface 56 (.int .i64 6)]) ∧ w = w') := Lib.hid (fun w hN => find_miss _ hm w hN)
  clear hm hf hx E r0 b0 hE1
  generalize partsT x = pp at *
  have HR := Lib.hid hR
  go_enter Tryz.func17, Tryz.ntmps17
  go_upto_region 1 with (fail)
  rw [← hR]
  clear hR
  generalize World.alloc w _ = w0 at *
  go_upto_region 4 with (first | (go_at_call 44; refine (PA.out _ E0.out).mono ?_; rintro e w1 ⟨⟨A, rfl, -⟩, hb⟩; have E1 := Lib.hid (E0.out.below hb); have B1 := Lib.hid (B0.out.trans (hb.mono B0.out.size)); have r1 := (hb.block _ (heap_lt R0.out)).trans R0.out; have q0 : w1.cell? ⟨R, 0, none⟩ = some (.int .i64 0) := cell_of_row _ _ _ _ _ _ r1; have q1 : w1.cell? ⟨R, 1, none⟩ = some (.int .i64 0) := cell_of_row _ _ _ _ _ _ r1; have q2 : w1.cell? ⟨R, 2, none⟩ = some (.int .i64 0) := cell_of_row _ _ _ _ _ _ r1; have q3 : w1.cell? ⟨R, 3, none⟩ = some (.int .i64 0) := cell_of_row _ _ _ _ _ _ r1; have q4 : w1.cell? ⟨R, 4, none⟩ = some (.int .i64 0) := cell_of_row _ _ _ _ _ _ r1; have q5 : w1.cell? ⟨R, 5, none⟩ = some (.int .i64 0) := cell_of_row _ _ _ _ _ _ r1; have qf : ∀ j, w1.frozen? ⟨R, j, none⟩ = false := (fun j => frozen_of_row _ _ _ _ _ r1); clear hb r1) | (go_at_call 45; refine (FM.out _ E1.out.ts).mono ?_; rintro e w' ⟨rfl, rfl⟩))
  go_wp2
  refine bodyPost_ret (v := .tuple #[zIns, .iface 56 (.int .i64 3)]) ?_ rfl ⟨rfl, ?_⟩
  · simp [results, Tryz.results17, go_sem, zIns, *]; try exact rfl
  · have hwR : w.heap.size ≤ R := by have := HR.out; omega
    repeat' (first | (with_reducible exact B1.out) | (with_reducible refine Below.setCell (p := ⟨R, _, none⟩) ?_ hwR _))

set_option maxHeartbeats 4000000 in
theorem aparse_some {B : Nat} (x : List UInt8) (hx : x.length ≤ 70000) (op : Nat) (hf : findT (partsT x).1 = some op) (w : World) (E : Env B w) : Calls Tryz.prog 17 #[.string (bs x)] w fun e w' => (((((Scan.read ⟨(partsT x).2, false⟩ op).2.bad = false ∧ (Scan.read ⟨(partsT x).2, false⟩ op).2.l = []) ∧ (Scan.read ⟨(partsT x).2, false⟩ op).1.can) ∧ e = .returned (.tuple #[(Scan.read ⟨(partsT x).2, false⟩ op).1.v, .nilIface])) ∨ (¬ (((Scan.read ⟨(partsT x).2, false⟩ op).2.bad = false ∧ (Scan.read ⟨(partsT x).2, false⟩ op).2.l = []) ∧ (Scan.read ⟨(partsT x).2, false⟩ op).1.can) ∧ e = .returned (.tuple #[zIns, errV 3]))) ∧ Below w.heap.size w w' := by
  have hE1 : errV 3 = .iface 56 (.int .i64 3) := rfl
  rw [hE1]
  obtain ⟨hop, hnm⟩ := find_some hf
  have r0 := heap_alloc_new w (.cells #[.int .i64 0, .int .i64 0, .int .i64 0, .int .i64 0, .int .i64 0, .int .i64 0] 37)
  have b0 : Below w.heap.size w (w.alloc (.cells #[.int .i64 0, .int .i64 0, .int .i64 0, .int .i64 0, .int .i64 0, .int .i64 0] 37)) := (Below.refl _ _).alloc (Nat.le_refl _) _
  have E0 := Lib.hid (E.below b0)
  have B0 := Lib.hid b0
  obtain ⟨R, hR⟩ : ∃ R, R = w.heap.size := ⟨_, rfl⟩
  rw [← hR] at r0
  have R0 := Lib.hid r0
  have PA := Lib.hid (fun w E => aparts_any (B := B) x hx w E)
  have FH := Lib.hid (fun w hN => find_hit (bs (partsT x).1) op hop (by rw [bs_list, hnm]) w hN)
  have SM := Lib.hid (parts_small hx).1
  have HBw := Lib.hid E.le
  clear hnm hf hx E r0 b0 hE1
  generalize partsT x = pp at *
  obtain ⟨nm, l⟩ := pp
  simp only at PA FH SM
  show Calls _ _ _ _ fun e w' => (((((Scan.read ⟨l, false⟩ op).2.bad = false ∧ (Scan.read ⟨l, false⟩ op).2.l = []) ∧ (Scan.read ⟨l, false⟩ op).1.can) ∧ e = .returned (.tuple #[(Scan.read ⟨l, false⟩ op).1.v, .nilIface])) ∨ (¬ (((Scan.read ⟨l, false⟩ op).2.bad = false ∧ (Scan.read ⟨l, false⟩ op).2.l = []) ∧ (Scan.read ⟨l, false⟩ op).1.can) ∧ e = .returned (.tuple #[zIns, .iface 56 (.int .i64 3)]))) ∧ Below w.heap.size w w'
  have RD : Hid (∀ (K : Nat), B ≤ K → ∀ w, ScanAt K ⟨l, false⟩ w → Env B w → Calls Tryz.prog 46 #[.pointer (some ⟨K, 0, none⟩), .int .i64 op] w fun e w' => e = .returned (Scan.read ⟨l, false⟩ op).1.v ∧ ScanAt K (Scan.read ⟨l, false⟩ op).2 w' ∧ OnK K w w') := Lib.hid (fun K hBK w S E => sread_any hBK op hop ⟨l, false⟩ w S E)
  generalize Scan.read ⟨l, false⟩ op = rr at *
  obtain ⟨⟨iop, ird, ir1, ir2, iimm, ics⟩, ⟨l2, bad⟩⟩ := rr
  simp only [Ins.v] at RD
  suffices key : ∀ PP : Prop, PP = ((bad = false ∧ l2 = []) ∧ Can iop ird ir1 ir2 iimm ics) → Calls Tryz.prog 17 #[.string (bs x)] w fun e w' => ((PP ∧ e = .returned (.tuple #[.agg #[.int .i64 iop, .int .i64 ird, .int .i64 ir1, .int .i64 ir2, .int .i64 iimm, .int .i64 ics], .nilIface])) ∨ (¬ PP ∧ e = .returned (.tuple #[zIns, .iface 56 (.int .i64 3)]))) ∧ Below w.heap.size w w' from key _ rfl
  intro PP hPP
  have HPP := Lib.hid hPP
  clear hPP
  have HR := Lib.hid hR
  have HOP := Lib.hid hop
  clear hop
  go_enter Tryz.func17, Tryz.ntmps17
  go_upto_region 1 with (fail)
  rw [← hR]
  clear hR
  generalize World.alloc w _ = w0 at *
  go_upto_region 5 with (first | (go_at_call 44; refine (PA.out _ E0.out).mono ?_; rintro e w1 ⟨⟨A, rfl, hA⟩, hb⟩; have HA := Lib.hid hA; have E1 := Lib.hid (E0.out.below hb); have B1 := Lib.hid (B0.out.trans (hb.mono B0.out.size)); have R1 := Lib.hid ((hb.block _ (heap_lt R0.out)).trans R0.out); clear hb hA) | (go_at_call 45; refine (FH.out _ E1.out.ts).mono ?_; rintro e w' ⟨rfl, rfl⟩))
  go_upto_region 6 with (fail)
  have rK := heap_alloc_new w1 (.cells #[.slice A l.length l.length, .bool false] 93)
  have bK : Below w1.heap.size w1 (w1.alloc (.cells #[.slice A l.length l.length, .bool false] 93)) := (Below.refl _ _).alloc (Nat.le_refl _) _
  have hRK : R < w1.heap.size := heap_lt R1.out
  obtain ⟨K, hK⟩ : ∃ K, K = w1.heap.size := ⟨_, rfl⟩
  have S2 : ScanAt K ⟨l, false⟩ (w1.alloc (.cells #[.slice A l.length l.length, .bool false] 93)) := by
    refine scan_new (by rw [hK]; exact rK) SM.out ?_
    rcases HA.out with h1 | ⟨N, h1, h2, h3⟩
    · exact Or.inl h1
    · exact Or.inr ⟨N, h1, by rw [hK]; exact heap_lt h3, (bK.block _ (heap_lt h3)).trans h3⟩
  have e2 := E1.out.below bK
  have b2 := B1.out.trans (bK.mono B1.out.size)
  have r2 := (bK.block _ hRK).trans R1.out
  have hBK : B ≤ K := by rw [hK]; exact E1.out.le
  have hwK : w.heap.size ≤ K := by rw [hK]; exact B1.out.size
  rw [← hK] at hRK ⊢
  generalize w1.alloc (.cells #[.slice A l.length l.length, .bool false] 93) = w2 at S2 e2 b2 r2 ⊢
  have HS2 := Lib.hid S2
  have HE2 := Lib.hid e2
  have HB2 := Lib.hid b2
  have HR2 := Lib.hid r2
  have HBK := Lib.hid hBK
  have HWK := Lib.hid hwK
  clear S2 e2 b2 r2 rK bK hK hBK hwK HA
  go_upto_region 7 with (go_at_call 46; refine (RD.out K HBK.out _ HS2.out HE2.out).mono ?_; rintro e w3 ⟨rfl, hs, ho⟩; have S3 := Lib.hid hs; have O3 := Lib.hid ho; clear hs ho)
  have e3 := HE2.out.low (O3.out.below.mono HBK.out)
  have b3 : Below w.heap.size w w3 := HB2.out.trans (O3.out.below.mono HWK.out)
  have r3 := (O3.out.below.block R hRK).trans HR2.out
  obtain ⟨A3, c3, k0, -, -⟩ := S3.out.ex
  have k1 := S3.out.bad
  have kf := S3.out.fz
  have hK3 := S3.out.lt
  simp only at k0 k1
  have I4 := heap_alloc_new w3 (.cells #[.int .i64 iop, .int .i64 ird, .int .i64 ir1, .int .i64 ir2, .int .i64 iimm, .int .i64 ics] 37)
  have b34 : Below w3.heap.size w3 (w3.alloc (.cells #[.int .i64 iop, .int .i64 ird, .int .i64 ir1, .int .i64 ir2, .int .i64 iimm, .int .i64 ics] 37)) := (Below.refl _ _).alloc (Nat.le_refl _) _
  have e4 := e3.below b34
  have b4 := b3.trans (b34.mono b3.size)
  have r4 := (b34.block _ (heap_lt r3)).trans r3
  have k04 := (b34.cell (p := ⟨K, 0, none⟩) hK3).trans k0
  have k14 := (b34.cell (p := ⟨K, 1, none⟩) hK3).trans k1
  have kf4 : ∀ j, (w3.alloc (.cells #[.int .i64 iop, .int .i64 ird, .int .i64 ir1, .int .i64 ir2, .int .i64 iimm, .int .i64 ics] 37)).frozen? ⟨K, j, none⟩ = false := fun j => (b34.frozen (p := ⟨K, j, none⟩) hK3).trans (kf j)
  obtain ⟨I, hI⟩ : ∃ I, I = w3.heap.size := ⟨_, rfl⟩
  rw [← hI] at I4 ⊢
  have hRI : R ≠ I := by rw [hI]; exact Nat.ne_of_lt (heap_lt r3)
  have hwI : w.heap.size ≤ I := by rw [hI]; exact b3.size
  generalize w3.alloc (.cells #[.int .i64 iop, .int .i64 ird, .int .i64 ir1, .int .i64 ir2, .int .i64 iimm, .int .i64 ics] 37) = w4 at I4 e4 b4 r4 k04 k14 kf4 ⊢
  clear k0 k1 kf b34 e3 b3 r3 hI hK3
  have E4 := Lib.hid e4
  have B4 := Lib.hid b4
  have RI4 := Lib.hid I4
  have RR4 := Lib.hid r4
  have i0 : w4.cell? ⟨I, 0, none⟩ = some (.int .i64 iop) := cell_of_row _ _ _ _ _ _ I4
  have i1 : w4.cell? ⟨I, 1, none⟩ = some (.int .i64 ird) := cell_of_row _ _ _ _ _ _ I4
  have i2 : w4.cell? ⟨I, 2, none⟩ = some (.int .i64 ir1) := cell_of_row _ _ _ _ _ _ I4
  have i3 : w4.cell? ⟨I, 3, none⟩ = some (.int .i64 ir2) := cell_of_row _ _ _ _ _ _ I4
  have i4 : w4.cell? ⟨I, 4, none⟩ = some (.int .i64 iimm) := cell_of_row _ _ _ _ _ _ I4
  have i5 : w4.cell? ⟨I, 5, none⟩ = some (.int .i64 ics) := cell_of_row _ _ _ _ _ _ I4
  have if_ : ∀ j, w4.frozen? ⟨I, j, none⟩ = false := (fun j => frozen_of_row _ _ _ _ _ I4)
  have q0 : w4.cell? ⟨R, 0, none⟩ = some (.int .i64 0) := cell_of_row _ _ _ _ _ _ r4
  have q1 : w4.cell? ⟨R, 1, none⟩ = some (.int .i64 0) := cell_of_row _ _ _ _ _ _ r4
  have q2 : w4.cell? ⟨R, 2, none⟩ = some (.int .i64 0) := cell_of_row _ _ _ _ _ _ r4
  have q3 : w4.cell? ⟨R, 3, none⟩ = some (.int .i64 0) := cell_of_row _ _ _ _ _ _ r4
  have q4 : w4.cell? ⟨R, 4, none⟩ = some (.int .i64 0) := cell_of_row _ _ _ _ _ _ r4
  have q5 : w4.cell? ⟨R, 5, none⟩ = some (.int .i64 0) := cell_of_row _ _ _ _ _ _ r4
  have qf : ∀ j, w4.frozen? ⟨R, j, none⟩ = false := (fun j => frozen_of_row _ _ _ _ _ r4)
  clear e4 b4 I4 r4
  cases bad with
  | true =>
    go_wp2
    refine bodyPost_ret (v := .tuple #[zIns, .iface 56 (.int .i64 3)]) ?_ rfl ⟨Or.inr ⟨fun q => by (rw [HPP.out] at q; exact Bool.noConfusion q.1.1), rfl⟩, ?_⟩
    · simp [results, Tryz.results17, go_sem, zIns, *]; try exact rfl
    · have hwR : w.heap.size ≤ R := by have := HR.out; omega
      repeat' (first | (with_reducible exact B4.out) | (with_reducible refine Below.setCell (p := ⟨R, _, none⟩) ?_ hwR _))
  | false =>
    by_cases hl : l2 = []
    · subst hl
      simp only [List.length_nil] at k04
      by_cases hc : Can iop ird ir1 ir2 iimm ics
      · have CK := Lib.hid (fun w hT => check_yes iop ird ir1 ir2 iimm ics hc w hT)
        have HC := Lib.hid hc
        clear hc
        go_wp2_with (go_at_call 35; refine (CK.out _ E4.out.tw).mono ?_; rintro e w5 ⟨rfl, hb⟩; have B5 := Lib.hid (B4.out.trans (hb.mono B4.out.size)); have ri5 := (hb.block _ (heap_lt RI4.out)).trans RI4.out; have rr5 := (hb.block _ (heap_lt RR4.out)).trans RR4.out; clear i0 i1 i2 i3 i4 i5 if_ q0 q1 q2 q3 q4 q5 qf; have i0 : w5.cell? ⟨I, 0, none⟩ = some (.int .i64 iop) := cell_of_row _ _ _ _ _ _ ri5; have i1 : w5.cell? ⟨I, 1, none⟩ = some (.int .i64 ird) := cell_of_row _ _ _ _ _ _ ri5; have i2 : w5.cell? ⟨I, 2, none⟩ = some (.int .i64 ir1) := cell_of_row _ _ _ _ _ _ ri5; have i3 : w5.cell? ⟨I, 3, none⟩ = some (.int .i64 ir2) := cell_of_row _ _ _ _ _ _ ri5; have i4 : w5.cell? ⟨I, 4, none⟩ = some (.int .i64 iimm) := cell_of_row _ _ _ _ _ _ ri5; have i5 : w5.cell? ⟨I, 5, none⟩ = some (.int .i64 ics) := cell_of_row _ _ _ _ _ _ ri5; have if_ : ∀ j, w5.frozen? ⟨I, j, none⟩ = false := (fun j => frozen_of_row _ _ _ _ _ ri5); have q0 : w5.cell? ⟨R, 0, none⟩ = some (.int .i64 0) := cell_of_row _ _ _ _ _ _ rr5; have q1 : w5.cell? ⟨R, 1, none⟩ = some (.int .i64 0) := cell_of_row _ _ _ _ _ _ rr5; have q2 : w5.cell? ⟨R, 2, none⟩ = some (.int .i64 0) := cell_of_row _ _ _ _ _ _ rr5; have q3 : w5.cell? ⟨R, 3, none⟩ = some (.int .i64 0) := cell_of_row _ _ _ _ _ _ rr5; have q4 : w5.cell? ⟨R, 4, none⟩ = some (.int .i64 0) := cell_of_row _ _ _ _ _ _ rr5; have q5 : w5.cell? ⟨R, 5, none⟩ = some (.int .i64 0) := cell_of_row _ _ _ _ _ _ rr5; have qf : ∀ j, w5.frozen? ⟨R, j, none⟩ = false := (fun j => frozen_of_row _ _ _ _ _ rr5); clear hb ri5 rr5)
        refine bodyPost_ret (v := .tuple #[.agg #[.int .i64 iop, .int .i64 ird, .int .i64 ir1, .int .i64 ir2, .int .i64 iimm, .int .i64 ics], .nilIface]) ?_ rfl ⟨Or.inl ⟨by (rw [HPP.out]; exact ⟨⟨by trivial, by trivial⟩, HC.out⟩), rfl⟩, ?_⟩
        · simp [results, Tryz.results17, go_sem, *]; try exact rfl
        · have hwR : w.heap.size ≤ R := by have := HR.out; omega
          repeat' (first | (with_reducible exact B5.out) | (with_reducible refine Below.setCell (p := ⟨R, _, none⟩) ?_ hwR _))
      · have CK : Hid (∀ w, TabW w → Calls Tryz.prog 35 #[.agg #[.int .i64 iop, .int .i64 ird, .int .i64 ir1, .int .i64 ir2, .int .i64 iimm, .int .i64 ics]] w fun e w' => e = .returned (.iface 56 (.int .i64 1)) ∧ Below w.heap.size w w') := Lib.hid (fun w hT => check_no iop ird ir1 ir2 iimm ics hc w hT)
        have HC := Lib.hid hc
        clear hc
        go_wp2_with (go_at_call 35; refine (CK.out _ E4.out.tw).mono ?_; rintro e w5 ⟨rfl, hb⟩; have B5 := Lib.hid (B4.out.trans (hb.mono B4.out.size)); have ri5 := (hb.block _ (heap_lt RI4.out)).trans RI4.out; have rr5 := (hb.block _ (heap_lt RR4.out)).trans RR4.out; clear i0 i1 i2 i3 i4 i5 if_ q0 q1 q2 q3 q4 q5 qf; have i0 : w5.cell? ⟨I, 0, none⟩ = some (.int .i64 iop) := cell_of_row _ _ _ _ _ _ ri5; have i1 : w5.cell? ⟨I, 1, none⟩ = some (.int .i64 ird) := cell_of_row _ _ _ _ _ _ ri5; have i2 : w5.cell? ⟨I, 2, none⟩ = some (.int .i64 ir1) := cell_of_row _ _ _ _ _ _ ri5; have i3 : w5.cell? ⟨I, 3, none⟩ = some (.int .i64 ir2) := cell_of_row _ _ _ _ _ _ ri5; have i4 : w5.cell? ⟨I, 4, none⟩ = some (.int .i64 iimm) := cell_of_row _ _ _ _ _ _ ri5; have i5 : w5.cell? ⟨I, 5, none⟩ = some (.int .i64 ics) := cell_of_row _ _ _ _ _ _ ri5; have if_ : ∀ j, w5.frozen? ⟨I, j, none⟩ = false := (fun j => frozen_of_row _ _ _ _ _ ri5); have q0 : w5.cell? ⟨R, 0, none⟩ = some (.int .i64 0) := cell_of_row _ _ _ _ _ _ rr5; have q1 : w5.cell? ⟨R, 1, none⟩ = some (.int .i64 0) := cell_of_row _ _ _ _ _ _ rr5; have q2 : w5.cell? ⟨R, 2, none⟩ = some (.int .i64 0) := cell_of_row _ _ _ _ _ _ rr5; have q3 : w5.cell? ⟨R, 3, none⟩ = some (.int .i64 0) := cell_of_row _ _ _ _ _ _ rr5; have q4 : w5.cell? ⟨R, 4, none⟩ = some (.int .i64 0) := cell_of_row _ _ _ _ _ _ rr5; have q5 : w5.cell? ⟨R, 5, none⟩ = some (.int .i64 0) := cell_of_row _ _ _ _ _ _ rr5; have qf : ∀ j, w5.frozen? ⟨R, j, none⟩ = false := (fun j => frozen_of_row _ _ _ _ _ rr5); clear hb ri5 rr5)
        refine bodyPost_ret (v := .tuple #[zIns, .iface 56 (.int .i64 3)]) ?_ rfl ⟨Or.inr ⟨fun q => by (rw [HPP.out] at q; exact HC.out q.2), rfl⟩, ?_⟩
        · simp [results, Tryz.results17, go_sem, zIns, *]; try exact rfl
        · have hwR : w.heap.size ≤ R := by have := HR.out; omega
          repeat' (first | (with_reducible exact B5.out) | (with_reducible refine Below.setCell (p := ⟨R, _, none⟩) ?_ hwR _))
    · have hl1 : 0 < (l2.length : Int) := by
        have := List.length_pos_iff.2 hl
        omega
      have hl2 : 0 < l2.length := by omega
      have hl3 : ¬ l2.length = 0 := by omega
      have HL := Lib.hid hl
      clear hl
      go_wp2
      refine bodyPost_ret (v := .tuple #[zIns, .iface 56 (.int .i64 3)]) ?_ rfl ⟨Or.inr ⟨fun q => by (rw [HPP.out] at q; exact HL.out q.1.2), rfl⟩, ?_⟩
      · simp [results, Tryz.results17, go_sem, zIns, *]; try exact rfl
      · have hwR : w.heap.size ≤ R := by have := HR.out; omega
        repeat' (first | (with_reducible exact B4.out) | (with_reducible refine Below.setCell (p := ⟨R, _, none⟩) ?_ hwR _))

/-- asm.Parse: the instruction of a text, or the error -/
theorem aparse_yes {B : Nat} (x : List UInt8) (hx : x.length ≤ 70000) (i : Ins) (hp : parseT x = some i) (w : World) (E : Env B w) : Calls Tryz.prog 17 #[.string (bs x)] w fun e w' => e = .returned (.tuple #[i.v, .nilIface]) ∧ Below w.heap.size w w' := by
  unfold parseT at hp
  cases hf : findT (partsT x).1 with
  | none => rw [hf] at hp; cases hp
  | some op =>
    rw [hf] at hp
    simp only at hp
    split at hp
    · next hc =>
      have e := Option.some.inj hp
      refine (aparse_some x hx op hf w E).mono fun e2 w' hh => ⟨?_, hh.2⟩
      rcases hh.1 with h1 | h1
      · rw [h1.2, e]
      · exact absurd hc h1.1
    · cases hp
theorem aparse_no {B : Nat} (x : List UInt8) (hx : x.length ≤ 70000) (hp : parseT x = none) (w : World) (E : Env B w) : Calls Tryz.prog 17 #[.string (bs x)] w fun e w' => e = .returned (.tuple #[zIns, errV 3]) ∧ Below w.heap.size w w' := by
  unfold parseT at hp
  cases hf : findT (partsT x).1 with
  | none => exact aparse_none x hx hf w E
  | some op =>
    rw [hf] at hp
    simp only at hp
    split at hp
    · cases hp
    · next hc =>
      refine (aparse_some x hx op hf w E).mono fun e2 w' hh => ⟨?_, hh.2⟩
      rcases hh.1 with h1 | h1
      · exact absurd h1.1 hc
      · exact h1.2

end Go.Proofs.YtkcdnhennnjneaaGreatDoor
