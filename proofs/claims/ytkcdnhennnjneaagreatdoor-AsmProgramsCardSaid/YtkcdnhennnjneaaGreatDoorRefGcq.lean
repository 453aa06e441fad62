import Derived.Test.YtkcdnhennnjneaaGreatDoorRefGq
import Derived.Below
import Derived.Deep.Draws
import Derived.Deep.AppendLies
import Derived.Maps.AppendAt
import Derived.OwnWalk
import Derived.Laws.BytesArg
import Derived.Laws.MakeOwn
import Derived.Laws.OwnMore
import Derived.Deep.OwnRows
import Derived.Tactics
import Derived.Lib.ConvBytes
import Derived.Laws.Slices
import Derived.WalkKit
import Derived.KernelRfl
import Derived.RowKit3
import Derived.Deep.LoopGhost
import Derived.Deep.QuietTactic
import Derived.BigQuiet
import Derived.WideLaws
import Derived.Deep.DeepCutAuto
import Derived.Deep.CutBlock
import Derived.Deep.RegionHeld3
import Derived.Laws.Rows
import Derived.Lib.AppendStr
import Derived.ArgAppend
import Derived.Laws.IdiomCopy
import Derived.OrdersHeld
import Derived.Laws.BitsLemmas
import Derived.RowKit
import Derived.Lib.Hide
import Derived.Laws.BitsAllLaws
import Derived.WalkLawsBesides
import Derived.WalkSpells
import Derived.LaidEql
namespace Go.Proofs.YtkcdnhennnjneaaGreatDoor
open Go.RowKit Go.Shelf Go.RowKit
set_option maxRecDepth 100000
set_option linter.unusedVariables false
set_option linter.unusedSimpArgs false

set_option maxHeartbeats 8000000 in
theorem rparse_B (s : List UInt8) (hs : s.length ≤ 70000) (op : Nat) (hop : op < 57) (k : kN op = 66) (hf : findT (partsT s).1 = some op) (x y z : List UInt8) (hl : (partsT s).2 = [x, y, z]) (w : World) : Calls Tryz.prog 19 #[.string (bs s)] w fun e w' => e = .returned (.tuple #[insV (parseT s), .int .i64 (insN (parseT s))]) ∧ Below w.heap.size w w' := by
  have hP := spec_B hop k hf hl
  have PA := Lib.hid (fun w => rparts_any s hs w)
  have hsm := (parts_small hs).1
  rw [hl] at hsm
  simp only [hl] at PA
  have FH := Lib.hid (fun w => rfind_hit (bs (partsT s).1) op hop (by rw [bs_list, (find_some hf).2]) w)
  have SH := Lib.hid (fun w => rshape_any op hop w)
  have KD := Lib.hid (fun w => rkind_in op hop w)
  rw [k] at KD SH
  rw [show shapeK 66 = [115, 116, 110] from by decide, show bs [115, 116, 110] = (⟨#[115, 116, 110]⟩ : ByteArray) from rfl] at SH
  clear k
  generalize bs (partsT s).1 = NMB at PA FH
  have hx0 : x.length ≤ 70000 := hsm x (by simp)
  have CT0 := Lib.hid (fun w => rreg_any x hx0 w)
  obtain ⟨ok0, hok0⟩ : ∃ b, b = rgB x := ⟨_, rfl⟩
  obtain ⟨v0, hv0⟩ : ∃ b, b = rgV x := ⟨_, rfl⟩
  rw [← hok0, ← hv0] at hP
  simp only [← hok0, ← hv0] at CT0
  obtain ⟨X0, hX0⟩ : ∃ b, b = bs x := ⟨_, rfl⟩
  rw [← hX0] at CT0
  have HX0 := Lib.hid hX0
  clear hX0 hx0 hok0 hv0
  have hx1 : y.length ≤ 70000 := hsm y (by simp)
  have CT1 := Lib.hid (fun w => rreg_any y hx1 w)
  obtain ⟨ok1, hok1⟩ : ∃ b, b = rgB y := ⟨_, rfl⟩
  obtain ⟨v1, hv1⟩ : ∃ b, b = rgV y := ⟨_, rfl⟩
  rw [← hok1, ← hv1] at hP
  simp only [← hok1, ← hv1] at CT1
  obtain ⟨X1, hX1⟩ : ∃ b, b = bs y := ⟨_, rfl⟩
  rw [← hX1] at CT1
  have HX1 := Lib.hid hX1
  clear hX1 hx1 hok1 hv1
  have hx2 : z.length ≤ 70000 := hsm z (by simp)
  have CT2 := Lib.hid (fun w => rnumber_any z hx2 w)
  obtain ⟨ok2, hok2⟩ : ∃ b, b = numOk z := ⟨_, rfl⟩
  obtain ⟨v2, hv2⟩ : ∃ b, b = numV z := ⟨_, rfl⟩
  rw [← hok2, ← hv2] at hP
  simp only [← hok2, ← hv2] at CT2
  obtain ⟨X2, hX2⟩ : ∃ b, b = bs z := ⟨_, rfl⟩
  rw [← hX2] at CT2
  have HX2 := Lib.hid hX2
  clear hX2 hx2 hok2 hv2
  have HF0 : Hid (ok0 = false → parseT s = none) := Lib.hid (fun h => by rw [hP, if_neg]; rintro ⟨⟨h0, h1, h2⟩, _⟩; rw [h] at h0; cases h0)
  have HF1 : Hid (ok1 = false → parseT s = none) := Lib.hid (fun h => by rw [hP, if_neg]; rintro ⟨⟨h0, h1, h2⟩, _⟩; rw [h] at h1; cases h1)
  have HF2 : Hid (ok2 = false → parseT s = none) := Lib.hid (fun h => by rw [hP, if_neg]; rintro ⟨⟨h0, h1, h2⟩, _⟩; rw [h] at h2; cases h2)
  have HNC : Hid (¬ Can op (0) (v0) (v1) (v2) (0) → parseT s = none) := Lib.hid (fun h => by rw [hP, if_neg]; rintro ⟨_, hc⟩; exact h hc)
  have HYC : Hid (ok0 = true → ok1 = true → ok2 = true → Can op (0) (v0) (v1) (v2) (0) → parseT s = some ⟨op, 0, v0, v1, v2, 0⟩) := Lib.hid (fun h0 h1 h2 hc => by rw [hP, if_pos ⟨⟨h0, h1, h2⟩, hc⟩])
  obtain ⟨PT, hPT⟩ : ∃ PT, PT = parseT s := ⟨_, rfl⟩
  rw [← hPT] at HF0 HF1 HF2 HNC HYC ⊢
  obtain ⟨RV, hRV⟩ : ∃ RV, RV = insV PT := ⟨_, rfl⟩
  obtain ⟨RN, hRN⟩ : ∃ RN, RN = insN PT := ⟨_, rfl⟩
  rw [← hRV, ← hRN]
  have HNO : Hid (PT = none → RV = zIns ∧ RN = 3) := Lib.hid (fun h => by rw [hRV, hRN, h]; exact ⟨rfl, rfl⟩)
  have HYES : Hid (∀ i, PT = some i → RV = i.v ∧ RN = 0) := Lib.hid (fun i h => by rw [hRV, hRN, h]; exact ⟨rfl, rfl⟩)
  have r0 := heap_alloc_new w (.cells #[.int .i64 0, .int .i64 0, .int .i64 0, .int .i64 0, .int .i64 0, .int .i64 0] 34)
  have b0 : Below w.heap.size w (w.alloc (.cells #[.int .i64 0, .int .i64 0, .int .i64 0, .int .i64 0, .int .i64 0, .int .i64 0] 34)) := (Below.refl _ _).alloc (Nat.le_refl _) _
  have B0 := Lib.hid b0
  obtain ⟨R, hR⟩ : ∃ R, R = w.heap.size := ⟨_, rfl⟩
  rw [← hR] at r0
  have R0 := Lib.hid r0
  have HR := Lib.hid hR
  have hwR : w.heap.size ≤ R := by omega
  have HWR2 := Lib.hid hwR
  obtain ⟨S, hS⟩ : ∃ S, S = bs s := ⟨_, rfl⟩
  rw [← hS] at PA ⊢
  clear hP hPT hRV hRN r0 b0 hsm hl hf hs hop hwR hS
  go_enter Tryz.func19, Tryz.ntmps19
  go_upto_region 1 with (fail)
  rw [← hR]
  clear hR
  generalize World.alloc w _ = w0 at *
  go_upto_region 4 with (first | (go_at_call 28; refine (PA.out _).mono ?_; rintro e w1 ⟨⟨v, rfl, hrow⟩, hb⟩; (obtain ⟨A, cap, rfl, hg⟩ := rowS_all hrow); (obtain ⟨g, rfl, hg1, hg2, hgc⟩ : ∃ g, A = some ⟨g, 0, none⟩ ∧ w0.heap.size ≤ g ∧ g < w1.heap.size ∧ OpC g [x, y, z] w1 := hg.resolve_left (by simp)); have OC1 := Lib.hid hgc; have HG1 := Lib.hid hg2; clear hgc hg hrow hg1 hg2; have B1 := Lib.hid (B0.out.trans (hb.mono B0.out.size)); have R1 := Lib.hid ((hb.block _ (heap_lt R0.out)).trans R0.out); clear hb) | (go_at_call 29; refine (FH.out _).mono ?_; rintro e w2 ⟨rfl, hb⟩; have B2 := Lib.hid (B1.out.trans (hb.mono B1.out.size)); have R2 := Lib.hid ((hb.block _ (heap_lt R1.out)).trans R1.out); have OC2 := Lib.hid (OC1.out.below hb); have HG2 := Lib.hid (Nat.lt_of_lt_of_le HG1.out hb.size); clear hb) | (go_at_call 41; refine (SH.out _).mono ?_; rintro e w' ⟨rfl, rfl⟩))
  try simp only [List.length_cons, List.length_nil]
  go_upto_region 7 with (fail)
  have b3 : Below w2.heap.size w2 (w2.alloc (.cells #[.int .i64 (op : Nat), .int .i64 0, .int .i64 0, .int .i64 0, .int .i64 0, .int .i64 0] 34)) := (Below.refl _ _).alloc (Nat.le_refl _) _
  have P3 : PIn w R w2.heap.size #[.int .i64 (op : Nat), .int .i64 0, .int .i64 0, .int .i64 0, .int .i64 0, .int .i64 0] (w2.alloc (.cells #[.int .i64 (op : Nat), .int .i64 0, .int .i64 0, .int .i64 0, .int .i64 0, .int .i64 0] 34)) := ⟨heap_alloc_new w2 _, (b3.block _ (heap_lt R2.out)).trans R2.out, B2.out.trans (b3.mono B2.out.size)⟩
  have OC3 := Lib.hid (OC2.out.below b3)
  obtain ⟨I, hI⟩ : ∃ I, I = w2.heap.size := ⟨_, rfl⟩
  have hRI : R ≠ I := by have := heap_lt R2.out; omega
  have hwI : w.heap.size ≤ I := by have := B2.out.size; omega
  have hgI : g ≠ I := by have := HG2.out; omega
  have HRI := Lib.hid hRI
  have HWI := Lib.hid hwI
  have HGI := Lib.hid hgI
  rw [← hI] at P3 ⊢
  generalize w2.alloc (.cells #[.int .i64 (op : Nat), .int .i64 0, .int .i64 0, .int .i64 0, .int .i64 0, .int .i64 0] 34) = w3 at *
  have PI3 := Lib.hid P3
  clear b3 P3 hI hwI hgI
  go_upto_region 8 with (fail)
  go_loopw [10] (fun xx wr => ((xx = .int .i64 0 ∧ PIn w R I #[.int .i64 (op : Nat), .int .i64 0, .int .i64 0, .int .i64 0, .int .i64 0, .int .i64 0] wr) ∨ (xx = .int .i64 1 ∧ ok0 = true ∧ PIn w R I #[.int .i64 (op : Nat), .int .i64 0, .int .i64 (v0), .int .i64 0, .int .i64 0, .int .i64 0] wr) ∨ (xx = .int .i64 2 ∧ ok0 = true ∧ ok1 = true ∧ PIn w R I #[.int .i64 (op : Nat), .int .i64 0, .int .i64 (v0), .int .i64 (v1), .int .i64 0, .int .i64 0] wr) ∨ (xx = .int .i64 3 ∧ ok0 = true ∧ ok1 = true ∧ ok2 = true ∧ PIn w R I #[.int .i64 (op : Nat), .int .i64 0, .int .i64 (v0), .int .i64 (v1), .int .i64 (v2), .int .i64 0] wr)) ∧ OpC g [x, y, z] wr) (fun xx _ => 3 - (intOf xx).toNat)
  case atStart => exact ⟨Or.inl ⟨rfl, PI3.out⟩, OC3.out⟩
  case round =>
    obtain ⟨hor, hoc⟩ := hrel
    have OC := Lib.hid hoc
    clear hoc
    rcases hor with ⟨rfl, hpi⟩ | ⟨rfl, hk0, hpi⟩ | ⟨rfl, hk0, hk1, hpi⟩ | ⟨rfl, hk0, hk1, hk2, hpi⟩
    · have P := Lib.hid hpi
      have i0 : World.cell? wr ⟨I, 0, none⟩ = some (.int .i64 ((op : Nat))) := cell_of_row _ _ _ _ _ _ hpi.ri
      have i1 : World.cell? wr ⟨I, 1, none⟩ = some (.int .i64 (0)) := cell_of_row _ _ _ _ _ _ hpi.ri
      have i2 : World.cell? wr ⟨I, 2, none⟩ = some (.int .i64 (0)) := cell_of_row _ _ _ _ _ _ hpi.ri
      have i3 : World.cell? wr ⟨I, 3, none⟩ = some (.int .i64 (0)) := cell_of_row _ _ _ _ _ _ hpi.ri
      have i4 : World.cell? wr ⟨I, 4, none⟩ = some (.int .i64 (0)) := cell_of_row _ _ _ _ _ _ hpi.ri
      have i5 : World.cell? wr ⟨I, 5, none⟩ = some (.int .i64 (0)) := cell_of_row _ _ _ _ _ _ hpi.ri
      have if_ : ∀ j, World.frozen? wr ⟨I, j, none⟩ = false := (fun j => frozen_of_row _ _ _ _ _ hpi.ri)
      have q0 : World.cell? wr ⟨R, 0, none⟩ = some (.int .i64 (0)) := cell_of_row _ _ _ _ _ _ hpi.rr
      have q1 : World.cell? wr ⟨R, 1, none⟩ = some (.int .i64 (0)) := cell_of_row _ _ _ _ _ _ hpi.rr
      have q2 : World.cell? wr ⟨R, 2, none⟩ = some (.int .i64 (0)) := cell_of_row _ _ _ _ _ _ hpi.rr
      have q3 : World.cell? wr ⟨R, 3, none⟩ = some (.int .i64 (0)) := cell_of_row _ _ _ _ _ _ hpi.rr
      have q4 : World.cell? wr ⟨R, 4, none⟩ = some (.int .i64 (0)) := cell_of_row _ _ _ _ _ _ hpi.rr
      have q5 : World.cell? wr ⟨R, 5, none⟩ = some (.int .i64 (0)) := cell_of_row _ _ _ _ _ _ hpi.rr
      have qf : ∀ j, World.frozen? wr ⟨R, j, none⟩ = false := (fun j => frozen_of_row _ _ _ _ _ hpi.rr)
      have c0 : wr.cell? ⟨g, 0, none⟩ = some (.string X0) := by rw [HX0.out]; exact OC.out 0 _ rfl
      clear hpi
      cases ok0 with
      | true =>
        go_wp2_with (go_at_call 47; refine (CT0.out _).mono ?_; rintro e w' ⟨⟨n, rfl, hn⟩, rfl⟩; have HN := Lib.hid hn; clear hn)
        have hn := HN.out (by trivial)
        subst hn
        go_roundw
        case rel => exact ⟨Or.inr (Or.inl ⟨rfl, by trivial, P.out.set HRI.out HWI.out 2 _⟩), OC.out.set HGI.out _ _⟩
        case measure => simp [intOf]
      | false =>
        go_wp2_with (go_at_call 47; refine (CT0.out _).mono ?_; rintro e w' ⟨⟨n, rfl, hn⟩, rfl⟩; clear hn)
        obtain ⟨e1, e2⟩ := HNO.out (HF0.out (by trivial))
        refine bodyPost_ret (v := .tuple #[zIns, .int .i64 3]) ?_ rfl ⟨by rw [e1, e2], ?_⟩
        · simp [results, Tryz.results19, go_sem, zIns, *]; try exact rfl
        · repeat' (first | (with_reducible exact P.out.bel) | (with_reducible refine Below.setCell (p := ⟨R, _, none⟩) ?_ HWR2.out _) | (with_reducible refine Below.setCell (p := ⟨I, _, none⟩) ?_ HWI.out _))
    · have P := Lib.hid hpi
      have i0 : World.cell? wr ⟨I, 0, none⟩ = some (.int .i64 ((op : Nat))) := cell_of_row _ _ _ _ _ _ hpi.ri
      have i1 : World.cell? wr ⟨I, 1, none⟩ = some (.int .i64 (0)) := cell_of_row _ _ _ _ _ _ hpi.ri
      have i2 : World.cell? wr ⟨I, 2, none⟩ = some (.int .i64 (v0)) := cell_of_row _ _ _ _ _ _ hpi.ri
      have i3 : World.cell? wr ⟨I, 3, none⟩ = some (.int .i64 (0)) := cell_of_row _ _ _ _ _ _ hpi.ri
      have i4 : World.cell? wr ⟨I, 4, none⟩ = some (.int .i64 (0)) := cell_of_row _ _ _ _ _ _ hpi.ri
      have i5 : World.cell? wr ⟨I, 5, none⟩ = some (.int .i64 (0)) := cell_of_row _ _ _ _ _ _ hpi.ri
      have if_ : ∀ j, World.frozen? wr ⟨I, j, none⟩ = false := (fun j => frozen_of_row _ _ _ _ _ hpi.ri)
      have q0 : World.cell? wr ⟨R, 0, none⟩ = some (.int .i64 (0)) := cell_of_row _ _ _ _ _ _ hpi.rr
      have q1 : World.cell? wr ⟨R, 1, none⟩ = some (.int .i64 (0)) := cell_of_row _ _ _ _ _ _ hpi.rr
      have q2 : World.cell? wr ⟨R, 2, none⟩ = some (.int .i64 (0)) := cell_of_row _ _ _ _ _ _ hpi.rr
      have q3 : World.cell? wr ⟨R, 3, none⟩ = some (.int .i64 (0)) := cell_of_row _ _ _ _ _ _ hpi.rr
      have q4 : World.cell? wr ⟨R, 4, none⟩ = some (.int .i64 (0)) := cell_of_row _ _ _ _ _ _ hpi.rr
      have q5 : World.cell? wr ⟨R, 5, none⟩ = some (.int .i64 (0)) := cell_of_row _ _ _ _ _ _ hpi.rr
      have qf : ∀ j, World.frozen? wr ⟨R, j, none⟩ = false := (fun j => frozen_of_row _ _ _ _ _ hpi.rr)
      have c0 : wr.cell? ⟨g, 1, none⟩ = some (.string X1) := by rw [HX1.out]; exact OC.out 1 _ rfl
      clear hpi
      cases ok1 with
      | true =>
        go_wp2_with (go_at_call 47; refine (CT1.out _).mono ?_; rintro e w' ⟨⟨n, rfl, hn⟩, rfl⟩; have HN := Lib.hid hn; clear hn)
        have hn := HN.out (by trivial)
        subst hn
        go_roundw
        case rel => exact ⟨Or.inr (Or.inr (Or.inl ⟨rfl, hk0, by trivial, P.out.set HRI.out HWI.out 3 _⟩)), OC.out.set HGI.out _ _⟩
        case measure => simp [intOf]
      | false =>
        go_wp2_with (go_at_call 47; refine (CT1.out _).mono ?_; rintro e w' ⟨⟨n, rfl, hn⟩, rfl⟩; clear hn)
        obtain ⟨e1, e2⟩ := HNO.out (HF1.out (by trivial))
        refine bodyPost_ret (v := .tuple #[zIns, .int .i64 3]) ?_ rfl ⟨by rw [e1, e2], ?_⟩
        · simp [results, Tryz.results19, go_sem, zIns, *]; try exact rfl
        · repeat' (first | (with_reducible exact P.out.bel) | (with_reducible refine Below.setCell (p := ⟨R, _, none⟩) ?_ HWR2.out _) | (with_reducible refine Below.setCell (p := ⟨I, _, none⟩) ?_ HWI.out _))
    · have P := Lib.hid hpi
      have i0 : World.cell? wr ⟨I, 0, none⟩ = some (.int .i64 ((op : Nat))) := cell_of_row _ _ _ _ _ _ hpi.ri
      have i1 : World.cell? wr ⟨I, 1, none⟩ = some (.int .i64 (0)) := cell_of_row _ _ _ _ _ _ hpi.ri
      have i2 : World.cell? wr ⟨I, 2, none⟩ = some (.int .i64 (v0)) := cell_of_row _ _ _ _ _ _ hpi.ri
      have i3 : World.cell? wr ⟨I, 3, none⟩ = some (.int .i64 (v1)) := cell_of_row _ _ _ _ _ _ hpi.ri
      have i4 : World.cell? wr ⟨I, 4, none⟩ = some (.int .i64 (0)) := cell_of_row _ _ _ _ _ _ hpi.ri
      have i5 : World.cell? wr ⟨I, 5, none⟩ = some (.int .i64 (0)) := cell_of_row _ _ _ _ _ _ hpi.ri
      have if_ : ∀ j, World.frozen? wr ⟨I, j, none⟩ = false := (fun j => frozen_of_row _ _ _ _ _ hpi.ri)
      have q0 : World.cell? wr ⟨R, 0, none⟩ = some (.int .i64 (0)) := cell_of_row _ _ _ _ _ _ hpi.rr
      have q1 : World.cell? wr ⟨R, 1, none⟩ = some (.int .i64 (0)) := cell_of_row _ _ _ _ _ _ hpi.rr
      have q2 : World.cell? wr ⟨R, 2, none⟩ = some (.int .i64 (0)) := cell_of_row _ _ _ _ _ _ hpi.rr
      have q3 : World.cell? wr ⟨R, 3, none⟩ = some (.int .i64 (0)) := cell_of_row _ _ _ _ _ _ hpi.rr
      have q4 : World.cell? wr ⟨R, 4, none⟩ = some (.int .i64 (0)) := cell_of_row _ _ _ _ _ _ hpi.rr
      have q5 : World.cell? wr ⟨R, 5, none⟩ = some (.int .i64 (0)) := cell_of_row _ _ _ _ _ _ hpi.rr
      have qf : ∀ j, World.frozen? wr ⟨R, j, none⟩ = false := (fun j => frozen_of_row _ _ _ _ _ hpi.rr)
      have c0 : wr.cell? ⟨g, 2, none⟩ = some (.string X2) := by rw [HX2.out]; exact OC.out 2 _ rfl
      clear hpi
      cases ok2 with
      | true =>
        go_wp2_with (go_at_call 48; refine (CT2.out _).mono ?_; rintro e w' ⟨⟨n, rfl, hn⟩, rfl⟩; have HN := Lib.hid hn; clear hn)
        have hn := HN.out (by trivial)
        subst hn
        go_roundw
        case rel => exact ⟨Or.inr (Or.inr (Or.inr (⟨rfl, hk0, hk1, by trivial, P.out.set HRI.out HWI.out 4 _⟩))), OC.out.set HGI.out _ _⟩
        case measure => simp [intOf]
      | false =>
        go_wp2_with (go_at_call 48; refine (CT2.out _).mono ?_; rintro e w' ⟨⟨n, rfl, hn⟩, rfl⟩; clear hn)
        obtain ⟨e1, e2⟩ := HNO.out (HF2.out (by trivial))
        refine bodyPost_ret (v := .tuple #[zIns, .int .i64 3]) ?_ rfl ⟨by rw [e1, e2], ?_⟩
        · simp [results, Tryz.results19, go_sem, zIns, *]; try exact rfl
        · repeat' (first | (with_reducible exact P.out.bel) | (with_reducible refine Below.setCell (p := ⟨R, _, none⟩) ?_ HWR2.out _) | (with_reducible refine Below.setCell (p := ⟨I, _, none⟩) ?_ HWI.out _))
    · have PE0 := Lib.hid hpi
      have i0 : World.cell? wr ⟨I, 0, none⟩ = some (.int .i64 ((op : Nat))) := cell_of_row _ _ _ _ _ _ hpi.ri
      have i1 : World.cell? wr ⟨I, 1, none⟩ = some (.int .i64 (0)) := cell_of_row _ _ _ _ _ _ hpi.ri
      have i2 : World.cell? wr ⟨I, 2, none⟩ = some (.int .i64 (v0)) := cell_of_row _ _ _ _ _ _ hpi.ri
      have i3 : World.cell? wr ⟨I, 3, none⟩ = some (.int .i64 (v1)) := cell_of_row _ _ _ _ _ _ hpi.ri
      have i4 : World.cell? wr ⟨I, 4, none⟩ = some (.int .i64 (v2)) := cell_of_row _ _ _ _ _ _ hpi.ri
      have i5 : World.cell? wr ⟨I, 5, none⟩ = some (.int .i64 (0)) := cell_of_row _ _ _ _ _ _ hpi.ri
      have if_ : ∀ j, World.frozen? wr ⟨I, j, none⟩ = false := (fun j => frozen_of_row _ _ _ _ _ hpi.ri)
      have q0 : World.cell? wr ⟨R, 0, none⟩ = some (.int .i64 (0)) := cell_of_row _ _ _ _ _ _ hpi.rr
      have q1 : World.cell? wr ⟨R, 1, none⟩ = some (.int .i64 (0)) := cell_of_row _ _ _ _ _ _ hpi.rr
      have q2 : World.cell? wr ⟨R, 2, none⟩ = some (.int .i64 (0)) := cell_of_row _ _ _ _ _ _ hpi.rr
      have q3 : World.cell? wr ⟨R, 3, none⟩ = some (.int .i64 (0)) := cell_of_row _ _ _ _ _ _ hpi.rr
      have q4 : World.cell? wr ⟨R, 4, none⟩ = some (.int .i64 (0)) := cell_of_row _ _ _ _ _ _ hpi.rr
      have q5 : World.cell? wr ⟨R, 5, none⟩ = some (.int .i64 (0)) := cell_of_row _ _ _ _ _ _ hpi.rr
      have qf : ∀ j, World.frozen? wr ⟨R, j, none⟩ = false := (fun j => frozen_of_row _ _ _ _ _ hpi.rr)
      clear hpi
      have PE := PE0
      by_cases hc : Can op (0) (v0) (v1) (v2) (0)
      · have CK := Lib.hid (fun w => rcheck3_any op (0) (v0) (v1) (v2) (0) 0 (by rw [if_pos hc]) w)
        have hpt := HYC.out hk0 hk1 hk2 hc
        have HPT := Lib.hid hpt
        clear hc hpt
        go_wp2_with (first | (go_at_call 30; refine (KD.out _).mono ?_; rintro e w4 ⟨rfl, rfl⟩) | (go_at_call 39; refine (CK.out _).mono ?_; rintro e w5 ⟨rfl, hb⟩; have P5 := Lib.hid (PE.out.below hb); clear hb i0 i1 i2 i3 i4 i5 if_ q0 q1 q2 q3 q4 q5 qf ; have i0 : World.cell? w5 ⟨I, 0, none⟩ = some (.int .i64 ((op : Nat))) := cell_of_row _ _ _ _ _ _ P5.out.ri; have i1 : World.cell? w5 ⟨I, 1, none⟩ = some (.int .i64 (0)) := cell_of_row _ _ _ _ _ _ P5.out.ri; have i2 : World.cell? w5 ⟨I, 2, none⟩ = some (.int .i64 (v0)) := cell_of_row _ _ _ _ _ _ P5.out.ri; have i3 : World.cell? w5 ⟨I, 3, none⟩ = some (.int .i64 (v1)) := cell_of_row _ _ _ _ _ _ P5.out.ri; have i4 : World.cell? w5 ⟨I, 4, none⟩ = some (.int .i64 (v2)) := cell_of_row _ _ _ _ _ _ P5.out.ri; have i5 : World.cell? w5 ⟨I, 5, none⟩ = some (.int .i64 (0)) := cell_of_row _ _ _ _ _ _ P5.out.ri; have if_ : ∀ j, World.frozen? w5 ⟨I, j, none⟩ = false := (fun j => frozen_of_row _ _ _ _ _ P5.out.ri); have q0 : World.cell? w5 ⟨R, 0, none⟩ = some (.int .i64 (0)) := cell_of_row _ _ _ _ _ _ P5.out.rr; have q1 : World.cell? w5 ⟨R, 1, none⟩ = some (.int .i64 (0)) := cell_of_row _ _ _ _ _ _ P5.out.rr; have q2 : World.cell? w5 ⟨R, 2, none⟩ = some (.int .i64 (0)) := cell_of_row _ _ _ _ _ _ P5.out.rr; have q3 : World.cell? w5 ⟨R, 3, none⟩ = some (.int .i64 (0)) := cell_of_row _ _ _ _ _ _ P5.out.rr; have q4 : World.cell? w5 ⟨R, 4, none⟩ = some (.int .i64 (0)) := cell_of_row _ _ _ _ _ _ P5.out.rr; have q5 : World.cell? w5 ⟨R, 5, none⟩ = some (.int .i64 (0)) := cell_of_row _ _ _ _ _ _ P5.out.rr; have qf : ∀ j, World.frozen? w5 ⟨R, j, none⟩ = false := (fun j => frozen_of_row _ _ _ _ _ P5.out.rr)))
        obtain ⟨e1, e2⟩ := HYES.out _ HPT.out
        refine bodyPost_ret (v := .tuple #[.agg #[.int .i64 (op : Nat), .int .i64 0, .int .i64 (v0), .int .i64 (v1), .int .i64 (v2), .int .i64 0], .int .i64 0]) ?_ rfl ⟨by rw [e1, e2]; rfl, ?_⟩
        · simp [results, Tryz.results19, go_sem, *]; try exact rfl
        · repeat' (first | (with_reducible exact P5.out.bel) | (with_reducible refine Below.setCell (p := ⟨R, _, none⟩) ?_ HWR2.out _))
      · have CK := Lib.hid (fun w => rcheck3_any op (0) (v0) (v1) (v2) (0) 1 (by rw [if_neg hc]) w)
        have hpt := HNC.out hc
        have HPT := Lib.hid hpt
        clear hc hpt
        go_wp2_with (first | (go_at_call 30; refine (KD.out _).mono ?_; rintro e w4 ⟨rfl, rfl⟩) | (go_at_call 39; refine (CK.out _).mono ?_; rintro e w5 ⟨rfl, hb⟩; have P5 := Lib.hid (PE.out.below hb); clear hb i0 i1 i2 i3 i4 i5 if_ q0 q1 q2 q3 q4 q5 qf ; have i0 : World.cell? w5 ⟨I, 0, none⟩ = some (.int .i64 ((op : Nat))) := cell_of_row _ _ _ _ _ _ P5.out.ri; have i1 : World.cell? w5 ⟨I, 1, none⟩ = some (.int .i64 (0)) := cell_of_row _ _ _ _ _ _ P5.out.ri; have i2 : World.cell? w5 ⟨I, 2, none⟩ = some (.int .i64 (v0)) := cell_of_row _ _ _ _ _ _ P5.out.ri; have i3 : World.cell? w5 ⟨I, 3, none⟩ = some (.int .i64 (v1)) := cell_of_row _ _ _ _ _ _ P5.out.ri; have i4 : World.cell? w5 ⟨I, 4, none⟩ = some (.int .i64 (v2)) := cell_of_row _ _ _ _ _ _ P5.out.ri; have i5 : World.cell? w5 ⟨I, 5, none⟩ = some (.int .i64 (0)) := cell_of_row _ _ _ _ _ _ P5.out.ri; have if_ : ∀ j, World.frozen? w5 ⟨I, j, none⟩ = false := (fun j => frozen_of_row _ _ _ _ _ P5.out.ri); have q0 : World.cell? w5 ⟨R, 0, none⟩ = some (.int .i64 (0)) := cell_of_row _ _ _ _ _ _ P5.out.rr; have q1 : World.cell? w5 ⟨R, 1, none⟩ = some (.int .i64 (0)) := cell_of_row _ _ _ _ _ _ P5.out.rr; have q2 : World.cell? w5 ⟨R, 2, none⟩ = some (.int .i64 (0)) := cell_of_row _ _ _ _ _ _ P5.out.rr; have q3 : World.cell? w5 ⟨R, 3, none⟩ = some (.int .i64 (0)) := cell_of_row _ _ _ _ _ _ P5.out.rr; have q4 : World.cell? w5 ⟨R, 4, none⟩ = some (.int .i64 (0)) := cell_of_row _ _ _ _ _ _ P5.out.rr; have q5 : World.cell? w5 ⟨R, 5, none⟩ = some (.int .i64 (0)) := cell_of_row _ _ _ _ _ _ P5.out.rr; have qf : ∀ j, World.frozen? w5 ⟨R, j, none⟩ = false := (fun j => frozen_of_row _ _ _ _ _ P5.out.rr)))
        obtain ⟨e1, e2⟩ := HNO.out (HPT.out)
        refine bodyPost_ret (v := .tuple #[zIns, .int .i64 3]) ?_ rfl ⟨by rw [e1, e2], ?_⟩
        · simp [results, Tryz.results19, go_sem, zIns, *]; try exact rfl
        · repeat' (first | (with_reducible exact P5.out.bel) | (with_reducible refine Below.setCell (p := ⟨R, _, none⟩) ?_ HWR2.out _) | (with_reducible refine Below.setCell (p := ⟨I, _, none⟩) ?_ HWI.out _))

set_option maxHeartbeats 8000000 in
theorem rparse_R (s : List UInt8) (hs : s.length ≤ 70000) (op : Nat) (hop : op < 57) (k : kN op = 82) (hf : findT (partsT s).1 = some op) (x y z : List UInt8) (hl : (partsT s).2 = [x, y, z]) (w : World) : Calls Tryz.prog 19 #[.string (bs s)] w fun e w' => e = .returned (.tuple #[insV (parseT s), .int .i64 (insN (parseT s))]) ∧ Below w.heap.size w w' := by
  have hP := spec_R hop k hf hl
  have PA := Lib.hid (fun w => rparts_any s hs w)
  have hsm := (parts_small hs).1
  rw [hl] at hsm
  simp only [hl] at PA
  have FH := Lib.hid (fun w => rfind_hit (bs (partsT s).1) op hop (by rw [bs_list, (find_some hf).2]) w)
  have SH := Lib.hid (fun w => rshape_any op hop w)
  have KD := Lib.hid (fun w => rkind_in op hop w)
  rw [k] at KD SH
  rw [show shapeK 82 = [100, 115, 116] from by decide, show bs [100, 115, 116] = (⟨#[100, 115, 116]⟩ : ByteArray) from rfl] at SH
  clear k
  generalize bs (partsT s).1 = NMB at PA FH
  have hx0 : x.length ≤ 70000 := hsm x (by simp)
  have CT0 := Lib.hid (fun w => rreg_any x hx0 w)
  obtain ⟨ok0, hok0⟩ : ∃ b, b = rgB x := ⟨_, rfl⟩
  obtain ⟨v0, hv0⟩ : ∃ b, b = rgV x := ⟨_, rfl⟩
  rw [← hok0, ← hv0] at hP
  simp only [← hok0, ← hv0] at CT0
  obtain ⟨X0, hX0⟩ : ∃ b, b = bs x := ⟨_, rfl⟩
  rw [← hX0] at CT0
  have HX0 := Lib.hid hX0
  clear hX0 hx0 hok0 hv0
  have hx1 : y.length ≤ 70000 := hsm y (by simp)
  have CT1 := Lib.hid (fun w => rreg_any y hx1 w)
  obtain ⟨ok1, hok1⟩ : ∃ b, b = rgB y := ⟨_, rfl⟩
  obtain ⟨v1, hv1⟩ : ∃ b, b = rgV y := ⟨_, rfl⟩
  rw [← hok1, ← hv1] at hP
  simp only [← hok1, ← hv1] at CT1
  obtain ⟨X1, hX1⟩ : ∃ b, b = bs y := ⟨_, rfl⟩
  rw [← hX1] at CT1
  have HX1 := Lib.hid hX1
  clear hX1 hx1 hok1 hv1
  have hx2 : z.length ≤ 70000 := hsm z (by simp)
  have CT2 := Lib.hid (fun w => rreg_any z hx2 w)
  obtain ⟨ok2, hok2⟩ : ∃ b, b = rgB z := ⟨_, rfl⟩
  obtain ⟨v2, hv2⟩ : ∃ b, b = rgV z := ⟨_, rfl⟩
  rw [← hok2, ← hv2] at hP
  simp only [← hok2, ← hv2] at CT2
  obtain ⟨X2, hX2⟩ : ∃ b, b = bs z := ⟨_, rfl⟩
  rw [← hX2] at CT2
  have HX2 := Lib.hid hX2
  clear hX2 hx2 hok2 hv2
  have HF0 : Hid (ok0 = false → parseT s = none) := Lib.hid (fun h => by rw [hP, if_neg]; rintro ⟨⟨h0, h1, h2⟩, _⟩; rw [h] at h0; cases h0)
  have HF1 : Hid (ok1 = false → parseT s = none) := Lib.hid (fun h => by rw [hP, if_neg]; rintro ⟨⟨h0, h1, h2⟩, _⟩; rw [h] at h1; cases h1)
  have HF2 : Hid (ok2 = false → parseT s = none) := Lib.hid (fun h => by rw [hP, if_neg]; rintro ⟨⟨h0, h1, h2⟩, _⟩; rw [h] at h2; cases h2)
  have HNC : Hid (¬ Can op (v0) (v1) (v2) (0) (0) → parseT s = none) := Lib.hid (fun h => by rw [hP, if_neg]; rintro ⟨_, hc⟩; exact h hc)
  have HYC : Hid (ok0 = true → ok1 = true → ok2 = true → Can op (v0) (v1) (v2) (0) (0) → parseT s = some ⟨op, v0, v1, v2, 0, 0⟩) := Lib.hid (fun h0 h1 h2 hc => by rw [hP, if_pos ⟨⟨h0, h1, h2⟩, hc⟩])
  obtain ⟨PT, hPT⟩ : ∃ PT, PT = parseT s := ⟨_, rfl⟩
  rw [← hPT] at HF0 HF1 HF2 HNC HYC ⊢
  obtain ⟨RV, hRV⟩ : ∃ RV, RV = insV PT := ⟨_, rfl⟩
  obtain ⟨RN, hRN⟩ : ∃ RN, RN = insN PT := ⟨_, rfl⟩
  rw [← hRV, ← hRN]
  have HNO : Hid (PT = none → RV = zIns ∧ RN = 3) := Lib.hid (fun h => by rw [hRV, hRN, h]; exact ⟨rfl, rfl⟩)
  have HYES : Hid (∀ i, PT = some i → RV = i.v ∧ RN = 0) := Lib.hid (fun i h => by rw [hRV, hRN, h]; exact ⟨rfl, rfl⟩)
  have r0 := heap_alloc_new w (.cells #[.int .i64 0, .int .i64 0, .int .i64 0, .int .i64 0, .int .i64 0, .int .i64 0] 34)
  have b0 : Below w.heap.size w (w.alloc (.cells #[.int .i64 0, .int .i64 0, .int .i64 0, .int .i64 0, .int .i64 0, .int .i64 0] 34)) := (Below.refl _ _).alloc (Nat.le_refl _) _
  have B0 := Lib.hid b0
  obtain ⟨R, hR⟩ : ∃ R, R = w.heap.size := ⟨_, rfl⟩
  rw [← hR] at r0
  have R0 := Lib.hid r0
  have HR := Lib.hid hR
  have hwR : w.heap.size ≤ R := by omega
  have HWR2 := Lib.hid hwR
  obtain ⟨S, hS⟩ : ∃ S, S = bs s := ⟨_, rfl⟩
  rw [← hS] at PA ⊢
  clear hP hPT hRV hRN r0 b0 hsm hl hf hs hop hwR hS
  go_enter Tryz.func19, Tryz.ntmps19
  go_upto_region 1 with (fail)
  rw [← hR]
  clear hR
  generalize World.alloc w _ = w0 at *
  go_upto_region 4 with (first | (go_at_call 28; refine (PA.out _).mono ?_; rintro e w1 ⟨⟨v, rfl, hrow⟩, hb⟩; (obtain ⟨A, cap, rfl, hg⟩ := rowS_all hrow); (obtain ⟨g, rfl, hg1, hg2, hgc⟩ : ∃ g, A = some ⟨g, 0, none⟩ ∧ w0.heap.size ≤ g ∧ g < w1.heap.size ∧ OpC g [x, y, z] w1 := hg.resolve_left (by simp)); have OC1 := Lib.hid hgc; have HG1 := Lib.hid hg2; clear hgc hg hrow hg1 hg2; have B1 := Lib.hid (B0.out.trans (hb.mono B0.out.size)); have R1 := Lib.hid ((hb.block _ (heap_lt R0.out)).trans R0.out); clear hb) | (go_at_call 29; refine (FH.out _).mono ?_; rintro e w2 ⟨rfl, hb⟩; have B2 := Lib.hid (B1.out.trans (hb.mono B1.out.size)); have R2 := Lib.hid ((hb.block _ (heap_lt R1.out)).trans R1.out); have OC2 := Lib.hid (OC1.out.below hb); have HG2 := Lib.hid (Nat.lt_of_lt_of_le HG1.out hb.size); clear hb) | (go_at_call 41; refine (SH.out _).mono ?_; rintro e w' ⟨rfl, rfl⟩))
  try simp only [List.length_cons, List.length_nil]
  go_upto_region 7 with (fail)
  have b3 : Below w2.heap.size w2 (w2.alloc (.cells #[.int .i64 (op : Nat), .int .i64 0, .int .i64 0, .int .i64 0, .int .i64 0, .int .i64 0] 34)) := (Below.refl _ _).alloc (Nat.le_refl _) _
  have P3 : PIn w R w2.heap.size #[.int .i64 (op : Nat), .int .i64 0, .int .i64 0, .int .i64 0, .int .i64 0, .int .i64 0] (w2.alloc (.cells #[.int .i64 (op : Nat), .int .i64 0, .int .i64 0, .int .i64 0, .int .i64 0, .int .i64 0] 34)) := ⟨heap_alloc_new w2 _, (b3.block _ (heap_lt R2.out)).trans R2.out, B2.out.trans (b3.mono B2.out.size)⟩
  have OC3 := Lib.hid (OC2.out.below b3)
  obtain ⟨I, hI⟩ : ∃ I, I = w2.heap.size := ⟨_, rfl⟩
  have hRI : R ≠ I := by have := heap_lt R2.out; omega
  have hwI : w.heap.size ≤ I := by have := B2.out.size; omega
  have hgI : g ≠ I := by have := HG2.out; omega
  have HRI := Lib.hid hRI
  have HWI := Lib.hid hwI
  have HGI := Lib.hid hgI
  rw [← hI] at P3 ⊢
  generalize w2.alloc (.cells #[.int .i64 (op : Nat), .int .i64 0, .int .i64 0, .int .i64 0, .int .i64 0, .int .i64 0] 34) = w3 at *
  have PI3 := Lib.hid P3
  clear b3 P3 hI hwI hgI
  go_upto_region 8 with (fail)
  go_loopw [10] (fun xx wr => ((xx = .int .i64 0 ∧ PIn w R I #[.int .i64 (op : Nat), .int .i64 0, .int .i64 0, .int .i64 0, .int .i64 0, .int .i64 0] wr) ∨ (xx = .int .i64 1 ∧ ok0 = true ∧ PIn w R I #[.int .i64 (op : Nat), .int .i64 (v0), .int .i64 0, .int .i64 0, .int .i64 0, .int .i64 0] wr) ∨ (xx = .int .i64 2 ∧ ok0 = true ∧ ok1 = true ∧ PIn w R I #[.int .i64 (op : Nat), .int .i64 (v0), .int .i64 (v1), .int .i64 0, .int .i64 0, .int .i64 0] wr) ∨ (xx = .int .i64 3 ∧ ok0 = true ∧ ok1 = true ∧ ok2 = true ∧ PIn w R I #[.int .i64 (op : Nat), .int .i64 (v0), .int .i64 (v1), .int .i64 (v2), .int .i64 0, .int .i64 0] wr)) ∧ OpC g [x, y, z] wr) (fun xx _ => 3 - (intOf xx).toNat)
  case atStart => exact ⟨Or.inl ⟨rfl, PI3.out⟩, OC3.out⟩
  case round =>
    obtain ⟨hor, hoc⟩ := hrel
    have OC := Lib.hid hoc
    clear hoc
    rcases hor with ⟨rfl, hpi⟩ | ⟨rfl, hk0, hpi⟩ | ⟨rfl, hk0, hk1, hpi⟩ | ⟨rfl, hk0, hk1, hk2, hpi⟩
    · have P := Lib.hid hpi
      have i0 : World.cell? wr ⟨I, 0, none⟩ = some (.int .i64 ((op : Nat))) := cell_of_row _ _ _ _ _ _ hpi.ri
      have i1 : World.cell? wr ⟨I, 1, none⟩ = some (.int .i64 (0)) := cell_of_row _ _ _ _ _ _ hpi.ri
      have i2 : World.cell? wr ⟨I, 2, none⟩ = some (.int .i64 (0)) := cell_of_row _ _ _ _ _ _ hpi.ri
      have i3 : World.cell? wr ⟨I, 3, none⟩ = some (.int .i64 (0)) := cell_of_row _ _ _ _ _ _ hpi.ri
      have i4 : World.cell? wr ⟨I, 4, none⟩ = some (.int .i64 (0)) := cell_of_row _ _ _ _ _ _ hpi.ri
      have i5 : World.cell? wr ⟨I, 5, none⟩ = some (.int .i64 (0)) := cell_of_row _ _ _ _ _ _ hpi.ri
      have if_ : ∀ j, World.frozen? wr ⟨I, j, none⟩ = false := (fun j => frozen_of_row _ _ _ _ _ hpi.ri)
      have q0 : World.cell? wr ⟨R, 0, none⟩ = some (.int .i64 (0)) := cell_of_row _ _ _ _ _ _ hpi.rr
      have q1 : World.cell? wr ⟨R, 1, none⟩ = some (.int .i64 (0)) := cell_of_row _ _ _ _ _ _ hpi.rr
      have q2 : World.cell? wr ⟨R, 2, none⟩ = some (.int .i64 (0)) := cell_of_row _ _ _ _ _ _ hpi.rr
      have q3 : World.cell? wr ⟨R, 3, none⟩ = some (.int .i64 (0)) := cell_of_row _ _ _ _ _ _ hpi.rr
      have q4 : World.cell? wr ⟨R, 4, none⟩ = some (.int .i64 (0)) := cell_of_row _ _ _ _ _ _ hpi.rr
      have q5 : World.cell? wr ⟨R, 5, none⟩ = some (.int .i64 (0)) := cell_of_row _ _ _ _ _ _ hpi.rr
      have qf : ∀ j, World.frozen? wr ⟨R, j, none⟩ = false := (fun j => frozen_of_row _ _ _ _ _ hpi.rr)
      have c0 : wr.cell? ⟨g, 0, none⟩ = some (.string X0) := by rw [HX0.out]; exact OC.out 0 _ rfl
      clear hpi
      cases ok0 with
      | true =>
        go_wp2_with (go_at_call 47; refine (CT0.out _).mono ?_; rintro e w' ⟨⟨n, rfl, hn⟩, rfl⟩; have HN := Lib.hid hn; clear hn)
        have hn := HN.out (by trivial)
        subst hn
        go_roundw
        case rel => exact ⟨Or.inr (Or.inl ⟨rfl, by trivial, P.out.set HRI.out HWI.out 1 _⟩), OC.out.set HGI.out _ _⟩
        case measure => simp [intOf]
      | false =>
        go_wp2_with (go_at_call 47; refine (CT0.out _).mono ?_; rintro e w' ⟨⟨n, rfl, hn⟩, rfl⟩; clear hn)
        obtain ⟨e1, e2⟩ := HNO.out (HF0.out (by trivial))
        refine bodyPost_ret (v := .tuple #[zIns, .int .i64 3]) ?_ rfl ⟨by rw [e1, e2], ?_⟩
        · simp [results, Tryz.results19, go_sem, zIns, *]; try exact rfl
        · repeat' (first | (with_reducible exact P.out.bel) | (with_reducible refine Below.setCell (p := ⟨R, _, none⟩) ?_ HWR2.out _) | (with_reducible refine Below.setCell (p := ⟨I, _, none⟩) ?_ HWI.out _))
    · have P := Lib.hid hpi
      have i0 : World.cell? wr ⟨I, 0, none⟩ = some (.int .i64 ((op : Nat))) := cell_of_row _ _ _ _ _ _ hpi.ri
      have i1 : World.cell? wr ⟨I, 1, none⟩ = some (.int .i64 (v0)) := cell_of_row _ _ _ _ _ _ hpi.ri
      have i2 : World.cell? wr ⟨I, 2, none⟩ = some (.int .i64 (0)) := cell_of_row _ _ _ _ _ _ hpi.ri
      have i3 : World.cell? wr ⟨I, 3, none⟩ = some (.int .i64 (0)) := cell_of_row _ _ _ _ _ _ hpi.ri
      have i4 : World.cell? wr ⟨I, 4, none⟩ = some (.int .i64 (0)) := cell_of_row _ _ _ _ _ _ hpi.ri
      have i5 : World.cell? wr ⟨I, 5, none⟩ = some (.int .i64 (0)) := cell_of_row _ _ _ _ _ _ hpi.ri
      have if_ : ∀ j, World.frozen? wr ⟨I, j, none⟩ = false := (fun j => frozen_of_row _ _ _ _ _ hpi.ri)
      have q0 : World.cell? wr ⟨R, 0, none⟩ = some (.int .i64 (0)) := cell_of_row _ _ _ _ _ _ hpi.rr
      have q1 : World.cell? wr ⟨R, 1, none⟩ = some (.int .i64 (0)) := cell_of_row _ _ _ _ _ _ hpi.rr
      have q2 : World.cell? wr ⟨R, 2, none⟩ = some (.int .i64 (0)) := cell_of_row _ _ _ _ _ _ hpi.rr
      have q3 : World.cell? wr ⟨R, 3, none⟩ = some (.int .i64 (0)) := cell_of_row _ _ _ _ _ _ hpi.rr
      have q4 : World.cell? wr ⟨R, 4, none⟩ = some (.int .i64 (0)) := cell_of_row _ _ _ _ _ _ hpi.rr
      have q5 : World.cell? wr ⟨R, 5, none⟩ = some (.int .i64 (0)) := cell_of_row _ _ _ _ _ _ hpi.rr
      have qf : ∀ j, World.frozen? wr ⟨R, j, none⟩ = false := (fun j => frozen_of_row _ _ _ _ _ hpi.rr)
      have c0 : wr.cell? ⟨g, 1, none⟩ = some (.string X1) := by rw [HX1.out]; exact OC.out 1 _ rfl
      clear hpi
      cases ok1 with
      | true =>
        go_wp2_with (go_at_call 47; refine (CT1.out _).mono ?_; rintro e w' ⟨⟨n, rfl, hn⟩, rfl⟩; have HN := Lib.hid hn; clear hn)
        have hn := HN.out (by trivial)
        subst hn
        go_roundw
        case rel => exact ⟨Or.inr (Or.inr (Or.inl ⟨rfl, hk0, by trivial, P.out.set HRI.out HWI.out 2 _⟩)), OC.out.set HGI.out _ _⟩
        case measure => simp [intOf]
      | false =>
        go_wp2_with (go_at_call 47; refine (CT1.out _).mono ?_; rintro e w' ⟨⟨n, rfl, hn⟩, rfl⟩; clear hn)
        obtain ⟨e1, e2⟩ := HNO.out (HF1.out (by trivial))
        refine bodyPost_ret (v := .tuple #[zIns, .int .i64 3]) ?_ rfl ⟨by rw [e1, e2], ?_⟩
        · simp [results, Tryz.results19, go_sem, zIns, *]; try exact rfl
        · repeat' (first | (with_reducible exact P.out.bel) | (with_reducible refine Below.setCell (p := ⟨R, _, none⟩) ?_ HWR2.out _) | (with_reducible refine Below.setCell (p := ⟨I, _, none⟩) ?_ HWI.out _))
    · have P := Lib.hid hpi
      have i0 : World.cell? wr ⟨I, 0, none⟩ = some (.int .i64 ((op : Nat))) := cell_of_row _ _ _ _ _ _ hpi.ri
      have i1 : World.cell? wr ⟨I, 1, none⟩ = some (.int .i64 (v0)) := cell_of_row _ _ _ _ _ _ hpi.ri
      have i2 : World.cell? wr ⟨I, 2, none⟩ = some (.int .i64 (v1)) := cell_of_row _ _ _ _ _ _ hpi.ri
      have i3 : World.cell? wr ⟨I, 3, none⟩ = some (.int .i64 (0)) := cell_of_row _ _ _ _ _ _ hpi.ri
      have i4 : World.cell? wr ⟨I, 4, none⟩ = some (.int .i64 (0)) := cell_of_row _ _ _ _ _ _ hpi.ri
      have i5 : World.cell? wr ⟨I, 5, none⟩ = some (.int .i64 (0)) := cell_of_row _ _ _ _ _ _ hpi.ri
      have if_ : ∀ j, World.frozen? wr ⟨I, j, none⟩ = false := (fun j => frozen_of_row _ _ _ _ _ hpi.ri)
      have q0 : World.cell? wr ⟨R, 0, none⟩ = some (.int .i64 (0)) := cell_of_row _ _ _ _ _ _ hpi.rr
      have q1 : World.cell? wr ⟨R, 1, none⟩ = some (.int .i64 (0)) := cell_of_row _ _ _ _ _ _ hpi.rr
      have q2 : World.cell? wr ⟨R, 2, none⟩ = some (.int .i64 (0)) := cell_of_row _ _ _ _ _ _ hpi.rr
      have q3 : World.cell? wr ⟨R, 3, none⟩ = some (.int .i64 (0)) := cell_of_row _ _ _ _ _ _ hpi.rr
      have q4 : World.cell? wr ⟨R, 4, none⟩ = some (.int .i64 (0)) := cell_of_row _ _ _ _ _ _ hpi.rr
      have q5 : World.cell? wr ⟨R, 5, none⟩ = some (.int .i64 (0)) := cell_of_row _ _ _ _ _ _ hpi.rr
      have qf : ∀ j, World.frozen? wr ⟨R, j, none⟩ = false := (fun j => frozen_of_row _ _ _ _ _ hpi.rr)
      have c0 : wr.cell? ⟨g, 2, none⟩ = some (.string X2) := by rw [HX2.out]; exact OC.out 2 _ rfl
      clear hpi
      cases ok2 with
      | true =>
        go_wp2_with (go_at_call 47; refine (CT2.out _).mono ?_; rintro e w' ⟨⟨n, rfl, hn⟩, rfl⟩; have HN := Lib.hid hn; clear hn)
        have hn := HN.out (by trivial)
        subst hn
        go_roundw
        case rel => exact ⟨Or.inr (Or.inr (Or.inr (⟨rfl, hk0, hk1, by trivial, P.out.set HRI.out HWI.out 3 _⟩))), OC.out.set HGI.out _ _⟩
        case measure => simp [intOf]
      | false =>
        go_wp2_with (go_at_call 47; refine (CT2.out _).mono ?_; rintro e w' ⟨⟨n, rfl, hn⟩, rfl⟩; clear hn)
        obtain ⟨e1, e2⟩ := HNO.out (HF2.out (by trivial))
        refine bodyPost_ret (v := .tuple #[zIns, .int .i64 3]) ?_ rfl ⟨by rw [e1, e2], ?_⟩
        · simp [results, Tryz.results19, go_sem, zIns, *]; try exact rfl
        · repeat' (first | (with_reducible exact P.out.bel) | (with_reducible refine Below.setCell (p := ⟨R, _, none⟩) ?_ HWR2.out _) | (with_reducible refine Below.setCell (p := ⟨I, _, none⟩) ?_ HWI.out _))
    · have PE0 := Lib.hid hpi
      have i0 : World.cell? wr ⟨I, 0, none⟩ = some (.int .i64 ((op : Nat))) := cell_of_row _ _ _ _ _ _ hpi.ri
      have i1 : World.cell? wr ⟨I, 1, none⟩ = some (.int .i64 (v0)) := cell_of_row _ _ _ _ _ _ hpi.ri
      have i2 : World.cell? wr ⟨I, 2, none⟩ = some (.int .i64 (v1)) := cell_of_row _ _ _ _ _ _ hpi.ri
      have i3 : World.cell? wr ⟨I, 3, none⟩ = some (.int .i64 (v2)) := cell_of_row _ _ _ _ _ _ hpi.ri
      have i4 : World.cell? wr ⟨I, 4, none⟩ = some (.int .i64 (0)) := cell_of_row _ _ _ _ _ _ hpi.ri
      have i5 : World.cell? wr ⟨I, 5, none⟩ = some (.int .i64 (0)) := cell_of_row _ _ _ _ _ _ hpi.ri
      have if_ : ∀ j, World.frozen? wr ⟨I, j, none⟩ = false := (fun j => frozen_of_row _ _ _ _ _ hpi.ri)
      have q0 : World.cell? wr ⟨R, 0, none⟩ = some (.int .i64 (0)) := cell_of_row _ _ _ _ _ _ hpi.rr
      have q1 : World.cell? wr ⟨R, 1, none⟩ = some (.int .i64 (0)) := cell_of_row _ _ _ _ _ _ hpi.rr
      have q2 : World.cell? wr ⟨R, 2, none⟩ = some (.int .i64 (0)) := cell_of_row _ _ _ _ _ _ hpi.rr
      have q3 : World.cell? wr ⟨R, 3, none⟩ = some (.int .i64 (0)) := cell_of_row _ _ _ _ _ _ hpi.rr
      have q4 : World.cell? wr ⟨R, 4, none⟩ = some (.int .i64 (0)) := cell_of_row _ _ _ _ _ _ hpi.rr
      have q5 : World.cell? wr ⟨R, 5, none⟩ = some (.int .i64 (0)) := cell_of_row _ _ _ _ _ _ hpi.rr
      have qf : ∀ j, World.frozen? wr ⟨R, j, none⟩ = false := (fun j => frozen_of_row _ _ _ _ _ hpi.rr)
      clear hpi
      have PE := PE0
      by_cases hc : Can op (v0) (v1) (v2) (0) (0)
      · have CK := Lib.hid (fun w => rcheck3_any op (v0) (v1) (v2) (0) (0) 0 (by rw [if_pos hc]) w)
        have hpt := HYC.out hk0 hk1 hk2 hc
        have HPT := Lib.hid hpt
        clear hc hpt
        go_wp2_with (first | (go_at_call 30; refine (KD.out _).mono ?_; rintro e w4 ⟨rfl, rfl⟩) | (go_at_call 39; refine (CK.out _).mono ?_; rintro e w5 ⟨rfl, hb⟩; have P5 := Lib.hid (PE.out.below hb); clear hb i0 i1 i2 i3 i4 i5 if_ q0 q1 q2 q3 q4 q5 qf ; have i0 : World.cell? w5 ⟨I, 0, none⟩ = some (.int .i64 ((op : Nat))) := cell_of_row _ _ _ _ _ _ P5.out.ri; have i1 : World.cell? w5 ⟨I, 1, none⟩ = some (.int .i64 (v0)) := cell_of_row _ _ _ _ _ _ P5.out.ri; have i2 : World.cell? w5 ⟨I, 2, none⟩ = some (.int .i64 (v1)) := cell_of_row _ _ _ _ _ _ P5.out.ri; have i3 : World.cell? w5 ⟨I, 3, none⟩ = some (.int .i64 (v2)) := cell_of_row _ _ _ _ _ _ P5.out.ri; have i4 : World.cell? w5 ⟨I, 4, none⟩ = some (.int .i64 (0)) := cell_of_row _ _ _ _ _ _ P5.out.ri; have i5 : World.cell? w5 ⟨I, 5, none⟩ = some (.int .i64 (0)) := cell_of_row _ _ _ _ _ _ P5.out.ri; have if_ : ∀ j, World.frozen? w5 ⟨I, j, none⟩ = false := (fun j => frozen_of_row _ _ _ _ _ P5.out.ri); have q0 : World.cell? w5 ⟨R, 0, none⟩ = some (.int .i64 (0)) := cell_of_row _ _ _ _ _ _ P5.out.rr; have q1 : World.cell? w5 ⟨R, 1, none⟩ = some (.int .i64 (0)) := cell_of_row _ _ _ _ _ _ P5.out.rr; have q2 : World.cell? w5 ⟨R, 2, none⟩ = some (.int .i64 (0)) := cell_of_row _ _ _ _ _ _ P5.out.rr; have q3 : World.cell? w5 ⟨R, 3, none⟩ = some (.int .i64 (0)) := cell_of_row _ _ _ _ _ _ P5.out.rr; have q4 : World.cell? w5 ⟨R, 4, none⟩ = some (.int .i64 (0)) := cell_of_row _ _ _ _ _ _ P5.out.rr; have q5 : World.cell? w5 ⟨R, 5, none⟩ = some (.int .i64 (0)) := cell_of_row _ _ _ _ _ _ P5.out.rr; have qf : ∀ j, World.frozen? w5 ⟨R, j, none⟩ = false := (fun j => frozen_of_row _ _ _ _ _ P5.out.rr)))
        obtain ⟨e1, e2⟩ := HYES.out _ HPT.out
        refine bodyPost_ret (v := .tuple #[.agg #[.int .i64 (op : Nat), .int .i64 (v0), .int .i64 (v1), .int .i64 (v2), .int .i64 0, .int .i64 0], .int .i64 0]) ?_ rfl ⟨by rw [e1, e2]; rfl, ?_⟩
        · simp [results, Tryz.results19, go_sem, *]; try exact rfl
        · repeat' (first | (with_reducible exact P5.out.bel) | (with_reducible refine Below.setCell (p := ⟨R, _, none⟩) ?_ HWR2.out _))
      · have CK := Lib.hid (fun w => rcheck3_any op (v0) (v1) (v2) (0) (0) 1 (by rw [if_neg hc]) w)
        have hpt := HNC.out hc
        have HPT := Lib.hid hpt
        clear hc hpt
        go_wp2_with (first | (go_at_call 30; refine (KD.out _).mono ?_; rintro e w4 ⟨rfl, rfl⟩) | (go_at_call 39; refine (CK.out _).mono ?_; rintro e w5 ⟨rfl, hb⟩; have P5 := Lib.hid (PE.out.below hb); clear hb i0 i1 i2 i3 i4 i5 if_ q0 q1 q2 q3 q4 q5 qf ; have i0 : World.cell? w5 ⟨I, 0, none⟩ = some (.int .i64 ((op : Nat))) := cell_of_row _ _ _ _ _ _ P5.out.ri; have i1 : World.cell? w5 ⟨I, 1, none⟩ = some (.int .i64 (v0)) := cell_of_row _ _ _ _ _ _ P5.out.ri; have i2 : World.cell? w5 ⟨I, 2, none⟩ = some (.int .i64 (v1)) := cell_of_row _ _ _ _ _ _ P5.out.ri; have i3 : World.cell? w5 ⟨I, 3, none⟩ = some (.int .i64 (v2)) := cell_of_row _ _ _ _ _ _ P5.out.ri; have i4 : World.cell? w5 ⟨I, 4, none⟩ = some (.int .i64 (0)) := cell_of_row _ _ _ _ _ _ P5.out.ri; have i5 : World.cell? w5 ⟨I, 5, none⟩ = some (.int .i64 (0)) := cell_of_row _ _ _ _ _ _ P5.out.ri; have if_ : ∀ j, World.frozen? w5 ⟨I, j, none⟩ = false := (fun j => frozen_of_row _ _ _ _ _ P5.out.ri); have q0 : World.cell? w5 ⟨R, 0, none⟩ = some (.int .i64 (0)) := cell_of_row _ _ _ _ _ _ P5.out.rr; have q1 : World.cell? w5 ⟨R, 1, none⟩ = some (.int .i64 (0)) := cell_of_row _ _ _ _ _ _ P5.out.rr; have q2 : World.cell? w5 ⟨R, 2, none⟩ = some (.int .i64 (0)) := cell_of_row _ _ _ _ _ _ P5.out.rr; have q3 : World.cell? w5 ⟨R, 3, none⟩ = some (.int .i64 (0)) := cell_of_row _ _ _ _ _ _ P5.out.rr; have q4 : World.cell? w5 ⟨R, 4, none⟩ = some (.int .i64 (0)) := cell_of_row _ _ _ _ _ _ P5.out.rr; have q5 : World.cell? w5 ⟨R, 5, none⟩ = some (.int .i64 (0)) := cell_of_row _ _ _ _ _ _ P5.out.rr; have qf : ∀ j, World.frozen? w5 ⟨R, j, none⟩ = false := (fun j => frozen_of_row _ _ _ _ _ P5.out.rr)))
        obtain ⟨e1, e2⟩ := HNO.out (HPT.out)
        refine bodyPost_ret (v := .tuple #[zIns, .int .i64 3]) ?_ rfl ⟨by rw [e1, e2], ?_⟩
        · simp [results, Tryz.results19, go_sem, zIns, *]; try exact rfl
        · repeat' (first | (with_reducible exact P5.out.bel) | (with_reducible refine Below.setCell (p := ⟨R, _, none⟩) ?_ HWR2.out _) | (with_reducible refine Below.setCell (p := ⟨I, _, none⟩) ?_ HWI.out _))

set_option maxHeartbeats 8000000 in
theorem rparse_N (s : List UInt8) (hs : s.length ≤ 70000) (op : Nat) (hop : op < 57) (k : kN op = 78) (hf : findT (partsT s).1 = some op) (hl : (partsT s).2 = []) (w : World) : Calls Tryz.prog 19 #[.string (bs s)] w fun e w' => e = .returned (.tuple #[insV (parseT s), .int .i64 (insN (parseT s))]) ∧ Below w.heap.size w w' := by
  have hP := spec_N hop k hf (u := ()) hl
  have PA := Lib.hid (fun w => rparts_any s hs w)
  have hsm := (parts_small hs).1
  rw [hl] at hsm
  simp only [hl] at PA
  have FH := Lib.hid (fun w => rfind_hit (bs (partsT s).1) op hop (by rw [bs_list, (find_some hf).2]) w)
  have SH := Lib.hid (fun w => rshape_any op hop w)
  have KD := Lib.hid (fun w => rkind_in op hop w)
  rw [k] at KD SH
  rw [show shapeK 78 = [] from by decide, show bs [] = (⟨#[]⟩ : ByteArray) from rfl] at SH
  clear k
  generalize bs (partsT s).1 = NMB at PA FH
  have HNC : Hid (¬ Can op (0) (0) (0) (0) (0) → parseT s = none) := Lib.hid (fun h => by rw [hP, if_neg]; rintro ⟨_, hc⟩; exact h hc)
  have HYC : Hid (Can op (0) (0) (0) (0) (0) → parseT s = some ⟨op, 0, 0, 0, 0, 0⟩) := Lib.hid (fun  hc => by rw [hP, if_pos ⟨trivial, hc⟩])
  obtain ⟨PT, hPT⟩ : ∃ PT, PT = parseT s := ⟨_, rfl⟩
  rw [← hPT] at  HNC HYC ⊢
  obtain ⟨RV, hRV⟩ : ∃ RV, RV = insV PT := ⟨_, rfl⟩
  obtain ⟨RN, hRN⟩ : ∃ RN, RN = insN PT := ⟨_, rfl⟩
  rw [← hRV, ← hRN]
  have HNO : Hid (PT = none → RV = zIns ∧ RN = 3) := Lib.hid (fun h => by rw [hRV, hRN, h]; exact ⟨rfl, rfl⟩)
  have HYES : Hid (∀ i, PT = some i → RV = i.v ∧ RN = 0) := Lib.hid (fun i h => by rw [hRV, hRN, h]; exact ⟨rfl, rfl⟩)
  have r0 := heap_alloc_new w (.cells #[.int .i64 0, .int .i64 0, .int .i64 0, .int .i64 0, .int .i64 0, .int .i64 0] 34)
  have b0 : Below w.heap.size w (w.alloc (.cells #[.int .i64 0, .int .i64 0, .int .i64 0, .int .i64 0, .int .i64 0, .int .i64 0] 34)) := (Below.refl _ _).alloc (Nat.le_refl _) _
  have B0 := Lib.hid b0
  obtain ⟨R, hR⟩ : ∃ R, R = w.heap.size := ⟨_, rfl⟩
  rw [← hR] at r0
  have R0 := Lib.hid r0
  have HR := Lib.hid hR
  have hwR : w.heap.size ≤ R := by omega
  have HWR2 := Lib.hid hwR
  obtain ⟨S, hS⟩ : ∃ S, S = bs s := ⟨_, rfl⟩
  rw [← hS] at PA ⊢
  clear hP hPT hRV hRN r0 b0 hsm hl hf hs hop hwR hS
  go_enter Tryz.func19, Tryz.ntmps19
  go_upto_region 1 with (fail)
  rw [← hR]
  clear hR
  generalize World.alloc w _ = w0 at *
  go_upto_region 4 with (first | (go_at_call 28; refine (PA.out _).mono ?_; rintro e w1 ⟨⟨v, rfl, hrow⟩, hb⟩; (obtain ⟨A, cap, rfl, hg⟩ := rowS_all hrow); clear hg hrow; have B1 := Lib.hid (B0.out.trans (hb.mono B0.out.size)); have R1 := Lib.hid ((hb.block _ (heap_lt R0.out)).trans R0.out); clear hb) | (go_at_call 29; refine (FH.out _).mono ?_; rintro e w2 ⟨rfl, hb⟩; have B2 := Lib.hid (B1.out.trans (hb.mono B1.out.size)); have R2 := Lib.hid ((hb.block _ (heap_lt R1.out)).trans R1.out); clear hb) | (go_at_call 41; refine (SH.out _).mono ?_; rintro e w' ⟨rfl, rfl⟩))
  go_upto_region 7 with (fail)
  have b3 : Below w2.heap.size w2 (w2.alloc (.cells #[.int .i64 (op : Nat), .int .i64 0, .int .i64 0, .int .i64 0, .int .i64 0, .int .i64 0] 34)) := (Below.refl _ _).alloc (Nat.le_refl _) _
  have P3 : PIn w R w2.heap.size #[.int .i64 (op : Nat), .int .i64 0, .int .i64 0, .int .i64 0, .int .i64 0, .int .i64 0] (w2.alloc (.cells #[.int .i64 (op : Nat), .int .i64 0, .int .i64 0, .int .i64 0, .int .i64 0, .int .i64 0] 34)) := ⟨heap_alloc_new w2 _, (b3.block _ (heap_lt R2.out)).trans R2.out, B2.out.trans (b3.mono B2.out.size)⟩
  obtain ⟨I, hI⟩ : ∃ I, I = w2.heap.size := ⟨_, rfl⟩
  have hRI : R ≠ I := by have := heap_lt R2.out; omega
  have hwI : w.heap.size ≤ I := by have := B2.out.size; omega
  have HRI := Lib.hid hRI
  have HWI := Lib.hid hwI
  rw [← hI] at P3 ⊢
  generalize w2.alloc (.cells #[.int .i64 (op : Nat), .int .i64 0, .int .i64 0, .int .i64 0, .int .i64 0, .int .i64 0] 34) = w3 at *
  have PI3 := Lib.hid P3
  clear b3 P3 hI hwI
  go_upto_region 8 with (fail)
  go_loopw [10] (fun xx wr => ((xx = .int .i64 0 ∧ PIn w R I #[.int .i64 (op : Nat), .int .i64 0, .int .i64 0, .int .i64 0, .int .i64 0, .int .i64 0] wr))) (fun xx _ => 0 - (intOf xx).toNat)
  case atStart => exact ⟨rfl, PI3.out⟩
  case round =>
    have hor := hrel
    rcases hor with ⟨rfl, hpi⟩
    · have PE0 := Lib.hid hpi
      have i0 : World.cell? wr ⟨I, 0, none⟩ = some (.int .i64 ((op : Nat))) := cell_of_row _ _ _ _ _ _ hpi.ri
      have i1 : World.cell? wr ⟨I, 1, none⟩ = some (.int .i64 (0)) := cell_of_row _ _ _ _ _ _ hpi.ri
      have i2 : World.cell? wr ⟨I, 2, none⟩ = some (.int .i64 (0)) := cell_of_row _ _ _ _ _ _ hpi.ri
      have i3 : World.cell? wr ⟨I, 3, none⟩ = some (.int .i64 (0)) := cell_of_row _ _ _ _ _ _ hpi.ri
      have i4 : World.cell? wr ⟨I, 4, none⟩ = some (.int .i64 (0)) := cell_of_row _ _ _ _ _ _ hpi.ri
      have i5 : World.cell? wr ⟨I, 5, none⟩ = some (.int .i64 (0)) := cell_of_row _ _ _ _ _ _ hpi.ri
      have if_ : ∀ j, World.frozen? wr ⟨I, j, none⟩ = false := (fun j => frozen_of_row _ _ _ _ _ hpi.ri)
      have q0 : World.cell? wr ⟨R, 0, none⟩ = some (.int .i64 (0)) := cell_of_row _ _ _ _ _ _ hpi.rr
      have q1 : World.cell? wr ⟨R, 1, none⟩ = some (.int .i64 (0)) := cell_of_row _ _ _ _ _ _ hpi.rr
      have q2 : World.cell? wr ⟨R, 2, none⟩ = some (.int .i64 (0)) := cell_of_row _ _ _ _ _ _ hpi.rr
      have q3 : World.cell? wr ⟨R, 3, none⟩ = some (.int .i64 (0)) := cell_of_row _ _ _ _ _ _ hpi.rr
      have q4 : World.cell? wr ⟨R, 4, none⟩ = some (.int .i64 (0)) := cell_of_row _ _ _ _ _ _ hpi.rr
      have q5 : World.cell? wr ⟨R, 5, none⟩ = some (.int .i64 (0)) := cell_of_row _ _ _ _ _ _ hpi.rr
      have qf : ∀ j, World.frozen? wr ⟨R, j, none⟩ = false := (fun j => frozen_of_row _ _ _ _ _ hpi.rr)
      clear hpi
      have PE := PE0
      by_cases hc : Can op (0) (0) (0) (0) (0)
      · have CK := Lib.hid (fun w => rcheck3_any op (0) (0) (0) (0) (0) 0 (by rw [if_pos hc]) w)
        have hpt := HYC.out  hc
        have HPT := Lib.hid hpt
        clear hc hpt
        go_wp2_with (first | (go_at_call 30; refine (KD.out _).mono ?_; rintro e w4 ⟨rfl, rfl⟩) | (go_at_call 39; refine (CK.out _).mono ?_; rintro e w5 ⟨rfl, hb⟩; have P5 := Lib.hid (PE.out.below hb); clear hb i0 i1 i2 i3 i4 i5 if_ q0 q1 q2 q3 q4 q5 qf ; have i0 : World.cell? w5 ⟨I, 0, none⟩ = some (.int .i64 ((op : Nat))) := cell_of_row _ _ _ _ _ _ P5.out.ri; have i1 : World.cell? w5 ⟨I, 1, none⟩ = some (.int .i64 (0)) := cell_of_row _ _ _ _ _ _ P5.out.ri; have i2 : World.cell? w5 ⟨I, 2, none⟩ = some (.int .i64 (0)) := cell_of_row _ _ _ _ _ _ P5.out.ri; have i3 : World.cell? w5 ⟨I, 3, none⟩ = some (.int .i64 (0)) := cell_of_row _ _ _ _ _ _ P5.out.ri; have i4 : World.cell? w5 ⟨I, 4, none⟩ = some (.int .i64 (0)) := cell_of_row _ _ _ _ _ _ P5.out.ri; have i5 : World.cell? w5 ⟨I, 5, none⟩ = some (.int .i64 (0)) := cell_of_row _ _ _ _ _ _ P5.out.ri; have if_ : ∀ j, World.frozen? w5 ⟨I, j, none⟩ = false := (fun j => frozen_of_row _ _ _ _ _ P5.out.ri); have q0 : World.cell? w5 ⟨R, 0, none⟩ = some (.int .i64 (0)) := cell_of_row _ _ _ _ _ _ P5.out.rr; have q1 : World.cell? w5 ⟨R, 1, none⟩ = some (.int .i64 (0)) := cell_of_row _ _ _ _ _ _ P5.out.rr; have q2 : World.cell? w5 ⟨R, 2, none⟩ = some (.int .i64 (0)) := cell_of_row _ _ _ _ _ _ P5.out.rr; have q3 : World.cell? w5 ⟨R, 3, none⟩ = some (.int .i64 (0)) := cell_of_row _ _ _ _ _ _ P5.out.rr; have q4 : World.cell? w5 ⟨R, 4, none⟩ = some (.int .i64 (0)) := cell_of_row _ _ _ _ _ _ P5.out.rr; have q5 : World.cell? w5 ⟨R, 5, none⟩ = some (.int .i64 (0)) := cell_of_row _ _ _ _ _ _ P5.out.rr; have qf : ∀ j, World.frozen? w5 ⟨R, j, none⟩ = false := (fun j => frozen_of_row _ _ _ _ _ P5.out.rr)))
        obtain ⟨e1, e2⟩ := HYES.out _ HPT.out
        refine bodyPost_ret (v := .tuple #[.agg #[.int .i64 (op : Nat), .int .i64 0, .int .i64 0, .int .i64 0, .int .i64 0, .int .i64 0], .int .i64 0]) ?_ rfl ⟨by rw [e1, e2]; rfl, ?_⟩
        · simp [results, Tryz.results19, go_sem, *]; try exact rfl
        · repeat' (first | (with_reducible exact P5.out.bel) | (with_reducible refine Below.setCell (p := ⟨R, _, none⟩) ?_ HWR2.out _))
      · have CK := Lib.hid (fun w => rcheck3_any op (0) (0) (0) (0) (0) 1 (by rw [if_neg hc]) w)
        have hpt := HNC.out hc
        have HPT := Lib.hid hpt
        clear hc hpt
        go_wp2_with (first | (go_at_call 30; refine (KD.out _).mono ?_; rintro e w4 ⟨rfl, rfl⟩) | (go_at_call 39; refine (CK.out _).mono ?_; rintro e w5 ⟨rfl, hb⟩; have P5 := Lib.hid (PE.out.below hb); clear hb i0 i1 i2 i3 i4 i5 if_ q0 q1 q2 q3 q4 q5 qf ; have i0 : World.cell? w5 ⟨I, 0, none⟩ = some (.int .i64 ((op : Nat))) := cell_of_row _ _ _ _ _ _ P5.out.ri; have i1 : World.cell? w5 ⟨I, 1, none⟩ = some (.int .i64 (0)) := cell_of_row _ _ _ _ _ _ P5.out.ri; have i2 : World.cell? w5 ⟨I, 2, none⟩ = some (.int .i64 (0)) := cell_of_row _ _ _ _ _ _ P5.out.ri; have i3 : World.cell? w5 ⟨I, 3, none⟩ = some (.int .i64 (0)) := cell_of_row _ _ _ _ _ _ P5.out.ri; have i4 : World.cell? w5 ⟨I, 4, none⟩ = some (.int .i64 (0)) := cell_of_row _ _ _ _ _ _ P5.out.ri; have i5 : World.cell? w5 ⟨I, 5, none⟩ = some (.int .i64 (0)) := cell_of_row _ _ _ _ _ _ P5.out.ri; have if_ : ∀ j, World.frozen? w5 ⟨I, j, none⟩ = false := (fun j => frozen_of_row _ _ _ _ _ P5.out.ri); have q0 : World.cell? w5 ⟨R, 0, none⟩ = some (.int .i64 (0)) := cell_of_row _ _ _ _ _ _ P5.out.rr; have q1 : World.cell? w5 ⟨R, 1, none⟩ = some (.int .i64 (0)) := cell_of_row _ _ _ _ _ _ P5.out.rr; have q2 : World.cell? w5 ⟨R, 2, none⟩ = some (.int .i64 (0)) := cell_of_row _ _ _ _ _ _ P5.out.rr; have q3 : World.cell? w5 ⟨R, 3, none⟩ = some (.int .i64 (0)) := cell_of_row _ _ _ _ _ _ P5.out.rr; have q4 : World.cell? w5 ⟨R, 4, none⟩ = some (.int .i64 (0)) := cell_of_row _ _ _ _ _ _ P5.out.rr; have q5 : World.cell? w5 ⟨R, 5, none⟩ = some (.int .i64 (0)) := cell_of_row _ _ _ _ _ _ P5.out.rr; have qf : ∀ j, World.frozen? w5 ⟨R, j, none⟩ = false := (fun j => frozen_of_row _ _ _ _ _ P5.out.rr)))
        obtain ⟨e1, e2⟩ := HNO.out (HPT.out)
        refine bodyPost_ret (v := .tuple #[zIns, .int .i64 3]) ?_ rfl ⟨by rw [e1, e2], ?_⟩
        · simp [results, Tryz.results19, go_sem, zIns, *]; try exact rfl
        · repeat' (first | (with_reducible exact P5.out.bel) | (with_reducible refine Below.setCell (p := ⟨R, _, none⟩) ?_ HWR2.out _) | (with_reducible refine Below.setCell (p := ⟨I, _, none⟩) ?_ HWI.out _))

end Go.Proofs.YtkcdnhennnjneaaGreatDoor
