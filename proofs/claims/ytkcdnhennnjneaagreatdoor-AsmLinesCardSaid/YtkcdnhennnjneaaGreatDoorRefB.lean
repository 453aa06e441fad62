import Derived.Test.YtkcdnhennnjneaaGreatDoorRefA
import Derived.Below
import Derived.Deep.Draws
import Derived.Deep.AppendLies
import Derived.Maps.AppendAt
import Derived.OwnWalk
import Derived.Laws.BytesArg
import Derived.Laws.MakeOwn
import Derived.Laws.OwnMore
import Derived.Deep.OwnRows
import Derived.Tactics
import Derived.Lib.ConvBytes
import Derived.Laws.Slices
import Derived.WalkKit
import Derived.KernelRfl
import Derived.RowKit3
import Derived.Deep.LoopGhost
import Derived.Deep.QuietTactic
import Derived.BigQuiet
import Derived.WideLaws
import Derived.Deep.DeepCutAuto
import Derived.Deep.CutBlock
import Derived.Deep.RegionHeld3
import Derived.Laws.Rows
import Derived.Lib.AppendStr
import Derived.ArgAppend
import Derived.Laws.IdiomCopy
import Derived.OrdersHeld
import Derived.Laws.BitsLemmas
import Derived.RowKit
import Derived.Lib.Hide
import Derived.Laws.BitsAllLaws
import Derived.WalkLawsBesides
import Derived.WalkSpells
import Derived.LaidEql
namespace Go.Proofs.YtkcdnhennnjneaaGreatDoor
open Go.RowKit
set_option maxRecDepth 100000
set_option linter.unusedVariables false
set_option linter.unusedSimpArgs false

set_option maxHeartbeats 8000000 in
theorem rtext_U (op : Nat) (hop : op < 57) (hk : kN op = 85) (rd r1 r2 imm cs nV : Int) (hc : Can op rd r1 r2 imm cs) (hd : -4294967296 ≤ rd ∧ rd ≤ 4294967296) (h1 : -4294967296 ≤ r1 ∧ r1 ≤ 4294967296) (h2 : -4294967296 ≤ r2 ∧ r2 ≤ 4294967296) (hn : -4294967296 ≤ nV ∧ nV ≤ 4294967296) (hs : -4294967296 ≤ cs ∧ cs ≤ 4294967296) (hv : nV = Int.tdiv imm 4096) (T : List UInt8) (hT : PT (nmTab.getD op []) [regT rd, Lib.itoa nV] 2 = T) (w : World) : Calls Tryz.prog 15 #[.agg #[.int .i64 (op : Nat), .int .i64 rd, .int .i64 r1, .int .i64 r2, .int .i64 imm, .int .i64 cs]] w fun e w' => e = .returned (.tuple #[.string (bs T), .int .i64 0]) ∧ Below w.heap.size w w' := by
  have CK := Lib.hid (fun w => rcheck3_any op rd r1 r2 imm cs 0 (by rw [if_pos hc]) w)
  have NM := Lib.hid (fun w => rname_in op hop w)
  have KD := Lib.hid (fun w => rkind_in op hop w)
  have SH := Lib.hid (fun w => rshape_any op hop w)
  rw [hk] at KD SH
  rw [show shapeK 85 = [100, 110] from by decide, show bs [100, 110] = (⟨#[100, 110]⟩ : ByteArray) from rfl] at SH
  clear hk
  have hv2 : imm.tdiv 4096 = nV := hv.symm
  have hwr : wrap64 nV = nV := IntWalk.wrap64_in _ (by omega)
  clear hv
  have DRD := Lib.hid (fun w => rdec_any rd hd.1 hd.2 w)
  have DR1 := Lib.hid (fun w => rdec_any r1 h1.1 h1.2 w)
  have DR2 := Lib.hid (fun w => rdec_any r2 h2.1 h2.2 w)
  have DNV := Lib.hid (fun w => rdec_any nV hn.1 hn.2 w)
  have DCS := Lib.hid (fun w => rdec_any cs hs.1 hs.2 w)
  have zd := itoa_sz rd (by omega) (by omega)
  have z1 := itoa_sz r1 (by omega) (by omega)
  have z2 := itoa_sz r2 (by omega) (by omega)
  have zn := itoa_sz nV (by omega) (by omega)
  have zs := itoa_sz cs (by omega) (by omega)
  have hml := nm_small op hop
  have hpl : ∀ k, (bs (PT (nmTab.getD op []) [regT rd, Lib.itoa nV] k)).size ≤ 300 := fun k => by
    rw [bs_size]
    refine pt_len hml (fun y hy => ?_) (by simp) k
    rw [bs_size] at zd z1 z2 zn zs
    simp only [List.mem_cons, List.not_mem_nil, or_false] at hy
    rcases hy with rfl | rfl <;> first | omega | (simp only [regT, farT, List.length_cons, List.length_append, List.length_nil]; omega)
  have e0 : ((bs (PT (nmTab.getD op []) [regT rd, Lib.itoa nV] 0) ++ (⟨#[32]⟩ : ByteArray)) ++ (⟨#[120]⟩ : ByteArray)) ++ bs (Lib.itoa rd) = bs (PT (nmTab.getD op []) [regT rd, Lib.itoa nV] 1) := by
    rw [pt1]
    simp only [show ∀ l : List UInt8, (⟨l.toArray⟩ : ByteArray) = bs l from fun _ => rfl, bs_app]
    all_goals exact congrArg bs (by simp [regT, farT, pt0])
  have e1 : (bs (PT (nmTab.getD op []) [regT rd, Lib.itoa nV] 1) ++ (⟨#[44, 32]⟩ : ByteArray)) ++ bs (Lib.itoa nV) = bs (PT (nmTab.getD op []) [regT rd, Lib.itoa nV] 2) := by
    rw [pt2]
    simp only [show ∀ l : List UInt8, (⟨l.toArray⟩ : ByteArray) = bs l from fun _ => rfl, bs_app]
    all_goals exact congrArg bs (by simp [regT, farT])
  have ez : bs (nmTab.getD op []) = bs (PT (nmTab.getD op []) [regT rd, Lib.itoa nV] 0) := by rw [pt0]
  have ef : bs (PT (nmTab.getD op []) [regT rd, Lib.itoa nV] 2) = bs T := by rw [hT]
  have nz : nmB op = bs (nmTab.getD op []) := rfl
  rw [nz, ez] at NM
  clear ez nz hT hml
  have y0 := hpl 0
  have y1 := hpl 1
  have y2 := hpl 2
  clear hpl
  obtain ⟨Y0, hY0⟩ : ∃ Y, Y = bs (PT (nmTab.getD op []) [regT rd, Lib.itoa nV] 0) := ⟨_, rfl⟩
  rw [← hY0] at y0 e0 NM
  obtain ⟨Y1, hY1⟩ : ∃ Y, Y = bs (PT (nmTab.getD op []) [regT rd, Lib.itoa nV] 1) := ⟨_, rfl⟩
  rw [← hY1] at y1 e1 e0
  obtain ⟨Y2, hY2⟩ : ∃ Y, Y = bs (PT (nmTab.getD op []) [regT rd, Lib.itoa nV] 2) := ⟨_, rfl⟩
  rw [← hY2] at y2 ef e1
  obtain ⟨RD, hRD⟩ : ∃ Z, Z = bs (Lib.itoa rd) := ⟨_, rfl⟩
  rw [← hRD] at DRD zd e0
  obtain ⟨R1, hR1⟩ : ∃ Z, Z = bs (Lib.itoa r1) := ⟨_, rfl⟩
  rw [← hR1] at DR1 z1
  obtain ⟨R2, hR2⟩ : ∃ Z, Z = bs (Lib.itoa r2) := ⟨_, rfl⟩
  rw [← hR2] at DR2 z2
  obtain ⟨NV, hNV⟩ : ∃ Z, Z = bs (Lib.itoa nV) := ⟨_, rfl⟩
  rw [← hNV] at DNV zn e1
  obtain ⟨CS, hCS⟩ : ∃ Z, Z = bs (Lib.itoa cs) := ⟨_, rfl⟩
  rw [← hCS] at DCS zs
  have w0_0 : ¬ 9223372036854775807 < Y0.size + 1 := by omega
  have w0_1 : ¬ 9223372036854775807 < Y0.size + 1 + 1 := by omega
  have w0_2 : ¬ 9223372036854775807 < Y0.size + 1 + 1 + RD.size := by omega
  have E0 := Lib.hid e0
  have w1_0 : ¬ 9223372036854775807 < Y1.size + 2 := by omega
  have w1_1 : ¬ 9223372036854775807 < Y1.size + 2 + NV.size := by omega
  have E1 := Lib.hid e1
  have EF := Lib.hid ef
  clear ef zd z1 z2 zn zs hd h1 h2 hn hs hc e0 e1 y0 y1 y2 hY0 hY1 hY2 hRD hR1 hR2 hNV hCS
  have T0 := Lib.hid (TxC.new w op rd r1 r2 imm cs)
  go_enter Tryz.func15, Tryz.ntmps15
  go_upto_region 1 with (fail)
  generalize hw0 : World.alloc w _ = w0 at *
  obtain ⟨X, hX⟩ : ∃ X, X = w.heap.size := ⟨_, rfl⟩
  rw [← hX] at T0 ⊢
  obtain ⟨c0, c1, c2, c3, c4, c5, _, _⟩ := T0.out
  clear hw0 hX
  go_upto_region 3 with (go_at_call 39; refine (CK.out _).mono ?_; rintro e w1 ⟨rfl, hb⟩; have T1 := Lib.hid (T0.out.below hb); clear hb c0 c1 c2 c3 c4 c5)
  have D1 := Lib.hid (T1.out.drew 1)
  go_region_held3 (fun w' => w'.cell? ⟨X, 0, none⟩ = some (.int .i64 (op : Nat)) ∧ w'.cell? ⟨X, 1, none⟩ = some (.int .i64 rd) ∧ w'.cell? ⟨X, 2, none⟩ = some (.int .i64 r1) ∧ w'.cell? ⟨X, 3, none⟩ = some (.int .i64 r2) ∧ w'.cell? ⟨X, 4, none⟩ = some (.int .i64 imm) ∧ w'.cell? ⟨X, 5, none⟩ = some (.int .i64 cs) ∧ X < w'.heap.size ∧ Below w.heap.size w w')
    (first | exact D1.out | exact TxC.below (w := w) (X := X) (op := op) (rd := rd) (r1 := r1) (r2 := r2) (imm := imm) (cs := cs) (by assumption) hb)
    (first | (go_at_call 40; refine (NM.out _).mono ?_; rintro e w' ⟨rfl, hb⟩))
  rename_i hheld
  have TH : Hid (TxC w X (op : Nat) rd r1 r2 imm cs w') := Lib.hid hheld
  obtain ⟨c0, c1, c2, c3, c4, c5, _, _⟩ := hheld
  clear hb
  go_upto_region 7 with (first | (go_at_call 30; refine (KD.out _).mono ?_; rintro e w2 ⟨rfl, rfl⟩) | (go_at_call 41; refine (SH.out _).mono ?_; rintro e w2 ⟨rfl, rfl⟩))
  go_upto_region 8 with (fail)
  go_loopw [4, 7] (fun s x wr => ((x = .int .i64 0 ∧ s = .string Y0) ∨ (x = .int .i64 1 ∧ s = .string Y1) ∨ (x = .int .i64 2 ∧ s = .string Y2)) ∧ TxC w X (op : Nat) rd r1 r2 imm cs wr) (fun _ x _ => 2 - (intOf x).toNat)
  case atStart => exact ⟨Or.inl ⟨rfl, rfl⟩, TH.out⟩
  case round =>
    obtain ⟨hor, htx⟩ := hrel
    have TR := Lib.hid htx
    obtain ⟨c0, c1, c2, c3, c4, c5, _, _⟩ := htx
    rcases hor with ⟨rfl, rfl⟩ | ⟨rfl, rfl⟩ | ⟨rfl, rfl⟩
    · go_wp2_with (go_at_call 32; (first | (refine (DRD.out _).mono ?_)); rintro e w3 ⟨rfl, rfl⟩)
      go_roundw
      case rel => exact ⟨Or.inr (Or.inl ⟨rfl, congrArg Value.string E0.out⟩), TR.out⟩
      case measure => simp [intOf]
    · go_wp2_with (go_at_call 32; (first | (refine (DNV.out _).mono ?_)); rintro e w3 ⟨rfl, rfl⟩)
      go_roundw
      case rel => exact ⟨Or.inr (Or.inr (⟨rfl, congrArg Value.string E1.out⟩)), TR.out⟩
      case measure => simp [intOf]
    · go_wp2
      go_ret2
      exact ⟨by rw [← EF.out]; rfl, TR.out.2.2.2.2.2.2.2⟩

set_option maxHeartbeats 8000000 in
theorem rtext_J (op : Nat) (hop : op < 57) (hk : kN op = 74) (rd r1 r2 imm cs : Int) (hc : Can op rd r1 r2 imm cs) (hd : -4294967296 ≤ rd ∧ rd ≤ 4294967296) (h1 : -4294967296 ≤ r1 ∧ r1 ≤ 4294967296) (h2 : -4294967296 ≤ r2 ∧ r2 ≤ 4294967296) (hn : -4294967296 ≤ imm ∧ imm ≤ 4294967296) (hs : -4294967296 ≤ cs ∧ cs ≤ 4294967296) (T : List UInt8) (hT : PT (nmTab.getD op []) [regT rd, Lib.itoa imm] 2 = T) (w : World) : Calls Tryz.prog 15 #[.agg #[.int .i64 (op : Nat), .int .i64 rd, .int .i64 r1, .int .i64 r2, .int .i64 imm, .int .i64 cs]] w fun e w' => e = .returned (.tuple #[.string (bs T), .int .i64 0]) ∧ Below w.heap.size w w' := by
  have CK := Lib.hid (fun w => rcheck3_any op rd r1 r2 imm cs 0 (by rw [if_pos hc]) w)
  have NM := Lib.hid (fun w => rname_in op hop w)
  have KD := Lib.hid (fun w => rkind_in op hop w)
  have SH := Lib.hid (fun w => rshape_any op hop w)
  rw [hk] at KD SH
  rw [show shapeK 74 = [100, 110] from by decide, show bs [100, 110] = (⟨#[100, 110]⟩ : ByteArray) from rfl] at SH
  clear hk
  have DRD := Lib.hid (fun w => rdec_any rd hd.1 hd.2 w)
  have DR1 := Lib.hid (fun w => rdec_any r1 h1.1 h1.2 w)
  have DR2 := Lib.hid (fun w => rdec_any r2 h2.1 h2.2 w)
  have DNV := Lib.hid (fun w => rdec_any imm hn.1 hn.2 w)
  have DCS := Lib.hid (fun w => rdec_any cs hs.1 hs.2 w)
  have zd := itoa_sz rd (by omega) (by omega)
  have z1 := itoa_sz r1 (by omega) (by omega)
  have z2 := itoa_sz r2 (by omega) (by omega)
  have zn := itoa_sz imm (by omega) (by omega)
  have zs := itoa_sz cs (by omega) (by omega)
  have hml := nm_small op hop
  have hpl : ∀ k, (bs (PT (nmTab.getD op []) [regT rd, Lib.itoa imm] k)).size ≤ 300 := fun k => by
    rw [bs_size]
    refine pt_len hml (fun y hy => ?_) (by simp) k
    rw [bs_size] at zd z1 z2 zn zs
    simp only [List.mem_cons, List.not_mem_nil, or_false] at hy
    rcases hy with rfl | rfl <;> first | omega | (simp only [regT, farT, List.length_cons, List.length_append, List.length_nil]; omega)
  have e0 : ((bs (PT (nmTab.getD op []) [regT rd, Lib.itoa imm] 0) ++ (⟨#[32]⟩ : ByteArray)) ++ (⟨#[120]⟩ : ByteArray)) ++ bs (Lib.itoa rd) = bs (PT (nmTab.getD op []) [regT rd, Lib.itoa imm] 1) := by
    rw [pt1]
    simp only [show ∀ l : List UInt8, (⟨l.toArray⟩ : ByteArray) = bs l from fun _ => rfl, bs_app]
    all_goals exact congrArg bs (by simp [regT, farT, pt0])
  have e1 : (bs (PT (nmTab.getD op []) [regT rd, Lib.itoa imm] 1) ++ (⟨#[44, 32]⟩ : ByteArray)) ++ bs (Lib.itoa imm) = bs (PT (nmTab.getD op []) [regT rd, Lib.itoa imm] 2) := by
    rw [pt2]
    simp only [show ∀ l : List UInt8, (⟨l.toArray⟩ : ByteArray) = bs l from fun _ => rfl, bs_app]
    all_goals exact congrArg bs (by simp [regT, farT])
  have ez : bs (nmTab.getD op []) = bs (PT (nmTab.getD op []) [regT rd, Lib.itoa imm] 0) := by rw [pt0]
  have ef : bs (PT (nmTab.getD op []) [regT rd, Lib.itoa imm] 2) = bs T := by rw [hT]
  have nz : nmB op = bs (nmTab.getD op []) := rfl
  rw [nz, ez] at NM
  clear ez nz hT hml
  have y0 := hpl 0
  have y1 := hpl 1
  have y2 := hpl 2
  clear hpl
  obtain ⟨Y0, hY0⟩ : ∃ Y, Y = bs (PT (nmTab.getD op []) [regT rd, Lib.itoa imm] 0) := ⟨_, rfl⟩
  rw [← hY0] at y0 e0 NM
  obtain ⟨Y1, hY1⟩ : ∃ Y, Y = bs (PT (nmTab.getD op []) [regT rd, Lib.itoa imm] 1) := ⟨_, rfl⟩
  rw [← hY1] at y1 e1 e0
  obtain ⟨Y2, hY2⟩ : ∃ Y, Y = bs (PT (nmTab.getD op []) [regT rd, Lib.itoa imm] 2) := ⟨_, rfl⟩
  rw [← hY2] at y2 ef e1
  obtain ⟨RD, hRD⟩ : ∃ Z, Z = bs (Lib.itoa rd) := ⟨_, rfl⟩
  rw [← hRD] at DRD zd e0
  obtain ⟨R1, hR1⟩ : ∃ Z, Z = bs (Lib.itoa r1) := ⟨_, rfl⟩
  rw [← hR1] at DR1 z1
  obtain ⟨R2, hR2⟩ : ∃ Z, Z = bs (Lib.itoa r2) := ⟨_, rfl⟩
  rw [← hR2] at DR2 z2
  obtain ⟨NV, hNV⟩ : ∃ Z, Z = bs (Lib.itoa imm) := ⟨_, rfl⟩
  rw [← hNV] at DNV zn e1
  obtain ⟨CS, hCS⟩ : ∃ Z, Z = bs (Lib.itoa cs) := ⟨_, rfl⟩
  rw [← hCS] at DCS zs
  have w0_0 : ¬ 9223372036854775807 < Y0.size + 1 := by omega
  have w0_1 : ¬ 9223372036854775807 < Y0.size + 1 + 1 := by omega
  have w0_2 : ¬ 9223372036854775807 < Y0.size + 1 + 1 + RD.size := by omega
  have E0 := Lib.hid e0
  have w1_0 : ¬ 9223372036854775807 < Y1.size + 2 := by omega
  have w1_1 : ¬ 9223372036854775807 < Y1.size + 2 + NV.size := by omega
  have E1 := Lib.hid e1
  have EF := Lib.hid ef
  clear ef zd z1 z2 zn zs hd h1 h2 hn hs hc e0 e1 y0 y1 y2 hY0 hY1 hY2 hRD hR1 hR2 hNV hCS
  have T0 := Lib.hid (TxC.new w op rd r1 r2 imm cs)
  go_enter Tryz.func15, Tryz.ntmps15
  go_upto_region 1 with (fail)
  generalize hw0 : World.alloc w _ = w0 at *
  obtain ⟨X, hX⟩ : ∃ X, X = w.heap.size := ⟨_, rfl⟩
  rw [← hX] at T0 ⊢
  obtain ⟨c0, c1, c2, c3, c4, c5, _, _⟩ := T0.out
  clear hw0 hX
  go_upto_region 3 with (go_at_call 39; refine (CK.out _).mono ?_; rintro e w1 ⟨rfl, hb⟩; have T1 := Lib.hid (T0.out.below hb); clear hb c0 c1 c2 c3 c4 c5)
  have D1 := Lib.hid (T1.out.drew 1)
  go_region_held3 (fun w' => w'.cell? ⟨X, 0, none⟩ = some (.int .i64 (op : Nat)) ∧ w'.cell? ⟨X, 1, none⟩ = some (.int .i64 rd) ∧ w'.cell? ⟨X, 2, none⟩ = some (.int .i64 r1) ∧ w'.cell? ⟨X, 3, none⟩ = some (.int .i64 r2) ∧ w'.cell? ⟨X, 4, none⟩ = some (.int .i64 imm) ∧ w'.cell? ⟨X, 5, none⟩ = some (.int .i64 cs) ∧ X < w'.heap.size ∧ Below w.heap.size w w')
    (first | exact D1.out | exact TxC.below (w := w) (X := X) (op := op) (rd := rd) (r1 := r1) (r2 := r2) (imm := imm) (cs := cs) (by assumption) hb)
    (first | (go_at_call 40; refine (NM.out _).mono ?_; rintro e w' ⟨rfl, hb⟩))
  rename_i hheld
  have TH : Hid (TxC w X (op : Nat) rd r1 r2 imm cs w') := Lib.hid hheld
  obtain ⟨c0, c1, c2, c3, c4, c5, _, _⟩ := hheld
  clear hb
  go_upto_region 7 with (first | (go_at_call 30; refine (KD.out _).mono ?_; rintro e w2 ⟨rfl, rfl⟩) | (go_at_call 41; refine (SH.out _).mono ?_; rintro e w2 ⟨rfl, rfl⟩))
  go_upto_region 8 with (fail)
  go_loopw [4, 7] (fun s x wr => ((x = .int .i64 0 ∧ s = .string Y0) ∨ (x = .int .i64 1 ∧ s = .string Y1) ∨ (x = .int .i64 2 ∧ s = .string Y2)) ∧ TxC w X (op : Nat) rd r1 r2 imm cs wr) (fun _ x _ => 2 - (intOf x).toNat)
  case atStart => exact ⟨Or.inl ⟨rfl, rfl⟩, TH.out⟩
  case round =>
    obtain ⟨hor, htx⟩ := hrel
    have TR := Lib.hid htx
    obtain ⟨c0, c1, c2, c3, c4, c5, _, _⟩ := htx
    rcases hor with ⟨rfl, rfl⟩ | ⟨rfl, rfl⟩ | ⟨rfl, rfl⟩
    · go_wp2_with (go_at_call 32; (first | (refine (DRD.out _).mono ?_)); rintro e w3 ⟨rfl, rfl⟩)
      go_roundw
      case rel => exact ⟨Or.inr (Or.inl ⟨rfl, congrArg Value.string E0.out⟩), TR.out⟩
      case measure => simp [intOf]
    · go_wp2_with (go_at_call 32; (first | (refine (DNV.out _).mono ?_)); rintro e w3 ⟨rfl, rfl⟩)
      go_roundw
      case rel => exact ⟨Or.inr (Or.inr (⟨rfl, congrArg Value.string E1.out⟩)), TR.out⟩
      case measure => simp [intOf]
    · go_wp2
      go_ret2
      exact ⟨by rw [← EF.out]; rfl, TR.out.2.2.2.2.2.2.2⟩

set_option maxHeartbeats 8000000 in
theorem rtext_I (op : Nat) (hop : op < 57) (hk : kN op = 73) (rd r1 r2 imm cs : Int) (hc : Can op rd r1 r2 imm cs) (hd : -4294967296 ≤ rd ∧ rd ≤ 4294967296) (h1 : -4294967296 ≤ r1 ∧ r1 ≤ 4294967296) (h2 : -4294967296 ≤ r2 ∧ r2 ≤ 4294967296) (hn : -4294967296 ≤ imm ∧ imm ≤ 4294967296) (hs : -4294967296 ≤ cs ∧ cs ≤ 4294967296) (T : List UInt8) (hT : PT (nmTab.getD op []) [regT rd, regT r1, Lib.itoa imm] 3 = T) (w : World) : Calls Tryz.prog 15 #[.agg #[.int .i64 (op : Nat), .int .i64 rd, .int .i64 r1, .int .i64 r2, .int .i64 imm, .int .i64 cs]] w fun e w' => e = .returned (.tuple #[.string (bs T), .int .i64 0]) ∧ Below w.heap.size w w' := by
  have CK := Lib.hid (fun w => rcheck3_any op rd r1 r2 imm cs 0 (by rw [if_pos hc]) w)
  have NM := Lib.hid (fun w => rname_in op hop w)
  have KD := Lib.hid (fun w => rkind_in op hop w)
  have SH := Lib.hid (fun w => rshape_any op hop w)
  rw [hk] at KD SH
  rw [show shapeK 73 = [100, 115, 110] from by decide, show bs [100, 115, 110] = (⟨#[100, 115, 110]⟩ : ByteArray) from rfl] at SH
  clear hk
  have DRD := Lib.hid (fun w => rdec_any rd hd.1 hd.2 w)
  have DR1 := Lib.hid (fun w => rdec_any r1 h1.1 h1.2 w)
  have DR2 := Lib.hid (fun w => rdec_any r2 h2.1 h2.2 w)
  have DNV := Lib.hid (fun w => rdec_any imm hn.1 hn.2 w)
  have DCS := Lib.hid (fun w => rdec_any cs hs.1 hs.2 w)
  have zd := itoa_sz rd (by omega) (by omega)
  have z1 := itoa_sz r1 (by omega) (by omega)
  have z2 := itoa_sz r2 (by omega) (by omega)
  have zn := itoa_sz imm (by omega) (by omega)
  have zs := itoa_sz cs (by omega) (by omega)
  have hml := nm_small op hop
  have hpl : ∀ k, (bs (PT (nmTab.getD op []) [regT rd, regT r1, Lib.itoa imm] k)).size ≤ 300 := fun k => by
    rw [bs_size]
    refine pt_len hml (fun y hy => ?_) (by simp) k
    rw [bs_size] at zd z1 z2 zn zs
    simp only [List.mem_cons, List.not_mem_nil, or_false] at hy
    rcases hy with rfl | rfl | rfl <;> first | omega | (simp only [regT, farT, List.length_cons, List.length_append, List.length_nil]; omega)
  have e0 : ((bs (PT (nmTab.getD op []) [regT rd, regT r1, Lib.itoa imm] 0) ++ (⟨#[32]⟩ : ByteArray)) ++ (⟨#[120]⟩ : ByteArray)) ++ bs (Lib.itoa rd) = bs (PT (nmTab.getD op []) [regT rd, regT r1, Lib.itoa imm] 1) := by
    rw [pt1]
    simp only [show ∀ l : List UInt8, (⟨l.toArray⟩ : ByteArray) = bs l from fun _ => rfl, bs_app]
    all_goals exact congrArg bs (by simp [regT, farT, pt0])
  have e1 : ((bs (PT (nmTab.getD op []) [regT rd, regT r1, Lib.itoa imm] 1) ++ (⟨#[44, 32]⟩ : ByteArray)) ++ (⟨#[120]⟩ : ByteArray)) ++ bs (Lib.itoa r1) = bs (PT (nmTab.getD op []) [regT rd, regT r1, Lib.itoa imm] 2) := by
    rw [pt2]
    simp only [show ∀ l : List UInt8, (⟨l.toArray⟩ : ByteArray) = bs l from fun _ => rfl, bs_app]
    all_goals exact congrArg bs (by simp [regT, farT])
  have e2 : (bs (PT (nmTab.getD op []) [regT rd, regT r1, Lib.itoa imm] 2) ++ (⟨#[44, 32]⟩ : ByteArray)) ++ bs (Lib.itoa imm) = bs (PT (nmTab.getD op []) [regT rd, regT r1, Lib.itoa imm] 3) := by
    rw [pt3]
    simp only [show ∀ l : List UInt8, (⟨l.toArray⟩ : ByteArray) = bs l from fun _ => rfl, bs_app]
    all_goals exact congrArg bs (by simp [regT, farT])
  have ez : bs (nmTab.getD op []) = bs (PT (nmTab.getD op []) [regT rd, regT r1, Lib.itoa imm] 0) := by rw [pt0]
  have ef : bs (PT (nmTab.getD op []) [regT rd, regT r1, Lib.itoa imm] 3) = bs T := by rw [hT]
  have nz : nmB op = bs (nmTab.getD op []) := rfl
  rw [nz, ez] at NM
  clear ez nz hT hml
  have y0 := hpl 0
  have y1 := hpl 1
  have y2 := hpl 2
  have y3 := hpl 3
  clear hpl
  obtain ⟨Y0, hY0⟩ : ∃ Y, Y = bs (PT (nmTab.getD op []) [regT rd, regT r1, Lib.itoa imm] 0) := ⟨_, rfl⟩
  rw [← hY0] at y0 e0 NM
  obtain ⟨Y1, hY1⟩ : ∃ Y, Y = bs (PT (nmTab.getD op []) [regT rd, regT r1, Lib.itoa imm] 1) := ⟨_, rfl⟩
  rw [← hY1] at y1 e1 e0
  obtain ⟨Y2, hY2⟩ : ∃ Y, Y = bs (PT (nmTab.getD op []) [regT rd, regT r1, Lib.itoa imm] 2) := ⟨_, rfl⟩
  rw [← hY2] at y2 e2 e1
  obtain ⟨Y3, hY3⟩ : ∃ Y, Y = bs (PT (nmTab.getD op []) [regT rd, regT r1, Lib.itoa imm] 3) := ⟨_, rfl⟩
  rw [← hY3] at y3 ef e2
  obtain ⟨RD, hRD⟩ : ∃ Z, Z = bs (Lib.itoa rd) := ⟨_, rfl⟩
  rw [← hRD] at DRD zd e0
  obtain ⟨R1, hR1⟩ : ∃ Z, Z = bs (Lib.itoa r1) := ⟨_, rfl⟩
  rw [← hR1] at DR1 z1 e1
  obtain ⟨R2, hR2⟩ : ∃ Z, Z = bs (Lib.itoa r2) := ⟨_, rfl⟩
  rw [← hR2] at DR2 z2
  obtain ⟨NV, hNV⟩ : ∃ Z, Z = bs (Lib.itoa imm) := ⟨_, rfl⟩
  rw [← hNV] at DNV zn e2
  obtain ⟨CS, hCS⟩ : ∃ Z, Z = bs (Lib.itoa cs) := ⟨_, rfl⟩
  rw [← hCS] at DCS zs
  have w0_0 : ¬ 9223372036854775807 < Y0.size + 1 := by omega
  have w0_1 : ¬ 9223372036854775807 < Y0.size + 1 + 1 := by omega
  have w0_2 : ¬ 9223372036854775807 < Y0.size + 1 + 1 + RD.size := by omega
  have E0 := Lib.hid e0
  have w1_0 : ¬ 9223372036854775807 < Y1.size + 2 := by omega
  have w1_1 : ¬ 9223372036854775807 < Y1.size + 2 + 1 := by omega
  have w1_2 : ¬ 9223372036854775807 < Y1.size + 2 + 1 + R1.size := by omega
  have E1 := Lib.hid e1
  have w2_0 : ¬ 9223372036854775807 < Y2.size + 2 := by omega
  have w2_1 : ¬ 9223372036854775807 < Y2.size + 2 + NV.size := by omega
  have E2 := Lib.hid e2
  have EF := Lib.hid ef
  clear ef zd z1 z2 zn zs hd h1 h2 hn hs hc e0 e1 e2 y0 y1 y2 y3 hY0 hY1 hY2 hY3 hRD hR1 hR2 hNV hCS
  have T0 := Lib.hid (TxC.new w op rd r1 r2 imm cs)
  go_enter Tryz.func15, Tryz.ntmps15
  go_upto_region 1 with (fail)
  generalize hw0 : World.alloc w _ = w0 at *
  obtain ⟨X, hX⟩ : ∃ X, X = w.heap.size := ⟨_, rfl⟩
  rw [← hX] at T0 ⊢
  obtain ⟨c0, c1, c2, c3, c4, c5, _, _⟩ := T0.out
  clear hw0 hX
  go_upto_region 3 with (go_at_call 39; refine (CK.out _).mono ?_; rintro e w1 ⟨rfl, hb⟩; have T1 := Lib.hid (T0.out.below hb); clear hb c0 c1 c2 c3 c4 c5)
  have D1 := Lib.hid (T1.out.drew 1)
  go_region_held3 (fun w' => w'.cell? ⟨X, 0, none⟩ = some (.int .i64 (op : Nat)) ∧ w'.cell? ⟨X, 1, none⟩ = some (.int .i64 rd) ∧ w'.cell? ⟨X, 2, none⟩ = some (.int .i64 r1) ∧ w'.cell? ⟨X, 3, none⟩ = some (.int .i64 r2) ∧ w'.cell? ⟨X, 4, none⟩ = some (.int .i64 imm) ∧ w'.cell? ⟨X, 5, none⟩ = some (.int .i64 cs) ∧ X < w'.heap.size ∧ Below w.heap.size w w')
    (first | exact D1.out | exact TxC.below (w := w) (X := X) (op := op) (rd := rd) (r1 := r1) (r2 := r2) (imm := imm) (cs := cs) (by assumption) hb)
    (first | (go_at_call 40; refine (NM.out _).mono ?_; rintro e w' ⟨rfl, hb⟩))
  rename_i hheld
  have TH : Hid (TxC w X (op : Nat) rd r1 r2 imm cs w') := Lib.hid hheld
  obtain ⟨c0, c1, c2, c3, c4, c5, _, _⟩ := hheld
  clear hb
  go_upto_region 7 with (first | (go_at_call 30; refine (KD.out _).mono ?_; rintro e w2 ⟨rfl, rfl⟩) | (go_at_call 41; refine (SH.out _).mono ?_; rintro e w2 ⟨rfl, rfl⟩))
  go_upto_region 8 with (fail)
  go_loopw [4, 7] (fun s x wr => ((x = .int .i64 0 ∧ s = .string Y0) ∨ (x = .int .i64 1 ∧ s = .string Y1) ∨ (x = .int .i64 2 ∧ s = .string Y2) ∨ (x = .int .i64 3 ∧ s = .string Y3)) ∧ TxC w X (op : Nat) rd r1 r2 imm cs wr) (fun _ x _ => 3 - (intOf x).toNat)
  case atStart => exact ⟨Or.inl ⟨rfl, rfl⟩, TH.out⟩
  case round =>
    obtain ⟨hor, htx⟩ := hrel
    have TR := Lib.hid htx
    obtain ⟨c0, c1, c2, c3, c4, c5, _, _⟩ := htx
    rcases hor with ⟨rfl, rfl⟩ | ⟨rfl, rfl⟩ | ⟨rfl, rfl⟩ | ⟨rfl, rfl⟩
    · go_wp2_with (go_at_call 32; (first | (refine (DRD.out _).mono ?_)); rintro e w3 ⟨rfl, rfl⟩)
      go_roundw
      case rel => exact ⟨Or.inr (Or.inl ⟨rfl, congrArg Value.string E0.out⟩), TR.out⟩
      case measure => simp [intOf]
    · go_wp2_with (go_at_call 32; (first | (refine (DR1.out _).mono ?_)); rintro e w3 ⟨rfl, rfl⟩)
      go_roundw
      case rel => exact ⟨Or.inr (Or.inr (Or.inl ⟨rfl, congrArg Value.string E1.out⟩)), TR.out⟩
      case measure => simp [intOf]
    · go_wp2_with (go_at_call 32; (first | (refine (DNV.out _).mono ?_)); rintro e w3 ⟨rfl, rfl⟩)
      go_roundw
      case rel => exact ⟨Or.inr (Or.inr (Or.inr (⟨rfl, congrArg Value.string E2.out⟩))), TR.out⟩
      case measure => simp [intOf]
    · go_wp2
      go_ret2
      exact ⟨by rw [← EF.out]; rfl, TR.out.2.2.2.2.2.2.2⟩

set_option maxHeartbeats 8000000 in
theorem rtext_F (op : Nat) (hop : op < 57) (hk : kN op = 70) (rd r1 r2 imm cs : Int) (hc : Can op rd r1 r2 imm cs) (hd : -4294967296 ≤ rd ∧ rd ≤ 4294967296) (h1 : -4294967296 ≤ r1 ∧ r1 ≤ 4294967296) (h2 : -4294967296 ≤ r2 ∧ r2 ≤ 4294967296) (hn : -4294967296 ≤ imm ∧ imm ≤ 4294967296) (hs : -4294967296 ≤ cs ∧ cs ≤ 4294967296) (T : List UInt8) (hT : PT (nmTab.getD op []) [regT rd, regT r1, Lib.itoa imm] 3 = T) (w : World) : Calls Tryz.prog 15 #[.agg #[.int .i64 (op : Nat), .int .i64 rd, .int .i64 r1, .int .i64 r2, .int .i64 imm, .int .i64 cs]] w fun e w' => e = .returned (.tuple #[.string (bs T), .int .i64 0]) ∧ Below w.heap.size w w' := by
  have CK := Lib.hid (fun w => rcheck3_any op rd r1 r2 imm cs 0 (by rw [if_pos hc]) w)
  have NM := Lib.hid (fun w => rname_in op hop w)
  have KD := Lib.hid (fun w => rkind_in op hop w)
  have SH := Lib.hid (fun w => rshape_any op hop w)
  rw [hk] at KD SH
  rw [show shapeK 70 = [100, 115, 110] from by decide, show bs [100, 115, 110] = (⟨#[100, 115, 110]⟩ : ByteArray) from rfl] at SH
  clear hk
  have DRD := Lib.hid (fun w => rdec_any rd hd.1 hd.2 w)
  have DR1 := Lib.hid (fun w => rdec_any r1 h1.1 h1.2 w)
  have DR2 := Lib.hid (fun w => rdec_any r2 h2.1 h2.2 w)
  have DNV := Lib.hid (fun w => rdec_any imm hn.1 hn.2 w)
  have DCS := Lib.hid (fun w => rdec_any cs hs.1 hs.2 w)
  have zd := itoa_sz rd (by omega) (by omega)
  have z1 := itoa_sz r1 (by omega) (by omega)
  have z2 := itoa_sz r2 (by omega) (by omega)
  have zn := itoa_sz imm (by omega) (by omega)
  have zs := itoa_sz cs (by omega) (by omega)
  have hml := nm_small op hop
  have hpl : ∀ k, (bs (PT (nmTab.getD op []) [regT rd, regT r1, Lib.itoa imm] k)).size ≤ 300 := fun k => by
    rw [bs_size]
    refine pt_len hml (fun y hy => ?_) (by simp) k
    rw [bs_size] at zd z1 z2 zn zs
    simp only [List.mem_cons, List.not_mem_nil, or_false] at hy
    rcases hy with rfl | rfl | rfl <;> first | omega | (simp only [regT, farT, List.length_cons, List.length_append, List.length_nil]; omega)
  have e0 : ((bs (PT (nmTab.getD op []) [regT rd, regT r1, Lib.itoa imm] 0) ++ (⟨#[32]⟩ : ByteArray)) ++ (⟨#[120]⟩ : ByteArray)) ++ bs (Lib.itoa rd) = bs (PT (nmTab.getD op []) [regT rd, regT r1, Lib.itoa imm] 1) := by
    rw [pt1]
    simp only [show ∀ l : List UInt8, (⟨l.toArray⟩ : ByteArray) = bs l from fun _ => rfl, bs_app]
    all_goals exact congrArg bs (by simp [regT, farT, pt0])
  have e1 : ((bs (PT (nmTab.getD op []) [regT rd, regT r1, Lib.itoa imm] 1) ++ (⟨#[44, 32]⟩ : ByteArray)) ++ (⟨#[120]⟩ : ByteArray)) ++ bs (Lib.itoa r1) = bs (PT (nmTab.getD op []) [regT rd, regT r1, Lib.itoa imm] 2) := by
    rw [pt2]
    simp only [show ∀ l : List UInt8, (⟨l.toArray⟩ : ByteArray) = bs l from fun _ => rfl, bs_app]
    all_goals exact congrArg bs (by simp [regT, farT])
  have e2 : (bs (PT (nmTab.getD op []) [regT rd, regT r1, Lib.itoa imm] 2) ++ (⟨#[44, 32]⟩ : ByteArray)) ++ bs (Lib.itoa imm) = bs (PT (nmTab.getD op []) [regT rd, regT r1, Lib.itoa imm] 3) := by
    rw [pt3]
    simp only [show ∀ l : List UInt8, (⟨l.toArray⟩ : ByteArray) = bs l from fun _ => rfl, bs_app]
    all_goals exact congrArg bs (by simp [regT, farT])
  have ez : bs (nmTab.getD op []) = bs (PT (nmTab.getD op []) [regT rd, regT r1, Lib.itoa imm] 0) := by rw [pt0]
  have ef : bs (PT (nmTab.getD op []) [regT rd, regT r1, Lib.itoa imm] 3) = bs T := by rw [hT]
  have nz : nmB op = bs (nmTab.getD op []) := rfl
  rw [nz, ez] at NM
  clear ez nz hT hml
  have y0 := hpl 0
  have y1 := hpl 1
  have y2 := hpl 2
  have y3 := hpl 3
  clear hpl
  obtain ⟨Y0, hY0⟩ : ∃ Y, Y = bs (PT (nmTab.getD op []) [regT rd, regT r1, Lib.itoa imm] 0) := ⟨_, rfl⟩
  rw [← hY0] at y0 e0 NM
  obtain ⟨Y1, hY1⟩ : ∃ Y, Y = bs (PT (nmTab.getD op []) [regT rd, regT r1, Lib.itoa imm] 1) := ⟨_, rfl⟩
  rw [← hY1] at y1 e1 e0
  obtain ⟨Y2, hY2⟩ : ∃ Y, Y = bs (PT (nmTab.getD op []) [regT rd, regT r1, Lib.itoa imm] 2) := ⟨_, rfl⟩
  rw [← hY2] at y2 e2 e1
  obtain ⟨Y3, hY3⟩ : ∃ Y, Y = bs (PT (nmTab.getD op []) [regT rd, regT r1, Lib.itoa imm] 3) := ⟨_, rfl⟩
  rw [← hY3] at y3 ef e2
  obtain ⟨RD, hRD⟩ : ∃ Z, Z = bs (Lib.itoa rd) := ⟨_, rfl⟩
  rw [← hRD] at DRD zd e0
  obtain ⟨R1, hR1⟩ : ∃ Z, Z = bs (Lib.itoa r1) := ⟨_, rfl⟩
  rw [← hR1] at DR1 z1 e1
  obtain ⟨R2, hR2⟩ : ∃ Z, Z = bs (Lib.itoa r2) := ⟨_, rfl⟩
  rw [← hR2] at DR2 z2
  obtain ⟨NV, hNV⟩ : ∃ Z, Z = bs (Lib.itoa imm) := ⟨_, rfl⟩
  rw [← hNV] at DNV zn e2
  obtain ⟨CS, hCS⟩ : ∃ Z, Z = bs (Lib.itoa cs) := ⟨_, rfl⟩
  rw [← hCS] at DCS zs
  have w0_0 : ¬ 9223372036854775807 < Y0.size + 1 := by omega
  have w0_1 : ¬ 9223372036854775807 < Y0.size + 1 + 1 := by omega
  have w0_2 : ¬ 9223372036854775807 < Y0.size + 1 + 1 + RD.size := by omega
  have E0 := Lib.hid e0
  have w1_0 : ¬ 9223372036854775807 < Y1.size + 2 := by omega
  have w1_1 : ¬ 9223372036854775807 < Y1.size + 2 + 1 := by omega
  have w1_2 : ¬ 9223372036854775807 < Y1.size + 2 + 1 + R1.size := by omega
  have E1 := Lib.hid e1
  have w2_0 : ¬ 9223372036854775807 < Y2.size + 2 := by omega
  have w2_1 : ¬ 9223372036854775807 < Y2.size + 2 + NV.size := by omega
  have E2 := Lib.hid e2
  have EF := Lib.hid ef
  clear ef zd z1 z2 zn zs hd h1 h2 hn hs hc e0 e1 e2 y0 y1 y2 y3 hY0 hY1 hY2 hY3 hRD hR1 hR2 hNV hCS
  have T0 := Lib.hid (TxC.new w op rd r1 r2 imm cs)
  go_enter Tryz.func15, Tryz.ntmps15
  go_upto_region 1 with (fail)
  generalize hw0 : World.alloc w _ = w0 at *
  obtain ⟨X, hX⟩ : ∃ X, X = w.heap.size := ⟨_, rfl⟩
  rw [← hX] at T0 ⊢
  obtain ⟨c0, c1, c2, c3, c4, c5, _, _⟩ := T0.out
  clear hw0 hX
  go_upto_region 3 with (go_at_call 39; refine (CK.out _).mono ?_; rintro e w1 ⟨rfl, hb⟩; have T1 := Lib.hid (T0.out.below hb); clear hb c0 c1 c2 c3 c4 c5)
  have D1 := Lib.hid (T1.out.drew 1)
  go_region_held3 (fun w' => w'.cell? ⟨X, 0, none⟩ = some (.int .i64 (op : Nat)) ∧ w'.cell? ⟨X, 1, none⟩ = some (.int .i64 rd) ∧ w'.cell? ⟨X, 2, none⟩ = some (.int .i64 r1) ∧ w'.cell? ⟨X, 3, none⟩ = some (.int .i64 r2) ∧ w'.cell? ⟨X, 4, none⟩ = some (.int .i64 imm) ∧ w'.cell? ⟨X, 5, none⟩ = some (.int .i64 cs) ∧ X < w'.heap.size ∧ Below w.heap.size w w')
    (first | exact D1.out | exact TxC.below (w := w) (X := X) (op := op) (rd := rd) (r1 := r1) (r2 := r2) (imm := imm) (cs := cs) (by assumption) hb)
    (first | (go_at_call 40; refine (NM.out _).mono ?_; rintro e w' ⟨rfl, hb⟩))
  rename_i hheld
  have TH : Hid (TxC w X (op : Nat) rd r1 r2 imm cs w') := Lib.hid hheld
  obtain ⟨c0, c1, c2, c3, c4, c5, _, _⟩ := hheld
  clear hb
  go_upto_region 7 with (first | (go_at_call 30; refine (KD.out _).mono ?_; rintro e w2 ⟨rfl, rfl⟩) | (go_at_call 41; refine (SH.out _).mono ?_; rintro e w2 ⟨rfl, rfl⟩))
  go_upto_region 8 with (fail)
  go_loopw [4, 7] (fun s x wr => ((x = .int .i64 0 ∧ s = .string Y0) ∨ (x = .int .i64 1 ∧ s = .string Y1) ∨ (x = .int .i64 2 ∧ s = .string Y2) ∨ (x = .int .i64 3 ∧ s = .string Y3)) ∧ TxC w X (op : Nat) rd r1 r2 imm cs wr) (fun _ x _ => 3 - (intOf x).toNat)
  case atStart => exact ⟨Or.inl ⟨rfl, rfl⟩, TH.out⟩
  case round =>
    obtain ⟨hor, htx⟩ := hrel
    have TR := Lib.hid htx
    obtain ⟨c0, c1, c2, c3, c4, c5, _, _⟩ := htx
    rcases hor with ⟨rfl, rfl⟩ | ⟨rfl, rfl⟩ | ⟨rfl, rfl⟩ | ⟨rfl, rfl⟩
    · go_wp2_with (go_at_call 32; (first | (refine (DRD.out _).mono ?_)); rintro e w3 ⟨rfl, rfl⟩)
      go_roundw
      case rel => exact ⟨Or.inr (Or.inl ⟨rfl, congrArg Value.string E0.out⟩), TR.out⟩
      case measure => simp [intOf]
    · go_wp2_with (go_at_call 32; (first | (refine (DR1.out _).mono ?_)); rintro e w3 ⟨rfl, rfl⟩)
      go_roundw
      case rel => exact ⟨Or.inr (Or.inr (Or.inl ⟨rfl, congrArg Value.string E1.out⟩)), TR.out⟩
      case measure => simp [intOf]
    · go_wp2_with (go_at_call 32; (first | (refine (DNV.out _).mono ?_)); rintro e w3 ⟨rfl, rfl⟩)
      go_roundw
      case rel => exact ⟨Or.inr (Or.inr (Or.inr (⟨rfl, congrArg Value.string E2.out⟩))), TR.out⟩
      case measure => simp [intOf]
    · go_wp2
      go_ret2
      exact ⟨by rw [← EF.out]; rfl, TR.out.2.2.2.2.2.2.2⟩

set_option maxHeartbeats 8000000 in
theorem rtext_H (op : Nat) (hop : op < 57) (hk : kN op = 72) (rd r1 r2 imm cs : Int) (hc : Can op rd r1 r2 imm cs) (hd : -4294967296 ≤ rd ∧ rd ≤ 4294967296) (h1 : -4294967296 ≤ r1 ∧ r1 ≤ 4294967296) (h2 : -4294967296 ≤ r2 ∧ r2 ≤ 4294967296) (hn : -4294967296 ≤ imm ∧ imm ≤ 4294967296) (hs : -4294967296 ≤ cs ∧ cs ≤ 4294967296) (T : List UInt8) (hT : PT (nmTab.getD op []) [regT rd, regT r1, Lib.itoa imm] 3 = T) (w : World) : Calls Tryz.prog 15 #[.agg #[.int .i64 (op : Nat), .int .i64 rd, .int .i64 r1, .int .i64 r2, .int .i64 imm, .int .i64 cs]] w fun e w' => e = .returned (.tuple #[.string (bs T), .int .i64 0]) ∧ Below w.heap.size w w' := by
  have CK := Lib.hid (fun w => rcheck3_any op rd r1 r2 imm cs 0 (by rw [if_pos hc]) w)
  have NM := Lib.hid (fun w => rname_in op hop w)
  have KD := Lib.hid (fun w => rkind_in op hop w)
  have SH := Lib.hid (fun w => rshape_any op hop w)
  rw [hk] at KD SH
  rw [show shapeK 72 = [100, 115, 110] from by decide, show bs [100, 115, 110] = (⟨#[100, 115, 110]⟩ : ByteArray) from rfl] at SH
  clear hk
  have DRD := Lib.hid (fun w => rdec_any rd hd.1 hd.2 w)
  have DR1 := Lib.hid (fun w => rdec_any r1 h1.1 h1.2 w)
  have DR2 := Lib.hid (fun w => rdec_any r2 h2.1 h2.2 w)
  have DNV := Lib.hid (fun w => rdec_any imm hn.1 hn.2 w)
  have DCS := Lib.hid (fun w => rdec_any cs hs.1 hs.2 w)
  have zd := itoa_sz rd (by omega) (by omega)
  have z1 := itoa_sz r1 (by omega) (by omega)
  have z2 := itoa_sz r2 (by omega) (by omega)
  have zn := itoa_sz imm (by omega) (by omega)
  have zs := itoa_sz cs (by omega) (by omega)
  have hml := nm_small op hop
  have hpl : ∀ k, (bs (PT (nmTab.getD op []) [regT rd, regT r1, Lib.itoa imm] k)).size ≤ 300 := fun k => by
    rw [bs_size]
    refine pt_len hml (fun y hy => ?_) (by simp) k
    rw [bs_size] at zd z1 z2 zn zs
    simp only [List.mem_cons, List.not_mem_nil, or_false] at hy
    rcases hy with rfl | rfl | rfl <;> first | omega | (simp only [regT, farT, List.length_cons, List.length_append, List.length_nil]; omega)
  have e0 : ((bs (PT (nmTab.getD op []) [regT rd, regT r1, Lib.itoa imm] 0) ++ (⟨#[32]⟩ : ByteArray)) ++ (⟨#[120]⟩ : ByteArray)) ++ bs (Lib.itoa rd) = bs (PT (nmTab.getD op []) [regT rd, regT r1, Lib.itoa imm] 1) := by
    rw [pt1]
    simp only [show ∀ l : List UInt8, (⟨l.toArray⟩ : ByteArray) = bs l from fun _ => rfl, bs_app]
    all_goals exact congrArg bs (by simp [regT, farT, pt0])
  have e1 : ((bs (PT (nmTab.getD op []) [regT rd, regT r1, Lib.itoa imm] 1) ++ (⟨#[44, 32]⟩ : ByteArray)) ++ (⟨#[120]⟩ : ByteArray)) ++ bs (Lib.itoa r1) = bs (PT (nmTab.getD op []) [regT rd, regT r1, Lib.itoa imm] 2) := by
    rw [pt2]
    simp only [show ∀ l : List UInt8, (⟨l.toArray⟩ : ByteArray) = bs l from fun _ => rfl, bs_app]
    all_goals exact congrArg bs (by simp [regT, farT])
  have e2 : (bs (PT (nmTab.getD op []) [regT rd, regT r1, Lib.itoa imm] 2) ++ (⟨#[44, 32]⟩ : ByteArray)) ++ bs (Lib.itoa imm) = bs (PT (nmTab.getD op []) [regT rd, regT r1, Lib.itoa imm] 3) := by
    rw [pt3]
    simp only [show ∀ l : List UInt8, (⟨l.toArray⟩ : ByteArray) = bs l from fun _ => rfl, bs_app]
    all_goals exact congrArg bs (by simp [regT, farT])
  have ez : bs (nmTab.getD op []) = bs (PT (nmTab.getD op []) [regT rd, regT r1, Lib.itoa imm] 0) := by rw [pt0]
  have ef : bs (PT (nmTab.getD op []) [regT rd, regT r1, Lib.itoa imm] 3) = bs T := by rw [hT]
  have nz : nmB op = bs (nmTab.getD op []) := rfl
  rw [nz, ez] at NM
  clear ez nz hT hml
  have y0 := hpl 0
  have y1 := hpl 1
  have y2 := hpl 2
  have y3 := hpl 3
  clear hpl
  obtain ⟨Y0, hY0⟩ : ∃ Y, Y = bs (PT (nmTab.getD op []) [regT rd, regT r1, Lib.itoa imm] 0) := ⟨_, rfl⟩
  rw [← hY0] at y0 e0 NM
  obtain ⟨Y1, hY1⟩ : ∃ Y, Y = bs (PT (nmTab.getD op []) [regT rd, regT r1, Lib.itoa imm] 1) := ⟨_, rfl⟩
  rw [← hY1] at y1 e1 e0
  obtain ⟨Y2, hY2⟩ : ∃ Y, Y = bs (PT (nmTab.getD op []) [regT rd, regT r1, Lib.itoa imm] 2) := ⟨_, rfl⟩
  rw [← hY2] at y2 e2 e1
  obtain ⟨Y3, hY3⟩ : ∃ Y, Y = bs (PT (nmTab.getD op []) [regT rd, regT r1, Lib.itoa imm] 3) := ⟨_, rfl⟩
  rw [← hY3] at y3 ef e2
  obtain ⟨RD, hRD⟩ : ∃ Z, Z = bs (Lib.itoa rd) := ⟨_, rfl⟩
  rw [← hRD] at DRD zd e0
  obtain ⟨R1, hR1⟩ : ∃ Z, Z = bs (Lib.itoa r1) := ⟨_, rfl⟩
  rw [← hR1] at DR1 z1 e1
  obtain ⟨R2, hR2⟩ : ∃ Z, Z = bs (Lib.itoa r2) := ⟨_, rfl⟩
  rw [← hR2] at DR2 z2
  obtain ⟨NV, hNV⟩ : ∃ Z, Z = bs (Lib.itoa imm) := ⟨_, rfl⟩
  rw [← hNV] at DNV zn e2
  obtain ⟨CS, hCS⟩ : ∃ Z, Z = bs (Lib.itoa cs) := ⟨_, rfl⟩
  rw [← hCS] at DCS zs
  have w0_0 : ¬ 9223372036854775807 < Y0.size + 1 := by omega
  have w0_1 : ¬ 9223372036854775807 < Y0.size + 1 + 1 := by omega
  have w0_2 : ¬ 9223372036854775807 < Y0.size + 1 + 1 + RD.size := by omega
  have E0 := Lib.hid e0
  have w1_0 : ¬ 9223372036854775807 < Y1.size + 2 := by omega
  have w1_1 : ¬ 9223372036854775807 < Y1.size + 2 + 1 := by omega
  have w1_2 : ¬ 9223372036854775807 < Y1.size + 2 + 1 + R1.size := by omega
  have E1 := Lib.hid e1
  have w2_0 : ¬ 9223372036854775807 < Y2.size + 2 := by omega
  have w2_1 : ¬ 9223372036854775807 < Y2.size + 2 + NV.size := by omega
  have E2 := Lib.hid e2
  have EF := Lib.hid ef
  clear ef zd z1 z2 zn zs hd h1 h2 hn hs hc e0 e1 e2 y0 y1 y2 y3 hY0 hY1 hY2 hY3 hRD hR1 hR2 hNV hCS
  have T0 := Lib.hid (TxC.new w op rd r1 r2 imm cs)
  go_enter Tryz.func15, Tryz.ntmps15
  go_upto_region 1 with (fail)
  generalize hw0 : World.alloc w _ = w0 at *
  obtain ⟨X, hX⟩ : ∃ X, X = w.heap.size := ⟨_, rfl⟩
  rw [← hX] at T0 ⊢
  obtain ⟨c0, c1, c2, c3, c4, c5, _, _⟩ := T0.out
  clear hw0 hX
  go_upto_region 3 with (go_at_call 39; refine (CK.out _).mono ?_; rintro e w1 ⟨rfl, hb⟩; have T1 := Lib.hid (T0.out.below hb); clear hb c0 c1 c2 c3 c4 c5)
  have D1 := Lib.hid (T1.out.drew 1)
  go_region_held3 (fun w' => w'.cell? ⟨X, 0, none⟩ = some (.int .i64 (op : Nat)) ∧ w'.cell? ⟨X, 1, none⟩ = some (.int .i64 rd) ∧ w'.cell? ⟨X, 2, none⟩ = some (.int .i64 r1) ∧ w'.cell? ⟨X, 3, none⟩ = some (.int .i64 r2) ∧ w'.cell? ⟨X, 4, none⟩ = some (.int .i64 imm) ∧ w'.cell? ⟨X, 5, none⟩ = some (.int .i64 cs) ∧ X < w'.heap.size ∧ Below w.heap.size w w')
    (first | exact D1.out | exact TxC.below (w := w) (X := X) (op := op) (rd := rd) (r1 := r1) (r2 := r2) (imm := imm) (cs := cs) (by assumption) hb)
    (first | (go_at_call 40; refine (NM.out _).mono ?_; rintro e w' ⟨rfl, hb⟩))
  rename_i hheld
  have TH : Hid (TxC w X (op : Nat) rd r1 r2 imm cs w') := Lib.hid hheld
  obtain ⟨c0, c1, c2, c3, c4, c5, _, _⟩ := hheld
  clear hb
  go_upto_region 7 with (first | (go_at_call 30; refine (KD.out _).mono ?_; rintro e w2 ⟨rfl, rfl⟩) | (go_at_call 41; refine (SH.out _).mono ?_; rintro e w2 ⟨rfl, rfl⟩))
  go_upto_region 8 with (fail)
  go_loopw [4, 7] (fun s x wr => ((x = .int .i64 0 ∧ s = .string Y0) ∨ (x = .int .i64 1 ∧ s = .string Y1) ∨ (x = .int .i64 2 ∧ s = .string Y2) ∨ (x = .int .i64 3 ∧ s = .string Y3)) ∧ TxC w X (op : Nat) rd r1 r2 imm cs wr) (fun _ x _ => 3 - (intOf x).toNat)
  case atStart => exact ⟨Or.inl ⟨rfl, rfl⟩, TH.out⟩
  case round =>
    obtain ⟨hor, htx⟩ := hrel
    have TR := Lib.hid htx
    obtain ⟨c0, c1, c2, c3, c4, c5, _, _⟩ := htx
    rcases hor with ⟨rfl, rfl⟩ | ⟨rfl, rfl⟩ | ⟨rfl, rfl⟩ | ⟨rfl, rfl⟩
    · go_wp2_with (go_at_call 32; (first | (refine (DRD.out _).mono ?_)); rintro e w3 ⟨rfl, rfl⟩)
      go_roundw
      case rel => exact ⟨Or.inr (Or.inl ⟨rfl, congrArg Value.string E0.out⟩), TR.out⟩
      case measure => simp [intOf]
    · go_wp2_with (go_at_call 32; (first | (refine (DR1.out _).mono ?_)); rintro e w3 ⟨rfl, rfl⟩)
      go_roundw
      case rel => exact ⟨Or.inr (Or.inr (Or.inl ⟨rfl, congrArg Value.string E1.out⟩)), TR.out⟩
      case measure => simp [intOf]
    · go_wp2_with (go_at_call 32; (first | (refine (DNV.out _).mono ?_)); rintro e w3 ⟨rfl, rfl⟩)
      go_roundw
      case rel => exact ⟨Or.inr (Or.inr (Or.inr (⟨rfl, congrArg Value.string E2.out⟩))), TR.out⟩
      case measure => simp [intOf]
    · go_wp2
      go_ret2
      exact ⟨by rw [← EF.out]; rfl, TR.out.2.2.2.2.2.2.2⟩

end Go.Proofs.YtkcdnhennnjneaaGreatDoor
