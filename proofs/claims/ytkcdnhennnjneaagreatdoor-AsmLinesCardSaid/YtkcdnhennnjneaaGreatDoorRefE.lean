import Derived.Test.YtkcdnhennnjneaaGreatDoorRefB
import Derived.Test.YtkcdnhennnjneaaGreatDoorRefC
import Derived.Test.YtkcdnhennnjneaaGreatDoorRefD
import Derived.Test.YtkcdnhennnjneaaGreatDoorAsmPa
import Derived.Below
import Derived.Deep.Draws
import Derived.Deep.AppendLies
import Derived.Maps.AppendAt
import Derived.OwnWalk
import Derived.Laws.BytesArg
import Derived.Laws.MakeOwn
import Derived.Laws.OwnMore
import Derived.Deep.OwnRows
import Derived.Tactics
import Derived.Lib.ConvBytes
import Derived.Laws.Slices
import Derived.WalkKit
import Derived.KernelRfl
import Derived.RowKit3
import Derived.Deep.LoopGhost
import Derived.Deep.QuietTactic
import Derived.BigQuiet
import Derived.WideLaws
import Derived.Deep.DeepCutAuto
import Derived.Deep.CutBlock
import Derived.Deep.RegionHeld3
import Derived.Laws.Rows
import Derived.Lib.AppendStr
import Derived.ArgAppend
import Derived.Laws.IdiomCopy
import Derived.OrdersHeld
import Derived.Laws.BitsLemmas
import Derived.RowKit
import Derived.Lib.Hide
import Derived.Laws.BitsAllLaws
import Derived.WalkLawsBesides
import Derived.WalkSpells
import Derived.LaidEql
namespace Go.Proofs.YtkcdnhennnjneaaGreatDoor
open Go.RowKit
set_option maxRecDepth 100000
set_option linter.unusedVariables false
set_option linter.unusedSimpArgs false

set_option maxHeartbeats 8000000 in
theorem rtext_N (op : Nat) (hop : op < 57) (hk : kN op = 78) (rd r1 r2 imm cs : Int) (hc : Can op rd r1 r2 imm cs) (hd : -4294967296 ≤ rd ∧ rd ≤ 4294967296) (h1 : -4294967296 ≤ r1 ∧ r1 ≤ 4294967296) (h2 : -4294967296 ≤ r2 ∧ r2 ≤ 4294967296) (hn : -4294967296 ≤ imm ∧ imm ≤ 4294967296) (hs : -4294967296 ≤ cs ∧ cs ≤ 4294967296) (T : List UInt8) (hT : PT (nmTab.getD op []) [] 0 = T) (w : World) : Calls Tryz.prog 15 #[.agg #[.int .i64 (op : Nat), .int .i64 rd, .int .i64 r1, .int .i64 r2, .int .i64 imm, .int .i64 cs]] w fun e w' => e = .returned (.tuple #[.string (bs T), .int .i64 0]) ∧ Below w.heap.size w w' := by
  have CK := Lib.hid (fun w => rcheck3_any op rd r1 r2 imm cs 0 (by rw [if_pos hc]) w)
  have NM := Lib.hid (fun w => rname_in op hop w)
  have KD := Lib.hid (fun w => rkind_in op hop w)
  have SH := Lib.hid (fun w => rshape_any op hop w)
  rw [hk] at KD SH
  rw [show shapeK 78 = [] from by decide, show bs [] = (⟨#[]⟩ : ByteArray) from rfl] at SH
  clear hk
  have DRD := Lib.hid (fun w => rdec_any rd hd.1 hd.2 w)
  have DR1 := Lib.hid (fun w => rdec_any r1 h1.1 h1.2 w)
  have DR2 := Lib.hid (fun w => rdec_any r2 h2.1 h2.2 w)
  have DNV := Lib.hid (fun w => rdec_any imm hn.1 hn.2 w)
  have DCS := Lib.hid (fun w => rdec_any cs hs.1 hs.2 w)
  have zd := itoa_sz rd (by omega) (by omega)
  have z1 := itoa_sz r1 (by omega) (by omega)
  have z2 := itoa_sz r2 (by omega) (by omega)
  have zn := itoa_sz imm (by omega) (by omega)
  have zs := itoa_sz cs (by omega) (by omega)
  have hml := nm_small op hop
  have hpl : ∀ k, (bs (PT (nmTab.getD op []) [] k)).size ≤ 300 := fun k => by
    rw [bs_size]
    refine pt_len hml (fun y hy => ?_) (by simp) k
    rw [bs_size] at zd z1 z2 zn zs
    simp only [List.mem_cons, List.not_mem_nil, or_false] at hy
    all_goals exact hy.elim
  have ez : bs (nmTab.getD op []) = bs (PT (nmTab.getD op []) [] 0) := by rw [pt0]
  have ef : bs (PT (nmTab.getD op []) [] 0) = bs T := by rw [hT]
  have nz : nmB op = bs (nmTab.getD op []) := rfl
  rw [nz, ez] at NM
  clear ez nz hT hml
  have y0 := hpl 0
  clear hpl
  obtain ⟨Y0, hY0⟩ : ∃ Y, Y = bs (PT (nmTab.getD op []) [] 0) := ⟨_, rfl⟩
  rw [← hY0] at y0 ef NM
  obtain ⟨RD, hRD⟩ : ∃ Z, Z = bs (Lib.itoa rd) := ⟨_, rfl⟩
  rw [← hRD] at DRD zd
  obtain ⟨R1, hR1⟩ : ∃ Z, Z = bs (Lib.itoa r1) := ⟨_, rfl⟩
  rw [← hR1] at DR1 z1
  obtain ⟨R2, hR2⟩ : ∃ Z, Z = bs (Lib.itoa r2) := ⟨_, rfl⟩
  rw [← hR2] at DR2 z2
  obtain ⟨NV, hNV⟩ : ∃ Z, Z = bs (Lib.itoa imm) := ⟨_, rfl⟩
  rw [← hNV] at DNV zn
  obtain ⟨CS, hCS⟩ : ∃ Z, Z = bs (Lib.itoa cs) := ⟨_, rfl⟩
  rw [← hCS] at DCS zs
  have EF := Lib.hid ef
  clear ef zd z1 z2 zn zs hd h1 h2 hn hs hc y0 hY0 hRD hR1 hR2 hNV hCS
  have T0 := Lib.hid (TxC.new w op rd r1 r2 imm cs)
  go_enter Tryz.func15, Tryz.ntmps15
  go_upto_region 1 with (fail)
  generalize hw0 : World.alloc w _ = w0 at *
  obtain ⟨X, hX⟩ : ∃ X, X = w.heap.size := ⟨_, rfl⟩
  rw [← hX] at T0 ⊢
  obtain ⟨c0, c1, c2, c3, c4, c5, _, _⟩ := T0.out
  clear hw0 hX
  go_upto_region 3 with (go_at_call 39; refine (CK.out _).mono ?_; rintro e w1 ⟨rfl, hb⟩; have T1 := Lib.hid (T0.out.below hb); clear hb c0 c1 c2 c3 c4 c5)
  have D1 := Lib.hid (T1.out.drew 1)
  go_region_held3 (fun w' => w'.cell? ⟨X, 0, none⟩ = some (.int .i64 (op : Nat)) ∧ w'.cell? ⟨X, 1, none⟩ = some (.int .i64 rd) ∧ w'.cell? ⟨X, 2, none⟩ = some (.int .i64 r1) ∧ w'.cell? ⟨X, 3, none⟩ = some (.int .i64 r2) ∧ w'.cell? ⟨X, 4, none⟩ = some (.int .i64 imm) ∧ w'.cell? ⟨X, 5, none⟩ = some (.int .i64 cs) ∧ X < w'.heap.size ∧ Below w.heap.size w w')
    (first | exact D1.out | exact TxC.below (w := w) (X := X) (op := op) (rd := rd) (r1 := r1) (r2 := r2) (imm := imm) (cs := cs) (by assumption) hb)
    (first | (go_at_call 40; refine (NM.out _).mono ?_; rintro e w' ⟨rfl, hb⟩))
  rename_i hheld
  have TH : Hid (TxC w X (op : Nat) rd r1 r2 imm cs w') := Lib.hid hheld
  obtain ⟨c0, c1, c2, c3, c4, c5, _, _⟩ := hheld
  clear hb
  go_upto_region 7 with (first | (go_at_call 30; refine (KD.out _).mono ?_; rintro e w2 ⟨rfl, rfl⟩) | (go_at_call 41; refine (SH.out _).mono ?_; rintro e w2 ⟨rfl, rfl⟩))
  go_upto_region 8 with (fail)
  go_loopw [4, 7] (fun s x wr => ((x = .int .i64 0 ∧ s = .string Y0)) ∧ TxC w X (op : Nat) rd r1 r2 imm cs wr) (fun _ x _ => 0 - (intOf x).toNat)
  case atStart => exact ⟨⟨rfl, rfl⟩, TH.out⟩
  case round =>
    obtain ⟨hor, htx⟩ := hrel
    have TR := Lib.hid htx
    obtain ⟨c0, c1, c2, c3, c4, c5, _, _⟩ := htx
    rcases hor with ⟨rfl, rfl⟩
    · go_wp2
      go_ret2
      exact ⟨by rw [← EF.out]; rfl, TR.out.2.2.2.2.2.2.2⟩
/-- ref04.Text at an instruction that is one -/
theorem rtext_yes (i : Ins) (hc : i.can) (w : World) : Calls Tryz.prog 15 #[i.v] w fun e w' => e = .returned (.tuple #[.string (bs (textT i)), .int .i64 0]) ∧ Below w.heap.size w w' := by
  have q := pt_text (i := i) (nmOf i.op) rfl
  obtain ⟨op, x, hop, hx, rfl⟩ := can_ex hc
  obtain ⟨d0, d1⟩ := rd_b (kN op) x
  obtain ⟨a0, a1⟩ := r1_b (kN op) x
  obtain ⟨b0, b1⟩ := r2_b (kN op) x
  obtain ⟨c0, c1⟩ := cs_b (kN op) hx
  obtain ⟨n0, n1⟩ := imm_b (kN op) hx
  have qd : (Int.tdiv (immOf (kN op) x) 4096).natAbs = (immOf (kN op) x).natAbs / 4096 := Int.natAbs_tdiv _ 4096
  generalize rdOf (kN op) x = rd at *
  generalize r1Of (kN op) x = r1 at *
  generalize r2Of (kN op) x = r2 at *
  generalize csrOf (kN op) x = cs at *
  generalize immOf (kN op) x = imm at *
  have hnm : nmOf (op : Int) = nmTab.getD op [] := by unfold nmOf; rw [Int.toNat_natCast]
  simp only [hnm] at q
  have B : (-4294967296 ≤ rd ∧ rd ≤ 4294967296) ∧ (-4294967296 ≤ r1 ∧ r1 ≤ 4294967296) ∧ (-4294967296 ≤ r2 ∧ r2 ≤ 4294967296) ∧ (-4294967296 ≤ imm ∧ imm ≤ 4294967296) ∧ (-4294967296 ≤ cs ∧ cs ≤ 4294967296) ∧ (-4294967296 ≤ imm.tdiv 4096 ∧ imm.tdiv 4096 ≤ 4294967296) := by omega
  obtain ⟨B1, B2, B3, B4, B5, B6⟩ := B
  clear d0 d1 a0 a1 b0 b1 c0 c1 n0 n1 qd
  rcases k_cases op hop with k | k | (k | k | k) | k | k | k | k | k | k
  · have e : operT ⟨op, rd, r1, r2, imm, cs⟩ = [regT rd, Lib.itoa (Int.tdiv imm 4096)] := by unfold operT; simp only [Int.toNat_natCast]; rw [if_pos k]
    rw [e] at q
    exact rtext_U op hop k rd r1 r2 imm cs (imm.tdiv 4096) hc B1 B2 B3 B6 B5 rfl _ q w
  · have e : operT ⟨op, rd, r1, r2, imm, cs⟩ = [regT rd, Lib.itoa imm] := by unfold operT; simp only [Int.toNat_natCast]; rw [if_neg (by omega), if_pos k]
    rw [e] at q
    exact rtext_J op hop k rd r1 r2 imm cs hc B1 B2 B3 B4 B5 _ q w
  · have e : operT ⟨op, rd, r1, r2, imm, cs⟩ = [regT rd, regT r1, Lib.itoa imm] := by unfold operT; simp only [Int.toNat_natCast]; rw [if_neg (by omega), if_neg (by omega), if_pos (by omega)]
    rw [e] at q
    exact rtext_I op hop k rd r1 r2 imm cs hc B1 B2 B3 B4 B5 _ q w
  · have e : operT ⟨op, rd, r1, r2, imm, cs⟩ = [regT rd, regT r1, Lib.itoa imm] := by unfold operT; simp only [Int.toNat_natCast]; rw [if_neg (by omega), if_neg (by omega), if_pos (by omega)]
    rw [e] at q
    exact rtext_F op hop k rd r1 r2 imm cs hc B1 B2 B3 B4 B5 _ q w
  · have e : operT ⟨op, rd, r1, r2, imm, cs⟩ = [regT rd, regT r1, Lib.itoa imm] := by unfold operT; simp only [Int.toNat_natCast]; rw [if_neg (by omega), if_neg (by omega), if_pos (by omega)]
    rw [e] at q
    exact rtext_H op hop k rd r1 r2 imm cs hc B1 B2 B3 B4 B5 _ q w
  · have e : operT ⟨op, rd, r1, r2, imm, cs⟩ = [regT rd, farT imm r1] := by unfold operT; simp only [Int.toNat_natCast]; rw [if_neg (by omega), if_neg (by omega), if_neg (by omega), if_pos k]
    rw [e] at q
    exact rtext_L op hop k rd r1 r2 imm cs hc B1 B2 B3 B4 B5 _ q w
  · have e : operT ⟨op, rd, r1, r2, imm, cs⟩ = [regT r1, regT r2, Lib.itoa imm] := by unfold operT; simp only [Int.toNat_natCast]; rw [if_neg (by omega), if_neg (by omega), if_neg (by omega), if_neg (by omega), if_pos k]
    rw [e] at q
    exact rtext_B op hop k rd r1 r2 imm cs hc B1 B2 B3 B4 B5 _ q w
  · have e : operT ⟨op, rd, r1, r2, imm, cs⟩ = [regT r2, farT imm r1] := by unfold operT; simp only [Int.toNat_natCast]; rw [if_neg (by omega), if_neg (by omega), if_neg (by omega), if_neg (by omega), if_neg (by omega), if_pos k]
    rw [e] at q
    exact rtext_S op hop k rd r1 r2 imm cs hc B1 B2 B3 B4 B5 _ q w
  · have e : operT ⟨op, rd, r1, r2, imm, cs⟩ = [regT rd, regT r1, regT r2] := by unfold operT; simp only [Int.toNat_natCast]; rw [if_neg (by omega), if_neg (by omega), if_neg (by omega), if_neg (by omega), if_neg (by omega), if_neg (by omega), if_pos k]
    rw [e] at q
    exact rtext_R op hop k rd r1 r2 imm cs hc B1 B2 B3 B4 B5 _ q w
  · by_cases h9 : op < 54
    · have e : operT ⟨op, rd, r1, r2, imm, cs⟩ = [regT rd, Lib.itoa cs, regT r1] := by unfold operT; simp only [Int.toNat_natCast]; rw [if_neg (by omega), if_neg (by omega), if_neg (by omega), if_neg (by omega), if_neg (by omega), if_neg (by omega), if_neg (by omega), if_pos k, if_neg (by omega)]
      rw [e] at q
      exact rtext_C op hop ⟨k, h9⟩ rd r1 r2 imm cs hc B1 B2 B3 B4 B5 _ q w
    · have e : operT ⟨op, rd, r1, r2, imm, cs⟩ = [regT rd, Lib.itoa cs, Lib.itoa r1] := by unfold operT; simp only [Int.toNat_natCast]; rw [if_neg (by omega), if_neg (by omega), if_neg (by omega), if_neg (by omega), if_neg (by omega), if_neg (by omega), if_neg (by omega), if_pos k, if_pos (by omega)]
      rw [e] at q
      exact rtext_Z op hop ⟨k, h9⟩ rd r1 r2 imm cs hc B1 B2 B3 B4 B5 _ q w
  · have e : operT ⟨op, rd, r1, r2, imm, cs⟩ = [] := by unfold operT; simp only [Int.toNat_natCast]; rw [if_neg (by omega), if_neg (by omega), if_neg (by omega), if_neg (by omega), if_neg (by omega), if_neg (by omega), if_neg (by omega), if_neg (by omega)]
    rw [e] at q
    exact rtext_N op hop k rd r1 r2 imm cs hc B1 B2 B3 B4 B5 _ q w

end Go.Proofs.YtkcdnhennnjneaaGreatDoor
