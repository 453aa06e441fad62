import Derived.Test.YtoincdfijeipjaaDoorREncM
import Derived.Test.YtoincdfijeipjaaDoorLawIE
import Derived.Below
import Derived.Deep.Draws
import Derived.Deep.AppendLies
import Derived.Maps.AppendAt
import Derived.OwnWalk
import Derived.Laws.BytesArg
import Derived.Laws.MakeOwn
import Derived.Laws.OwnMore
import Derived.Deep.OwnRows
import Derived.Tactics
import Derived.Lib.ConvBytes
import Derived.Laws.Slices
import Derived.WalkKit
import Derived.KernelRfl
import Derived.RowKit3
import Derived.Deep.LoopGhost
import Derived.Deep.QuietTactic
import Derived.BigQuiet
import Derived.WideLaws
import Derived.Deep.DeepCutAuto
import Derived.Deep.CutBlock
import Derived.Deep.RegionHeld3
import Derived.Laws.Rows
import Derived.Lib.AppendStr
import Derived.ArgAppend
import Derived.Laws.IdiomCopy
import Derived.OrdersHeld
import Derived.Laws.BitsLemmas
import Derived.RowKit
import Derived.Lib.Hide
import Derived.Laws.BitsAllLaws
import Derived.WalkLawsBesides
import Derived.WalkSpells
import Derived.LaidEql
namespace Go.Proofs.YtoincdfijeipjaaDoor
open Go.RowKit
set_option maxRecDepth 100000
set_option linter.unusedVariables false
set_option linter.unusedSimpArgs false

theorem renc_yes (op rd r1 r2 imm csr : Int) (h : Can op rd r1 r2 imm csr) (w : World) : Calls Tryd.prog 16 #[.agg #[.int .i64 op, .int .i64 rd, .int .i64 r1, .int .i64 r2, .int .i64 imm, .int .i64 csr]] w fun e w' => e = .returned (.tuple #[.int .u32 (lw op rd r1 r2 imm csr : Nat), .int .i64 0]) ∧ Below w.heap.size w w' := by
  have hc := (can_iff op rd r1 r2 imm csr).1 h
  obtain ⟨h0, g⟩ := hc
  obtain ⟨o, rfl⟩ := Int.eq_ofNat_of_zero_le h0.1
  have ho : o < 57 := by omega
  rw [Int.toNat_natCast] at g
  have K0 := Lib.hid (fun w => rcheck3_any o rd r1 r2 imm csr 0 (by rw [if_pos h]) w)
  have hl := lw_lt (o : Int) rd r1 r2 imm csr (by rw [Int.toNat_natCast]; exact ho)
  have e : lw (o : Int) rd r1 r2 imm csr = laidI (kN o) (wN o) rd r1 r2 imm csr := by unfold lw; rw [Int.toNat_natCast]
  rw [e] at hl ⊢
  have hw := wN_lt o ho
  obtain ⟨n, hn⟩ : ∃ n, n = (imm % 4294967296).toNat := ⟨_, rfl⟩
  have e4 : IntKind.u32.wrap imm = (n : Int) := by rw [Go.IntKind.wrap_u32]; omega
  have hn2 : n < 4294967296 := by omega
  have st := st_all o ho
  clear h e h0
  rcases kinds11 o ho with hk | hk | hk | hk | hk | hk | hk | hk | hk | hk | hk
  all_goals
    rw [hk] at g st hl ⊢
    obtain ⟨sU, sI, sH⟩ := st_parts st
    obtain ⟨⟨i1, i2, i3⟩, ⟨d1, d2⟩, ⟨a1, a2⟩, ⟨c1, c2⟩, ⟨e1, e2⟩⟩ := g
  · obtain rfl : r1 = 0 := Int.le_antisymm a2 a1
    obtain rfl : r2 = 0 := Int.le_antisymm c2 c1
    obtain rfl : csr = 0 := Int.le_antisymm e2 e1
    have d2 : rd ≤ 31 := d2
    have i3 : imm % 4096 = 0 := i3
    obtain ⟨r, rfl⟩ := Int.eq_ofNat_of_zero_le d1
    have hy := lw_U (sU (by decide)) (by omega : r < 32) hn.symm (by omega)
    exact renc_k85 o ho hk _ rfl r (by omega) imm n e4 hn2 _ hy hl K0 w
  · obtain rfl : r1 = 0 := Int.le_antisymm a2 a1
    obtain rfl : r2 = 0 := Int.le_antisymm c2 c1
    obtain rfl : csr = 0 := Int.le_antisymm e2 e1
    have d2 : rd ≤ 31 := d2
    obtain ⟨r, rfl⟩ := Int.eq_ofNat_of_zero_le d1
    have hb := sU (by decide)
    have hy := lw_J hb (by omega : r < 32) hn.symm hl
    exact renc_k74 o ho hk _ rfl r (by omega) imm n e4 hn2 _ hy (by omega) K0 w
  · obtain rfl : r2 = 0 := Int.le_antisymm c2 c1
    obtain rfl : csr = 0 := Int.le_antisymm e2 e1
    have d2 : rd ≤ 31 := d2
    have a2 : r1 ≤ 31 := a2
    obtain ⟨r, rfl⟩ := Int.eq_ofNat_of_zero_le d1
    obtain ⟨s, rfl⟩ := Int.eq_ofNat_of_zero_le a1
    have hy := lw_I (k := 73) (by decide) (sI (by decide)) (by omega : r < 32) (by omega : s < 32) hn.symm
    exact renc_k73 o ho hk _ rfl r (by omega) s (by omega) imm n e4 hn2 _ hy hl K0 w
  · obtain rfl : r2 = 0 := Int.le_antisymm c2 c1
    obtain rfl : csr = 0 := Int.le_antisymm e2 e1
    have d2 : rd ≤ 31 := d2
    have a2 : r1 ≤ 31 := a2
    obtain ⟨r, rfl⟩ := Int.eq_ofNat_of_zero_le d1
    obtain ⟨s, rfl⟩ := Int.eq_ofNat_of_zero_le a1
    have hy := lw_I (k := 76) (by decide) (sI (by decide)) (by omega : r < 32) (by omega : s < 32) hn.symm
    exact renc_k76 o ho hk _ rfl r (by omega) s (by omega) imm n e4 hn2 _ hy hl K0 w
  · obtain rfl : r2 = 0 := Int.le_antisymm c2 c1
    obtain rfl : csr = 0 := Int.le_antisymm e2 e1
    have d2 : rd ≤ 31 := d2
    have a2 : r1 ≤ 31 := a2
    obtain ⟨r, rfl⟩ := Int.eq_ofNat_of_zero_le d1
    obtain ⟨s, rfl⟩ := Int.eq_ofNat_of_zero_le a1
    have hy := lw_I (k := 70) (by decide) (sI (by decide)) (by omega : r < 32) (by omega : s < 32) hn.symm
    exact renc_k70 o ho hk _ rfl r (by omega) s (by omega) imm n e4 hn2 _ hy hl K0 w
  · obtain rfl : rd = 0 := Int.le_antisymm d2 d1
    obtain rfl : csr = 0 := Int.le_antisymm e2 e1
    have a2 : r1 ≤ 31 := a2
    have c2 : r2 ≤ 31 := c2
    obtain ⟨s, rfl⟩ := Int.eq_ofNat_of_zero_le a1
    obtain ⟨q, rfl⟩ := Int.eq_ofNat_of_zero_le c1
    have hb := sI (by decide)
    have hy := lw_B hb (by omega : s < 32) (by omega : q < 32) hn.symm hl
    exact renc_k66 o ho hk _ rfl s (by omega) q (by omega) imm n e4 hn2 _ hy (by omega) K0 w
  · obtain rfl : rd = 0 := Int.le_antisymm d2 d1
    obtain rfl : csr = 0 := Int.le_antisymm e2 e1
    have a2 : r1 ≤ 31 := a2
    have c2 : r2 ≤ 31 := c2
    obtain ⟨s, rfl⟩ := Int.eq_ofNat_of_zero_le a1
    obtain ⟨q, rfl⟩ := Int.eq_ofNat_of_zero_le c1
    have hb := sI (by decide)
    have hy := lw_S hb (by omega : s < 32) (by omega : q < 32) hn.symm hl
    exact renc_k83 o ho hk _ rfl s (by omega) q (by omega) imm n e4 hn2 _ hy (by omega) K0 w
  · obtain rfl : r2 = 0 := Int.le_antisymm c2 c1
    obtain rfl : csr = 0 := Int.le_antisymm e2 e1
    have d2 : rd ≤ 31 := d2
    have a2 : r1 ≤ 31 := a2
    have i1 : 0 ≤ imm := i1
    have i2 : imm ≤ 31 := i2
    obtain ⟨r, rfl⟩ := Int.eq_ofNat_of_zero_le d1
    obtain ⟨s, rfl⟩ := Int.eq_ofNat_of_zero_le a1
    obtain ⟨m, rfl⟩ := Int.eq_ofNat_of_zero_le i1
    have hy := lw_H (sH (by decide)) (by omega : r < 32) (by omega : s < 32) (by omega : m < 32)
    exact renc_k72 o ho hk _ rfl r (by omega) s (by omega) m (by omega) _ hy hl K0 w
  · obtain rfl : r2 = 0 := Int.le_antisymm c2 c1
    obtain rfl : imm = 0 := Int.le_antisymm i2 i1
    have d2 : rd ≤ 31 := d2
    have a2 : r1 ≤ 31 := a2
    have e2 : csr ≤ 4095 := e2
    obtain ⟨r, rfl⟩ := Int.eq_ofNat_of_zero_le d1
    obtain ⟨s, rfl⟩ := Int.eq_ofNat_of_zero_le a1
    obtain ⟨c, rfl⟩ := Int.eq_ofNat_of_zero_le e1
    have hy := lw_C (sI (by decide)) (by omega : r < 32) (by omega : s < 32) (by omega : c < 4096)
    exact renc_k67 o ho hk _ rfl r (by omega) s (by omega) c (by omega) _ hy hl K0 w
  · obtain rfl : csr = 0 := Int.le_antisymm e2 e1
    obtain rfl : imm = 0 := Int.le_antisymm i2 i1
    have d2 : rd ≤ 31 := d2
    have a2 : r1 ≤ 31 := a2
    have c2 : r2 ≤ 31 := c2
    obtain ⟨r, rfl⟩ := Int.eq_ofNat_of_zero_le d1
    obtain ⟨s, rfl⟩ := Int.eq_ofNat_of_zero_le a1
    obtain ⟨q, rfl⟩ := Int.eq_ofNat_of_zero_le c1
    have hy := lw_R (sH (by decide)) (by omega : r < 32) (by omega : s < 32) (by omega : q < 32)
    exact renc_k82 o ho hk _ rfl r s q (by omega) (by omega) (by omega) _ hy hl K0 w
  · obtain rfl : rd = 0 := Int.le_antisymm d2 d1
    obtain rfl : r1 = 0 := Int.le_antisymm a2 a1
    obtain rfl : r2 = 0 := Int.le_antisymm c2 c1
    obtain rfl : csr = 0 := Int.le_antisymm e2 e1
    obtain rfl : imm = 0 := Int.le_antisymm i2 i1
    exact renc_k78 o ho hk _ rfl _ lw_N hl K0 w
theorem instEncodes_walk (op rd r1 r2 imm csr : Int) (_ : -9223372036854775808 ≤ op) (_ : op < 9223372036854775808) (_ : -9223372036854775808 ≤ rd) (_ : rd < 9223372036854775808) (_ : -9223372036854775808 ≤ r1) (_ : r1 < 9223372036854775808) (_ : -9223372036854775808 ≤ r2) (_ : r2 < 9223372036854775808) (_ : -9223372036854775808 ≤ imm) (_ : imm < 9223372036854775808) (_ : -9223372036854775808 ≤ csr) (_ : csr < 9223372036854775808) (w : World) (hT : TabW w) (hN : TabS w) (hg : w.cell? ⟨2, 0, none⟩ = some errTy) :
    Calls Tryd.prog 4 #[.agg #[.int .i64 op, .int .i64 rd, .int .i64 r1, .int .i64 r2, .int .i64 imm, .int .i64 csr]] w fun e w' => e = .returned (.bool true) ∧ Below w.heap.size w w' := by
  by_cases h : Can op rd r1 r2 imm csr
  · exact instEncodes_core op rd r1 r2 imm csr _ 0 (Lib.hid fun w hT => encode_yes op rd r1 r2 imm csr h w hT) (Lib.hid fun w => renc_yes op rd r1 r2 imm csr h w) (Lib.hid fun w hT => check_yes op rd r1 r2 imm csr h w hT) (Lib.hid fun w => rcheck3_any op rd r1 r2 imm csr 0 (by rw [if_pos h]) w) w hT hN hg
  · exact instEncodes_core op rd r1 r2 imm csr 0 1 (Lib.hid fun w hT => encode_no op rd r1 r2 imm csr h w hT) (Lib.hid fun w => renc_no op rd r1 r2 imm csr h w) (Lib.hid fun w hT => check_no op rd r1 r2 imm csr h w hT) (Lib.hid fun w => rcheck3_any op rd r1 r2 imm csr 1 (by rw [if_neg h]) w) w hT hN hg

end Go.Proofs.YtoincdfijeipjaaDoor
