import Derived.Test.YtphlgaklfibciaaDoorHoC
import Derived.Test.YtphlgaklfibciaaDoorHoL
import Derived.Test.YtphlgaklfibciaaDoorHoD
import Derived.Test.YtphlgaklfibciaaDoorHartBz
import Derived.Below
import Derived.Deep.Draws
import Derived.Deep.AppendLies
import Derived.Maps.AppendAt
import Derived.OwnWalk
import Derived.Laws.BytesArg
import Derived.Laws.MakeOwn
import Derived.Laws.OwnMore
import Derived.Deep.OwnRows
import Derived.Tactics
import Derived.Lib.ConvBytes
import Derived.Laws.Slices
import Derived.WalkKit
import Derived.KernelRfl
import Derived.RowKit3
import Derived.Deep.LoopGhost
import Derived.Deep.QuietTactic
import Derived.BigQuiet
import Derived.WideLaws
import Derived.Deep.DeepCutAuto
import Derived.Deep.CutBlock
import Derived.Deep.RegionHeld3
import Derived.Laws.Rows
import Derived.Lib.AppendStr
import Derived.ArgAppend
import Derived.Laws.IdiomCopy
import Derived.OrdersHeld
import Derived.Laws.BitsLemmas
import Derived.RowKit
import Derived.Lib.Hide
import Derived.Laws.BitsAllLaws
import Derived.WalkLawsBesides
import Derived.WalkSpells
import Derived.LaidEql
namespace Go.Proofs.YtphlgaklfibciaaDoor
open Go.RowKit
set_option maxRecDepth 100000
set_option linter.unusedVariables false
set_option linter.unusedSimpArgs false

/-- what a hart that may be does at a word: what it is then, and what it asks for -/
def DoOut (h : HS) (x ln : Nat) : Prop := ∃ (s : HS) (a0 : Int) (a1 : Nat) (a2 : Int) (a3 : Bool) (a4 : Int) (a5 : Nat), Hid (∀ w : World, TabW w → Calls Tryd.prog 14 #[.agg h.cells.toArray, .int .u32 x, .int .u32 ln] w fun e w' => e = .returned (.tuple #[.agg s.cells.toArray, .agg #[.int .i64 a0, .int .u32 a1, .int .i64 a2, .bool a3, .int .i64 a4, .int .u32 a5]]) ∧ Below w.heap.size w w')
  ∧ GoodH s ∧ (a0 = 0 ∨ ((a0 = 1 ∨ a0 = 2) ∧ a1 < 4294967296 ∧ (a2 = 1 ∨ a2 = 2 ∨ a2 = 4) ∧ (a1 : Int) % a2 = 0 ∧ 0 ≤ a4 ∧ a4 < 32 ∧ s = h))
theorem out_on {h : HS} (g : GoodH h) {x ln op rd r1 r2 : Nat} {imm cs : Int} (DE : Hid (∀ w : World, TabW w → Calls Tryd.prog 6 #[.int .u32 x] w fun e w' => e = .returned (.tuple #[.agg #[.int .i64 op, .int .i64 rd, .int .i64 r1, .int .i64 r2, .int .i64 imm, .int .i64 cs], .nilIface]) ∧ Below w.heap.size w w')) (s : HS) (gs : GoodH s)
    (ON : Hid (∀ (b : Nat) (w : World), HAt w b h → DI w b op rd r1 r2 imm cs x ln false → Calls Tryd.prog 34 #[.pointer (some ⟨b, 0, none⟩)] w fun e w' => e = .returned (.agg acc0) ∧ HAt w' b s ∧ DI w' b op rd r1 r2 imm cs x ln false ∧ OnlyD b w w')) : DoOut h x ln :=
  ⟨toH s ((s.pc + 4) % 4294967296), 0, 0, 0, false, 0, 0, Lib.hid fun w hT => do_on h g.1 x ln DE s gs.1 (a0 := 0) (a1 := 0) (a2 := 0) (a3 := false) (a4 := 0) (a5 := 0) ON w hT, good_to gs (Nat.mod_lt _ (by decide)), Or.inl rfl⟩
theorem out_gone {h : HS} (g : GoodH h) {x ln op rd r1 r2 : Nat} {imm cs : Int} (DE : Hid (∀ w : World, TabW w → Calls Tryd.prog 6 #[.int .u32 x] w fun e w' => e = .returned (.tuple #[.agg #[.int .i64 op, .int .i64 rd, .int .i64 r1, .int .i64 r2, .int .i64 imm, .int .i64 cs], .nilIface]) ∧ Below w.heap.size w w')) (s : HS) (gs : GoodH s)
    (ON : Hid (∀ (b : Nat) (w : World), HAt w b h → DI w b op rd r1 r2 imm cs x ln false → Calls Tryd.prog 34 #[.pointer (some ⟨b, 0, none⟩)] w fun e w' => e = .returned (.agg acc0) ∧ HAt w' b s ∧ DI w' b op rd r1 r2 imm cs x ln true ∧ OnlyD b w w')) : DoOut h x ln :=
  ⟨s, 0, 0, 0, false, 0, 0, Lib.hid fun w hT => do_gone h g.1 x ln DE s (a0 := 0) (a1 := 0) (a2 := 0) (a3 := false) (a4 := 0) (a5 := 0) ON w hT, gs, Or.inl rfl⟩
theorem out_either {h : HS} (g : GoodH h) {x ln op rd r1 r2 : Nat} {imm cs : Int} (DE : Hid (∀ w : World, TabW w → Calls Tryd.prog 6 #[.int .u32 x] w fun e w' => e = .returned (.tuple #[.agg #[.int .i64 op, .int .i64 rd, .int .i64 r1, .int .i64 r2, .int .i64 imm, .int .i64 cs], .nilIface]) ∧ Below w.heap.size w w')) (s : HS) (r : Bool) (gs : GoodH s)
    (ON : Hid (∀ (b : Nat) (w : World), HAt w b h → DI w b op rd r1 r2 imm cs x ln false → Calls Tryd.prog 34 #[.pointer (some ⟨b, 0, none⟩)] w fun e w' => e = .returned (.agg acc0) ∧ HAt w' b s ∧ DI w' b op rd r1 r2 imm cs x ln r ∧ OnlyD b w w')) : DoOut h x ln := by
  cases r with
  | true => exact out_gone g DE s gs ON
  | false => exact out_on g DE s gs ON
theorem rd_ex (k x : Nat) : ∃ r : Nat, r < 32 ∧ rdOf k x = (r : Int) := by
  unfold rdOf; split
  · exact ⟨0, by decide, rfl⟩
  · exact ⟨_, Nat.mod_lt _ (by decide), rfl⟩
theorem r1_ex (k x : Nat) : ∃ r : Nat, r < 32 ∧ r1Of k x = (r : Int) := by
  unfold r1Of; split
  · exact ⟨0, by decide, rfl⟩
  · exact ⟨_, Nat.mod_lt _ (by decide), rfl⟩
theorem r2_ex (k x : Nat) : ∃ r : Nat, r < 32 ∧ r2Of k x = (r : Int) := by
  unfold r2Of; split
  · exact ⟨_, Nat.mod_lt _ (by decide), rfl⟩
  · exact ⟨0, by decide, rfl⟩
theorem n_ex (imm : Int) : ∃ n : Nat, n < 4294967296 ∧ IntKind.u32.wrap imm = (n : Int) := by
  rw [Go.IntKind.wrap_u32]
  exact ⟨(imm % 4294967296).toNat, by omega, by omega⟩
theorem holds_ex (k : Nat) (hk : k < 6) (a b : Nat) : ∃ r : Bool, Hid (∀ w : World, Calls Tryd.prog 74 #[.int .i64 k, .int .u32 (a : Nat), .int .u32 (b : Nat)] w fun e w' => e = .returned (.tuple #[.bool r, .nilIface]) ∧ w = w') := by
  have h6 : k = 0 ∨ k = 1 ∨ k = 2 ∨ k = 3 ∨ k = 4 ∨ k = 5 := by omega
  rcases h6 with rfl | rfl | rfl | rfl | rfl | rfl
  · exact ⟨_, Lib.hid fun w => pholds_0 a b w⟩
  · exact ⟨_, Lib.hid fun w => pholds_1 a b w⟩
  · exact ⟨_, Lib.hid fun w => pholds_2 a b w⟩
  · exact ⟨_, Lib.hid fun w => pholds_3 a b w⟩
  · exact ⟨_, Lib.hid fun w => pholds_4 a b w⟩
  · exact ⟨_, Lib.hid fun w => pholds_5 a b w⟩
theorem numT_lt : ∀ k, k < 9 → numT.getD k 0 < 18 := by decide
theorem clr_lt1 {v : Nat} (hv : v < 4294967296) : clr v 1 < 4294967296 := clr_lt hv
theorem out_acc {h : HS} (g : GoodH h) {x ln op rd r1 r2 n : Nat} {imm cs : Int} (hop : 10 ≤ op ∧ op < 18) (hn : IntKind.u32.wrap imm = (n : Int)) (hrd : rd < 32) (hr1 : r1 < 32) (hr2 : r2 < 32)
    (DE : Hid (∀ w : World, TabW w → Calls Tryd.prog 6 #[.int .u32 x] w fun e w' => e = .returned (.tuple #[.agg #[.int .i64 op, .int .i64 rd, .int .i64 r1, .int .i64 r2, .int .i64 imm, .int .i64 cs], .nilIface]) ∧ Below w.heap.size w w')) : DoOut h x ln := by
  by_cases ho : (((h.x r1 + n) % 4294967296 : Nat) : Int) % accN op = 0
  · refine ⟨h, accK op, (h.x r1 + n) % 4294967296, accN op, accG op, accR op rd, accB op (h.x r2), Lib.hid fun w hT => do_gone h g.1 x ln DE h (Lib.hid fun b w H D => one_acc_even h g.1 b n _ hop hn hr1 hr2 rfl ho w H D) w hT, g, Or.inr ⟨?_, Nat.mod_lt _ (by decide), ?_, ho, ?_, ?_, rfl⟩⟩
    · unfold accK; split <;> simp
    · unfold accN; repeat' split
      all_goals simp
    · unfold accR; split <;> omega
    · unfold accR; split <;> omega
  · exact out_gone g DE (trapH h (if op < 15 then 4 else 6) ((h.x r1 + n) % 4294967296)) (good_trap g (by split <;> decide) (Nat.mod_lt _ (by decide))) (Lib.hid fun b w H D => one_acc_odd h g.1 b n _ hop hn hr1 hr2 rfl ho w H D)
theorem hdo_good (h : HS) (g : GoodH h) (x ln : Nat) (hx : x < 4294967296) (hl : ln < 4294967296) : DoOut h x ln := by
  by_cases hf : ∃ op, op < 57 ∧ Fit (kN op) (wN op) x
  · obtain ⟨op, hop, hf⟩ := hf
    obtain ⟨rd, hrd, e1⟩ := rd_ex (kN op) x
    obtain ⟨r1, hr1, e2⟩ := r1_ex (kN op) x
    obtain ⟨r2, hr2, e3⟩ := r2_ex (kN op) x
    have DE := de_of x hx op hop hf e1 e2 e3 rfl rfl
    obtain ⟨imm, hi⟩ : ∃ imm, imm = immOf (kN op) x := ⟨_, rfl⟩
    obtain ⟨cs, hc⟩ : ∃ cs, cs = csrOf (kN op) x := ⟨_, rfl⟩
    rw [← hi, ← hc] at DE
    obtain ⟨n, hnl, hn⟩ := n_ex imm
    clear hf e1 e2 e3 hi hc
    have hx1 := g.1.x r1 hr1
    have hx2 := g.1.x r2 hr2
    have hcases : op = 0 ∨ op = 1 ∨ op = 2 ∨ op = 3 ∨ (∃ k, k < 6 ∧ op = 4 + k) ∨ (10 ≤ op ∧ op < 18) ∨ (∃ k, k < 6 ∧ op = 18 + k) ∨ (∃ k, (6 ≤ k ∧ k < 9) ∧ op = 18 + k) ∨ (∃ k, k < 18 ∧ op = 27 + k) ∨ (op = 45 ∨ op = 46) ∨ op = 47 ∨ op = 48 ∨ op = 49 ∨ op = 50 ∨ (51 ≤ op ∧ op < 57) := by
      by_cases h1 : op < 4
      · omega
      by_cases h2 : op < 10
      · exact Or.inr (Or.inr (Or.inr (Or.inr (Or.inl ⟨op - 4, by omega, by omega⟩))))
      by_cases h3 : op < 18
      · exact Or.inr (Or.inr (Or.inr (Or.inr (Or.inr (Or.inl ⟨by omega, h3⟩)))))
      by_cases h4 : op < 24
      · exact Or.inr (Or.inr (Or.inr (Or.inr (Or.inr (Or.inr (Or.inl ⟨op - 18, by omega, by omega⟩))))))
      by_cases h5 : op < 27
      · exact Or.inr (Or.inr (Or.inr (Or.inr (Or.inr (Or.inr (Or.inr (Or.inl ⟨op - 18, ⟨by omega, by omega⟩, by omega⟩)))))))
      by_cases h6 : op < 45
      · exact Or.inr (Or.inr (Or.inr (Or.inr (Or.inr (Or.inr (Or.inr (Or.inr (Or.inl ⟨op - 27, by omega, by omega⟩))))))))
      exact Or.inr (Or.inr (Or.inr (Or.inr (Or.inr (Or.inr (Or.inr (Or.inr (Or.inr (by omega)))))))))
    rcases hcases with rfl | rfl | rfl | rfl | ⟨k, hk, rfl⟩ | ha | ⟨k, hk, rfl⟩ | ⟨k, hk, rfl⟩ | ⟨k, hk, rfl⟩ | hfe | rfl | rfl | rfl | rfl | hcs
    · exact out_on g DE (setH h rd n) (good_set g rd hnl) (Lib.hid fun b w H D => one_lui h g.1 b n hn hnl hrd hr1 hr2 w H D)
    · exact out_on g DE (setH h rd ((h.pc + n) % 4294967296)) (good_set g rd (Nat.mod_lt _ (by decide))) (Lib.hid fun b w H D => one_auipc h g.1 b n hn hnl hrd hr1 hr2 w H D)
    · exact out_gone g DE (jumpH h rd ((h.pc + n) % 4294967296)) (good_jump g rd (Nat.mod_lt _ (by decide))) (Lib.hid fun b w H D => one_jal h g.1 b n hn hnl hrd hr1 hr2 w H D)
    · exact out_gone g DE (jumpH h rd (clr ((h.x r1 + n) % 4294967296) 1)) (good_jump g rd (clr_lt (Nat.mod_lt _ (by decide)))) (Lib.hid fun b w H D => one_jalr h g.1 b n hn hnl hrd hr1 hr2 w H D)
    · obtain ⟨r, HO⟩ := holds_ex k hk (h.x r1) (h.x r2)
      exact out_either g DE (branchH h r n) r (good_branch g r n) (Lib.hid fun b w H D => one_br h g.1 b n k r hk hn hnl HO rfl hrd hr1 hr2 w H D)
    · exact out_acc g ha hn hrd hr1 hr2 DE
    · obtain ⟨v, hv, AL⟩ := alu_ex (numT.getD k 0) (numT_lt k (by omega)) (h.x r1) n hx1 hnl
      exact out_on g DE (setH h rd v) (good_set g rd hv) (Lib.hid fun b w H D => one_imm h g.1 b n k v hk hn hnl AL rfl hrd hr1 hr2 w H D)
    · obtain ⟨v, hv, AL⟩ := alu_ex (numT.getD k 0) (numT_lt k (by omega)) (h.x r1) n hx1 hnl
      exact out_on g DE (setH h rd v) (good_set g rd hv) (Lib.hid fun b w H D => one_imh h g.1 b n k v hk hn hnl AL rfl hrd hr1 hr2 w H D)
    · obtain ⟨v, hv, AL⟩ := alu_ex k hk (h.x r1) (h.x r2) hx1 hx2
      exact out_on g DE (setH h rd v) (good_set g rd hv) (Lib.hid fun b w H D => one_reg h g.1 b k v hk AL rfl hrd hr1 hr2 w H D)
    · exact out_on g DE h g (Lib.hid fun b w H D => one_fence h g.1 b hfe hrd hr1 hr2 w H D)
    · exact out_gone g DE (trapH h 11 0) (good_trap g (by decide) (by decide)) (Lib.hid fun b w H D => one_ecall h g.1 b hrd hr1 hr2 w H D)
    · exact out_gone g DE (trapH h 3 h.pc) (good_trap g (by decide) g.1.pc) (Lib.hid fun b w H D => one_ebreak h g.1 b hrd hr1 hr2 w H D)
    · exact out_gone g DE (mretH h) (good_mret g) (Lib.hid fun b w H D => one_mret h g.1 b hrd hr1 hr2 w H D)
    · exact out_on g DE ({ h with wait := true } : HS) (good_wait g true) (Lib.hid fun b w H D => one_wfi h g.1 b hrd hr1 hr2 w H D)
    · exact out_either g DE (ctlH h op rd r1 cs x ln).1 (ctlH h op rd r1 cs x ln).2 (good_ctl g op rd hr1 cs hx hl) (Lib.hid fun b w H D => one_ctl h g.1 b hcs hl hx hrd hr1 hr2 w H D)
  · exact ⟨trapH h 2 x, 0, 0, 0, false, 0, 0, Lib.hid fun w hT => do_bad h g.1 x ln hx (Lib.hid fun w hT => by have q := decode_none x hx (fun op hop ff => hf ⟨op, hop, ff⟩) w hT; exact q) w hT, good_trap g (by decide) hx, Or.inl rfl⟩

end Go.Proofs.YtphlgaklfibciaaDoor
