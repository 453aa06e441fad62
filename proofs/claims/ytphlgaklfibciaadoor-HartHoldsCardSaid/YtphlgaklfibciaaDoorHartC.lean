import Derived.Test.YtphlgaklfibciaaDoorHartM
import Derived.Below
import Derived.Deep.Draws
import Derived.Deep.AppendLies
import Derived.Maps.AppendAt
import Derived.OwnWalk
import Derived.Laws.BytesArg
import Derived.Laws.MakeOwn
import Derived.Laws.OwnMore
import Derived.Deep.OwnRows
import Derived.Tactics
import Derived.Lib.ConvBytes
import Derived.Laws.Slices
import Derived.WalkKit
import Derived.KernelRfl
import Derived.RowKit3
import Derived.Deep.LoopGhost
import Derived.Deep.QuietTactic
import Derived.BigQuiet
import Derived.WideLaws
import Derived.Deep.DeepCutAuto
import Derived.Deep.CutBlock
import Derived.Deep.RegionHeld3
import Derived.Laws.Rows
import Derived.Lib.AppendStr
import Derived.ArgAppend
import Derived.Laws.IdiomCopy
import Derived.OrdersHeld
import Derived.Laws.BitsLemmas
import Derived.RowKit
import Derived.Lib.Hide
import Derived.Laws.BitsAllLaws
import Derived.WalkLawsBesides
import Derived.WalkSpells
import Derived.LaidEql
namespace Go.Proofs.YtphlgaklfibciaaDoor
open Go.RowKit
set_option maxRecDepth 100000
set_option linter.unusedVariables false
set_option linter.unusedSimpArgs false

theorem and3 {v : Nat} (hv : v < 4294967296) : Go.bits .and .u32 (v : Int) 3 = ((v % 4 : Nat) : Int) := by
  rw [show (3 : Int) = ((3 : Nat) : Int) from rfl, Go.u32_and_nat v 3 hv (by decide), show (3 : Nat) = 2 ^ 2 - 1 from rfl, Nat.and_two_pow_sub_one_eq_mod]
set_option maxHeartbeats 4000000 in
theorem hto_any (h : HS) (hk : h.ok) (b a : Nat) (ha : a < 4294967296) (w : World) (H : HAt w b h) :
    Calls Tryd.prog 35 #[.pointer (some ⟨b, 0, none⟩), .int .u32 a] w fun e w' => e = .returned (.tuple #[]) ∧ HAt w' b (toH h a) ∧ Only b w w' := by
  have e3 := and3 ha
  by_cases h0 : a % 4 = 0
  · rw [h0] at e3
    unfold toH
    rw [if_pos h0]
    clear h0
    have hco : h.c.count < 18446744073709551616 := hk.c.count
    clear hk
    obtain ⟨pc, x, wt, ⟨st, en, ve, sc, ep, ca, va, co⟩⟩ := h
    have c0 : w.cell? ⟨b, 0, none⟩ = some (.int .u32 pc) := H.1 0 (by decide)
    have c41 : w.cell? ⟨b, 41, none⟩ = some (.int .u64 co) := H.1 41 (by decide)
    have cf := H.2.1
    have HH := Lib.hid H
    clear H
    simp only at hco ⊢
    go_enter Tryd.func35, Tryd.ntmps35
    go_wp2
    have ew : Value.int .u64 (IntKind.u64.wrap ((co : Int) + 1)) = Value.int .u64 (((co + 1) % 18446744073709551616 : Nat) : Int) := by
      rw [Go.IntKind.wrap_u64]; congr 1
    refine post_none (by kernel_rfl) rfl ⟨rfl, ?_, ?_⟩
    · exact GAt.ext (GAt.set (GAt.set HH.out (k := 0) (by decide) _) (k := 41) (by decide) _) (get_ext rfl (fun j h1 h2 => by simp [HS.get, show j ≠ 0 by omega, show j ≠ 41 by omega, h2]) ⟨rfl, rfl, rfl, rfl, rfl, rfl, rfl, rfl, ew⟩)
    · exact ((Only.refl b w).set (k := 0) (by decide) _).set (k := 41) (by decide) _
  · have TR := Lib.hid (fun w H => htrap_any h hk b 0 a (by decide) ha w H)
    have HT : Hid (toH h a = trapH h 0 a) := Lib.hid (by unfold toH; rw [if_neg h0])
    rw [HT.out]
    obtain ⟨q, hq⟩ : ∃ q, a % 4 = q := ⟨_, rfl⟩
    rw [hq] at e3 h0
    have h0' : ((q : Int) == 0) = false := by simpa using h0
    have HH := Lib.hid H
    clear H hq hk
    generalize trapH h 0 a = r at TR ⊢
    go_enter Tryd.func35, Tryd.ntmps35
    go_wp2_with (go_at_call 32; refine (TR.out _ HH.out).mono ?_; rintro e w1 ⟨rfl, h1, o1⟩)
    exact bodyPost_ret (v := .tuple #[]) (results_none (by kernel_rfl) _ _ _) rfl ⟨rfl, h1, o1⟩

set_option maxHeartbeats 4000000 in
theorem hset_any (h : HS) (b rd v : Nat) (hr : rd < 32) (w : World) (H : HAt w b h) :
    Calls Tryd.prog 39 #[.pointer (some ⟨b, 0, none⟩), .int .i64 rd, .int .u32 v] w fun e w' => e = .returned (.tuple #[]) ∧ HAt w' b (setH h rd v) ∧ Only b w w' := by
  by_cases h0 : rd = 0
  · subst h0
    have e : setH h 0 v = h := rfl
    rw [e]
    have HH := Lib.hid H
    clear H
    go_enter Tryd.func39, Tryd.ntmps39
    go_wp2
    exact post_none (by kernel_rfl) rfl ⟨rfl, HH.out, Only.refl _ _⟩
  · have e : setH h rd v = { h with x := fun j => if j = rd then v else h.x j } := by unfold setH; rw [if_neg h0]
    rw [e]
    have HH := Lib.hid H
    have cx : w.cell? ⟨b, 1 + rd, none⟩ = some (.int .u32 (h.x rd : Nat)) := by rw [H.1 _ (by omega), h.get_x hr]
    have cf := H.2.1
    have h0' : ((rd : Int) == 0) = false := by simpa using h0
    clear H e
    go_enter Tryd.func39, Tryd.ntmps39
    go_wp2
    refine post_none (by kernel_rfl) rfl ⟨rfl, ?_, (Only.refl b w).set (k := 1 + rd) (by omega) _⟩
    refine GAt.ext (GAt.set HH.out (k := 1 + rd) (by omega) _) (fun j hj => ?_)
    by_cases e : j = 1 + rd
    · subst e
      simp [HS.get, show 1 + rd ≠ 0 by omega, show 1 + rd < 33 by omega]
    · simp only [if_neg e, HS.get]
      by_cases e0 : j = 0
      · simp [e0]
      · by_cases e1 : j < 33
        · simp [e0, e1, show ¬ (j - 1 = rd) by omega]
        · simp [e0, e1]

/-- the rest of a doer: the instruction, the word, the lines, whether it is gone -/
structure DI (w : World) (b : Nat) (op rd r1 r2 : Nat) (imm cs : Int) (ww ln : Nat) (gone : Bool) : Prop where
  op : w.cell? ⟨b, 42, none⟩ = some (.int .i64 op)
  rd : w.cell? ⟨b, 43, none⟩ = some (.int .i64 rd)
  r1 : w.cell? ⟨b, 44, none⟩ = some (.int .i64 r1)
  r2 : w.cell? ⟨b, 45, none⟩ = some (.int .i64 r2)
  imm : w.cell? ⟨b, 46, none⟩ = some (.int .i64 imm)
  cs : w.cell? ⟨b, 47, none⟩ = some (.int .i64 cs)
  ww : w.cell? ⟨b, 48, none⟩ = some (.int .u32 ww)
  ln : w.cell? ⟨b, 49, none⟩ = some (.int .u32 ln)
  gone : w.cell? ⟨b, 50, none⟩ = some (.bool gone)
/-- a call turns one block alone, and makes memory -/
structure OnlyD (b : Nat) (w w' : World) : Prop where
  below : Below b w w'
  over : ∀ k, b < k → k < w.heap.size → w'.heap[k]? = w.heap[k]?
theorem Only.d {b : Nat} {w w' : World} (h : Only b w w') : OnlyD b w w' := ⟨h.below, h.over⟩
theorem OnlyD.refl (b : Nat) (w : World) : OnlyD b w w := ⟨Below.refl _ _, fun _ _ _ => rfl⟩
theorem OnlyD.trans {b : Nat} {w w1 w2 : World} (h : OnlyD b w w1) (k : OnlyD b w1 w2) : OnlyD b w w2 :=
  ⟨h.below.trans k.below, fun i h1 h2 => (k.over i h1 (Nat.lt_of_lt_of_le h2 h.below.size)).trans (h.over i h1 h2)⟩
theorem OnlyD.set {b : Nat} {w w' : World} (h : OnlyD b w w') (k : Nat) (v : Value) : OnlyD b w (w'.setCell ⟨b, k, none⟩ v) :=
  ⟨h.below.setCell (p := ⟨b, k, none⟩) (Nat.le_refl _) v, fun i h1 h2 => (heap_setCell_other _ _ _ _ (by simp; omega)).trans (h.over i h1 h2)⟩
theorem DI.only {w w' : World} {b op rd r1 r2 : Nat} {imm cs : Int} {ww ln : Nat} {gone : Bool} (D : DI w b op rd r1 r2 imm cs ww ln gone) (O : Only b w w') : DI w' b op rd r1 r2 imm cs ww ln gone :=
  ⟨(O.tail 42 (by decide)).trans D.op, (O.tail 43 (by decide)).trans D.rd, (O.tail 44 (by decide)).trans D.r1, (O.tail 45 (by decide)).trans D.r2, (O.tail 46 (by decide)).trans D.imm, (O.tail 47 (by decide)).trans D.cs, (O.tail 48 (by decide)).trans D.ww, (O.tail 49 (by decide)).trans D.ln, (O.tail 50 (by decide)).trans D.gone⟩
theorem DI.setGone {w : World} {b op rd r1 r2 : Nat} {imm cs : Int} {ww ln : Nat} {gone : Bool} (D : DI w b op rd r1 r2 imm cs ww ln gone) (g : Bool) : DI (w.setCell ⟨b, 50, none⟩ (.bool g)) b op rd r1 r2 imm cs ww ln g := by
  have k : ∀ j v, j ≠ 50 → w.cell? ⟨b, j, none⟩ = some v → (w.setCell ⟨b, 50, none⟩ (.bool g)).cell? ⟨b, j, none⟩ = some v := fun j v hj h => by
    rw [World.cell?_setCell_other _ _ _ _ (fun e => hj (by cases e; rfl))]; exact h
  exact ⟨k _ _ (by decide) D.op, k _ _ (by decide) D.rd, k _ _ (by decide) D.r1, k _ _ (by decide) D.r2, k _ _ (by decide) D.imm, k _ _ (by decide) D.cs, k _ _ (by decide) D.ww, k _ _ (by decide) D.ln, World.cell?_setCell_same _ _ _ D.gone⟩
theorem HAt.setTail {w : World} {b : Nat} {h : HS} (H : HAt w b h) {k : Nat} (hk : 42 ≤ k) (v : Value) : HAt (w.setCell ⟨b, k, none⟩ v) b h :=
  ⟨fun j hj => by rw [World.cell?_setCell_other _ _ _ _ (fun e => by cases e; omega)]; exact H.1 j hj, fun j => by rw [World.frozen?_setCell]; exact H.2.1 j, by rw [World.size_setCell]; exact H.2.2⟩
theorem HAt.pc_ {w : World} {b : Nat} {h : HS} (H : HAt w b h) : w.cell? ⟨b, 0, none⟩ = some (.int .u32 h.pc) := H.1 0 (by decide)
theorem HAt.x_ {w : World} {b : Nat} {h : HS} (H : HAt w b h) {j : Nat} (hj : j < 32) : w.cell? ⟨b, 1 + j, none⟩ = some (.int .u32 (h.x j : Nat)) := by rw [H.1 _ (by omega), h.get_x hj]
theorem HAt.fz {w : World} {b : Nat} {h : HS} (H : HAt w b h) : ∀ j, w.frozen? ⟨b, j, none⟩ = false := H.2.1
set_option maxHeartbeats 4000000 in
theorem dtrap_any (h : HS) (hk : h.ok) (b cause value : Nat) (h1 : cause < 4294967296) (h2 : value < 4294967296) {op rd r1 r2 : Nat} {imm cs : Int} {ww ln : Nat} {gone : Bool} (w : World) (H : HAt w b h) (D : DI w b op rd r1 r2 imm cs ww ln gone) :
    Calls Tryd.prog 33 #[.pointer (some ⟨b, 0, none⟩), .int .u32 cause, .int .u32 value] w fun e w' => e = .returned (.tuple #[]) ∧ HAt w' b (trapH h cause value) ∧ DI w' b op rd r1 r2 imm cs ww ln true ∧ OnlyD b w w' := by
  have TR := Lib.hid (fun w H => htrap_any h hk b cause value h1 h2 w H)
  have HH := Lib.hid H
  have DD := Lib.hid D
  clear H D hk h1 h2
  generalize trapH h cause value = r at TR ⊢
  go_enter Tryd.func33, Tryd.ntmps33
  go_wp2_with (go_at_call 32; refine (TR.out _ HH.out).mono ?_; rintro e w1 ⟨rfl, h1, o1⟩; have d1 := DD.out.only o1; have c50 := d1.gone; have cf := h1.fz; have H1 := Lib.hid h1; have D1 := Lib.hid d1; have O1 := Lib.hid o1; clear h1 d1 o1)
  exact post_none (by kernel_rfl) rfl ⟨rfl, H1.out.setTail (by decide) _, D1.out.setGone true, O1.out.d.set 50 _⟩
theorem da_any (h : HS) (b : Nat) {op rd r1 r2 : Nat} {imm cs : Int} {ww ln : Nat} {gone : Bool} (hr : r1 < 32) (w : World) (H : HAt w b h) (D : DI w b op rd r1 r2 imm cs ww ln gone) :
    Calls Tryd.prog 58 #[.pointer (some ⟨b, 0, none⟩)] w fun e w' => e = .returned (.int .u32 (h.x r1 : Nat)) ∧ ∃ k, w.drewN k = w' := by
  have c44 := D.r1
  have cx := H.x_ hr
  clear H D
  generalize h.x r1 = v at cx ⊢
  go_enter Tryd.func58, Tryd.ntmps58
  go_wp2
  go_region
  all_goals
    go_wp2
    go_ret
    exact ⟨rfl, 1, rfl⟩
theorem db_any (h : HS) (b : Nat) {op rd r1 r2 : Nat} {imm cs : Int} {ww ln : Nat} {gone : Bool} (hr : r2 < 32) (w : World) (H : HAt w b h) (D : DI w b op rd r1 r2 imm cs ww ln gone) :
    Calls Tryd.prog 61 #[.pointer (some ⟨b, 0, none⟩)] w fun e w' => e = .returned (.int .u32 (h.x r2 : Nat)) ∧ ∃ k, w.drewN k = w' := by
  have c45 := D.r2
  have cx := H.x_ hr
  clear H D
  generalize h.x r2 = v at cx ⊢
  go_enter Tryd.func61, Tryd.ntmps61
  go_wp2
  go_region
  all_goals
    go_wp2
    go_ret
    exact ⟨rfl, 1, rfl⟩
theorem dn_any (b n : Nat) {op rd r1 r2 : Nat} {imm cs : Int} {ww ln : Nat} {gone : Bool} (hn : IntKind.u32.wrap imm = (n : Int)) (w : World) (D : DI w b op rd r1 r2 imm cs ww ln gone) :
    Calls Tryd.prog 54 #[.pointer (some ⟨b, 0, none⟩)] w fun e w' => e = .returned (.int .u32 (n : Nat)) ∧ w = w' := by
  have c46 := D.imm
  clear D
  go_enter Tryd.func54, Tryd.ntmps54
  go_wp2
  go_ret
  exact ⟨rfl, rfl⟩

end Go.Proofs.YtphlgaklfibciaaDoor
