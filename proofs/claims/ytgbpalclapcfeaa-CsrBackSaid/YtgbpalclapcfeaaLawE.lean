import Derived.Test.YtgbpalclapcfeaaLawD
import Derived.Test.YtgbpalclapcfeaaCsrD
import Derived.Below
import Derived.Deep.Draws
import Derived.Deep.AppendLies
import Derived.Maps.AppendAt
import Derived.OwnWalk
import Derived.Laws.BytesArg
import Derived.Laws.MakeOwn
import Derived.Laws.OwnMore
import Derived.Deep.OwnRows
import Derived.Tactics
import Derived.Lib.ConvBytes
import Derived.Laws.Slices
import Derived.WalkKit
import Derived.KernelRfl
import Derived.RowKit3
import Derived.Deep.LoopGhost
import Derived.Deep.QuietTactic
import Derived.BigQuiet
import Derived.WideLaws
import Derived.Deep.DeepCutAuto
import Derived.Deep.CutBlock
import Derived.Deep.RegionHeld3
import Derived.Laws.Rows
import Derived.Lib.AppendStr
import Derived.ArgAppend
import Derived.Laws.IdiomCopy
import Derived.OrdersHeld
import Derived.Laws.BitsLemmas
import Derived.RowKit
import Derived.Lib.Hide
import Derived.Laws.BitsAllLaws
import Derived.WalkLawsBesides
import Derived.WalkSpells
import Derived.LaidEql
namespace Go.Proofs.Ytgbpalclapcfeaa
open Go.RowKit
set_option maxRecDepth 100000
set_option linter.unusedVariables false
set_option linter.unusedSimpArgs false

set_option maxHeartbeats 2000000 in
theorem csrTraps_walk (st en ve sc ep ca va co : Nat) (g1 : st < 4294967296) (g2 : en < 4294967296) (g3 : ve < 4294967296) (g4 : sc < 4294967296) (g5 : ep < 4294967296) (g6 : ca < 4294967296) (g7 : va < 4294967296) (g8 : co < 18446744073709551616) (a b c : Nat) (h1 : a < 4294967296) (h2 : b < 4294967296) (h3 : c < 4294967296) (w : World) :
    Calls Try.prog 3 #[.agg #[.int .u32 st, .int .u32 en, .int .u32 ve, .int .u32 sc, .int .u32 ep, .int .u32 ca, .int .u32 va, .int .u64 co], .agg #[.int .u32 a, .int .u32 b, .int .u32 c]] w fun e w' => e = .returned (.bool true) ∧ Below w.heap.size w w' := by
  have P : ∀ w : World, Calls Try.prog 12 #[.agg #[.int .u32 st, .int .u32 en, .int .u32 ve, .int .u32 sc, .int .u32 ep, .int .u32 ca, .int .u32 va, .int .u64 co], .int .u32 a, .int .u32 b, .int .u32 c] w fun e w' => e = .returned (.tuple #[(trapS ⟨st, en, ve, sc, ep, ca, va, co⟩ a b c).v, .int .u32 (trapTo ve a)]) ∧ Below w.heap.size w w' := fun w => trap_any ⟨st, en, ve, sc, ep, ca, va, co⟩ ⟨g1, g2, g3, g4, g5, g6, g7, g8⟩ a b c h1 h2 h3 w
  have Q : ∀ w : World, Calls Try.prog 13 #[.agg #[.int .u32 st, .int .u32 en, .int .u32 ve, .int .u32 sc, .int .u32 ep, .int .u32 ca, .int .u32 va, .int .u64 co], .int .u32 a, .int .u32 b, .int .u32 c] w fun e w' => e = .returned (.tuple #[(trapS ⟨st, en, ve, sc, ep, ca, va, co⟩ a b c).v, .int .u32 (trapTo ve a)]) ∧ Below w.heap.size w w' := fun w => rtrap_any ⟨st, en, ve, sc, ep, ca, va, co⟩ ⟨g1, g2, g3, g4, g5, g6, g7, g8⟩ a b c h1 h2 h3 w
  obtain ⟨u, hu⟩ : ∃ u, trapS ⟨st, en, ve, sc, ep, ca, va, co⟩ a b c = u := ⟨_, rfl⟩
  obtain ⟨y, hy⟩ : ∃ y, trapTo ve a = y := ⟨_, rfl⟩
  rw [hu, hy] at P Q
  clear hu hy
  obtain ⟨u0, u1, u2, u3, u4, u5, u6, u7⟩ := u
  unfold St.v St.cells at P Q
  simp only at P Q
  have HP := Lib.hid P
  have HQ := Lib.hid Q
  clear P Q g1 g2 g3 g4 g5 g6 g7 g8 h1 h2 h3
  go_enter Try.func3, Try.ntmps3
  have B0 := Lib.hid ((BoxS.new w ⟨st, en, ve, sc, ep, ca, va, co⟩ 25).alloc (.cells #[.int .u32 a, .int .u32 b, .int .u32 c] 26))
  go_wp2_with (first
    | (go_at_call 12; refine (HP.out _).mono ?_; rintro e w1 ⟨rfl, hb1⟩; have B1 := Lib.hid (B0.out.below hb1); have F1 := B1.out.facts; obtain ⟨f0, f1, f2, f3, f4, f5, f6, f7, _, f9⟩ := F1; have b1 := Lib.hid ((((Below.refl _ w).alloc (Nat.le_refl _) _).alloc (by simp) _).trans (hb1.mono (by simp; omega)));
       have k0 := (hb1.cell (p := ⟨w.heap.size + 1, 0, none⟩) (by simp)).trans (cell_new_at _ _ _ _ 0 (by simp)); have k1 := (hb1.cell (p := ⟨w.heap.size + 1, 1, none⟩) (by simp)).trans (cell_new_at _ _ _ _ 1 (by simp)); have k2 := (hb1.cell (p := ⟨w.heap.size + 1, 2, none⟩) (by simp)).trans (cell_new_at _ _ _ _ 2 (by simp));
       have lt1 : w.heap.size + 1 < w1.heap.size := Nat.lt_of_lt_of_le (by simp) hb1.size; clear hb1)
    | (go_at_call 13; refine (HQ.out _).mono ?_; rintro e w2 ⟨rfl, hb2⟩; have B2 := Lib.hid ((BoxS.new w1 ⟨u0, u1, u2, u3, u4, u5, u6, u7⟩ 27).below hb2); have F2 := B2.out.facts; obtain ⟨q0, q1, q2, q3, q4, q5, q6, q7, _, q9⟩ := F2; have b2 := Lib.hid ((b1.out.alloc b1.out.size _).trans (hb2.mono (by have := b1.out.size; simp; omega))); clear hb2)
    | (go_at_call 14; refine (sureC_any _).mono ?_; rintro e w3 ⟨rfl, hb3⟩))
  go_ret
  exact ⟨rfl, (b2.out.alloc b2.out.size _).trans (hb3.mono (by have := b2.out.size; simp; omega))⟩

end Go.Proofs.Ytgbpalclapcfeaa
