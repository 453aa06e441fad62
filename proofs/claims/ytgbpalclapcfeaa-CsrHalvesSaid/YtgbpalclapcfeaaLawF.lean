import Derived.Test.YtgbpalclapcfeaaLawE
import Derived.Test.YtgbpalclapcfeaaCsrE
import Derived.Below
import Derived.Deep.Draws
import Derived.Deep.AppendLies
import Derived.Maps.AppendAt
import Derived.OwnWalk
import Derived.Laws.BytesArg
import Derived.Laws.MakeOwn
import Derived.Laws.OwnMore
import Derived.Deep.OwnRows
import Derived.Tactics
import Derived.Lib.ConvBytes
import Derived.Laws.Slices
import Derived.WalkKit
import Derived.KernelRfl
import Derived.RowKit3
import Derived.Deep.LoopGhost
import Derived.Deep.QuietTactic
import Derived.BigQuiet
import Derived.WideLaws
import Derived.Deep.DeepCutAuto
import Derived.Deep.CutBlock
import Derived.Deep.RegionHeld3
import Derived.Laws.Rows
import Derived.Lib.AppendStr
import Derived.ArgAppend
import Derived.Laws.IdiomCopy
import Derived.OrdersHeld
import Derived.Laws.BitsLemmas
import Derived.RowKit
import Derived.Lib.Hide
import Derived.Laws.BitsAllLaws
import Derived.WalkLawsBesides
import Derived.WalkSpells
import Derived.LaidEql
namespace Go.Proofs.Ytgbpalclapcfeaa
open Go.RowKit
set_option maxRecDepth 100000
set_option linter.unusedVariables false
set_option linter.unusedSimpArgs false

set_option maxHeartbeats 2000000 in
theorem csrHalves_walk (st en ve sc ep ca va co : Nat) (g1 : st < 4294967296) (g2 : en < 4294967296) (g3 : ve < 4294967296) (g4 : sc < 4294967296) (g5 : ep < 4294967296) (g6 : ca < 4294967296) (g7 : va < 4294967296) (g8 : co < 18446744073709551616) (a : Nat) (h1 : a < 4294967296) (b : Nat) (h2 : b < 4294967296) (w : World) :
    Calls Try.prog 7 #[.agg #[.int .u32 st, .int .u32 en, .int .u32 ve, .int .u32 sc, .int .u32 ep, .int .u32 ca, .int .u32 va, .int .u64 co], .int .u32 a, .int .u32 b] w fun e w' => e = .returned (.bool true) ∧ Below w.heap.size w w' := by
  obtain ⟨lo, hlo⟩ : ∃ lo : Nat, lo = co % 4294967296 := ⟨_, rfl⟩
  obtain ⟨hi, hhi⟩ : ∃ hi : Nat, hi = co / 4294967296 := ⟨_, rfl⟩
  obtain ⟨y7, hy⟩ : ∃ y7 : Nat, y7 = co / 4294967296 * 4294967296 + a := ⟨_, rfl⟩
  obtain ⟨z7, hz⟩ : ∃ z7 : Nat, z7 = b * 4294967296 + a := ⟨_, rfl⟩
  have hy8 : y7 < 18446744073709551616 := by omega
  have R1 : Hid (∀ w : World, Calls Try.prog 20 #[.agg #[.int .u32 st, .int .u32 en, .int .u32 ve, .int .u32 sc, .int .u32 ep, .int .u32 ca, .int .u32 va, .int .u64 co], .int .i64 2816, .int .u32 0] w fun e w' => e = .returned (.tuple #[.int .u32 lo, .nilIface]) ∧ Below w.heap.size w w') := Lib.hid (fun w => by have h := read_2816 st en ve sc ep ca va co g1 g2 g3 g4 g5 g6 g7 g8 0 (by omega) w; rw [← hlo] at h; exact h)
  have R2 : Hid (∀ w : World, Calls Try.prog 20 #[.agg #[.int .u32 st, .int .u32 en, .int .u32 ve, .int .u32 sc, .int .u32 ep, .int .u32 ca, .int .u32 va, .int .u64 co], .int .i64 2946, .int .u32 0] w fun e w' => e = .returned (.tuple #[.int .u32 hi, .nilIface]) ∧ Below w.heap.size w w') := Lib.hid (fun w => by have h := read_2946 st en ve sc ep ca va co g1 g2 g3 g4 g5 g6 g7 g8 0 (by omega) w; rw [← hhi] at h; exact h)
  have W1 : Hid (∀ w : World, Calls Try.prog 19 #[.agg #[.int .u32 st, .int .u32 en, .int .u32 ve, .int .u32 sc, .int .u32 ep, .int .u32 ca, .int .u32 va, .int .u64 co], .int .i64 2818, .int .u32 a] w fun e w' => e = .returned (.tuple #[.agg #[.int .u32 st, .int .u32 en, .int .u32 ve, .int .u32 sc, .int .u32 ep, .int .u32 ca, .int .u32 va, .int .u64 y7], .nilIface]) ∧ Below w.heap.size w w') := Lib.hid (fun w => by have h := write_2818 st en ve sc ep ca va co g1 g2 g3 g4 g5 g6 g7 g8 a h1 w; rw [← hy] at h; exact h)
  have W2 : Hid (∀ w : World, Calls Try.prog 19 #[.agg #[.int .u32 st, .int .u32 en, .int .u32 ve, .int .u32 sc, .int .u32 ep, .int .u32 ca, .int .u32 va, .int .u64 y7], .int .i64 2944, .int .u32 b] w fun e w' => e = .returned (.tuple #[.agg #[.int .u32 st, .int .u32 en, .int .u32 ve, .int .u32 sc, .int .u32 ep, .int .u32 ca, .int .u32 va, .int .u64 z7], .nilIface]) ∧ Below w.heap.size w w') := Lib.hid (fun w => by have h := write_2944 st en ve sc ep ca va y7 g1 g2 g3 g4 g5 g6 g7 hy8 b h2 w; rw [show b * 4294967296 + y7 % 4294967296 = z7 by omega] at h; exact h)
  obtain ⟨m1, hm1⟩ : ∃ m1 : Nat, m1 = b * 4294967296 := ⟨_, rfl⟩
  obtain ⟨m2, hm2⟩ : ∃ m2 : Nat, m2 = hi * 4294967296 := ⟨_, rfl⟩
  have e1 : Go.bits .or .u64 (m1 : Int) (a : Int) = (z7 : Int) := (Go.u64_or_nat m1 a (by omega) (by omega)).trans (by rw [Go.nat_join 32 m1 a (by omega) (by omega)]; omega)
  have e2 : Go.bits .or .u64 (m2 : Int) (lo : Int) = (co : Int) := (Go.u64_or_nat m2 lo (by omega) (by omega)).trans (by rw [Go.nat_join 32 m2 lo (by omega) (by omega)]; omega)
  have c1 : (b : Int) * 4294967296 = m1 := by omega
  have c2 : (hi : Int) * 4294967296 = m2 := by omega
  have hhi' : hi < 4294967296 := by omega
  have hlo' : lo < 4294967296 := by omega
  clear hlo hhi hy hz hy8 hm1 hm2 g1 g2 g3 g4 g5 g6 g7 g8
  have B0 := Lib.hid ((BoxS.new w ⟨st, en, ve, sc, ep, ca, va, co⟩ 25).alloc (.cells (St.cells ⟨st, en, ve, sc, ep, ca, va, co⟩) 27))
  have D0 := Lib.hid (show BoxS ((w.alloc (.cells (St.cells ⟨st, en, ve, sc, ep, ca, va, co⟩) 25)).alloc (.cells (St.cells ⟨st, en, ve, sc, ep, ca, va, co⟩) 27)) (w.heap.size + 1) 27 ⟨st, en, ve, sc, ep, ca, va, co⟩ from heap_alloc2_new w _ _)
  have b0 := Lib.hid (show Below w.heap.size w ((w.alloc (.cells (St.cells ⟨st, en, ve, sc, ep, ca, va, co⟩) 25)).alloc (.cells (St.cells ⟨st, en, ve, sc, ep, ca, va, co⟩) 27)) from ((Below.refl _ _).alloc (Nat.le_refl _) _).alloc (by simp) _)
  go_enter Try.func7, Try.ntmps7
  go_wp2_with (first
    | (go_at_call 20; (with_reducible refine (R1.out _).mono ?_); rintro e w1 ⟨rfl, hb⟩; have B1 := Lib.hid (B0.out.below hb); have D1 := Lib.hid (D0.out.below hb); have b1 := Lib.hid (b0.out.trans (hb.mono b0.out.size)); have FB1 := D1.out.facts; obtain ⟨f0, f1, f2, f3, f4, f5, f6, f7, _, f9⟩ := FB1; clear hb)
    | (go_at_call 20; (with_reducible refine (R2.out _).mono ?_); rintro e w2 ⟨rfl, hb⟩; have B2 := Lib.hid (B1.out.below hb); have D2 := Lib.hid (D1.out.below hb); have b2 := Lib.hid (b1.out.trans (hb.mono b1.out.size)); have FB2 := D2.out.facts; obtain ⟨f0, f1, f2, f3, f4, f5, f6, f7, _, f9⟩ := FB2; clear hb)
    | (go_at_call 19; (with_reducible refine (W1.out _).mono ?_); rintro e w3 ⟨rfl, hb⟩; have B3 := Lib.hid (B2.out.below hb); have D3 := Lib.hid (D2.out.below hb); have b3 := Lib.hid (b2.out.trans (hb.mono b2.out.size)); clear hb)
    | (go_at_call 19; (with_reducible refine (W2.out _).mono ?_); rintro e w4 ⟨rfl, hb⟩; have B4 := Lib.hid ((B3.out.alloc _).below hb); have D4 := Lib.hid ((D3.out.alloc _).below hb); have b4 := Lib.hid ((b3.out.alloc b3.out.size _).trans (hb.mono (Nat.le_trans b3.out.size (by simp)))); have FB4 := D4.out.facts; obtain ⟨f0, f1, f2, f3, f4, f5, f6, f7, f8, f9⟩ := FB4; have FC4 := B4.out.facts; obtain ⟨k0, k1, k2, k3, k4, k5, k6, k7, k8, k9⟩ := FC4; clear hb)
    | (go_at_call 14; refine (sureC_any _).mono ?_; rintro e w5 ⟨rfl, hb5⟩))
  go_ret
  exact ⟨rfl, (((b4.out.setCell (p := ⟨w.heap.size + 1, 7, none⟩) (by simp) _).alloc (by simpa using b4.out.size) _).trans (hb5.mono (by have := b4.out.size; simp; omega)))⟩

end Go.Proofs.Ytgbpalclapcfeaa
