import Derived.Test.YtgbpalclapcfeaaDoorCsrDA
import Derived.Below
import Derived.Deep.Draws
import Derived.Deep.AppendLies
import Derived.Maps.AppendAt
import Derived.OwnWalk
import Derived.Laws.BytesArg
import Derived.Laws.MakeOwn
import Derived.Laws.OwnMore
import Derived.Deep.OwnRows
import Derived.Tactics
import Derived.Lib.ConvBytes
import Derived.Laws.Slices
import Derived.WalkKit
import Derived.KernelRfl
import Derived.RowKit3
import Derived.Deep.LoopGhost
import Derived.Deep.QuietTactic
import Derived.BigQuiet
import Derived.WideLaws
import Derived.Deep.DeepCutAuto
import Derived.Deep.CutBlock
import Derived.Deep.RegionHeld3
import Derived.Laws.Rows
import Derived.Lib.AppendStr
import Derived.ArgAppend
import Derived.Laws.IdiomCopy
import Derived.OrdersHeld
import Derived.Laws.BitsLemmas
import Derived.RowKit
import Derived.Lib.Hide
import Derived.Laws.BitsAllLaws
import Derived.WalkLawsBesides
import Derived.WalkSpells
import Derived.LaidEql
namespace Go.Proofs.YtgbpalclapcfeaaDoor
open Go.RowKit
set_option maxRecDepth 100000
set_option linter.unusedVariables false
set_option linter.unusedSimpArgs false

theorem cell_new_at (W : World) (cs : Array Value) (t : TypeId) (B j : Nat) (hB : B = W.heap.size) : (W.alloc (.cells cs t)).cell? ⟨B, j, none⟩ = cs[j]? := by
  subst hB; exact cell_of_row _ _ _ _ _ _ (heap_alloc_new W _)
theorem only37_at (v : Nat) (hv : v < 4294967296) (B : Nat) (w : World) (h0 : w.cell? ⟨B, 0, none⟩ = some (.int .i64 3)) (h1 : w.cell? ⟨B, 1, none⟩ = some (.int .i64 7)) :
    Calls Tryd.prog 59 #[.int .u32 v, .slice (some ⟨B, 0, none⟩) 2 2] w fun e w' => e = .returned (.int .u32 (v &&& 136 : Nat)) ∧ Below w.heap.size w w' :=
  (only_any v hv B 2 [3, 7] rfl (by omega) (by simp) w (fun j i h => by
    rcases j with _ | _ | j
    · obtain rfl : 3 = i := by simpa using h
      exact h0
    · obtain rfl : 7 = i := by simpa using h
      exact h1
    · simp at h) (block_lt_of_cell h0)).mono fun e w' h => ⟨by rw [h.1, only37 hv], h.2⟩
theorem only3711_at (v : Nat) (hv : v < 4294967296) (B : Nat) (w : World) (h0 : w.cell? ⟨B, 0, none⟩ = some (.int .i64 3)) (h1 : w.cell? ⟨B, 1, none⟩ = some (.int .i64 7)) (h2 : w.cell? ⟨B, 2, none⟩ = some (.int .i64 11)) :
    Calls Tryd.prog 59 #[.int .u32 v, .slice (some ⟨B, 0, none⟩) 3 3] w fun e w' => e = .returned (.int .u32 (v &&& 2184 : Nat)) ∧ Below w.heap.size w w' :=
  (only_any v hv B 3 [3, 7, 11] rfl (by omega) (by simp) w (fun j i h => by
    rcases j with _ | _ | _ | j
    · obtain rfl : 3 = i := by simpa using h
      exact h0
    · obtain rfl : 7 = i := by simpa using h
      exact h1
    · obtain rfl : 11 = i := by simpa using h
      exact h2
    · simp at h) (block_lt_of_cell h0)).mono fun e w' h => ⟨by rw [h.1, only3711 hv], h.2⟩
theorem but1_at (v : Nat) (hv : v < 4294967296) (B : Nat) (w : World) (h0 : w.cell? ⟨B, 0, none⟩ = some (.int .i64 1)) :
    Calls Tryd.prog 60 #[.int .u32 v, .slice (some ⟨B, 0, none⟩) 1 1] w fun e w' => e = .returned (.int .u32 (clr v 2 : Nat)) ∧ Below w.heap.size w w' :=
  (but_any v hv B 1 [1] rfl (by omega) (by simp) w (fun j i h => by
    rcases j with _ | j
    · obtain rfl : 1 = i := by simpa using h
      exact h0
    · simp at h) (block_lt_of_cell h0)).mono fun e w' h => ⟨by rw [h.1, but1 hv], h.2⟩
theorem but01_at (v : Nat) (hv : v < 4294967296) (B : Nat) (w : World) (h0 : w.cell? ⟨B, 0, none⟩ = some (.int .i64 0)) (h1 : w.cell? ⟨B, 1, none⟩ = some (.int .i64 1)) :
    Calls Tryd.prog 60 #[.int .u32 v, .slice (some ⟨B, 0, none⟩) 2 2] w fun e w' => e = .returned (.int .u32 (clr v 3 : Nat)) ∧ Below w.heap.size w w' :=
  (but_any v hv B 2 [0, 1] rfl (by omega) (by simp) w (fun j i h => by
    rcases j with _ | _ | j
    · obtain rfl : 0 = i := by simpa using h
      exact h0
    · obtain rfl : 1 = i := by simpa using h
      exact h1
    · simp at h) (block_lt_of_cell h0)).mono fun e w' h => ⟨by rw [h.1, but01 hv], h.2⟩
theorem rread_832 (st en ve sc ep ca va co : Nat) (g1 : st < 4294967296) (g2 : en < 4294967296) (g3 : ve < 4294967296) (g4 : sc < 4294967296) (g5 : ep < 4294967296) (g6 : ca < 4294967296) (g7 : va < 4294967296) (g8 : co < 18446744073709551616) (ln : Nat) (hl : ln < 4294967296) (w : World) :
    Calls Tryd.prog 27 #[.agg #[.int .u32 st, .int .u32 en, .int .u32 ve, .int .u32 sc, .int .u32 ep, .int .u32 ca, .int .u32 va, .int .u64 co], .int .i64 832, .int .u32 ln] w fun e w' => e = .returned (.tuple #[.int .u32 sc, .int .i64 0]) ∧ Below w.heap.size w w' := by
  clear g1 g2 g3 g4 g5 g6 g7 g8 hl
  go_enter Tryd.func27, Tryd.ntmps27
  go_wp2
  go_ret2
  exact ⟨rfl, (Below.refl _ _).alloc (Nat.le_refl _) _⟩
theorem rread_834 (st en ve sc ep ca va co : Nat) (g1 : st < 4294967296) (g2 : en < 4294967296) (g3 : ve < 4294967296) (g4 : sc < 4294967296) (g5 : ep < 4294967296) (g6 : ca < 4294967296) (g7 : va < 4294967296) (g8 : co < 18446744073709551616) (ln : Nat) (hl : ln < 4294967296) (w : World) :
    Calls Tryd.prog 27 #[.agg #[.int .u32 st, .int .u32 en, .int .u32 ve, .int .u32 sc, .int .u32 ep, .int .u32 ca, .int .u32 va, .int .u64 co], .int .i64 834, .int .u32 ln] w fun e w' => e = .returned (.tuple #[.int .u32 ca, .int .i64 0]) ∧ Below w.heap.size w w' := by
  clear g1 g2 g3 g4 g5 g6 g7 g8 hl
  go_enter Tryd.func27, Tryd.ntmps27
  go_wp2
  go_ret2
  exact ⟨rfl, (Below.refl _ _).alloc (Nat.le_refl _) _⟩
theorem rread_835 (st en ve sc ep ca va co : Nat) (g1 : st < 4294967296) (g2 : en < 4294967296) (g3 : ve < 4294967296) (g4 : sc < 4294967296) (g5 : ep < 4294967296) (g6 : ca < 4294967296) (g7 : va < 4294967296) (g8 : co < 18446744073709551616) (ln : Nat) (hl : ln < 4294967296) (w : World) :
    Calls Tryd.prog 27 #[.agg #[.int .u32 st, .int .u32 en, .int .u32 ve, .int .u32 sc, .int .u32 ep, .int .u32 ca, .int .u32 va, .int .u64 co], .int .i64 835, .int .u32 ln] w fun e w' => e = .returned (.tuple #[.int .u32 va, .int .i64 0]) ∧ Below w.heap.size w w' := by
  clear g1 g2 g3 g4 g5 g6 g7 g8 hl
  go_enter Tryd.func27, Tryd.ntmps27
  go_wp2
  go_ret2
  exact ⟨rfl, (Below.refl _ _).alloc (Nat.le_refl _) _⟩
theorem rread_768 (st en ve sc ep ca va co : Nat) (g1 : st < 4294967296) (g2 : en < 4294967296) (g3 : ve < 4294967296) (g4 : sc < 4294967296) (g5 : ep < 4294967296) (g6 : ca < 4294967296) (g7 : va < 4294967296) (g8 : co < 18446744073709551616) (ln : Nat) (hl : ln < 4294967296) (w : World) :
    Calls Tryd.prog 27 #[.agg #[.int .u32 st, .int .u32 en, .int .u32 ve, .int .u32 sc, .int .u32 ep, .int .u32 ca, .int .u32 va, .int .u64 co], .int .i64 768, .int .u32 ln] w fun e w' => e = .returned (.tuple #[.int .u32 (st ||| 6144 : Nat), .int .i64 0]) ∧ Below w.heap.size w w' := by
  have e1 : Go.bits .or .u32 (st : Int) 6144 = ((st ||| 6144 : Nat) : Int) := Go.u32_or_nat st 6144 g1 (by omega)
  clear g1 g2 g3 g4 g5 g6 g7 g8 hl
  go_enter Tryd.func27, Tryd.ntmps27
  go_wp2
  go_ret2
  exact ⟨rfl, (Below.refl _ _).alloc (Nat.le_refl _) _⟩
theorem rread_772 (st en ve sc ep ca va co : Nat) (g1 : st < 4294967296) (g2 : en < 4294967296) (g3 : ve < 4294967296) (g4 : sc < 4294967296) (g5 : ep < 4294967296) (g6 : ca < 4294967296) (g7 : va < 4294967296) (g8 : co < 18446744073709551616) (ln : Nat) (hl : ln < 4294967296) (w : World) :
    Calls Tryd.prog 27 #[.agg #[.int .u32 st, .int .u32 en, .int .u32 ve, .int .u32 sc, .int .u32 ep, .int .u32 ca, .int .u32 va, .int .u64 co], .int .i64 772, .int .u32 ln] w fun e w' => e = .returned (.tuple #[.int .u32 en, .int .i64 0]) ∧ Below w.heap.size w w' := by
  clear g1 g2 g3 g4 g5 g6 g7 g8 hl
  go_enter Tryd.func27, Tryd.ntmps27
  go_wp2
  go_ret2
  exact ⟨rfl, (Below.refl _ _).alloc (Nat.le_refl _) _⟩
theorem rread_773 (st en ve sc ep ca va co : Nat) (g1 : st < 4294967296) (g2 : en < 4294967296) (g3 : ve < 4294967296) (g4 : sc < 4294967296) (g5 : ep < 4294967296) (g6 : ca < 4294967296) (g7 : va < 4294967296) (g8 : co < 18446744073709551616) (ln : Nat) (hl : ln < 4294967296) (w : World) :
    Calls Tryd.prog 27 #[.agg #[.int .u32 st, .int .u32 en, .int .u32 ve, .int .u32 sc, .int .u32 ep, .int .u32 ca, .int .u32 va, .int .u64 co], .int .i64 773, .int .u32 ln] w fun e w' => e = .returned (.tuple #[.int .u32 ve, .int .i64 0]) ∧ Below w.heap.size w w' := by
  clear g1 g2 g3 g4 g5 g6 g7 g8 hl
  go_enter Tryd.func27, Tryd.ntmps27
  go_wp2
  go_ret2
  exact ⟨rfl, (Below.refl _ _).alloc (Nat.le_refl _) _⟩
theorem rread_833 (st en ve sc ep ca va co : Nat) (g1 : st < 4294967296) (g2 : en < 4294967296) (g3 : ve < 4294967296) (g4 : sc < 4294967296) (g5 : ep < 4294967296) (g6 : ca < 4294967296) (g7 : va < 4294967296) (g8 : co < 18446744073709551616) (ln : Nat) (hl : ln < 4294967296) (w : World) :
    Calls Tryd.prog 27 #[.agg #[.int .u32 st, .int .u32 en, .int .u32 ve, .int .u32 sc, .int .u32 ep, .int .u32 ca, .int .u32 va, .int .u64 co], .int .i64 833, .int .u32 ln] w fun e w' => e = .returned (.tuple #[.int .u32 ep, .int .i64 0]) ∧ Below w.heap.size w w' := by
  clear g1 g2 g3 g4 g5 g6 g7 g8 hl
  go_enter Tryd.func27, Tryd.ntmps27
  go_wp2
  go_ret2
  exact ⟨rfl, (Below.refl _ _).alloc (Nat.le_refl _) _⟩
theorem rread_2816 (st en ve sc ep ca va co : Nat) (g1 : st < 4294967296) (g2 : en < 4294967296) (g3 : ve < 4294967296) (g4 : sc < 4294967296) (g5 : ep < 4294967296) (g6 : ca < 4294967296) (g7 : va < 4294967296) (g8 : co < 18446744073709551616) (ln : Nat) (hl : ln < 4294967296) (w : World) :
    Calls Tryd.prog 27 #[.agg #[.int .u32 st, .int .u32 en, .int .u32 ve, .int .u32 sc, .int .u32 ep, .int .u32 ca, .int .u32 va, .int .u64 co], .int .i64 2816, .int .u32 ln] w fun e w' => e = .returned (.tuple #[.int .u32 (co % 4294967296 : Nat), .int .i64 0]) ∧ Below w.heap.size w w' := by
  have hco : co / 4294967296 < 4294967296 := by omega
  clear g1 g2 g3 g4 g5 g6 g7 g8 hl
  go_enter Tryd.func27, Tryd.ntmps27
  go_wp2
  go_ret2
  exact ⟨congrArg Ending.returned (congrArg Value.tuple (congrArg (fun x => #[Value.int .u32 x, .int .i64 0]) (by simp; try omega))), (Below.refl _ _).alloc (Nat.le_refl _) _⟩
theorem rread_2818 (st en ve sc ep ca va co : Nat) (g1 : st < 4294967296) (g2 : en < 4294967296) (g3 : ve < 4294967296) (g4 : sc < 4294967296) (g5 : ep < 4294967296) (g6 : ca < 4294967296) (g7 : va < 4294967296) (g8 : co < 18446744073709551616) (ln : Nat) (hl : ln < 4294967296) (w : World) :
    Calls Tryd.prog 27 #[.agg #[.int .u32 st, .int .u32 en, .int .u32 ve, .int .u32 sc, .int .u32 ep, .int .u32 ca, .int .u32 va, .int .u64 co], .int .i64 2818, .int .u32 ln] w fun e w' => e = .returned (.tuple #[.int .u32 (co % 4294967296 : Nat), .int .i64 0]) ∧ Below w.heap.size w w' := by
  have hco : co / 4294967296 < 4294967296 := by omega
  clear g1 g2 g3 g4 g5 g6 g7 g8 hl
  go_enter Tryd.func27, Tryd.ntmps27
  go_wp2
  go_ret2
  exact ⟨congrArg Ending.returned (congrArg Value.tuple (congrArg (fun x => #[Value.int .u32 x, .int .i64 0]) (by simp; try omega))), (Below.refl _ _).alloc (Nat.le_refl _) _⟩
theorem rread_2944 (st en ve sc ep ca va co : Nat) (g1 : st < 4294967296) (g2 : en < 4294967296) (g3 : ve < 4294967296) (g4 : sc < 4294967296) (g5 : ep < 4294967296) (g6 : ca < 4294967296) (g7 : va < 4294967296) (g8 : co < 18446744073709551616) (ln : Nat) (hl : ln < 4294967296) (w : World) :
    Calls Tryd.prog 27 #[.agg #[.int .u32 st, .int .u32 en, .int .u32 ve, .int .u32 sc, .int .u32 ep, .int .u32 ca, .int .u32 va, .int .u64 co], .int .i64 2944, .int .u32 ln] w fun e w' => e = .returned (.tuple #[.int .u32 (co / 4294967296 : Nat), .int .i64 0]) ∧ Below w.heap.size w w' := by
  have hco : co / 4294967296 < 4294967296 := by omega
  clear g1 g2 g3 g4 g5 g6 g7 g8 hl
  go_enter Tryd.func27, Tryd.ntmps27
  go_wp2
  go_ret2
  exact ⟨congrArg Ending.returned (congrArg Value.tuple (congrArg (fun x => #[Value.int .u32 x, .int .i64 0]) (by simp; try omega))), (Below.refl _ _).alloc (Nat.le_refl _) _⟩
theorem rread_2946 (st en ve sc ep ca va co : Nat) (g1 : st < 4294967296) (g2 : en < 4294967296) (g3 : ve < 4294967296) (g4 : sc < 4294967296) (g5 : ep < 4294967296) (g6 : ca < 4294967296) (g7 : va < 4294967296) (g8 : co < 18446744073709551616) (ln : Nat) (hl : ln < 4294967296) (w : World) :
    Calls Tryd.prog 27 #[.agg #[.int .u32 st, .int .u32 en, .int .u32 ve, .int .u32 sc, .int .u32 ep, .int .u32 ca, .int .u32 va, .int .u64 co], .int .i64 2946, .int .u32 ln] w fun e w' => e = .returned (.tuple #[.int .u32 (co / 4294967296 : Nat), .int .i64 0]) ∧ Below w.heap.size w w' := by
  have hco : co / 4294967296 < 4294967296 := by omega
  clear g1 g2 g3 g4 g5 g6 g7 g8 hl
  go_enter Tryd.func27, Tryd.ntmps27
  go_wp2
  go_ret2
  exact ⟨congrArg Ending.returned (congrArg Value.tuple (congrArg (fun x => #[Value.int .u32 x, .int .i64 0]) (by simp; try omega))), (Below.refl _ _).alloc (Nat.le_refl _) _⟩
theorem rread_769 (st en ve sc ep ca va co : Nat) (g1 : st < 4294967296) (g2 : en < 4294967296) (g3 : ve < 4294967296) (g4 : sc < 4294967296) (g5 : ep < 4294967296) (g6 : ca < 4294967296) (g7 : va < 4294967296) (g8 : co < 18446744073709551616) (ln : Nat) (hl : ln < 4294967296) (w : World) :
    Calls Tryd.prog 27 #[.agg #[.int .u32 st, .int .u32 en, .int .u32 ve, .int .u32 sc, .int .u32 ep, .int .u32 ca, .int .u32 va, .int .u64 co], .int .i64 769, .int .u32 ln] w fun e w' => e = .returned (.tuple #[.int .u32 1073746176, .int .i64 0]) ∧ Below w.heap.size w w' := by
  clear g1 g2 g3 g4 g5 g6 g7 g8 hl
  go_enter Tryd.func27, Tryd.ntmps27
  go_wp2
  go_ret2
  exact ⟨rfl, (Below.refl _ _).alloc (Nat.le_refl _) _⟩
theorem rread_836 (st en ve sc ep ca va co : Nat) (g1 : st < 4294967296) (g2 : en < 4294967296) (g3 : ve < 4294967296) (g4 : sc < 4294967296) (g5 : ep < 4294967296) (g6 : ca < 4294967296) (g7 : va < 4294967296) (g8 : co < 18446744073709551616) (ln : Nat) (hl : ln < 4294967296) (w : World) :
    Calls Tryd.prog 27 #[.agg #[.int .u32 st, .int .u32 en, .int .u32 ve, .int .u32 sc, .int .u32 ep, .int .u32 ca, .int .u32 va, .int .u64 co], .int .i64 836, .int .u32 ln] w fun e w' => e = .returned (.tuple #[.int .u32 (ln &&& 2184 : Nat), .int .i64 0]) ∧ Below w.heap.size w w' := by
  have O := Lib.hid (fun (B : Nat) (w : World) h0 h1 h2 => only3711_at ln hl B w h0 h1 h2)
  clear g1 g2 g3 g4 g5 g6 g7 g8 hl
  go_enter Tryd.func27, Tryd.ntmps27
  go_wp2_with fail
  refine (O.out (w.heap.size + 1) _ ?_ ?_ ?_).mono ?_
  · exact (cell_new_at _ _ _ _ 0 (by simp)).trans rfl
  · exact (cell_new_at _ _ _ _ 1 (by simp)).trans rfl
  · exact (cell_new_at _ _ _ _ 2 (by simp)).trans rfl
  rintro e w1 ⟨rfl, hb⟩
  go_wp2
  go_ret2
  exact ⟨rfl, (((Below.refl _ w).alloc (Nat.le_refl _) _).alloc (by simp) _).trans (hb.mono (by simp; try omega))⟩
theorem rread_3857 (st en ve sc ep ca va co : Nat) (g1 : st < 4294967296) (g2 : en < 4294967296) (g3 : ve < 4294967296) (g4 : sc < 4294967296) (g5 : ep < 4294967296) (g6 : ca < 4294967296) (g7 : va < 4294967296) (g8 : co < 18446744073709551616) (ln : Nat) (hl : ln < 4294967296) (w : World) :
    Calls Tryd.prog 27 #[.agg #[.int .u32 st, .int .u32 en, .int .u32 ve, .int .u32 sc, .int .u32 ep, .int .u32 ca, .int .u32 va, .int .u64 co], .int .i64 3857, .int .u32 ln] w fun e w' => e = .returned (.tuple #[.int .u32 0, .int .i64 0]) ∧ Below w.heap.size w w' := by
  clear g1 g2 g3 g4 g5 g6 g7 g8 hl
  go_enter Tryd.func27, Tryd.ntmps27
  go_wp2
  go_ret2
  exact ⟨rfl, (Below.refl _ _).alloc (Nat.le_refl _) _⟩
theorem rread_3858 (st en ve sc ep ca va co : Nat) (g1 : st < 4294967296) (g2 : en < 4294967296) (g3 : ve < 4294967296) (g4 : sc < 4294967296) (g5 : ep < 4294967296) (g6 : ca < 4294967296) (g7 : va < 4294967296) (g8 : co < 18446744073709551616) (ln : Nat) (hl : ln < 4294967296) (w : World) :
    Calls Tryd.prog 27 #[.agg #[.int .u32 st, .int .u32 en, .int .u32 ve, .int .u32 sc, .int .u32 ep, .int .u32 ca, .int .u32 va, .int .u64 co], .int .i64 3858, .int .u32 ln] w fun e w' => e = .returned (.tuple #[.int .u32 0, .int .i64 0]) ∧ Below w.heap.size w w' := by
  clear g1 g2 g3 g4 g5 g6 g7 g8 hl
  go_enter Tryd.func27, Tryd.ntmps27
  go_wp2
  go_ret2
  exact ⟨rfl, (Below.refl _ _).alloc (Nat.le_refl _) _⟩
theorem rread_3859 (st en ve sc ep ca va co : Nat) (g1 : st < 4294967296) (g2 : en < 4294967296) (g3 : ve < 4294967296) (g4 : sc < 4294967296) (g5 : ep < 4294967296) (g6 : ca < 4294967296) (g7 : va < 4294967296) (g8 : co < 18446744073709551616) (ln : Nat) (hl : ln < 4294967296) (w : World) :
    Calls Tryd.prog 27 #[.agg #[.int .u32 st, .int .u32 en, .int .u32 ve, .int .u32 sc, .int .u32 ep, .int .u32 ca, .int .u32 va, .int .u64 co], .int .i64 3859, .int .u32 ln] w fun e w' => e = .returned (.tuple #[.int .u32 0, .int .i64 0]) ∧ Below w.heap.size w w' := by
  clear g1 g2 g3 g4 g5 g6 g7 g8 hl
  go_enter Tryd.func27, Tryd.ntmps27
  go_wp2
  go_ret2
  exact ⟨rfl, (Below.refl _ _).alloc (Nat.le_refl _) _⟩
theorem rread_3860 (st en ve sc ep ca va co : Nat) (g1 : st < 4294967296) (g2 : en < 4294967296) (g3 : ve < 4294967296) (g4 : sc < 4294967296) (g5 : ep < 4294967296) (g6 : ca < 4294967296) (g7 : va < 4294967296) (g8 : co < 18446744073709551616) (ln : Nat) (hl : ln < 4294967296) (w : World) :
    Calls Tryd.prog 27 #[.agg #[.int .u32 st, .int .u32 en, .int .u32 ve, .int .u32 sc, .int .u32 ep, .int .u32 ca, .int .u32 va, .int .u64 co], .int .i64 3860, .int .u32 ln] w fun e w' => e = .returned (.tuple #[.int .u32 0, .int .i64 0]) ∧ Below w.heap.size w w' := by
  clear g1 g2 g3 g4 g5 g6 g7 g8 hl
  go_enter Tryd.func27, Tryd.ntmps27
  go_wp2
  go_ret2
  exact ⟨rfl, (Below.refl _ _).alloc (Nat.le_refl _) _⟩
theorem rread_none (st en ve sc ep ca va co : Nat) (a : Int) (ln : Nat) (n768 : (a == 768) = false) (n769 : (a == 769) = false) (n772 : (a == 772) = false) (n773 : (a == 773) = false) (n832 : (a == 832) = false) (n833 : (a == 833) = false) (n834 : (a == 834) = false) (n835 : (a == 835) = false) (n836 : (a == 836) = false) (n2816 : (a == 2816) = false) (n2818 : (a == 2818) = false) (n2944 : (a == 2944) = false) (n2946 : (a == 2946) = false) (n3857 : (a == 3857) = false) (n3858 : (a == 3858) = false) (n3859 : (a == 3859) = false) (n3860 : (a == 3860) = false) (w : World) :
    Calls Tryd.prog 27 #[.agg #[.int .u32 st, .int .u32 en, .int .u32 ve, .int .u32 sc, .int .u32 ep, .int .u32 ca, .int .u32 va, .int .u64 co], .int .i64 a, .int .u32 ln] w fun e w' => e = .returned (.tuple #[.int .u32 0, .int .i64 8]) ∧ Below w.heap.size w w' := by
  go_enter Tryd.func27, Tryd.ntmps27
  go_wp2
  go_ret2
  exact ⟨rfl, (Below.refl _ _).alloc (Nat.le_refl _) _⟩
def rreadR : Option Nat → Value
  | some v => .tuple #[.int .u32 v, .int .i64 0]
  | none => .tuple #[.int .u32 0, .int .i64 8]
theorem rread_any (s : St) (hs : s.ok) (a : Int) (ln : Nat) (hl : ln < 4294967296) (w : World) :
    Calls Tryd.prog 27 #[s.v, .int .i64 a, .int .u32 ln] w fun e w' => e = .returned (rreadR (readV s a ln)) ∧ Below w.heap.size w w' := by
  obtain ⟨st, en, ve, sc, ep, ca, va, co⟩ := s
  obtain ⟨g1, g2, g3, g4, g5, g6, g7, g8⟩ := hs
  simp only at g1 g2 g3 g4 g5 g6 g7 g8
  by_cases c832 : a = 832
  · subst c832; exact rread_832 st en ve sc ep ca va co g1 g2 g3 g4 g5 g6 g7 g8 ln hl w
  by_cases c834 : a = 834
  · subst c834; exact rread_834 st en ve sc ep ca va co g1 g2 g3 g4 g5 g6 g7 g8 ln hl w
  by_cases c835 : a = 835
  · subst c835; exact rread_835 st en ve sc ep ca va co g1 g2 g3 g4 g5 g6 g7 g8 ln hl w
  by_cases c768 : a = 768
  · subst c768; exact rread_768 st en ve sc ep ca va co g1 g2 g3 g4 g5 g6 g7 g8 ln hl w
  by_cases c772 : a = 772
  · subst c772; exact rread_772 st en ve sc ep ca va co g1 g2 g3 g4 g5 g6 g7 g8 ln hl w
  by_cases c773 : a = 773
  · subst c773; exact rread_773 st en ve sc ep ca va co g1 g2 g3 g4 g5 g6 g7 g8 ln hl w
  by_cases c833 : a = 833
  · subst c833; exact rread_833 st en ve sc ep ca va co g1 g2 g3 g4 g5 g6 g7 g8 ln hl w
  by_cases c2816 : a = 2816
  · subst c2816; exact rread_2816 st en ve sc ep ca va co g1 g2 g3 g4 g5 g6 g7 g8 ln hl w
  by_cases c2818 : a = 2818
  · subst c2818; exact rread_2818 st en ve sc ep ca va co g1 g2 g3 g4 g5 g6 g7 g8 ln hl w
  by_cases c2944 : a = 2944
  · subst c2944; exact rread_2944 st en ve sc ep ca va co g1 g2 g3 g4 g5 g6 g7 g8 ln hl w
  by_cases c2946 : a = 2946
  · subst c2946; exact rread_2946 st en ve sc ep ca va co g1 g2 g3 g4 g5 g6 g7 g8 ln hl w
  by_cases c769 : a = 769
  · subst c769; exact rread_769 st en ve sc ep ca va co g1 g2 g3 g4 g5 g6 g7 g8 ln hl w
  by_cases c836 : a = 836
  · subst c836; exact rread_836 st en ve sc ep ca va co g1 g2 g3 g4 g5 g6 g7 g8 ln hl w
  by_cases c3857 : a = 3857
  · subst c3857; exact rread_3857 st en ve sc ep ca va co g1 g2 g3 g4 g5 g6 g7 g8 ln hl w
  by_cases c3858 : a = 3858
  · subst c3858; exact rread_3858 st en ve sc ep ca va co g1 g2 g3 g4 g5 g6 g7 g8 ln hl w
  by_cases c3859 : a = 3859
  · subst c3859; exact rread_3859 st en ve sc ep ca va co g1 g2 g3 g4 g5 g6 g7 g8 ln hl w
  by_cases c3860 : a = 3860
  · subst c3860; exact rread_3860 st en ve sc ep ca va co g1 g2 g3 g4 g5 g6 g7 g8 ln hl w
  have hr : readV ⟨st, en, ve, sc, ep, ca, va, co⟩ a ln = none := by
    unfold readV
    rw [if_neg (by omega), if_neg (by omega), if_neg (by omega), if_neg (by omega), if_neg (by omega), if_neg (by omega), if_neg (by omega), if_neg (by omega), if_neg (by omega), if_neg (by omega), if_neg (by omega), if_neg (by omega)]
  rw [hr]
  exact rread_none st en ve sc ep ca va co a ln (by rw [Bool.eq_false_iff]; simp; omega) (by rw [Bool.eq_false_iff]; simp; omega) (by rw [Bool.eq_false_iff]; simp; omega) (by rw [Bool.eq_false_iff]; simp; omega) (by rw [Bool.eq_false_iff]; simp; omega) (by rw [Bool.eq_false_iff]; simp; omega) (by rw [Bool.eq_false_iff]; simp; omega) (by rw [Bool.eq_false_iff]; simp; omega) (by rw [Bool.eq_false_iff]; simp; omega) (by rw [Bool.eq_false_iff]; simp; omega) (by rw [Bool.eq_false_iff]; simp; omega) (by rw [Bool.eq_false_iff]; simp; omega) (by rw [Bool.eq_false_iff]; simp; omega) (by rw [Bool.eq_false_iff]; simp; omega) (by rw [Bool.eq_false_iff]; simp; omega) (by rw [Bool.eq_false_iff]; simp; omega) (by rw [Bool.eq_false_iff]; simp; omega) w

end Go.Proofs.YtgbpalclapcfeaaDoor
