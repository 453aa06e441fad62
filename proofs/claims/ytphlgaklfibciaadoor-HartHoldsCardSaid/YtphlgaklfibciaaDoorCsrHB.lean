import Derived.Test.YtphlgaklfibciaaDoorCsrHA
import Derived.Below
import Derived.Deep.Draws
import Derived.Deep.AppendLies
import Derived.Maps.AppendAt
import Derived.OwnWalk
import Derived.Laws.BytesArg
import Derived.Laws.MakeOwn
import Derived.Laws.OwnMore
import Derived.Deep.OwnRows
import Derived.Tactics
import Derived.Lib.ConvBytes
import Derived.Laws.Slices
import Derived.WalkKit
import Derived.KernelRfl
import Derived.RowKit3
import Derived.Deep.LoopGhost
import Derived.Deep.QuietTactic
import Derived.BigQuiet
import Derived.WideLaws
import Derived.Deep.DeepCutAuto
import Derived.Deep.CutBlock
import Derived.Deep.RegionHeld3
import Derived.Laws.Rows
import Derived.Lib.AppendStr
import Derived.ArgAppend
import Derived.Laws.IdiomCopy
import Derived.OrdersHeld
import Derived.Laws.BitsLemmas
import Derived.RowKit
import Derived.Lib.Hide
import Derived.Laws.BitsAllLaws
import Derived.WalkLawsBesides
import Derived.WalkSpells
import Derived.LaidEql
namespace Go.Proofs.YtphlgaklfibciaaDoor
open Go.RowKit
set_option maxRecDepth 100000
set_option linter.unusedVariables false
set_option linter.unusedSimpArgs false

theorem read_832 (st en ve sc ep ca va co : Nat) (g1 : st < 4294967296) (g2 : en < 4294967296) (g3 : ve < 4294967296) (g4 : sc < 4294967296) (g5 : ep < 4294967296) (g6 : ca < 4294967296) (g7 : va < 4294967296) (g8 : co < 18446744073709551616) (ln : Nat) (hl : ln < 4294967296) (w : World) :
    Calls Tryd.prog 77 #[.agg #[.int .u32 st, .int .u32 en, .int .u32 ve, .int .u32 sc, .int .u32 ep, .int .u32 ca, .int .u32 va, .int .u64 co], .int .i64 832, .int .u32 ln] w fun e w' => e = .returned (.tuple #[.int .u32 sc, .nilIface]) ∧ Below w.heap.size w w' := by
  have HP : Hid (∀ (B : Nat) (w : World), Calls Tryd.prog 84 #[.pointer (some ⟨B, 0, none⟩), .int .i64 832] w fun e w' => e = .returned (.pointer (some ⟨B, 3, none⟩)) ∧ w = w') := Lib.hid (fun B w => plain_any B 832 w)
  have HM : Hid (∀ (B : Nat) (w : World), Calls Tryd.prog 85 #[.pointer (some ⟨B, 0, none⟩), .int .i64 832] w fun e w' => e = .returned (.tuple #[.pointer none, .int .u32 0]) ∧ w = w') := Lib.hid (fun B w => masked_any B 832 w)
  have HH : Hid (∀ (w : World), Calls Tryd.prog 86 #[.int .i64 832] w fun e w' => e = .returned (.tuple #[.int .i64 0, .bool false]) ∧ w = w') := Lib.hid (fun w => half_any 832 w)
  have HF : Hid (∀ (w : World), Calls Tryd.prog 87 #[.int .i64 832] w fun e w' => e = .returned (.bool false) ∧ w = w') := Lib.hid (fun w => fixed_any 832 w)
  clear g1 g2 g3 g4 g5 g6 g7 g8 hl
  go_enter Tryd.func77, Tryd.ntmps77
  go_wp2_with (first | (go_at_call 84; refine (HP.out _ _).mono ?_; rintro e w1 ⟨rfl, rfl⟩) | (go_at_call 85; refine (HM.out _ _).mono ?_; rintro e w1 ⟨rfl, rfl⟩) | (go_at_call 86; refine (HH.out _).mono ?_; rintro e w1 ⟨rfl, rfl⟩) | (go_at_call 87; refine (HF.out _).mono ?_; rintro e w1 ⟨rfl, rfl⟩))
  go_ret2
  exact ⟨rfl, (Below.refl _ _).alloc (Nat.le_refl _) _⟩
theorem read_834 (st en ve sc ep ca va co : Nat) (g1 : st < 4294967296) (g2 : en < 4294967296) (g3 : ve < 4294967296) (g4 : sc < 4294967296) (g5 : ep < 4294967296) (g6 : ca < 4294967296) (g7 : va < 4294967296) (g8 : co < 18446744073709551616) (ln : Nat) (hl : ln < 4294967296) (w : World) :
    Calls Tryd.prog 77 #[.agg #[.int .u32 st, .int .u32 en, .int .u32 ve, .int .u32 sc, .int .u32 ep, .int .u32 ca, .int .u32 va, .int .u64 co], .int .i64 834, .int .u32 ln] w fun e w' => e = .returned (.tuple #[.int .u32 ca, .nilIface]) ∧ Below w.heap.size w w' := by
  have HP : Hid (∀ (B : Nat) (w : World), Calls Tryd.prog 84 #[.pointer (some ⟨B, 0, none⟩), .int .i64 834] w fun e w' => e = .returned (.pointer (some ⟨B, 5, none⟩)) ∧ w = w') := Lib.hid (fun B w => plain_any B 834 w)
  have HM : Hid (∀ (B : Nat) (w : World), Calls Tryd.prog 85 #[.pointer (some ⟨B, 0, none⟩), .int .i64 834] w fun e w' => e = .returned (.tuple #[.pointer none, .int .u32 0]) ∧ w = w') := Lib.hid (fun B w => masked_any B 834 w)
  have HH : Hid (∀ (w : World), Calls Tryd.prog 86 #[.int .i64 834] w fun e w' => e = .returned (.tuple #[.int .i64 0, .bool false]) ∧ w = w') := Lib.hid (fun w => half_any 834 w)
  have HF : Hid (∀ (w : World), Calls Tryd.prog 87 #[.int .i64 834] w fun e w' => e = .returned (.bool false) ∧ w = w') := Lib.hid (fun w => fixed_any 834 w)
  clear g1 g2 g3 g4 g5 g6 g7 g8 hl
  go_enter Tryd.func77, Tryd.ntmps77
  go_wp2_with (first | (go_at_call 84; refine (HP.out _ _).mono ?_; rintro e w1 ⟨rfl, rfl⟩) | (go_at_call 85; refine (HM.out _ _).mono ?_; rintro e w1 ⟨rfl, rfl⟩) | (go_at_call 86; refine (HH.out _).mono ?_; rintro e w1 ⟨rfl, rfl⟩) | (go_at_call 87; refine (HF.out _).mono ?_; rintro e w1 ⟨rfl, rfl⟩))
  go_ret2
  exact ⟨rfl, (Below.refl _ _).alloc (Nat.le_refl _) _⟩
theorem read_835 (st en ve sc ep ca va co : Nat) (g1 : st < 4294967296) (g2 : en < 4294967296) (g3 : ve < 4294967296) (g4 : sc < 4294967296) (g5 : ep < 4294967296) (g6 : ca < 4294967296) (g7 : va < 4294967296) (g8 : co < 18446744073709551616) (ln : Nat) (hl : ln < 4294967296) (w : World) :
    Calls Tryd.prog 77 #[.agg #[.int .u32 st, .int .u32 en, .int .u32 ve, .int .u32 sc, .int .u32 ep, .int .u32 ca, .int .u32 va, .int .u64 co], .int .i64 835, .int .u32 ln] w fun e w' => e = .returned (.tuple #[.int .u32 va, .nilIface]) ∧ Below w.heap.size w w' := by
  have HP : Hid (∀ (B : Nat) (w : World), Calls Tryd.prog 84 #[.pointer (some ⟨B, 0, none⟩), .int .i64 835] w fun e w' => e = .returned (.pointer (some ⟨B, 6, none⟩)) ∧ w = w') := Lib.hid (fun B w => plain_any B 835 w)
  have HM : Hid (∀ (B : Nat) (w : World), Calls Tryd.prog 85 #[.pointer (some ⟨B, 0, none⟩), .int .i64 835] w fun e w' => e = .returned (.tuple #[.pointer none, .int .u32 0]) ∧ w = w') := Lib.hid (fun B w => masked_any B 835 w)
  have HH : Hid (∀ (w : World), Calls Tryd.prog 86 #[.int .i64 835] w fun e w' => e = .returned (.tuple #[.int .i64 0, .bool false]) ∧ w = w') := Lib.hid (fun w => half_any 835 w)
  have HF : Hid (∀ (w : World), Calls Tryd.prog 87 #[.int .i64 835] w fun e w' => e = .returned (.bool false) ∧ w = w') := Lib.hid (fun w => fixed_any 835 w)
  clear g1 g2 g3 g4 g5 g6 g7 g8 hl
  go_enter Tryd.func77, Tryd.ntmps77
  go_wp2_with (first | (go_at_call 84; refine (HP.out _ _).mono ?_; rintro e w1 ⟨rfl, rfl⟩) | (go_at_call 85; refine (HM.out _ _).mono ?_; rintro e w1 ⟨rfl, rfl⟩) | (go_at_call 86; refine (HH.out _).mono ?_; rintro e w1 ⟨rfl, rfl⟩) | (go_at_call 87; refine (HF.out _).mono ?_; rintro e w1 ⟨rfl, rfl⟩))
  go_ret2
  exact ⟨rfl, (Below.refl _ _).alloc (Nat.le_refl _) _⟩
theorem read_768 (st en ve sc ep ca va co : Nat) (g1 : st < 4294967296) (g2 : en < 4294967296) (g3 : ve < 4294967296) (g4 : sc < 4294967296) (g5 : ep < 4294967296) (g6 : ca < 4294967296) (g7 : va < 4294967296) (g8 : co < 18446744073709551616) (ln : Nat) (hl : ln < 4294967296) (w : World) :
    Calls Tryd.prog 77 #[.agg #[.int .u32 st, .int .u32 en, .int .u32 ve, .int .u32 sc, .int .u32 ep, .int .u32 ca, .int .u32 va, .int .u64 co], .int .i64 768, .int .u32 ln] w fun e w' => e = .returned (.tuple #[.int .u32 (st ||| 6144 : Nat), .nilIface]) ∧ Below w.heap.size w w' := by
  have HP : Hid (∀ (B : Nat) (w : World), Calls Tryd.prog 84 #[.pointer (some ⟨B, 0, none⟩), .int .i64 768] w fun e w' => e = .returned (.pointer none) ∧ w = w') := Lib.hid (fun B w => plain_any B 768 w)
  have HM : Hid (∀ (B : Nat) (w : World), Calls Tryd.prog 85 #[.pointer (some ⟨B, 0, none⟩), .int .i64 768] w fun e w' => e = .returned (.tuple #[.pointer (some ⟨B, 0, none⟩), .int .u32 4294967159]) ∧ w = w') := Lib.hid (fun B w => masked_any B 768 w)
  have HH : Hid (∀ (w : World), Calls Tryd.prog 86 #[.int .i64 768] w fun e w' => e = .returned (.tuple #[.int .i64 0, .bool false]) ∧ w = w') := Lib.hid (fun w => half_any 768 w)
  have HF : Hid (∀ (w : World), Calls Tryd.prog 87 #[.int .i64 768] w fun e w' => e = .returned (.bool false) ∧ w = w') := Lib.hid (fun w => fixed_any 768 w)
  have e1 : Go.bits .or .u32 (st : Int) 6144 = ((st ||| 6144 : Nat) : Int) := Go.u32_or_nat st 6144 g1 (by omega)
  clear g1 g2 g3 g4 g5 g6 g7 g8 hl
  go_enter Tryd.func77, Tryd.ntmps77
  go_wp2_with (first | (go_at_call 84; refine (HP.out _ _).mono ?_; rintro e w1 ⟨rfl, rfl⟩) | (go_at_call 85; refine (HM.out _ _).mono ?_; rintro e w1 ⟨rfl, rfl⟩) | (go_at_call 86; refine (HH.out _).mono ?_; rintro e w1 ⟨rfl, rfl⟩) | (go_at_call 87; refine (HF.out _).mono ?_; rintro e w1 ⟨rfl, rfl⟩))
  go_ret2
  exact ⟨rfl, (Below.refl _ _).alloc (Nat.le_refl _) _⟩
theorem read_772 (st en ve sc ep ca va co : Nat) (g1 : st < 4294967296) (g2 : en < 4294967296) (g3 : ve < 4294967296) (g4 : sc < 4294967296) (g5 : ep < 4294967296) (g6 : ca < 4294967296) (g7 : va < 4294967296) (g8 : co < 18446744073709551616) (ln : Nat) (hl : ln < 4294967296) (w : World) :
    Calls Tryd.prog 77 #[.agg #[.int .u32 st, .int .u32 en, .int .u32 ve, .int .u32 sc, .int .u32 ep, .int .u32 ca, .int .u32 va, .int .u64 co], .int .i64 772, .int .u32 ln] w fun e w' => e = .returned (.tuple #[.int .u32 en, .nilIface]) ∧ Below w.heap.size w w' := by
  have HP : Hid (∀ (B : Nat) (w : World), Calls Tryd.prog 84 #[.pointer (some ⟨B, 0, none⟩), .int .i64 772] w fun e w' => e = .returned (.pointer none) ∧ w = w') := Lib.hid (fun B w => plain_any B 772 w)
  have HM : Hid (∀ (B : Nat) (w : World), Calls Tryd.prog 85 #[.pointer (some ⟨B, 0, none⟩), .int .i64 772] w fun e w' => e = .returned (.tuple #[.pointer (some ⟨B, 1, none⟩), .int .u32 4294965111]) ∧ w = w') := Lib.hid (fun B w => masked_any B 772 w)
  have HH : Hid (∀ (w : World), Calls Tryd.prog 86 #[.int .i64 772] w fun e w' => e = .returned (.tuple #[.int .i64 0, .bool false]) ∧ w = w') := Lib.hid (fun w => half_any 772 w)
  have HF : Hid (∀ (w : World), Calls Tryd.prog 87 #[.int .i64 772] w fun e w' => e = .returned (.bool false) ∧ w = w') := Lib.hid (fun w => fixed_any 772 w)
  clear g1 g2 g3 g4 g5 g6 g7 g8 hl
  go_enter Tryd.func77, Tryd.ntmps77
  go_wp2_with (first | (go_at_call 84; refine (HP.out _ _).mono ?_; rintro e w1 ⟨rfl, rfl⟩) | (go_at_call 85; refine (HM.out _ _).mono ?_; rintro e w1 ⟨rfl, rfl⟩) | (go_at_call 86; refine (HH.out _).mono ?_; rintro e w1 ⟨rfl, rfl⟩) | (go_at_call 87; refine (HF.out _).mono ?_; rintro e w1 ⟨rfl, rfl⟩))
  go_ret2
  exact ⟨rfl, (Below.refl _ _).alloc (Nat.le_refl _) _⟩
theorem read_773 (st en ve sc ep ca va co : Nat) (g1 : st < 4294967296) (g2 : en < 4294967296) (g3 : ve < 4294967296) (g4 : sc < 4294967296) (g5 : ep < 4294967296) (g6 : ca < 4294967296) (g7 : va < 4294967296) (g8 : co < 18446744073709551616) (ln : Nat) (hl : ln < 4294967296) (w : World) :
    Calls Tryd.prog 77 #[.agg #[.int .u32 st, .int .u32 en, .int .u32 ve, .int .u32 sc, .int .u32 ep, .int .u32 ca, .int .u32 va, .int .u64 co], .int .i64 773, .int .u32 ln] w fun e w' => e = .returned (.tuple #[.int .u32 ve, .nilIface]) ∧ Below w.heap.size w w' := by
  have HP : Hid (∀ (B : Nat) (w : World), Calls Tryd.prog 84 #[.pointer (some ⟨B, 0, none⟩), .int .i64 773] w fun e w' => e = .returned (.pointer none) ∧ w = w') := Lib.hid (fun B w => plain_any B 773 w)
  have HM : Hid (∀ (B : Nat) (w : World), Calls Tryd.prog 85 #[.pointer (some ⟨B, 0, none⟩), .int .i64 773] w fun e w' => e = .returned (.tuple #[.pointer (some ⟨B, 2, none⟩), .int .u32 2]) ∧ w = w') := Lib.hid (fun B w => masked_any B 773 w)
  have HH : Hid (∀ (w : World), Calls Tryd.prog 86 #[.int .i64 773] w fun e w' => e = .returned (.tuple #[.int .i64 0, .bool false]) ∧ w = w') := Lib.hid (fun w => half_any 773 w)
  have HF : Hid (∀ (w : World), Calls Tryd.prog 87 #[.int .i64 773] w fun e w' => e = .returned (.bool false) ∧ w = w') := Lib.hid (fun w => fixed_any 773 w)
  clear g1 g2 g3 g4 g5 g6 g7 g8 hl
  go_enter Tryd.func77, Tryd.ntmps77
  go_wp2_with (first | (go_at_call 84; refine (HP.out _ _).mono ?_; rintro e w1 ⟨rfl, rfl⟩) | (go_at_call 85; refine (HM.out _ _).mono ?_; rintro e w1 ⟨rfl, rfl⟩) | (go_at_call 86; refine (HH.out _).mono ?_; rintro e w1 ⟨rfl, rfl⟩) | (go_at_call 87; refine (HF.out _).mono ?_; rintro e w1 ⟨rfl, rfl⟩))
  go_ret2
  exact ⟨rfl, (Below.refl _ _).alloc (Nat.le_refl _) _⟩
theorem read_833 (st en ve sc ep ca va co : Nat) (g1 : st < 4294967296) (g2 : en < 4294967296) (g3 : ve < 4294967296) (g4 : sc < 4294967296) (g5 : ep < 4294967296) (g6 : ca < 4294967296) (g7 : va < 4294967296) (g8 : co < 18446744073709551616) (ln : Nat) (hl : ln < 4294967296) (w : World) :
    Calls Tryd.prog 77 #[.agg #[.int .u32 st, .int .u32 en, .int .u32 ve, .int .u32 sc, .int .u32 ep, .int .u32 ca, .int .u32 va, .int .u64 co], .int .i64 833, .int .u32 ln] w fun e w' => e = .returned (.tuple #[.int .u32 ep, .nilIface]) ∧ Below w.heap.size w w' := by
  have HP : Hid (∀ (B : Nat) (w : World), Calls Tryd.prog 84 #[.pointer (some ⟨B, 0, none⟩), .int .i64 833] w fun e w' => e = .returned (.pointer none) ∧ w = w') := Lib.hid (fun B w => plain_any B 833 w)
  have HM : Hid (∀ (B : Nat) (w : World), Calls Tryd.prog 85 #[.pointer (some ⟨B, 0, none⟩), .int .i64 833] w fun e w' => e = .returned (.tuple #[.pointer (some ⟨B, 4, none⟩), .int .u32 3]) ∧ w = w') := Lib.hid (fun B w => masked_any B 833 w)
  have HH : Hid (∀ (w : World), Calls Tryd.prog 86 #[.int .i64 833] w fun e w' => e = .returned (.tuple #[.int .i64 0, .bool false]) ∧ w = w') := Lib.hid (fun w => half_any 833 w)
  have HF : Hid (∀ (w : World), Calls Tryd.prog 87 #[.int .i64 833] w fun e w' => e = .returned (.bool false) ∧ w = w') := Lib.hid (fun w => fixed_any 833 w)
  clear g1 g2 g3 g4 g5 g6 g7 g8 hl
  go_enter Tryd.func77, Tryd.ntmps77
  go_wp2_with (first | (go_at_call 84; refine (HP.out _ _).mono ?_; rintro e w1 ⟨rfl, rfl⟩) | (go_at_call 85; refine (HM.out _ _).mono ?_; rintro e w1 ⟨rfl, rfl⟩) | (go_at_call 86; refine (HH.out _).mono ?_; rintro e w1 ⟨rfl, rfl⟩) | (go_at_call 87; refine (HF.out _).mono ?_; rintro e w1 ⟨rfl, rfl⟩))
  go_ret2
  exact ⟨rfl, (Below.refl _ _).alloc (Nat.le_refl _) _⟩
theorem read_2816 (st en ve sc ep ca va co : Nat) (g1 : st < 4294967296) (g2 : en < 4294967296) (g3 : ve < 4294967296) (g4 : sc < 4294967296) (g5 : ep < 4294967296) (g6 : ca < 4294967296) (g7 : va < 4294967296) (g8 : co < 18446744073709551616) (ln : Nat) (hl : ln < 4294967296) (w : World) :
    Calls Tryd.prog 77 #[.agg #[.int .u32 st, .int .u32 en, .int .u32 ve, .int .u32 sc, .int .u32 ep, .int .u32 ca, .int .u32 va, .int .u64 co], .int .i64 2816, .int .u32 ln] w fun e w' => e = .returned (.tuple #[.int .u32 (co % 4294967296 : Nat), .nilIface]) ∧ Below w.heap.size w w' := by
  have HP : Hid (∀ (B : Nat) (w : World), Calls Tryd.prog 84 #[.pointer (some ⟨B, 0, none⟩), .int .i64 2816] w fun e w' => e = .returned (.pointer none) ∧ w = w') := Lib.hid (fun B w => plain_any B 2816 w)
  have HM : Hid (∀ (B : Nat) (w : World), Calls Tryd.prog 85 #[.pointer (some ⟨B, 0, none⟩), .int .i64 2816] w fun e w' => e = .returned (.tuple #[.pointer none, .int .u32 0]) ∧ w = w') := Lib.hid (fun B w => masked_any B 2816 w)
  have HH : Hid (∀ (w : World), Calls Tryd.prog 86 #[.int .i64 2816] w fun e w' => e = .returned (.tuple #[.int .i64 0, .bool true]) ∧ w = w') := Lib.hid (fun w => half_any 2816 w)
  have HF : Hid (∀ (w : World), Calls Tryd.prog 87 #[.int .i64 2816] w fun e w' => e = .returned (.bool false) ∧ w = w') := Lib.hid (fun w => fixed_any 2816 w)
  have hco : co / 4294967296 < 4294967296 := by omega
  clear g1 g2 g3 g4 g5 g6 g7 g8 hl
  go_enter Tryd.func77, Tryd.ntmps77
  go_wp2_with (first | (go_at_call 84; refine (HP.out _ _).mono ?_; rintro e w1 ⟨rfl, rfl⟩) | (go_at_call 85; refine (HM.out _ _).mono ?_; rintro e w1 ⟨rfl, rfl⟩) | (go_at_call 86; refine (HH.out _).mono ?_; rintro e w1 ⟨rfl, rfl⟩) | (go_at_call 87; refine (HF.out _).mono ?_; rintro e w1 ⟨rfl, rfl⟩))
  go_ret2
  exact ⟨congrArg Ending.returned (congrArg Value.tuple (congrArg (fun x => #[Value.int .u32 x, .nilIface]) (by simp; try omega))), (Below.refl _ _).alloc (Nat.le_refl _) _⟩
theorem read_2818 (st en ve sc ep ca va co : Nat) (g1 : st < 4294967296) (g2 : en < 4294967296) (g3 : ve < 4294967296) (g4 : sc < 4294967296) (g5 : ep < 4294967296) (g6 : ca < 4294967296) (g7 : va < 4294967296) (g8 : co < 18446744073709551616) (ln : Nat) (hl : ln < 4294967296) (w : World) :
    Calls Tryd.prog 77 #[.agg #[.int .u32 st, .int .u32 en, .int .u32 ve, .int .u32 sc, .int .u32 ep, .int .u32 ca, .int .u32 va, .int .u64 co], .int .i64 2818, .int .u32 ln] w fun e w' => e = .returned (.tuple #[.int .u32 (co % 4294967296 : Nat), .nilIface]) ∧ Below w.heap.size w w' := by
  have HP : Hid (∀ (B : Nat) (w : World), Calls Tryd.prog 84 #[.pointer (some ⟨B, 0, none⟩), .int .i64 2818] w fun e w' => e = .returned (.pointer none) ∧ w = w') := Lib.hid (fun B w => plain_any B 2818 w)
  have HM : Hid (∀ (B : Nat) (w : World), Calls Tryd.prog 85 #[.pointer (some ⟨B, 0, none⟩), .int .i64 2818] w fun e w' => e = .returned (.tuple #[.pointer none, .int .u32 0]) ∧ w = w') := Lib.hid (fun B w => masked_any B 2818 w)
  have HH : Hid (∀ (w : World), Calls Tryd.prog 86 #[.int .i64 2818] w fun e w' => e = .returned (.tuple #[.int .i64 0, .bool true]) ∧ w = w') := Lib.hid (fun w => half_any 2818 w)
  have HF : Hid (∀ (w : World), Calls Tryd.prog 87 #[.int .i64 2818] w fun e w' => e = .returned (.bool false) ∧ w = w') := Lib.hid (fun w => fixed_any 2818 w)
  have hco : co / 4294967296 < 4294967296 := by omega
  clear g1 g2 g3 g4 g5 g6 g7 g8 hl
  go_enter Tryd.func77, Tryd.ntmps77
  go_wp2_with (first | (go_at_call 84; refine (HP.out _ _).mono ?_; rintro e w1 ⟨rfl, rfl⟩) | (go_at_call 85; refine (HM.out _ _).mono ?_; rintro e w1 ⟨rfl, rfl⟩) | (go_at_call 86; refine (HH.out _).mono ?_; rintro e w1 ⟨rfl, rfl⟩) | (go_at_call 87; refine (HF.out _).mono ?_; rintro e w1 ⟨rfl, rfl⟩))
  go_ret2
  exact ⟨congrArg Ending.returned (congrArg Value.tuple (congrArg (fun x => #[Value.int .u32 x, .nilIface]) (by simp; try omega))), (Below.refl _ _).alloc (Nat.le_refl _) _⟩
theorem read_2944 (st en ve sc ep ca va co : Nat) (g1 : st < 4294967296) (g2 : en < 4294967296) (g3 : ve < 4294967296) (g4 : sc < 4294967296) (g5 : ep < 4294967296) (g6 : ca < 4294967296) (g7 : va < 4294967296) (g8 : co < 18446744073709551616) (ln : Nat) (hl : ln < 4294967296) (w : World) :
    Calls Tryd.prog 77 #[.agg #[.int .u32 st, .int .u32 en, .int .u32 ve, .int .u32 sc, .int .u32 ep, .int .u32 ca, .int .u32 va, .int .u64 co], .int .i64 2944, .int .u32 ln] w fun e w' => e = .returned (.tuple #[.int .u32 (co / 4294967296 : Nat), .nilIface]) ∧ Below w.heap.size w w' := by
  have HP : Hid (∀ (B : Nat) (w : World), Calls Tryd.prog 84 #[.pointer (some ⟨B, 0, none⟩), .int .i64 2944] w fun e w' => e = .returned (.pointer none) ∧ w = w') := Lib.hid (fun B w => plain_any B 2944 w)
  have HM : Hid (∀ (B : Nat) (w : World), Calls Tryd.prog 85 #[.pointer (some ⟨B, 0, none⟩), .int .i64 2944] w fun e w' => e = .returned (.tuple #[.pointer none, .int .u32 0]) ∧ w = w') := Lib.hid (fun B w => masked_any B 2944 w)
  have HH : Hid (∀ (w : World), Calls Tryd.prog 86 #[.int .i64 2944] w fun e w' => e = .returned (.tuple #[.int .i64 32, .bool true]) ∧ w = w') := Lib.hid (fun w => half_any 2944 w)
  have HF : Hid (∀ (w : World), Calls Tryd.prog 87 #[.int .i64 2944] w fun e w' => e = .returned (.bool false) ∧ w = w') := Lib.hid (fun w => fixed_any 2944 w)
  have hco : co / 4294967296 < 4294967296 := by omega
  clear g1 g2 g3 g4 g5 g6 g7 g8 hl
  go_enter Tryd.func77, Tryd.ntmps77
  go_wp2_with (first | (go_at_call 84; refine (HP.out _ _).mono ?_; rintro e w1 ⟨rfl, rfl⟩) | (go_at_call 85; refine (HM.out _ _).mono ?_; rintro e w1 ⟨rfl, rfl⟩) | (go_at_call 86; refine (HH.out _).mono ?_; rintro e w1 ⟨rfl, rfl⟩) | (go_at_call 87; refine (HF.out _).mono ?_; rintro e w1 ⟨rfl, rfl⟩))
  go_ret2
  exact ⟨congrArg Ending.returned (congrArg Value.tuple (congrArg (fun x => #[Value.int .u32 x, .nilIface]) (by simp; try omega))), (Below.refl _ _).alloc (Nat.le_refl _) _⟩
theorem read_2946 (st en ve sc ep ca va co : Nat) (g1 : st < 4294967296) (g2 : en < 4294967296) (g3 : ve < 4294967296) (g4 : sc < 4294967296) (g5 : ep < 4294967296) (g6 : ca < 4294967296) (g7 : va < 4294967296) (g8 : co < 18446744073709551616) (ln : Nat) (hl : ln < 4294967296) (w : World) :
    Calls Tryd.prog 77 #[.agg #[.int .u32 st, .int .u32 en, .int .u32 ve, .int .u32 sc, .int .u32 ep, .int .u32 ca, .int .u32 va, .int .u64 co], .int .i64 2946, .int .u32 ln] w fun e w' => e = .returned (.tuple #[.int .u32 (co / 4294967296 : Nat), .nilIface]) ∧ Below w.heap.size w w' := by
  have HP : Hid (∀ (B : Nat) (w : World), Calls Tryd.prog 84 #[.pointer (some ⟨B, 0, none⟩), .int .i64 2946] w fun e w' => e = .returned (.pointer none) ∧ w = w') := Lib.hid (fun B w => plain_any B 2946 w)
  have HM : Hid (∀ (B : Nat) (w : World), Calls Tryd.prog 85 #[.pointer (some ⟨B, 0, none⟩), .int .i64 2946] w fun e w' => e = .returned (.tuple #[.pointer none, .int .u32 0]) ∧ w = w') := Lib.hid (fun B w => masked_any B 2946 w)
  have HH : Hid (∀ (w : World), Calls Tryd.prog 86 #[.int .i64 2946] w fun e w' => e = .returned (.tuple #[.int .i64 32, .bool true]) ∧ w = w') := Lib.hid (fun w => half_any 2946 w)
  have HF : Hid (∀ (w : World), Calls Tryd.prog 87 #[.int .i64 2946] w fun e w' => e = .returned (.bool false) ∧ w = w') := Lib.hid (fun w => fixed_any 2946 w)
  have hco : co / 4294967296 < 4294967296 := by omega
  clear g1 g2 g3 g4 g5 g6 g7 g8 hl
  go_enter Tryd.func77, Tryd.ntmps77
  go_wp2_with (first | (go_at_call 84; refine (HP.out _ _).mono ?_; rintro e w1 ⟨rfl, rfl⟩) | (go_at_call 85; refine (HM.out _ _).mono ?_; rintro e w1 ⟨rfl, rfl⟩) | (go_at_call 86; refine (HH.out _).mono ?_; rintro e w1 ⟨rfl, rfl⟩) | (go_at_call 87; refine (HF.out _).mono ?_; rintro e w1 ⟨rfl, rfl⟩))
  go_ret2
  exact ⟨congrArg Ending.returned (congrArg Value.tuple (congrArg (fun x => #[Value.int .u32 x, .nilIface]) (by simp; try omega))), (Below.refl _ _).alloc (Nat.le_refl _) _⟩
theorem read_769 (st en ve sc ep ca va co : Nat) (g1 : st < 4294967296) (g2 : en < 4294967296) (g3 : ve < 4294967296) (g4 : sc < 4294967296) (g5 : ep < 4294967296) (g6 : ca < 4294967296) (g7 : va < 4294967296) (g8 : co < 18446744073709551616) (ln : Nat) (hl : ln < 4294967296) (w : World) :
    Calls Tryd.prog 77 #[.agg #[.int .u32 st, .int .u32 en, .int .u32 ve, .int .u32 sc, .int .u32 ep, .int .u32 ca, .int .u32 va, .int .u64 co], .int .i64 769, .int .u32 ln] w fun e w' => e = .returned (.tuple #[.int .u32 1073746176, .nilIface]) ∧ Below w.heap.size w w' := by
  have HP : Hid (∀ (B : Nat) (w : World), Calls Tryd.prog 84 #[.pointer (some ⟨B, 0, none⟩), .int .i64 769] w fun e w' => e = .returned (.pointer none) ∧ w = w') := Lib.hid (fun B w => plain_any B 769 w)
  have HM : Hid (∀ (B : Nat) (w : World), Calls Tryd.prog 85 #[.pointer (some ⟨B, 0, none⟩), .int .i64 769] w fun e w' => e = .returned (.tuple #[.pointer none, .int .u32 0]) ∧ w = w') := Lib.hid (fun B w => masked_any B 769 w)
  have HH : Hid (∀ (w : World), Calls Tryd.prog 86 #[.int .i64 769] w fun e w' => e = .returned (.tuple #[.int .i64 0, .bool false]) ∧ w = w') := Lib.hid (fun w => half_any 769 w)
  have HF : Hid (∀ (w : World), Calls Tryd.prog 87 #[.int .i64 769] w fun e w' => e = .returned (.bool false) ∧ w = w') := Lib.hid (fun w => fixed_any 769 w)
  clear g1 g2 g3 g4 g5 g6 g7 g8 hl
  go_enter Tryd.func77, Tryd.ntmps77
  go_wp2_with (first | (go_at_call 84; refine (HP.out _ _).mono ?_; rintro e w1 ⟨rfl, rfl⟩) | (go_at_call 85; refine (HM.out _ _).mono ?_; rintro e w1 ⟨rfl, rfl⟩) | (go_at_call 86; refine (HH.out _).mono ?_; rintro e w1 ⟨rfl, rfl⟩) | (go_at_call 87; refine (HF.out _).mono ?_; rintro e w1 ⟨rfl, rfl⟩))
  go_ret2
  exact ⟨rfl, (Below.refl _ _).alloc (Nat.le_refl _) _⟩
theorem read_836 (st en ve sc ep ca va co : Nat) (g1 : st < 4294967296) (g2 : en < 4294967296) (g3 : ve < 4294967296) (g4 : sc < 4294967296) (g5 : ep < 4294967296) (g6 : ca < 4294967296) (g7 : va < 4294967296) (g8 : co < 18446744073709551616) (ln : Nat) (hl : ln < 4294967296) (w : World) :
    Calls Tryd.prog 77 #[.agg #[.int .u32 st, .int .u32 en, .int .u32 ve, .int .u32 sc, .int .u32 ep, .int .u32 ca, .int .u32 va, .int .u64 co], .int .i64 836, .int .u32 ln] w fun e w' => e = .returned (.tuple #[.int .u32 (ln &&& 2184 : Nat), .nilIface]) ∧ Below w.heap.size w w' := by
  have HP : Hid (∀ (B : Nat) (w : World), Calls Tryd.prog 84 #[.pointer (some ⟨B, 0, none⟩), .int .i64 836] w fun e w' => e = .returned (.pointer none) ∧ w = w') := Lib.hid (fun B w => plain_any B 836 w)
  have HM : Hid (∀ (B : Nat) (w : World), Calls Tryd.prog 85 #[.pointer (some ⟨B, 0, none⟩), .int .i64 836] w fun e w' => e = .returned (.tuple #[.pointer none, .int .u32 0]) ∧ w = w') := Lib.hid (fun B w => masked_any B 836 w)
  have HH : Hid (∀ (w : World), Calls Tryd.prog 86 #[.int .i64 836] w fun e w' => e = .returned (.tuple #[.int .i64 0, .bool false]) ∧ w = w') := Lib.hid (fun w => half_any 836 w)
  have HF : Hid (∀ (w : World), Calls Tryd.prog 87 #[.int .i64 836] w fun e w' => e = .returned (.bool false) ∧ w = w') := Lib.hid (fun w => fixed_any 836 w)
  have e1 : Go.bits .and .u32 (ln : Int) 2184 = ((ln &&& 2184 : Nat) : Int) := Go.u32_and_nat ln 2184 hl (by omega)
  clear g1 g2 g3 g4 g5 g6 g7 g8 hl
  go_enter Tryd.func77, Tryd.ntmps77
  go_wp2_with (first | (go_at_call 84; refine (HP.out _ _).mono ?_; rintro e w1 ⟨rfl, rfl⟩) | (go_at_call 85; refine (HM.out _ _).mono ?_; rintro e w1 ⟨rfl, rfl⟩) | (go_at_call 86; refine (HH.out _).mono ?_; rintro e w1 ⟨rfl, rfl⟩) | (go_at_call 87; refine (HF.out _).mono ?_; rintro e w1 ⟨rfl, rfl⟩))
  go_ret2
  exact ⟨rfl, (Below.refl _ _).alloc (Nat.le_refl _) _⟩
theorem read_fix (st en ve sc ep ca va co : Nat) (a : Int) (ln : Nat) (hf : 3857 ≤ a ∧ a ≤ 3860) (w : World) :
    Calls Tryd.prog 77 #[.agg #[.int .u32 st, .int .u32 en, .int .u32 ve, .int .u32 sc, .int .u32 ep, .int .u32 ca, .int .u32 va, .int .u64 co], .int .i64 a, .int .u32 ln] w fun e w' => e = .returned (.tuple #[.int .u32 0, .nilIface]) ∧ Below w.heap.size w w' := by
  have hp : plainI a = none := by unfold plainI; rw [if_neg (by omega), if_neg (by omega), if_neg (by omega)]
  have hm : maskI a = none := by unfold maskI; rw [if_neg (by omega), if_neg (by omega), if_neg (by omega), if_neg (by omega)]
  have hh : halfI a = none := by unfold halfI; rw [if_neg (by omega), if_neg (by omega)]
  have n1 : (a == 769) = false := by rw [Bool.eq_false_iff]; simp; omega
  have n2 : (a == 836) = false := by rw [Bool.eq_false_iff]; simp; omega
  have HP : Hid (∀ (B : Nat) (w : World), Calls Tryd.prog 84 #[.pointer (some ⟨B, 0, none⟩), .int .i64 a] w fun e w' => e = .returned (.pointer none) ∧ w = w') := Lib.hid (fun B w => by have h := plain_any B a w; rw [hp] at h; exact h)
  have HM : Hid (∀ (B : Nat) (w : World), Calls Tryd.prog 85 #[.pointer (some ⟨B, 0, none⟩), .int .i64 a] w fun e w' => e = .returned (.tuple #[.pointer none, .int .u32 0]) ∧ w = w') := Lib.hid (fun B w => by have h := masked_any B a w; rw [hm] at h; exact h)
  have HH : Hid (∀ (w : World), Calls Tryd.prog 86 #[.int .i64 a] w fun e w' => e = .returned (.tuple #[.int .i64 0, .bool false]) ∧ w = w') := Lib.hid (fun w => by have h := half_any a w; rw [hh] at h; exact h)
  have HF : Hid (∀ (w : World), Calls Tryd.prog 87 #[.int .i64 a] w fun e w' => e = .returned (.bool true) ∧ w = w') := Lib.hid (fun w => by have h := fixed_any a w; rw [show fixI a = true from by simp only [fixI, decide_eq_true_iff]; exact hf] at h; exact h)
  clear hp hm hh hf
  go_enter Tryd.func77, Tryd.ntmps77
  go_wp2_with (first | (go_at_call 84; refine (HP.out _ _).mono ?_; rintro e w1 ⟨rfl, rfl⟩) | (go_at_call 85; refine (HM.out _ _).mono ?_; rintro e w1 ⟨rfl, rfl⟩) | (go_at_call 86; refine (HH.out _).mono ?_; rintro e w1 ⟨rfl, rfl⟩) | (go_at_call 87; refine (HF.out _).mono ?_; rintro e w1 ⟨rfl, rfl⟩))
  go_ret2
  exact ⟨rfl, (Below.refl _ _).alloc (Nat.le_refl _) _⟩
theorem read_none (st en ve sc ep ca va co : Nat) (a : Int) (ln : Nat) (hf : ¬ (3857 ≤ a ∧ a ≤ 3860)) (hp : plainI a = none) (hm : maskI a = none) (hh : halfI a = none) (n1 : (a == 769) = false) (n2 : (a == 836) = false) (w : World) :
    Calls Tryd.prog 77 #[.agg #[.int .u32 st, .int .u32 en, .int .u32 ve, .int .u32 sc, .int .u32 ep, .int .u32 ca, .int .u32 va, .int .u64 co], .int .i64 a, .int .u32 ln] w fun e w' => e = .returned (.tuple #[.int .u32 0, .iface 64 (.int .i64 8)]) ∧ Below w.heap.size w w' := by
  have HP : Hid (∀ (B : Nat) (w : World), Calls Tryd.prog 84 #[.pointer (some ⟨B, 0, none⟩), .int .i64 a] w fun e w' => e = .returned (.pointer none) ∧ w = w') := Lib.hid (fun B w => by have h := plain_any B a w; rw [hp] at h; exact h)
  have HM : Hid (∀ (B : Nat) (w : World), Calls Tryd.prog 85 #[.pointer (some ⟨B, 0, none⟩), .int .i64 a] w fun e w' => e = .returned (.tuple #[.pointer none, .int .u32 0]) ∧ w = w') := Lib.hid (fun B w => by have h := masked_any B a w; rw [hm] at h; exact h)
  have HH : Hid (∀ (w : World), Calls Tryd.prog 86 #[.int .i64 a] w fun e w' => e = .returned (.tuple #[.int .i64 0, .bool false]) ∧ w = w') := Lib.hid (fun w => by have h := half_any a w; rw [hh] at h; exact h)
  have HF : Hid (∀ (w : World), Calls Tryd.prog 87 #[.int .i64 a] w fun e w' => e = .returned (.bool false) ∧ w = w') := Lib.hid (fun w => by have h := fixed_any a w; rw [show fixI a = false from by simp only [fixI, decide_eq_false_iff_not]; exact hf] at h; exact h)
  clear hp hm hh hf
  go_enter Tryd.func77, Tryd.ntmps77
  go_wp2_with (first | (go_at_call 84; refine (HP.out _ _).mono ?_; rintro e w1 ⟨rfl, rfl⟩) | (go_at_call 85; refine (HM.out _ _).mono ?_; rintro e w1 ⟨rfl, rfl⟩) | (go_at_call 86; refine (HH.out _).mono ?_; rintro e w1 ⟨rfl, rfl⟩) | (go_at_call 87; refine (HF.out _).mono ?_; rintro e w1 ⟨rfl, rfl⟩))
  go_ret2
  exact ⟨rfl, (Below.refl _ _).alloc (Nat.le_refl _) _⟩
theorem lo32 (co : Nat) : co &&& (18446744073709551615 - 18446744069414584320) = co % 4294967296 := by
  rw [show 18446744073709551615 - 18446744069414584320 = 2 ^ 32 - 1 from by decide, Nat.and_two_pow_sub_one_eq_mod]
theorem hi32 {co : Nat} (h : co < 18446744073709551616) : co &&& (18446744073709551615 - 4294967295) = co / 4294967296 * 4294967296 := by
  apply Nat.eq_of_testBit_eq
  intro j
  rw [show 18446744073709551615 - 4294967295 = 2 ^ 64 - ((2 ^ 32 - 1) + 1) from by decide, Nat.testBit_and, show (4294967296 : Nat) = 2 ^ 32 from rfl, Nat.testBit_mul_two_pow]
  by_cases h64 : j < 64
  · rw [Nat.testBit_two_pow_sub_succ (by decide), Nat.testBit_two_pow_sub_one, Nat.testBit_div_two_pow]
    by_cases h32 : 32 ≤ j
    · rw [show j - 32 + 32 = j by omega]; simp [h32, h64]; try omega
    · simp [h32]; try omega
  · have e : co.testBit j = false := Nat.testBit_lt_two_pow (Nat.lt_of_lt_of_le h (by rw [show (18446744073709551616 : Nat) = 2 ^ 64 from rfl]; exact Nat.pow_le_pow_right (by omega) (by omega)))
    rw [e, Nat.testBit_div_two_pow]
    by_cases h32 : 32 ≤ j
    · rw [show j - 32 + 32 = j by omega, e]; simp
    · omega

set_option maxHeartbeats 1000000 in
theorem write_832 (st en ve sc ep ca va co : Nat) (g1 : st < 4294967296) (g2 : en < 4294967296) (g3 : ve < 4294967296) (g4 : sc < 4294967296) (g5 : ep < 4294967296) (g6 : ca < 4294967296) (g7 : va < 4294967296) (g8 : co < 18446744073709551616) (v : Nat) (hv : v < 4294967296) (w : World) :
    Calls Tryd.prog 78 #[.agg #[.int .u32 st, .int .u32 en, .int .u32 ve, .int .u32 sc, .int .u32 ep, .int .u32 ca, .int .u32 va, .int .u64 co], .int .i64 832, .int .u32 v] w fun e w' => e = .returned (.tuple #[.agg #[.int .u32 st, .int .u32 en, .int .u32 ve, .int .u32 v, .int .u32 ep, .int .u32 ca, .int .u32 va, .int .u64 co], .nilIface]) ∧ Below w.heap.size w w' := by
  have HP : Hid (∀ (B : Nat) (w : World), Calls Tryd.prog 84 #[.pointer (some ⟨B, 0, none⟩), .int .i64 832] w fun e w' => e = .returned (.pointer (some ⟨B, 3, none⟩)) ∧ w = w') := Lib.hid (fun B w => plain_any B 832 w)
  have HM : Hid (∀ (B : Nat) (w : World), Calls Tryd.prog 85 #[.pointer (some ⟨B, 0, none⟩), .int .i64 832] w fun e w' => e = .returned (.tuple #[.pointer none, .int .u32 0]) ∧ w = w') := Lib.hid (fun B w => masked_any B 832 w)
  have HH : Hid (∀ (w : World), Calls Tryd.prog 86 #[.int .i64 832] w fun e w' => e = .returned (.tuple #[.int .i64 0, .bool false]) ∧ w = w') := Lib.hid (fun w => half_any 832 w)
  have HF : Hid (∀ (w : World), Calls Tryd.prog 87 #[.int .i64 832] w fun e w' => e = .returned (.bool false) ∧ w = w') := Lib.hid (fun w => fixed_any 832 w)
  have HR : Hid (∀ w : World, Calls Tryd.prog 77 #[.agg #[.int .u32 st, .int .u32 en, .int .u32 ve, .int .u32 sc, .int .u32 ep, .int .u32 ca, .int .u32 va, .int .u64 co], .int .i64 832, .int .u32 0] w fun e w' => e = .returned (.tuple #[.int .u32 sc, .nilIface]) ∧ Below w.heap.size w w') := Lib.hid (fun w => read_832 st en ve sc ep ca va co g1 g2 g3 g4 g5 g6 g7 g8 0 (by omega) w)
  have HB : Hid (TwoS w 42 42 ⟨st, en, ve, sc, ep, ca, va, co⟩ St.zero ((w.alloc (.cells (St.cells ⟨st, en, ve, sc, ep, ca, va, co⟩) 42)).alloc (.cells St.zero.cells 42))) := Lib.hid (TwoS.start w _ _ _ _)
  clear g1 g2 g3 g4 g5 g6 g7 g8 hv
  go_enter Tryd.func78, Tryd.ntmps78
  go_wp2_with (first | (go_at_call 77; refine (HR.out _).mono ?_; rintro e w2 ⟨rfl, hb⟩; have B1 := Lib.hid (HB.out.below hb); have F1 := Lib.hid B1.out.all; obtain ⟨f0, f1, f2, f3, f4, f5, f6, f7, f8, f9⟩ := F1.out; have R1 := Lib.hid B1.out.all2; obtain ⟨l0, l1, l2, l3, l4, l5, l6, l7, l8, l9⟩ := R1.out; clear hb) | (go_at_call 84; refine (HP.out _ _).mono ?_; rintro e w1 ⟨rfl, rfl⟩) | (go_at_call 85; refine (HM.out _ _).mono ?_; rintro e w1 ⟨rfl, rfl⟩) | (go_at_call 86; refine (HH.out _).mono ?_; rintro e w1 ⟨rfl, rfl⟩) | (go_at_call 87; refine (HF.out _).mono ?_; rintro e w1 ⟨rfl, rfl⟩))
  refine bodyPost_ret (v := ?_) ?_ rfl ⟨?_, ?_⟩
  rotate_left
  · simp [results, Tryd.results78, go_sem, f0, f1, f2, f3, f4, f5, f6, f7, l0, l1, l2, l3, l4, l5, l6, l7]
    exact rfl
  · rfl
  · have b := B1.out.2.2
    repeat' (first | (with_reducible exact b) | (with_reducible refine below_drew1 ?_) | (with_reducible refine Below.setCell ?_ ?_ _) | (simp; done))
set_option maxHeartbeats 1000000 in
theorem write_834 (st en ve sc ep ca va co : Nat) (g1 : st < 4294967296) (g2 : en < 4294967296) (g3 : ve < 4294967296) (g4 : sc < 4294967296) (g5 : ep < 4294967296) (g6 : ca < 4294967296) (g7 : va < 4294967296) (g8 : co < 18446744073709551616) (v : Nat) (hv : v < 4294967296) (w : World) :
    Calls Tryd.prog 78 #[.agg #[.int .u32 st, .int .u32 en, .int .u32 ve, .int .u32 sc, .int .u32 ep, .int .u32 ca, .int .u32 va, .int .u64 co], .int .i64 834, .int .u32 v] w fun e w' => e = .returned (.tuple #[.agg #[.int .u32 st, .int .u32 en, .int .u32 ve, .int .u32 sc, .int .u32 ep, .int .u32 v, .int .u32 va, .int .u64 co], .nilIface]) ∧ Below w.heap.size w w' := by
  have HP : Hid (∀ (B : Nat) (w : World), Calls Tryd.prog 84 #[.pointer (some ⟨B, 0, none⟩), .int .i64 834] w fun e w' => e = .returned (.pointer (some ⟨B, 5, none⟩)) ∧ w = w') := Lib.hid (fun B w => plain_any B 834 w)
  have HM : Hid (∀ (B : Nat) (w : World), Calls Tryd.prog 85 #[.pointer (some ⟨B, 0, none⟩), .int .i64 834] w fun e w' => e = .returned (.tuple #[.pointer none, .int .u32 0]) ∧ w = w') := Lib.hid (fun B w => masked_any B 834 w)
  have HH : Hid (∀ (w : World), Calls Tryd.prog 86 #[.int .i64 834] w fun e w' => e = .returned (.tuple #[.int .i64 0, .bool false]) ∧ w = w') := Lib.hid (fun w => half_any 834 w)
  have HF : Hid (∀ (w : World), Calls Tryd.prog 87 #[.int .i64 834] w fun e w' => e = .returned (.bool false) ∧ w = w') := Lib.hid (fun w => fixed_any 834 w)
  have HR : Hid (∀ w : World, Calls Tryd.prog 77 #[.agg #[.int .u32 st, .int .u32 en, .int .u32 ve, .int .u32 sc, .int .u32 ep, .int .u32 ca, .int .u32 va, .int .u64 co], .int .i64 834, .int .u32 0] w fun e w' => e = .returned (.tuple #[.int .u32 ca, .nilIface]) ∧ Below w.heap.size w w') := Lib.hid (fun w => read_834 st en ve sc ep ca va co g1 g2 g3 g4 g5 g6 g7 g8 0 (by omega) w)
  have HB : Hid (TwoS w 42 42 ⟨st, en, ve, sc, ep, ca, va, co⟩ St.zero ((w.alloc (.cells (St.cells ⟨st, en, ve, sc, ep, ca, va, co⟩) 42)).alloc (.cells St.zero.cells 42))) := Lib.hid (TwoS.start w _ _ _ _)
  clear g1 g2 g3 g4 g5 g6 g7 g8 hv
  go_enter Tryd.func78, Tryd.ntmps78
  go_wp2_with (first | (go_at_call 77; refine (HR.out _).mono ?_; rintro e w2 ⟨rfl, hb⟩; have B1 := Lib.hid (HB.out.below hb); have F1 := Lib.hid B1.out.all; obtain ⟨f0, f1, f2, f3, f4, f5, f6, f7, f8, f9⟩ := F1.out; have R1 := Lib.hid B1.out.all2; obtain ⟨l0, l1, l2, l3, l4, l5, l6, l7, l8, l9⟩ := R1.out; clear hb) | (go_at_call 84; refine (HP.out _ _).mono ?_; rintro e w1 ⟨rfl, rfl⟩) | (go_at_call 85; refine (HM.out _ _).mono ?_; rintro e w1 ⟨rfl, rfl⟩) | (go_at_call 86; refine (HH.out _).mono ?_; rintro e w1 ⟨rfl, rfl⟩) | (go_at_call 87; refine (HF.out _).mono ?_; rintro e w1 ⟨rfl, rfl⟩))
  refine bodyPost_ret (v := ?_) ?_ rfl ⟨?_, ?_⟩
  rotate_left
  · simp [results, Tryd.results78, go_sem, f0, f1, f2, f3, f4, f5, f6, f7, l0, l1, l2, l3, l4, l5, l6, l7]
    exact rfl
  · rfl
  · have b := B1.out.2.2
    repeat' (first | (with_reducible exact b) | (with_reducible refine below_drew1 ?_) | (with_reducible refine Below.setCell ?_ ?_ _) | (simp; done))
set_option maxHeartbeats 1000000 in
theorem write_835 (st en ve sc ep ca va co : Nat) (g1 : st < 4294967296) (g2 : en < 4294967296) (g3 : ve < 4294967296) (g4 : sc < 4294967296) (g5 : ep < 4294967296) (g6 : ca < 4294967296) (g7 : va < 4294967296) (g8 : co < 18446744073709551616) (v : Nat) (hv : v < 4294967296) (w : World) :
    Calls Tryd.prog 78 #[.agg #[.int .u32 st, .int .u32 en, .int .u32 ve, .int .u32 sc, .int .u32 ep, .int .u32 ca, .int .u32 va, .int .u64 co], .int .i64 835, .int .u32 v] w fun e w' => e = .returned (.tuple #[.agg #[.int .u32 st, .int .u32 en, .int .u32 ve, .int .u32 sc, .int .u32 ep, .int .u32 ca, .int .u32 v, .int .u64 co], .nilIface]) ∧ Below w.heap.size w w' := by
  have HP : Hid (∀ (B : Nat) (w : World), Calls Tryd.prog 84 #[.pointer (some ⟨B, 0, none⟩), .int .i64 835] w fun e w' => e = .returned (.pointer (some ⟨B, 6, none⟩)) ∧ w = w') := Lib.hid (fun B w => plain_any B 835 w)
  have HM : Hid (∀ (B : Nat) (w : World), Calls Tryd.prog 85 #[.pointer (some ⟨B, 0, none⟩), .int .i64 835] w fun e w' => e = .returned (.tuple #[.pointer none, .int .u32 0]) ∧ w = w') := Lib.hid (fun B w => masked_any B 835 w)
  have HH : Hid (∀ (w : World), Calls Tryd.prog 86 #[.int .i64 835] w fun e w' => e = .returned (.tuple #[.int .i64 0, .bool false]) ∧ w = w') := Lib.hid (fun w => half_any 835 w)
  have HF : Hid (∀ (w : World), Calls Tryd.prog 87 #[.int .i64 835] w fun e w' => e = .returned (.bool false) ∧ w = w') := Lib.hid (fun w => fixed_any 835 w)
  have HR : Hid (∀ w : World, Calls Tryd.prog 77 #[.agg #[.int .u32 st, .int .u32 en, .int .u32 ve, .int .u32 sc, .int .u32 ep, .int .u32 ca, .int .u32 va, .int .u64 co], .int .i64 835, .int .u32 0] w fun e w' => e = .returned (.tuple #[.int .u32 va, .nilIface]) ∧ Below w.heap.size w w') := Lib.hid (fun w => read_835 st en ve sc ep ca va co g1 g2 g3 g4 g5 g6 g7 g8 0 (by omega) w)
  have HB : Hid (TwoS w 42 42 ⟨st, en, ve, sc, ep, ca, va, co⟩ St.zero ((w.alloc (.cells (St.cells ⟨st, en, ve, sc, ep, ca, va, co⟩) 42)).alloc (.cells St.zero.cells 42))) := Lib.hid (TwoS.start w _ _ _ _)
  clear g1 g2 g3 g4 g5 g6 g7 g8 hv
  go_enter Tryd.func78, Tryd.ntmps78
  go_wp2_with (first | (go_at_call 77; refine (HR.out _).mono ?_; rintro e w2 ⟨rfl, hb⟩; have B1 := Lib.hid (HB.out.below hb); have F1 := Lib.hid B1.out.all; obtain ⟨f0, f1, f2, f3, f4, f5, f6, f7, f8, f9⟩ := F1.out; have R1 := Lib.hid B1.out.all2; obtain ⟨l0, l1, l2, l3, l4, l5, l6, l7, l8, l9⟩ := R1.out; clear hb) | (go_at_call 84; refine (HP.out _ _).mono ?_; rintro e w1 ⟨rfl, rfl⟩) | (go_at_call 85; refine (HM.out _ _).mono ?_; rintro e w1 ⟨rfl, rfl⟩) | (go_at_call 86; refine (HH.out _).mono ?_; rintro e w1 ⟨rfl, rfl⟩) | (go_at_call 87; refine (HF.out _).mono ?_; rintro e w1 ⟨rfl, rfl⟩))
  refine bodyPost_ret (v := ?_) ?_ rfl ⟨?_, ?_⟩
  rotate_left
  · simp [results, Tryd.results78, go_sem, f0, f1, f2, f3, f4, f5, f6, f7, l0, l1, l2, l3, l4, l5, l6, l7]
    exact rfl
  · rfl
  · have b := B1.out.2.2
    repeat' (first | (with_reducible exact b) | (with_reducible refine below_drew1 ?_) | (with_reducible refine Below.setCell ?_ ?_ _) | (simp; done))
set_option maxHeartbeats 1000000 in
theorem write_768 (st en ve sc ep ca va co : Nat) (g1 : st < 4294967296) (g2 : en < 4294967296) (g3 : ve < 4294967296) (g4 : sc < 4294967296) (g5 : ep < 4294967296) (g6 : ca < 4294967296) (g7 : va < 4294967296) (g8 : co < 18446744073709551616) (v : Nat) (hv : v < 4294967296) (w : World) :
    Calls Tryd.prog 78 #[.agg #[.int .u32 st, .int .u32 en, .int .u32 ve, .int .u32 sc, .int .u32 ep, .int .u32 ca, .int .u32 va, .int .u64 co], .int .i64 768, .int .u32 v] w fun e w' => e = .returned (.tuple #[.agg #[.int .u32 (v &&& 136 : Nat), .int .u32 en, .int .u32 ve, .int .u32 sc, .int .u32 ep, .int .u32 ca, .int .u32 va, .int .u64 co], .nilIface]) ∧ Below w.heap.size w w' := by
  have HP : Hid (∀ (B : Nat) (w : World), Calls Tryd.prog 84 #[.pointer (some ⟨B, 0, none⟩), .int .i64 768] w fun e w' => e = .returned (.pointer none) ∧ w = w') := Lib.hid (fun B w => plain_any B 768 w)
  have HM : Hid (∀ (B : Nat) (w : World), Calls Tryd.prog 85 #[.pointer (some ⟨B, 0, none⟩), .int .i64 768] w fun e w' => e = .returned (.tuple #[.pointer (some ⟨B, 0, none⟩), .int .u32 4294967159]) ∧ w = w') := Lib.hid (fun B w => masked_any B 768 w)
  have HH : Hid (∀ (w : World), Calls Tryd.prog 86 #[.int .i64 768] w fun e w' => e = .returned (.tuple #[.int .i64 0, .bool false]) ∧ w = w') := Lib.hid (fun w => half_any 768 w)
  have HF : Hid (∀ (w : World), Calls Tryd.prog 87 #[.int .i64 768] w fun e w' => e = .returned (.bool false) ∧ w = w') := Lib.hid (fun w => fixed_any 768 w)
  have HR : Hid (∀ w : World, Calls Tryd.prog 77 #[.agg #[.int .u32 st, .int .u32 en, .int .u32 ve, .int .u32 sc, .int .u32 ep, .int .u32 ca, .int .u32 va, .int .u64 co], .int .i64 768, .int .u32 0] w fun e w' => e = .returned (.tuple #[.int .u32 (st ||| 6144 : Nat), .nilIface]) ∧ Below w.heap.size w w') := Lib.hid (fun w => read_768 st en ve sc ep ca va co g1 g2 g3 g4 g5 g6 g7 g8 0 (by omega) w)
  have HB : Hid (TwoS w 42 42 ⟨st, en, ve, sc, ep, ca, va, co⟩ St.zero ((w.alloc (.cells (St.cells ⟨st, en, ve, sc, ep, ca, va, co⟩) 42)).alloc (.cells St.zero.cells 42))) := Lib.hid (TwoS.start w _ _ _ _)
  have e1 : Go.bits .andNot .u32 (v : Int) 4294967159 = ((v &&& 136 : Nat) : Int) := Go.u32_andNot_nat v 4294967159 hv (by omega)
  clear g1 g2 g3 g4 g5 g6 g7 g8 hv
  go_enter Tryd.func78, Tryd.ntmps78
  go_wp2_with (first | (go_at_call 77; refine (HR.out _).mono ?_; rintro e w2 ⟨rfl, hb⟩; have B1 := Lib.hid (HB.out.below hb); have F1 := Lib.hid B1.out.all; obtain ⟨f0, f1, f2, f3, f4, f5, f6, f7, f8, f9⟩ := F1.out; have R1 := Lib.hid B1.out.all2; obtain ⟨l0, l1, l2, l3, l4, l5, l6, l7, l8, l9⟩ := R1.out; clear hb) | (go_at_call 84; refine (HP.out _ _).mono ?_; rintro e w1 ⟨rfl, rfl⟩) | (go_at_call 85; refine (HM.out _ _).mono ?_; rintro e w1 ⟨rfl, rfl⟩) | (go_at_call 86; refine (HH.out _).mono ?_; rintro e w1 ⟨rfl, rfl⟩) | (go_at_call 87; refine (HF.out _).mono ?_; rintro e w1 ⟨rfl, rfl⟩))
  refine bodyPost_ret (v := ?_) ?_ rfl ⟨?_, ?_⟩
  rotate_left
  · simp [results, Tryd.results78, go_sem, f0, f1, f2, f3, f4, f5, f6, f7, l0, l1, l2, l3, l4, l5, l6, l7]
    exact rfl
  · rfl
  · have b := B1.out.2.2
    repeat' (first | (with_reducible exact b) | (with_reducible refine below_drew1 ?_) | (with_reducible refine Below.setCell ?_ ?_ _) | (simp; done))
set_option maxHeartbeats 1000000 in
theorem write_772 (st en ve sc ep ca va co : Nat) (g1 : st < 4294967296) (g2 : en < 4294967296) (g3 : ve < 4294967296) (g4 : sc < 4294967296) (g5 : ep < 4294967296) (g6 : ca < 4294967296) (g7 : va < 4294967296) (g8 : co < 18446744073709551616) (v : Nat) (hv : v < 4294967296) (w : World) :
    Calls Tryd.prog 78 #[.agg #[.int .u32 st, .int .u32 en, .int .u32 ve, .int .u32 sc, .int .u32 ep, .int .u32 ca, .int .u32 va, .int .u64 co], .int .i64 772, .int .u32 v] w fun e w' => e = .returned (.tuple #[.agg #[.int .u32 st, .int .u32 (v &&& 2184 : Nat), .int .u32 ve, .int .u32 sc, .int .u32 ep, .int .u32 ca, .int .u32 va, .int .u64 co], .nilIface]) ∧ Below w.heap.size w w' := by
  have HP : Hid (∀ (B : Nat) (w : World), Calls Tryd.prog 84 #[.pointer (some ⟨B, 0, none⟩), .int .i64 772] w fun e w' => e = .returned (.pointer none) ∧ w = w') := Lib.hid (fun B w => plain_any B 772 w)
  have HM : Hid (∀ (B : Nat) (w : World), Calls Tryd.prog 85 #[.pointer (some ⟨B, 0, none⟩), .int .i64 772] w fun e w' => e = .returned (.tuple #[.pointer (some ⟨B, 1, none⟩), .int .u32 4294965111]) ∧ w = w') := Lib.hid (fun B w => masked_any B 772 w)
  have HH : Hid (∀ (w : World), Calls Tryd.prog 86 #[.int .i64 772] w fun e w' => e = .returned (.tuple #[.int .i64 0, .bool false]) ∧ w = w') := Lib.hid (fun w => half_any 772 w)
  have HF : Hid (∀ (w : World), Calls Tryd.prog 87 #[.int .i64 772] w fun e w' => e = .returned (.bool false) ∧ w = w') := Lib.hid (fun w => fixed_any 772 w)
  have HR : Hid (∀ w : World, Calls Tryd.prog 77 #[.agg #[.int .u32 st, .int .u32 en, .int .u32 ve, .int .u32 sc, .int .u32 ep, .int .u32 ca, .int .u32 va, .int .u64 co], .int .i64 772, .int .u32 0] w fun e w' => e = .returned (.tuple #[.int .u32 en, .nilIface]) ∧ Below w.heap.size w w') := Lib.hid (fun w => read_772 st en ve sc ep ca va co g1 g2 g3 g4 g5 g6 g7 g8 0 (by omega) w)
  have HB : Hid (TwoS w 42 42 ⟨st, en, ve, sc, ep, ca, va, co⟩ St.zero ((w.alloc (.cells (St.cells ⟨st, en, ve, sc, ep, ca, va, co⟩) 42)).alloc (.cells St.zero.cells 42))) := Lib.hid (TwoS.start w _ _ _ _)
  have e1 : Go.bits .andNot .u32 (v : Int) 4294965111 = ((v &&& 2184 : Nat) : Int) := Go.u32_andNot_nat v 4294965111 hv (by omega)
  clear g1 g2 g3 g4 g5 g6 g7 g8 hv
  go_enter Tryd.func78, Tryd.ntmps78
  go_wp2_with (first | (go_at_call 77; refine (HR.out _).mono ?_; rintro e w2 ⟨rfl, hb⟩; have B1 := Lib.hid (HB.out.below hb); have F1 := Lib.hid B1.out.all; obtain ⟨f0, f1, f2, f3, f4, f5, f6, f7, f8, f9⟩ := F1.out; have R1 := Lib.hid B1.out.all2; obtain ⟨l0, l1, l2, l3, l4, l5, l6, l7, l8, l9⟩ := R1.out; clear hb) | (go_at_call 84; refine (HP.out _ _).mono ?_; rintro e w1 ⟨rfl, rfl⟩) | (go_at_call 85; refine (HM.out _ _).mono ?_; rintro e w1 ⟨rfl, rfl⟩) | (go_at_call 86; refine (HH.out _).mono ?_; rintro e w1 ⟨rfl, rfl⟩) | (go_at_call 87; refine (HF.out _).mono ?_; rintro e w1 ⟨rfl, rfl⟩))
  refine bodyPost_ret (v := ?_) ?_ rfl ⟨?_, ?_⟩
  rotate_left
  · simp [results, Tryd.results78, go_sem, f0, f1, f2, f3, f4, f5, f6, f7, l0, l1, l2, l3, l4, l5, l6, l7]
    exact rfl
  · rfl
  · have b := B1.out.2.2
    repeat' (first | (with_reducible exact b) | (with_reducible refine below_drew1 ?_) | (with_reducible refine Below.setCell ?_ ?_ _) | (simp; done))
set_option maxHeartbeats 1000000 in
theorem write_773 (st en ve sc ep ca va co : Nat) (g1 : st < 4294967296) (g2 : en < 4294967296) (g3 : ve < 4294967296) (g4 : sc < 4294967296) (g5 : ep < 4294967296) (g6 : ca < 4294967296) (g7 : va < 4294967296) (g8 : co < 18446744073709551616) (v : Nat) (hv : v < 4294967296) (w : World) :
    Calls Tryd.prog 78 #[.agg #[.int .u32 st, .int .u32 en, .int .u32 ve, .int .u32 sc, .int .u32 ep, .int .u32 ca, .int .u32 va, .int .u64 co], .int .i64 773, .int .u32 v] w fun e w' => e = .returned (.tuple #[.agg #[.int .u32 st, .int .u32 en, .int .u32 (clr v 2 : Nat), .int .u32 sc, .int .u32 ep, .int .u32 ca, .int .u32 va, .int .u64 co], .nilIface]) ∧ Below w.heap.size w w' := by
  have HP : Hid (∀ (B : Nat) (w : World), Calls Tryd.prog 84 #[.pointer (some ⟨B, 0, none⟩), .int .i64 773] w fun e w' => e = .returned (.pointer none) ∧ w = w') := Lib.hid (fun B w => plain_any B 773 w)
  have HM : Hid (∀ (B : Nat) (w : World), Calls Tryd.prog 85 #[.pointer (some ⟨B, 0, none⟩), .int .i64 773] w fun e w' => e = .returned (.tuple #[.pointer (some ⟨B, 2, none⟩), .int .u32 2]) ∧ w = w') := Lib.hid (fun B w => masked_any B 773 w)
  have HH : Hid (∀ (w : World), Calls Tryd.prog 86 #[.int .i64 773] w fun e w' => e = .returned (.tuple #[.int .i64 0, .bool false]) ∧ w = w') := Lib.hid (fun w => half_any 773 w)
  have HF : Hid (∀ (w : World), Calls Tryd.prog 87 #[.int .i64 773] w fun e w' => e = .returned (.bool false) ∧ w = w') := Lib.hid (fun w => fixed_any 773 w)
  have HR : Hid (∀ w : World, Calls Tryd.prog 77 #[.agg #[.int .u32 st, .int .u32 en, .int .u32 ve, .int .u32 sc, .int .u32 ep, .int .u32 ca, .int .u32 va, .int .u64 co], .int .i64 773, .int .u32 0] w fun e w' => e = .returned (.tuple #[.int .u32 ve, .nilIface]) ∧ Below w.heap.size w w') := Lib.hid (fun w => read_773 st en ve sc ep ca va co g1 g2 g3 g4 g5 g6 g7 g8 0 (by omega) w)
  have HB : Hid (TwoS w 42 42 ⟨st, en, ve, sc, ep, ca, va, co⟩ St.zero ((w.alloc (.cells (St.cells ⟨st, en, ve, sc, ep, ca, va, co⟩) 42)).alloc (.cells St.zero.cells 42))) := Lib.hid (TwoS.start w _ _ _ _)
  have e1 : Go.bits .andNot .u32 (v : Int) 2 = ((clr v 2 : Nat) : Int) := u32c_andNot 2 hv (by omega)
  clear g1 g2 g3 g4 g5 g6 g7 g8 hv
  go_enter Tryd.func78, Tryd.ntmps78
  go_wp2_with (first | (go_at_call 77; refine (HR.out _).mono ?_; rintro e w2 ⟨rfl, hb⟩; have B1 := Lib.hid (HB.out.below hb); have F1 := Lib.hid B1.out.all; obtain ⟨f0, f1, f2, f3, f4, f5, f6, f7, f8, f9⟩ := F1.out; have R1 := Lib.hid B1.out.all2; obtain ⟨l0, l1, l2, l3, l4, l5, l6, l7, l8, l9⟩ := R1.out; clear hb) | (go_at_call 84; refine (HP.out _ _).mono ?_; rintro e w1 ⟨rfl, rfl⟩) | (go_at_call 85; refine (HM.out _ _).mono ?_; rintro e w1 ⟨rfl, rfl⟩) | (go_at_call 86; refine (HH.out _).mono ?_; rintro e w1 ⟨rfl, rfl⟩) | (go_at_call 87; refine (HF.out _).mono ?_; rintro e w1 ⟨rfl, rfl⟩))
  refine bodyPost_ret (v := ?_) ?_ rfl ⟨?_, ?_⟩
  rotate_left
  · simp [results, Tryd.results78, go_sem, f0, f1, f2, f3, f4, f5, f6, f7, l0, l1, l2, l3, l4, l5, l6, l7]
    exact rfl
  · rfl
  · have b := B1.out.2.2
    repeat' (first | (with_reducible exact b) | (with_reducible refine below_drew1 ?_) | (with_reducible refine Below.setCell ?_ ?_ _) | (simp; done))
set_option maxHeartbeats 1000000 in
theorem write_833 (st en ve sc ep ca va co : Nat) (g1 : st < 4294967296) (g2 : en < 4294967296) (g3 : ve < 4294967296) (g4 : sc < 4294967296) (g5 : ep < 4294967296) (g6 : ca < 4294967296) (g7 : va < 4294967296) (g8 : co < 18446744073709551616) (v : Nat) (hv : v < 4294967296) (w : World) :
    Calls Tryd.prog 78 #[.agg #[.int .u32 st, .int .u32 en, .int .u32 ve, .int .u32 sc, .int .u32 ep, .int .u32 ca, .int .u32 va, .int .u64 co], .int .i64 833, .int .u32 v] w fun e w' => e = .returned (.tuple #[.agg #[.int .u32 st, .int .u32 en, .int .u32 ve, .int .u32 sc, .int .u32 (clr v 3 : Nat), .int .u32 ca, .int .u32 va, .int .u64 co], .nilIface]) ∧ Below w.heap.size w w' := by
  have HP : Hid (∀ (B : Nat) (w : World), Calls Tryd.prog 84 #[.pointer (some ⟨B, 0, none⟩), .int .i64 833] w fun e w' => e = .returned (.pointer none) ∧ w = w') := Lib.hid (fun B w => plain_any B 833 w)
  have HM : Hid (∀ (B : Nat) (w : World), Calls Tryd.prog 85 #[.pointer (some ⟨B, 0, none⟩), .int .i64 833] w fun e w' => e = .returned (.tuple #[.pointer (some ⟨B, 4, none⟩), .int .u32 3]) ∧ w = w') := Lib.hid (fun B w => masked_any B 833 w)
  have HH : Hid (∀ (w : World), Calls Tryd.prog 86 #[.int .i64 833] w fun e w' => e = .returned (.tuple #[.int .i64 0, .bool false]) ∧ w = w') := Lib.hid (fun w => half_any 833 w)
  have HF : Hid (∀ (w : World), Calls Tryd.prog 87 #[.int .i64 833] w fun e w' => e = .returned (.bool false) ∧ w = w') := Lib.hid (fun w => fixed_any 833 w)
  have HR : Hid (∀ w : World, Calls Tryd.prog 77 #[.agg #[.int .u32 st, .int .u32 en, .int .u32 ve, .int .u32 sc, .int .u32 ep, .int .u32 ca, .int .u32 va, .int .u64 co], .int .i64 833, .int .u32 0] w fun e w' => e = .returned (.tuple #[.int .u32 ep, .nilIface]) ∧ Below w.heap.size w w') := Lib.hid (fun w => read_833 st en ve sc ep ca va co g1 g2 g3 g4 g5 g6 g7 g8 0 (by omega) w)
  have HB : Hid (TwoS w 42 42 ⟨st, en, ve, sc, ep, ca, va, co⟩ St.zero ((w.alloc (.cells (St.cells ⟨st, en, ve, sc, ep, ca, va, co⟩) 42)).alloc (.cells St.zero.cells 42))) := Lib.hid (TwoS.start w _ _ _ _)
  have e1 : Go.bits .andNot .u32 (v : Int) 3 = ((clr v 3 : Nat) : Int) := u32c_andNot 3 hv (by omega)
  clear g1 g2 g3 g4 g5 g6 g7 g8 hv
  go_enter Tryd.func78, Tryd.ntmps78
  go_wp2_with (first | (go_at_call 77; refine (HR.out _).mono ?_; rintro e w2 ⟨rfl, hb⟩; have B1 := Lib.hid (HB.out.below hb); have F1 := Lib.hid B1.out.all; obtain ⟨f0, f1, f2, f3, f4, f5, f6, f7, f8, f9⟩ := F1.out; have R1 := Lib.hid B1.out.all2; obtain ⟨l0, l1, l2, l3, l4, l5, l6, l7, l8, l9⟩ := R1.out; clear hb) | (go_at_call 84; refine (HP.out _ _).mono ?_; rintro e w1 ⟨rfl, rfl⟩) | (go_at_call 85; refine (HM.out _ _).mono ?_; rintro e w1 ⟨rfl, rfl⟩) | (go_at_call 86; refine (HH.out _).mono ?_; rintro e w1 ⟨rfl, rfl⟩) | (go_at_call 87; refine (HF.out _).mono ?_; rintro e w1 ⟨rfl, rfl⟩))
  refine bodyPost_ret (v := ?_) ?_ rfl ⟨?_, ?_⟩
  rotate_left
  · simp [results, Tryd.results78, go_sem, f0, f1, f2, f3, f4, f5, f6, f7, l0, l1, l2, l3, l4, l5, l6, l7]
    exact rfl
  · rfl
  · have b := B1.out.2.2
    repeat' (first | (with_reducible exact b) | (with_reducible refine below_drew1 ?_) | (with_reducible refine Below.setCell ?_ ?_ _) | (simp; done))
set_option maxHeartbeats 1000000 in
theorem write_2816 (st en ve sc ep ca va co : Nat) (g1 : st < 4294967296) (g2 : en < 4294967296) (g3 : ve < 4294967296) (g4 : sc < 4294967296) (g5 : ep < 4294967296) (g6 : ca < 4294967296) (g7 : va < 4294967296) (g8 : co < 18446744073709551616) (v : Nat) (hv : v < 4294967296) (w : World) :
    Calls Tryd.prog 78 #[.agg #[.int .u32 st, .int .u32 en, .int .u32 ve, .int .u32 sc, .int .u32 ep, .int .u32 ca, .int .u32 va, .int .u64 co], .int .i64 2816, .int .u32 v] w fun e w' => e = .returned (.tuple #[.agg #[.int .u32 st, .int .u32 en, .int .u32 ve, .int .u32 sc, .int .u32 ep, .int .u32 ca, .int .u32 va, .int .u64 (co / 4294967296 * 4294967296 + v : Nat)], .nilIface]) ∧ Below w.heap.size w w' := by
  have HP : Hid (∀ (B : Nat) (w : World), Calls Tryd.prog 84 #[.pointer (some ⟨B, 0, none⟩), .int .i64 2816] w fun e w' => e = .returned (.pointer none) ∧ w = w') := Lib.hid (fun B w => plain_any B 2816 w)
  have HM : Hid (∀ (B : Nat) (w : World), Calls Tryd.prog 85 #[.pointer (some ⟨B, 0, none⟩), .int .i64 2816] w fun e w' => e = .returned (.tuple #[.pointer none, .int .u32 0]) ∧ w = w') := Lib.hid (fun B w => masked_any B 2816 w)
  have HH : Hid (∀ (w : World), Calls Tryd.prog 86 #[.int .i64 2816] w fun e w' => e = .returned (.tuple #[.int .i64 0, .bool true]) ∧ w = w') := Lib.hid (fun w => half_any 2816 w)
  have HF : Hid (∀ (w : World), Calls Tryd.prog 87 #[.int .i64 2816] w fun e w' => e = .returned (.bool false) ∧ w = w') := Lib.hid (fun w => fixed_any 2816 w)
  have HR : Hid (∀ w : World, Calls Tryd.prog 77 #[.agg #[.int .u32 st, .int .u32 en, .int .u32 ve, .int .u32 sc, .int .u32 ep, .int .u32 ca, .int .u32 va, .int .u64 co], .int .i64 2816, .int .u32 0] w fun e w' => e = .returned (.tuple #[.int .u32 (co % 4294967296 : Nat), .nilIface]) ∧ Below w.heap.size w w') := Lib.hid (fun w => read_2816 st en ve sc ep ca va co g1 g2 g3 g4 g5 g6 g7 g8 0 (by omega) w)
  have HB : Hid (TwoS w 42 42 ⟨st, en, ve, sc, ep, ca, va, co⟩ St.zero ((w.alloc (.cells (St.cells ⟨st, en, ve, sc, ep, ca, va, co⟩) 42)).alloc (.cells St.zero.cells 42))) := Lib.hid (TwoS.start w _ _ _ _)
  have hw : IntKind.u64.wrap (v : Int) = (v : Int) := by rw [Go.IntKind.wrap_u64]; omega
  obtain ⟨h, hh⟩ : ∃ h : Nat, h = co / 4294967296 * 4294967296 := ⟨_, rfl⟩
  obtain ⟨r, hr⟩ : ∃ r : Nat, r = h + v := ⟨_, rfl⟩
  have e1 : Go.bits .andNot .u64 (co : Int) 4294967295 = (h : Int) := (Go.u64_andNot_nat co 4294967295 g8 (by omega)).trans (by rw [hi32 g8, hh])
  have e2 : Go.bits .or .u64 (h : Int) (v : Int) = (r : Int) := (Go.u64_or_nat h v (by omega) (by omega)).trans (by rw [Go.nat_join 32 h v (by omega) (by omega), hr])
  have hco : co / 4294967296 * 4294967296 + v = r := by omega
  rw [hco]
  clear hco hh hr
  clear g1 g2 g3 g4 g5 g6 g7 g8 hv
  go_enter Tryd.func78, Tryd.ntmps78
  go_wp2_with (first | (go_at_call 77; refine (HR.out _).mono ?_; rintro e w2 ⟨rfl, hb⟩; have B1 := Lib.hid (HB.out.below hb); have F1 := Lib.hid B1.out.all; obtain ⟨f0, f1, f2, f3, f4, f5, f6, f7, f8, f9⟩ := F1.out; have R1 := Lib.hid B1.out.all2; obtain ⟨l0, l1, l2, l3, l4, l5, l6, l7, l8, l9⟩ := R1.out; clear hb) | (go_at_call 84; refine (HP.out _ _).mono ?_; rintro e w1 ⟨rfl, rfl⟩) | (go_at_call 85; refine (HM.out _ _).mono ?_; rintro e w1 ⟨rfl, rfl⟩) | (go_at_call 86; refine (HH.out _).mono ?_; rintro e w1 ⟨rfl, rfl⟩) | (go_at_call 87; refine (HF.out _).mono ?_; rintro e w1 ⟨rfl, rfl⟩))
  go_region
  all_goals
    go_wp2
    refine bodyPost_ret (v := ?_) ?_ rfl ⟨?_, ?_⟩
    rotate_left
    · simp [results, Tryd.results78, go_sem, f0, f1, f2, f3, f4, f5, f6, f7, l0, l1, l2, l3, l4, l5, l6, l7]
      exact rfl
    · simp only [hw, e2]
    · have b := B1.out.2.2
      repeat' (first | (with_reducible exact b) | (with_reducible refine below_drew1 ?_) | (with_reducible refine Below.setCell ?_ ?_ _) | (simp; done))
set_option maxHeartbeats 1000000 in
theorem write_2818 (st en ve sc ep ca va co : Nat) (g1 : st < 4294967296) (g2 : en < 4294967296) (g3 : ve < 4294967296) (g4 : sc < 4294967296) (g5 : ep < 4294967296) (g6 : ca < 4294967296) (g7 : va < 4294967296) (g8 : co < 18446744073709551616) (v : Nat) (hv : v < 4294967296) (w : World) :
    Calls Tryd.prog 78 #[.agg #[.int .u32 st, .int .u32 en, .int .u32 ve, .int .u32 sc, .int .u32 ep, .int .u32 ca, .int .u32 va, .int .u64 co], .int .i64 2818, .int .u32 v] w fun e w' => e = .returned (.tuple #[.agg #[.int .u32 st, .int .u32 en, .int .u32 ve, .int .u32 sc, .int .u32 ep, .int .u32 ca, .int .u32 va, .int .u64 (co / 4294967296 * 4294967296 + v : Nat)], .nilIface]) ∧ Below w.heap.size w w' := by
  have HP : Hid (∀ (B : Nat) (w : World), Calls Tryd.prog 84 #[.pointer (some ⟨B, 0, none⟩), .int .i64 2818] w fun e w' => e = .returned (.pointer none) ∧ w = w') := Lib.hid (fun B w => plain_any B 2818 w)
  have HM : Hid (∀ (B : Nat) (w : World), Calls Tryd.prog 85 #[.pointer (some ⟨B, 0, none⟩), .int .i64 2818] w fun e w' => e = .returned (.tuple #[.pointer none, .int .u32 0]) ∧ w = w') := Lib.hid (fun B w => masked_any B 2818 w)
  have HH : Hid (∀ (w : World), Calls Tryd.prog 86 #[.int .i64 2818] w fun e w' => e = .returned (.tuple #[.int .i64 0, .bool true]) ∧ w = w') := Lib.hid (fun w => half_any 2818 w)
  have HF : Hid (∀ (w : World), Calls Tryd.prog 87 #[.int .i64 2818] w fun e w' => e = .returned (.bool false) ∧ w = w') := Lib.hid (fun w => fixed_any 2818 w)
  have HR : Hid (∀ w : World, Calls Tryd.prog 77 #[.agg #[.int .u32 st, .int .u32 en, .int .u32 ve, .int .u32 sc, .int .u32 ep, .int .u32 ca, .int .u32 va, .int .u64 co], .int .i64 2818, .int .u32 0] w fun e w' => e = .returned (.tuple #[.int .u32 (co % 4294967296 : Nat), .nilIface]) ∧ Below w.heap.size w w') := Lib.hid (fun w => read_2818 st en ve sc ep ca va co g1 g2 g3 g4 g5 g6 g7 g8 0 (by omega) w)
  have HB : Hid (TwoS w 42 42 ⟨st, en, ve, sc, ep, ca, va, co⟩ St.zero ((w.alloc (.cells (St.cells ⟨st, en, ve, sc, ep, ca, va, co⟩) 42)).alloc (.cells St.zero.cells 42))) := Lib.hid (TwoS.start w _ _ _ _)
  have hw : IntKind.u64.wrap (v : Int) = (v : Int) := by rw [Go.IntKind.wrap_u64]; omega
  obtain ⟨h, hh⟩ : ∃ h : Nat, h = co / 4294967296 * 4294967296 := ⟨_, rfl⟩
  obtain ⟨r, hr⟩ : ∃ r : Nat, r = h + v := ⟨_, rfl⟩
  have e1 : Go.bits .andNot .u64 (co : Int) 4294967295 = (h : Int) := (Go.u64_andNot_nat co 4294967295 g8 (by omega)).trans (by rw [hi32 g8, hh])
  have e2 : Go.bits .or .u64 (h : Int) (v : Int) = (r : Int) := (Go.u64_or_nat h v (by omega) (by omega)).trans (by rw [Go.nat_join 32 h v (by omega) (by omega), hr])
  have hco : co / 4294967296 * 4294967296 + v = r := by omega
  rw [hco]
  clear hco hh hr
  clear g1 g2 g3 g4 g5 g6 g7 g8 hv
  go_enter Tryd.func78, Tryd.ntmps78
  go_wp2_with (first | (go_at_call 77; refine (HR.out _).mono ?_; rintro e w2 ⟨rfl, hb⟩; have B1 := Lib.hid (HB.out.below hb); have F1 := Lib.hid B1.out.all; obtain ⟨f0, f1, f2, f3, f4, f5, f6, f7, f8, f9⟩ := F1.out; have R1 := Lib.hid B1.out.all2; obtain ⟨l0, l1, l2, l3, l4, l5, l6, l7, l8, l9⟩ := R1.out; clear hb) | (go_at_call 84; refine (HP.out _ _).mono ?_; rintro e w1 ⟨rfl, rfl⟩) | (go_at_call 85; refine (HM.out _ _).mono ?_; rintro e w1 ⟨rfl, rfl⟩) | (go_at_call 86; refine (HH.out _).mono ?_; rintro e w1 ⟨rfl, rfl⟩) | (go_at_call 87; refine (HF.out _).mono ?_; rintro e w1 ⟨rfl, rfl⟩))
  go_region
  all_goals
    go_wp2
    refine bodyPost_ret (v := ?_) ?_ rfl ⟨?_, ?_⟩
    rotate_left
    · simp [results, Tryd.results78, go_sem, f0, f1, f2, f3, f4, f5, f6, f7, l0, l1, l2, l3, l4, l5, l6, l7]
      exact rfl
    · simp only [hw, e2]
    · have b := B1.out.2.2
      repeat' (first | (with_reducible exact b) | (with_reducible refine below_drew1 ?_) | (with_reducible refine Below.setCell ?_ ?_ _) | (simp; done))
set_option maxHeartbeats 1000000 in
theorem write_2944 (st en ve sc ep ca va co : Nat) (g1 : st < 4294967296) (g2 : en < 4294967296) (g3 : ve < 4294967296) (g4 : sc < 4294967296) (g5 : ep < 4294967296) (g6 : ca < 4294967296) (g7 : va < 4294967296) (g8 : co < 18446744073709551616) (v : Nat) (hv : v < 4294967296) (w : World) :
    Calls Tryd.prog 78 #[.agg #[.int .u32 st, .int .u32 en, .int .u32 ve, .int .u32 sc, .int .u32 ep, .int .u32 ca, .int .u32 va, .int .u64 co], .int .i64 2944, .int .u32 v] w fun e w' => e = .returned (.tuple #[.agg #[.int .u32 st, .int .u32 en, .int .u32 ve, .int .u32 sc, .int .u32 ep, .int .u32 ca, .int .u32 va, .int .u64 (v * 4294967296 + co % 4294967296 : Nat)], .nilIface]) ∧ Below w.heap.size w w' := by
  have HP : Hid (∀ (B : Nat) (w : World), Calls Tryd.prog 84 #[.pointer (some ⟨B, 0, none⟩), .int .i64 2944] w fun e w' => e = .returned (.pointer none) ∧ w = w') := Lib.hid (fun B w => plain_any B 2944 w)
  have HM : Hid (∀ (B : Nat) (w : World), Calls Tryd.prog 85 #[.pointer (some ⟨B, 0, none⟩), .int .i64 2944] w fun e w' => e = .returned (.tuple #[.pointer none, .int .u32 0]) ∧ w = w') := Lib.hid (fun B w => masked_any B 2944 w)
  have HH : Hid (∀ (w : World), Calls Tryd.prog 86 #[.int .i64 2944] w fun e w' => e = .returned (.tuple #[.int .i64 32, .bool true]) ∧ w = w') := Lib.hid (fun w => half_any 2944 w)
  have HF : Hid (∀ (w : World), Calls Tryd.prog 87 #[.int .i64 2944] w fun e w' => e = .returned (.bool false) ∧ w = w') := Lib.hid (fun w => fixed_any 2944 w)
  have HR : Hid (∀ w : World, Calls Tryd.prog 77 #[.agg #[.int .u32 st, .int .u32 en, .int .u32 ve, .int .u32 sc, .int .u32 ep, .int .u32 ca, .int .u32 va, .int .u64 co], .int .i64 2944, .int .u32 0] w fun e w' => e = .returned (.tuple #[.int .u32 (co / 4294967296 : Nat), .nilIface]) ∧ Below w.heap.size w w') := Lib.hid (fun w => read_2944 st en ve sc ep ca va co g1 g2 g3 g4 g5 g6 g7 g8 0 (by omega) w)
  have HB : Hid (TwoS w 42 42 ⟨st, en, ve, sc, ep, ca, va, co⟩ St.zero ((w.alloc (.cells (St.cells ⟨st, en, ve, sc, ep, ca, va, co⟩) 42)).alloc (.cells St.zero.cells 42))) := Lib.hid (TwoS.start w _ _ _ _)
  have hw : IntKind.u64.wrap (v : Int) = (v : Int) := by rw [Go.IntKind.wrap_u64]; omega
  obtain ⟨h, hh⟩ : ∃ h : Nat, h = co % 4294967296 := ⟨_, rfl⟩
  obtain ⟨m, hm⟩ : ∃ m : Nat, m = v * 4294967296 := ⟨_, rfl⟩
  obtain ⟨r, hr⟩ : ∃ r : Nat, r = m + h := ⟨_, rfl⟩
  have e1 : Go.bits .andNot .u64 (co : Int) 18446744069414584320 = (h : Int) := (Go.u64_andNot_nat co 18446744069414584320 g8 (by omega)).trans (by rw [lo32, hh])
  have e3 : (v : Int) * 4294967296 % 18446744073709551616 = (m : Int) := by omega
  have hw2 : IntKind.u64.wrap ((v : Int) * 4294967296) = (m : Int) := by rw [Go.IntKind.wrap_u64]; omega
  have e2 : Go.bits .or .u64 (h : Int) (m : Int) = (r : Int) := (Go.u64_or_nat h m (by omega) (by omega)).trans (by rw [Nat.or_comm, Go.nat_join 32 m h (by omega) (by omega), hr])
  have hco : v * 4294967296 + co % 4294967296 = r := by omega
  rw [hco]
  clear hco hh hr hm
  clear g1 g2 g3 g4 g5 g6 g7 g8 hv
  go_enter Tryd.func78, Tryd.ntmps78
  go_wp2_with (first | (go_at_call 77; refine (HR.out _).mono ?_; rintro e w2 ⟨rfl, hb⟩; have B1 := Lib.hid (HB.out.below hb); have F1 := Lib.hid B1.out.all; obtain ⟨f0, f1, f2, f3, f4, f5, f6, f7, f8, f9⟩ := F1.out; have R1 := Lib.hid B1.out.all2; obtain ⟨l0, l1, l2, l3, l4, l5, l6, l7, l8, l9⟩ := R1.out; clear hb) | (go_at_call 84; refine (HP.out _ _).mono ?_; rintro e w1 ⟨rfl, rfl⟩) | (go_at_call 85; refine (HM.out _ _).mono ?_; rintro e w1 ⟨rfl, rfl⟩) | (go_at_call 86; refine (HH.out _).mono ?_; rintro e w1 ⟨rfl, rfl⟩) | (go_at_call 87; refine (HF.out _).mono ?_; rintro e w1 ⟨rfl, rfl⟩))
  go_region
  all_goals
    go_wp2
    refine bodyPost_ret (v := ?_) ?_ rfl ⟨?_, ?_⟩
    rotate_left
    · simp [results, Tryd.results78, go_sem, f0, f1, f2, f3, f4, f5, f6, f7, l0, l1, l2, l3, l4, l5, l6, l7]
      exact rfl
    · simp only [hw, hw2, e3, e2]
    · have b := B1.out.2.2
      repeat' (first | (with_reducible exact b) | (with_reducible refine below_drew1 ?_) | (with_reducible refine Below.setCell ?_ ?_ _) | (simp; done))
set_option maxHeartbeats 1000000 in
theorem write_2946 (st en ve sc ep ca va co : Nat) (g1 : st < 4294967296) (g2 : en < 4294967296) (g3 : ve < 4294967296) (g4 : sc < 4294967296) (g5 : ep < 4294967296) (g6 : ca < 4294967296) (g7 : va < 4294967296) (g8 : co < 18446744073709551616) (v : Nat) (hv : v < 4294967296) (w : World) :
    Calls Tryd.prog 78 #[.agg #[.int .u32 st, .int .u32 en, .int .u32 ve, .int .u32 sc, .int .u32 ep, .int .u32 ca, .int .u32 va, .int .u64 co], .int .i64 2946, .int .u32 v] w fun e w' => e = .returned (.tuple #[.agg #[.int .u32 st, .int .u32 en, .int .u32 ve, .int .u32 sc, .int .u32 ep, .int .u32 ca, .int .u32 va, .int .u64 (v * 4294967296 + co % 4294967296 : Nat)], .nilIface]) ∧ Below w.heap.size w w' := by
  have HP : Hid (∀ (B : Nat) (w : World), Calls Tryd.prog 84 #[.pointer (some ⟨B, 0, none⟩), .int .i64 2946] w fun e w' => e = .returned (.pointer none) ∧ w = w') := Lib.hid (fun B w => plain_any B 2946 w)
  have HM : Hid (∀ (B : Nat) (w : World), Calls Tryd.prog 85 #[.pointer (some ⟨B, 0, none⟩), .int .i64 2946] w fun e w' => e = .returned (.tuple #[.pointer none, .int .u32 0]) ∧ w = w') := Lib.hid (fun B w => masked_any B 2946 w)
  have HH : Hid (∀ (w : World), Calls Tryd.prog 86 #[.int .i64 2946] w fun e w' => e = .returned (.tuple #[.int .i64 32, .bool true]) ∧ w = w') := Lib.hid (fun w => half_any 2946 w)
  have HF : Hid (∀ (w : World), Calls Tryd.prog 87 #[.int .i64 2946] w fun e w' => e = .returned (.bool false) ∧ w = w') := Lib.hid (fun w => fixed_any 2946 w)
  have HR : Hid (∀ w : World, Calls Tryd.prog 77 #[.agg #[.int .u32 st, .int .u32 en, .int .u32 ve, .int .u32 sc, .int .u32 ep, .int .u32 ca, .int .u32 va, .int .u64 co], .int .i64 2946, .int .u32 0] w fun e w' => e = .returned (.tuple #[.int .u32 (co / 4294967296 : Nat), .nilIface]) ∧ Below w.heap.size w w') := Lib.hid (fun w => read_2946 st en ve sc ep ca va co g1 g2 g3 g4 g5 g6 g7 g8 0 (by omega) w)
  have HB : Hid (TwoS w 42 42 ⟨st, en, ve, sc, ep, ca, va, co⟩ St.zero ((w.alloc (.cells (St.cells ⟨st, en, ve, sc, ep, ca, va, co⟩) 42)).alloc (.cells St.zero.cells 42))) := Lib.hid (TwoS.start w _ _ _ _)
  have hw : IntKind.u64.wrap (v : Int) = (v : Int) := by rw [Go.IntKind.wrap_u64]; omega
  obtain ⟨h, hh⟩ : ∃ h : Nat, h = co % 4294967296 := ⟨_, rfl⟩
  obtain ⟨m, hm⟩ : ∃ m : Nat, m = v * 4294967296 := ⟨_, rfl⟩
  obtain ⟨r, hr⟩ : ∃ r : Nat, r = m + h := ⟨_, rfl⟩
  have e1 : Go.bits .andNot .u64 (co : Int) 18446744069414584320 = (h : Int) := (Go.u64_andNot_nat co 18446744069414584320 g8 (by omega)).trans (by rw [lo32, hh])
  have e3 : (v : Int) * 4294967296 % 18446744073709551616 = (m : Int) := by omega
  have hw2 : IntKind.u64.wrap ((v : Int) * 4294967296) = (m : Int) := by rw [Go.IntKind.wrap_u64]; omega
  have e2 : Go.bits .or .u64 (h : Int) (m : Int) = (r : Int) := (Go.u64_or_nat h m (by omega) (by omega)).trans (by rw [Nat.or_comm, Go.nat_join 32 m h (by omega) (by omega), hr])
  have hco : v * 4294967296 + co % 4294967296 = r := by omega
  rw [hco]
  clear hco hh hr hm
  clear g1 g2 g3 g4 g5 g6 g7 g8 hv
  go_enter Tryd.func78, Tryd.ntmps78
  go_wp2_with (first | (go_at_call 77; refine (HR.out _).mono ?_; rintro e w2 ⟨rfl, hb⟩; have B1 := Lib.hid (HB.out.below hb); have F1 := Lib.hid B1.out.all; obtain ⟨f0, f1, f2, f3, f4, f5, f6, f7, f8, f9⟩ := F1.out; have R1 := Lib.hid B1.out.all2; obtain ⟨l0, l1, l2, l3, l4, l5, l6, l7, l8, l9⟩ := R1.out; clear hb) | (go_at_call 84; refine (HP.out _ _).mono ?_; rintro e w1 ⟨rfl, rfl⟩) | (go_at_call 85; refine (HM.out _ _).mono ?_; rintro e w1 ⟨rfl, rfl⟩) | (go_at_call 86; refine (HH.out _).mono ?_; rintro e w1 ⟨rfl, rfl⟩) | (go_at_call 87; refine (HF.out _).mono ?_; rintro e w1 ⟨rfl, rfl⟩))
  go_region
  all_goals
    go_wp2
    refine bodyPost_ret (v := ?_) ?_ rfl ⟨?_, ?_⟩
    rotate_left
    · simp [results, Tryd.results78, go_sem, f0, f1, f2, f3, f4, f5, f6, f7, l0, l1, l2, l3, l4, l5, l6, l7]
      exact rfl
    · simp only [hw, hw2, e3, e2]
    · have b := B1.out.2.2
      repeat' (first | (with_reducible exact b) | (with_reducible refine below_drew1 ?_) | (with_reducible refine Below.setCell ?_ ?_ _) | (simp; done))
set_option maxHeartbeats 1000000 in
theorem write_769 (st en ve sc ep ca va co : Nat) (g1 : st < 4294967296) (g2 : en < 4294967296) (g3 : ve < 4294967296) (g4 : sc < 4294967296) (g5 : ep < 4294967296) (g6 : ca < 4294967296) (g7 : va < 4294967296) (g8 : co < 18446744073709551616) (v : Nat) (hv : v < 4294967296) (w : World) :
    Calls Tryd.prog 78 #[.agg #[.int .u32 st, .int .u32 en, .int .u32 ve, .int .u32 sc, .int .u32 ep, .int .u32 ca, .int .u32 va, .int .u64 co], .int .i64 769, .int .u32 v] w fun e w' => e = .returned (.tuple #[.agg #[.int .u32 st, .int .u32 en, .int .u32 ve, .int .u32 sc, .int .u32 ep, .int .u32 ca, .int .u32 va, .int .u64 co], .nilIface]) ∧ Below w.heap.size w w' := by
  have HP : Hid (∀ (B : Nat) (w : World), Calls Tryd.prog 84 #[.pointer (some ⟨B, 0, none⟩), .int .i64 769] w fun e w' => e = .returned (.pointer none) ∧ w = w') := Lib.hid (fun B w => plain_any B 769 w)
  have HM : Hid (∀ (B : Nat) (w : World), Calls Tryd.prog 85 #[.pointer (some ⟨B, 0, none⟩), .int .i64 769] w fun e w' => e = .returned (.tuple #[.pointer none, .int .u32 0]) ∧ w = w') := Lib.hid (fun B w => masked_any B 769 w)
  have HH : Hid (∀ (w : World), Calls Tryd.prog 86 #[.int .i64 769] w fun e w' => e = .returned (.tuple #[.int .i64 0, .bool false]) ∧ w = w') := Lib.hid (fun w => half_any 769 w)
  have HF : Hid (∀ (w : World), Calls Tryd.prog 87 #[.int .i64 769] w fun e w' => e = .returned (.bool false) ∧ w = w') := Lib.hid (fun w => fixed_any 769 w)
  have HR : Hid (∀ w : World, Calls Tryd.prog 77 #[.agg #[.int .u32 st, .int .u32 en, .int .u32 ve, .int .u32 sc, .int .u32 ep, .int .u32 ca, .int .u32 va, .int .u64 co], .int .i64 769, .int .u32 0] w fun e w' => e = .returned (.tuple #[.int .u32 1073746176, .nilIface]) ∧ Below w.heap.size w w') := Lib.hid (fun w => read_769 st en ve sc ep ca va co g1 g2 g3 g4 g5 g6 g7 g8 0 (by omega) w)
  have HB : Hid (TwoS w 42 42 ⟨st, en, ve, sc, ep, ca, va, co⟩ St.zero ((w.alloc (.cells (St.cells ⟨st, en, ve, sc, ep, ca, va, co⟩) 42)).alloc (.cells St.zero.cells 42))) := Lib.hid (TwoS.start w _ _ _ _)
  clear g1 g2 g3 g4 g5 g6 g7 g8 hv
  go_enter Tryd.func78, Tryd.ntmps78
  go_wp2_with (first | (go_at_call 77; refine (HR.out _).mono ?_; rintro e w2 ⟨rfl, hb⟩; have B1 := Lib.hid (HB.out.below hb); have F1 := Lib.hid B1.out.all; obtain ⟨f0, f1, f2, f3, f4, f5, f6, f7, f8, f9⟩ := F1.out; have R1 := Lib.hid B1.out.all2; obtain ⟨l0, l1, l2, l3, l4, l5, l6, l7, l8, l9⟩ := R1.out; clear hb) | (go_at_call 84; refine (HP.out _ _).mono ?_; rintro e w1 ⟨rfl, rfl⟩) | (go_at_call 85; refine (HM.out _ _).mono ?_; rintro e w1 ⟨rfl, rfl⟩) | (go_at_call 86; refine (HH.out _).mono ?_; rintro e w1 ⟨rfl, rfl⟩) | (go_at_call 87; refine (HF.out _).mono ?_; rintro e w1 ⟨rfl, rfl⟩))
  refine bodyPost_ret (v := ?_) ?_ rfl ⟨?_, ?_⟩
  rotate_left
  · simp [results, Tryd.results78, go_sem, f0, f1, f2, f3, f4, f5, f6, f7, l0, l1, l2, l3, l4, l5, l6, l7]
    exact rfl
  · rfl
  · have b := B1.out.2.2
    repeat' (first | (with_reducible exact b) | (with_reducible refine below_drew1 ?_) | (with_reducible refine Below.setCell ?_ ?_ _) | (simp; done))
set_option maxHeartbeats 1000000 in
theorem write_836 (st en ve sc ep ca va co : Nat) (g1 : st < 4294967296) (g2 : en < 4294967296) (g3 : ve < 4294967296) (g4 : sc < 4294967296) (g5 : ep < 4294967296) (g6 : ca < 4294967296) (g7 : va < 4294967296) (g8 : co < 18446744073709551616) (v : Nat) (hv : v < 4294967296) (w : World) :
    Calls Tryd.prog 78 #[.agg #[.int .u32 st, .int .u32 en, .int .u32 ve, .int .u32 sc, .int .u32 ep, .int .u32 ca, .int .u32 va, .int .u64 co], .int .i64 836, .int .u32 v] w fun e w' => e = .returned (.tuple #[.agg #[.int .u32 st, .int .u32 en, .int .u32 ve, .int .u32 sc, .int .u32 ep, .int .u32 ca, .int .u32 va, .int .u64 co], .nilIface]) ∧ Below w.heap.size w w' := by
  have HP : Hid (∀ (B : Nat) (w : World), Calls Tryd.prog 84 #[.pointer (some ⟨B, 0, none⟩), .int .i64 836] w fun e w' => e = .returned (.pointer none) ∧ w = w') := Lib.hid (fun B w => plain_any B 836 w)
  have HM : Hid (∀ (B : Nat) (w : World), Calls Tryd.prog 85 #[.pointer (some ⟨B, 0, none⟩), .int .i64 836] w fun e w' => e = .returned (.tuple #[.pointer none, .int .u32 0]) ∧ w = w') := Lib.hid (fun B w => masked_any B 836 w)
  have HH : Hid (∀ (w : World), Calls Tryd.prog 86 #[.int .i64 836] w fun e w' => e = .returned (.tuple #[.int .i64 0, .bool false]) ∧ w = w') := Lib.hid (fun w => half_any 836 w)
  have HF : Hid (∀ (w : World), Calls Tryd.prog 87 #[.int .i64 836] w fun e w' => e = .returned (.bool false) ∧ w = w') := Lib.hid (fun w => fixed_any 836 w)
  have HR : Hid (∀ w : World, Calls Tryd.prog 77 #[.agg #[.int .u32 st, .int .u32 en, .int .u32 ve, .int .u32 sc, .int .u32 ep, .int .u32 ca, .int .u32 va, .int .u64 co], .int .i64 836, .int .u32 0] w fun e w' => e = .returned (.tuple #[.int .u32 (0 &&& 2184 : Nat), .nilIface]) ∧ Below w.heap.size w w') := Lib.hid (fun w => read_836 st en ve sc ep ca va co g1 g2 g3 g4 g5 g6 g7 g8 0 (by omega) w)
  have HB : Hid (TwoS w 42 42 ⟨st, en, ve, sc, ep, ca, va, co⟩ St.zero ((w.alloc (.cells (St.cells ⟨st, en, ve, sc, ep, ca, va, co⟩) 42)).alloc (.cells St.zero.cells 42))) := Lib.hid (TwoS.start w _ _ _ _)
  clear g1 g2 g3 g4 g5 g6 g7 g8 hv
  go_enter Tryd.func78, Tryd.ntmps78
  go_wp2_with (first | (go_at_call 77; refine (HR.out _).mono ?_; rintro e w2 ⟨rfl, hb⟩; have B1 := Lib.hid (HB.out.below hb); have F1 := Lib.hid B1.out.all; obtain ⟨f0, f1, f2, f3, f4, f5, f6, f7, f8, f9⟩ := F1.out; have R1 := Lib.hid B1.out.all2; obtain ⟨l0, l1, l2, l3, l4, l5, l6, l7, l8, l9⟩ := R1.out; clear hb) | (go_at_call 84; refine (HP.out _ _).mono ?_; rintro e w1 ⟨rfl, rfl⟩) | (go_at_call 85; refine (HM.out _ _).mono ?_; rintro e w1 ⟨rfl, rfl⟩) | (go_at_call 86; refine (HH.out _).mono ?_; rintro e w1 ⟨rfl, rfl⟩) | (go_at_call 87; refine (HF.out _).mono ?_; rintro e w1 ⟨rfl, rfl⟩))
  refine bodyPost_ret (v := ?_) ?_ rfl ⟨?_, ?_⟩
  rotate_left
  · simp [results, Tryd.results78, go_sem, f0, f1, f2, f3, f4, f5, f6, f7, l0, l1, l2, l3, l4, l5, l6, l7]
    exact rfl
  · rfl
  · have b := B1.out.2.2
    repeat' (first | (with_reducible exact b) | (with_reducible refine below_drew1 ?_) | (with_reducible refine Below.setCell ?_ ?_ _) | (simp; done))
set_option maxHeartbeats 1000000 in
theorem write_fix (st en ve sc ep ca va co : Nat) (a : Int) (v : Nat) (hf : 3857 ≤ a ∧ a ≤ 3860) (w : World) :
    Calls Tryd.prog 78 #[.agg #[.int .u32 st, .int .u32 en, .int .u32 ve, .int .u32 sc, .int .u32 ep, .int .u32 ca, .int .u32 va, .int .u64 co], .int .i64 a, .int .u32 v] w fun e w' => e = .returned (.tuple #[.agg #[.int .u32 0, .int .u32 0, .int .u32 0, .int .u32 0, .int .u32 0, .int .u32 0, .int .u32 0, .int .u64 0], .iface 64 (.int .i64 33)]) ∧ Below w.heap.size w w' := by
  have HR : Hid (∀ w : World, Calls Tryd.prog 77 #[.agg #[.int .u32 st, .int .u32 en, .int .u32 ve, .int .u32 sc, .int .u32 ep, .int .u32 ca, .int .u32 va, .int .u64 co], .int .i64 a, .int .u32 0] w fun e w' => e = .returned (.tuple #[.int .u32 0, .nilIface]) ∧ Below w.heap.size w w') := Lib.hid (fun w => read_fix st en ve sc ep ca va co a 0 hf w)
  have HF : Hid (∀ (w : World), Calls Tryd.prog 87 #[.int .i64 a] w fun e w' => e = .returned (.bool true) ∧ w = w') := Lib.hid (fun w => by have h := fixed_any a w; rw [show fixI a = true from by simp only [fixI, decide_eq_true_iff]; exact hf] at h; exact h)
  have HB : Hid (TwoS w 42 42 ⟨st, en, ve, sc, ep, ca, va, co⟩ St.zero ((w.alloc (.cells (St.cells ⟨st, en, ve, sc, ep, ca, va, co⟩) 42)).alloc (.cells St.zero.cells 42))) := Lib.hid (TwoS.start w _ _ _ _)
  clear hf
  go_enter Tryd.func78, Tryd.ntmps78
  go_wp2_with (first | (go_at_call 77; refine (HR.out _).mono ?_; rintro e w2 ⟨rfl, hb⟩; have B1 := Lib.hid (HB.out.below hb); have F1 := Lib.hid B1.out.all; obtain ⟨f0, f1, f2, f3, f4, f5, f6, f7, f8, f9⟩ := F1.out; have R1 := Lib.hid B1.out.all2; obtain ⟨l0, l1, l2, l3, l4, l5, l6, l7, l8, l9⟩ := R1.out; clear hb) | (go_at_call 87; refine (HF.out _).mono ?_; rintro e w1 ⟨rfl, rfl⟩))
  refine bodyPost_ret (v := ?_) ?_ rfl ⟨?_, ?_⟩
  rotate_left
  · simp [results, Tryd.results78, go_sem, f0, f1, f2, f3, f4, f5, f6, f7, l0, l1, l2, l3, l4, l5, l6, l7]
    exact rfl
  · rfl
  · have b := B1.out.2.2
    repeat' (first | (with_reducible exact b) | (with_reducible refine below_drew1 ?_) | (with_reducible refine Below.setCell ?_ ?_ _) | (simp; done))
set_option maxHeartbeats 1000000 in
theorem write_none (st en ve sc ep ca va co : Nat) (a : Int) (v : Nat) (hf : ¬ (3857 ≤ a ∧ a ≤ 3860)) (hp : plainI a = none) (hm : maskI a = none) (hh : halfI a = none) (n1 : (a == 769) = false) (n2 : (a == 836) = false) (w : World) :
    Calls Tryd.prog 78 #[.agg #[.int .u32 st, .int .u32 en, .int .u32 ve, .int .u32 sc, .int .u32 ep, .int .u32 ca, .int .u32 va, .int .u64 co], .int .i64 a, .int .u32 v] w fun e w' => e = .returned (.tuple #[.agg #[.int .u32 0, .int .u32 0, .int .u32 0, .int .u32 0, .int .u32 0, .int .u32 0, .int .u32 0, .int .u64 0], .iface 64 (.int .i64 8)]) ∧ Below w.heap.size w w' := by
  have HR : Hid (∀ w : World, Calls Tryd.prog 77 #[.agg #[.int .u32 st, .int .u32 en, .int .u32 ve, .int .u32 sc, .int .u32 ep, .int .u32 ca, .int .u32 va, .int .u64 co], .int .i64 a, .int .u32 0] w fun e w' => e = .returned (.tuple #[.int .u32 0, .iface 64 (.int .i64 8)]) ∧ Below w.heap.size w w') := Lib.hid (fun w => read_none st en ve sc ep ca va co a 0 hf hp hm hh n1 n2 w)
  have HF : Hid (∀ (w : World), Calls Tryd.prog 87 #[.int .i64 a] w fun e w' => e = .returned (.bool false) ∧ w = w') := Lib.hid (fun w => by have h := fixed_any a w; rw [show fixI a = false from by simp only [fixI, decide_eq_false_iff_not]; exact hf] at h; exact h)
  have HB : Hid (TwoS w 42 42 ⟨st, en, ve, sc, ep, ca, va, co⟩ St.zero ((w.alloc (.cells (St.cells ⟨st, en, ve, sc, ep, ca, va, co⟩) 42)).alloc (.cells St.zero.cells 42))) := Lib.hid (TwoS.start w _ _ _ _)
  clear hf
  clear hp hm hh n1 n2
  go_enter Tryd.func78, Tryd.ntmps78
  go_wp2_with (first | (go_at_call 77; refine (HR.out _).mono ?_; rintro e w2 ⟨rfl, hb⟩; have B1 := Lib.hid (HB.out.below hb); have F1 := Lib.hid B1.out.all; obtain ⟨f0, f1, f2, f3, f4, f5, f6, f7, f8, f9⟩ := F1.out; have R1 := Lib.hid B1.out.all2; obtain ⟨l0, l1, l2, l3, l4, l5, l6, l7, l8, l9⟩ := R1.out; clear hb) | (go_at_call 87; refine (HF.out _).mono ?_; rintro e w1 ⟨rfl, rfl⟩))
  refine bodyPost_ret (v := ?_) ?_ rfl ⟨?_, ?_⟩
  rotate_left
  · simp [results, Tryd.results78, go_sem, f0, f1, f2, f3, f4, f5, f6, f7, l0, l1, l2, l3, l4, l5, l6, l7]
    exact rfl
  · rfl
  · have b := B1.out.2.2
    repeat' (first | (with_reducible exact b) | (with_reducible refine below_drew1 ?_) | (with_reducible refine Below.setCell ?_ ?_ _) | (simp; done))
theorem csrCheck_any (s : St) (hs : s.ok) (w : World) : Calls Tryd.prog 30 #[s.v] w fun e w' => e = .returned (errV (if mayB s = true then 0 else 1)) ∧ Below w.heap.size w w' := by
  obtain ⟨st, en, ve, sc, ep, ca, va, co⟩ := s
  obtain ⟨g1, g2, g3, g4, g5, g6, g7, g8⟩ := hs
  simp only at g1 g2 g3 g4 g5 g6 g7 g8
  have e1 : Go.bits .andNot .u32 (st : Int) 136 = (clr st 136 : Nat) := u32c_andNot 136 g1 (by omega)
  have e2 : Go.bits .andNot .u32 (en : Int) 2184 = (clr en 2184 : Nat) := u32c_andNot 2184 g2 (by omega)
  have e3 : Go.bits .and .u32 (ve : Int) 2 = (ve &&& 2 : Nat) := Go.u32_and_nat ve 2 g3 (by omega)
  have e4 : Go.bits .and .u32 (ep : Int) 3 = (ep &&& 3 : Nat) := Go.u32_and_nat ep 3 g5 (by omega)
  unfold mayB St.v St.cells
  simp only
  generalize clr st 136 = x1 at *
  generalize clr en 2184 = x2 at *
  generalize ve &&& 2 = x3 at *
  generalize ep &&& 3 = x4 at *
  clear g1 g2 g3 g4 g5 g6 g7 g8
  by_cases c1 : x1 = 0
  · subst c1
    by_cases c2 : x2 = 0
    · subst c2
      by_cases c3 : x3 = 0
      · subst c3
        by_cases c4 : x4 = 0
        · subst c4
          rw [show (decide ((0:Nat) = 0)) = true from rfl]
          simp only [Bool.and_self, if_true]
          go_enter Tryd.func30, Tryd.ntmps30
          go_wp2
          go_ret
          exact ⟨rfl, (Below.refl _ _).alloc (Nat.le_refl _) _⟩
        · have n : ((x4 : Int) != 0) = true := by simp; omega
          rw [decide_eq_false c4]
          simp only [Bool.and_false, Bool.false_eq_true, if_false]
          clear c4
          go_enter Tryd.func30, Tryd.ntmps30
          go_wp2
          go_ret
          exact ⟨rfl, (Below.refl _ _).alloc (Nat.le_refl _) _⟩
      · have n : ((x3 : Int) != 0) = true := by simp; omega
        rw [decide_eq_false c3]
        simp only [Bool.and_false, Bool.false_and, Bool.false_eq_true, if_false]
        clear c3
        go_enter Tryd.func30, Tryd.ntmps30
        go_wp2
        go_ret
        exact ⟨rfl, (Below.refl _ _).alloc (Nat.le_refl _) _⟩
    · have n : ((x2 : Int) != 0) = true := by simp; omega
      rw [decide_eq_false c2]
      simp only [Bool.and_false, Bool.false_and, Bool.false_eq_true, if_false]
      clear c2
      go_enter Tryd.func30, Tryd.ntmps30
      go_wp2
      go_ret
      exact ⟨rfl, (Below.refl _ _).alloc (Nat.le_refl _) _⟩
  · have n : ((x1 : Int) != 0) = true := by simp; omega
    rw [decide_eq_false c1]
    simp only [Bool.false_and, Bool.false_eq_true, if_false]
    clear c1
    go_enter Tryd.func30, Tryd.ntmps30
    go_wp2
    go_ret
    exact ⟨rfl, (Below.refl _ _).alloc (Nat.le_refl _) _⟩

theorem cread_any (s : St) (hs : s.ok) (a : Int) (ln : Nat) (hl : ln < 4294967296) (w : World) :
    Calls Tryd.prog 77 #[s.v, .int .i64 a, .int .u32 ln] w fun e w' => e = .returned (readR (creadV s a ln)) ∧ Below w.heap.size w w' := by
  obtain ⟨st, en, ve, sc, ep, ca, va, co⟩ := s
  obtain ⟨g1, g2, g3, g4, g5, g6, g7, g8⟩ := hs
  simp only at g1 g2 g3 g4 g5 g6 g7 g8
  by_cases c832 : a = 832
  · subst c832; exact read_832 st en ve sc ep ca va co g1 g2 g3 g4 g5 g6 g7 g8 ln hl w
  by_cases c834 : a = 834
  · subst c834; exact read_834 st en ve sc ep ca va co g1 g2 g3 g4 g5 g6 g7 g8 ln hl w
  by_cases c835 : a = 835
  · subst c835; exact read_835 st en ve sc ep ca va co g1 g2 g3 g4 g5 g6 g7 g8 ln hl w
  by_cases c768 : a = 768
  · subst c768; exact read_768 st en ve sc ep ca va co g1 g2 g3 g4 g5 g6 g7 g8 ln hl w
  by_cases c772 : a = 772
  · subst c772; exact read_772 st en ve sc ep ca va co g1 g2 g3 g4 g5 g6 g7 g8 ln hl w
  by_cases c773 : a = 773
  · subst c773; exact read_773 st en ve sc ep ca va co g1 g2 g3 g4 g5 g6 g7 g8 ln hl w
  by_cases c833 : a = 833
  · subst c833; exact read_833 st en ve sc ep ca va co g1 g2 g3 g4 g5 g6 g7 g8 ln hl w
  by_cases c2816 : a = 2816
  · subst c2816; exact read_2816 st en ve sc ep ca va co g1 g2 g3 g4 g5 g6 g7 g8 ln hl w
  by_cases c2818 : a = 2818
  · subst c2818; exact read_2818 st en ve sc ep ca va co g1 g2 g3 g4 g5 g6 g7 g8 ln hl w
  by_cases c2944 : a = 2944
  · subst c2944; exact read_2944 st en ve sc ep ca va co g1 g2 g3 g4 g5 g6 g7 g8 ln hl w
  by_cases c2946 : a = 2946
  · subst c2946; exact read_2946 st en ve sc ep ca va co g1 g2 g3 g4 g5 g6 g7 g8 ln hl w
  by_cases c769 : a = 769
  · subst c769; exact read_769 st en ve sc ep ca va co g1 g2 g3 g4 g5 g6 g7 g8 ln hl w
  by_cases c836 : a = 836
  · subst c836; exact read_836 st en ve sc ep ca va co g1 g2 g3 g4 g5 g6 g7 g8 ln hl w
  have hr : creadV ⟨st, en, ve, sc, ep, ca, va, co⟩ a ln = if 3857 ≤ a ∧ a ≤ 3860 then some 0 else none := by
    unfold creadV
    rw [if_neg (by omega), if_neg (by omega), if_neg (by omega), if_neg (by omega), if_neg (by omega), if_neg (by omega), if_neg (by omega), if_neg (by omega), if_neg (by omega), if_neg (by omega), if_neg (by omega)]
  rw [hr]
  by_cases hf : 3857 ≤ a ∧ a ≤ 3860
  · rw [if_pos hf]; exact read_fix st en ve sc ep ca va co a ln hf w
  rw [if_neg hf]
  have hp : plainI a = none := by unfold plainI; rw [if_neg (by omega), if_neg (by omega), if_neg (by omega)]
  have hm : maskI a = none := by unfold maskI; rw [if_neg (by omega), if_neg (by omega), if_neg (by omega), if_neg (by omega)]
  have hh : halfI a = none := by unfold halfI; rw [if_neg (by omega), if_neg (by omega)]
  have n1 : (a == 769) = false := by rw [Bool.eq_false_iff]; simp; omega
  have n2 : (a == 836) = false := by rw [Bool.eq_false_iff]; simp; omega
  exact read_none st en ve sc ep ca va co a ln hf hp hm hh n1 n2 w
theorem write_any (s : St) (hs : s.ok) (a : Int) (v : Nat) (hv : v < 4294967296) (w : World) :
    Calls Tryd.prog 78 #[s.v, .int .i64 a, .int .u32 v] w fun e w' => e = .returned (writeR (writeV s a v)) ∧ Below w.heap.size w w' := by
  obtain ⟨st, en, ve, sc, ep, ca, va, co⟩ := s
  obtain ⟨g1, g2, g3, g4, g5, g6, g7, g8⟩ := hs
  simp only at g1 g2 g3 g4 g5 g6 g7 g8
  by_cases c832 : a = 832
  · subst c832; exact write_832 st en ve sc ep ca va co g1 g2 g3 g4 g5 g6 g7 g8 v hv w
  by_cases c834 : a = 834
  · subst c834; exact write_834 st en ve sc ep ca va co g1 g2 g3 g4 g5 g6 g7 g8 v hv w
  by_cases c835 : a = 835
  · subst c835; exact write_835 st en ve sc ep ca va co g1 g2 g3 g4 g5 g6 g7 g8 v hv w
  by_cases c768 : a = 768
  · subst c768; exact write_768 st en ve sc ep ca va co g1 g2 g3 g4 g5 g6 g7 g8 v hv w
  by_cases c772 : a = 772
  · subst c772; exact write_772 st en ve sc ep ca va co g1 g2 g3 g4 g5 g6 g7 g8 v hv w
  by_cases c773 : a = 773
  · subst c773; exact write_773 st en ve sc ep ca va co g1 g2 g3 g4 g5 g6 g7 g8 v hv w
  by_cases c833 : a = 833
  · subst c833; exact write_833 st en ve sc ep ca va co g1 g2 g3 g4 g5 g6 g7 g8 v hv w
  by_cases c2816 : a = 2816
  · subst c2816; exact write_2816 st en ve sc ep ca va co g1 g2 g3 g4 g5 g6 g7 g8 v hv w
  by_cases c2818 : a = 2818
  · subst c2818; exact write_2818 st en ve sc ep ca va co g1 g2 g3 g4 g5 g6 g7 g8 v hv w
  by_cases c2944 : a = 2944
  · subst c2944; exact write_2944 st en ve sc ep ca va co g1 g2 g3 g4 g5 g6 g7 g8 v hv w
  by_cases c2946 : a = 2946
  · subst c2946; exact write_2946 st en ve sc ep ca va co g1 g2 g3 g4 g5 g6 g7 g8 v hv w
  by_cases c769 : a = 769
  · subst c769; exact write_769 st en ve sc ep ca va co g1 g2 g3 g4 g5 g6 g7 g8 v hv w
  by_cases c836 : a = 836
  · subst c836; exact write_836 st en ve sc ep ca va co g1 g2 g3 g4 g5 g6 g7 g8 v hv w
  have hr : writeV ⟨st, en, ve, sc, ep, ca, va, co⟩ a v = if 3857 ≤ a ∧ a ≤ 3860 then (St.zero, 33) else (St.zero, 8) := by
    unfold writeV
    rw [if_neg (by omega), if_neg (by omega), if_neg (by omega), if_neg (by omega), if_neg (by omega), if_neg (by omega), if_neg (by omega), if_neg (by omega), if_neg (by omega), if_neg (by omega)]
  rw [hr]
  by_cases hf : 3857 ≤ a ∧ a ≤ 3860
  · rw [if_pos hf]; exact write_fix st en ve sc ep ca va co a v hf w
  rw [if_neg hf]
  have hp : plainI a = none := by unfold plainI; rw [if_neg (by omega), if_neg (by omega), if_neg (by omega)]
  have hm : maskI a = none := by unfold maskI; rw [if_neg (by omega), if_neg (by omega), if_neg (by omega), if_neg (by omega)]
  have hh : halfI a = none := by unfold halfI; rw [if_neg (by omega), if_neg (by omega)]
  have n1 : (a == 769) = false := by rw [Bool.eq_false_iff]; simp; omega
  have n2 : (a == 836) = false := by rw [Bool.eq_false_iff]; simp; omega
  exact write_none st en ve sc ep ca va co a v hf hp hm hh n1 n2 w

end Go.Proofs.YtphlgaklfibciaaDoor
