import Derived.Test.YteoblldopbeomaaAluA
import Derived.Below
import Derived.Deep.Draws
import Derived.Deep.AppendLies
import Derived.Maps.AppendAt
import Derived.OwnWalk
import Derived.Laws.BytesArg
import Derived.Laws.MakeOwn
import Derived.Laws.OwnMore
import Derived.Deep.OwnRows
import Derived.Tactics
import Derived.Lib.ConvBytes
import Derived.Laws.Slices
import Derived.WalkKit
import Derived.KernelRfl
import Derived.RowKit3
import Derived.Deep.LoopGhost
import Derived.Deep.QuietTactic
import Derived.BigQuiet
import Derived.WideLaws
import Derived.Deep.DeepCutAuto
import Derived.Deep.CutBlock
import Derived.Deep.RegionHeld3
import Derived.Laws.Rows
import Derived.Lib.AppendStr
import Derived.ArgAppend
import Derived.Laws.IdiomCopy
import Derived.OrdersHeld
import Derived.Laws.BitsLemmas
import Derived.RowKit
import Derived.Lib.Hide
import Derived.Laws.BitsAllLaws
import Derived.WalkLawsBesides
import Derived.WalkSpells
import Derived.LaidEql
namespace Go.Proofs.Yteoblldopbeomaa
open Go.RowKit
set_option maxRecDepth 100000
set_option linter.unusedVariables false
set_option linter.unusedSimpArgs false

theorem do_div (a b : Nat) (ha : a < 4294967296) (hb : b < 4294967296) (w : World) : Calls Try.prog 37 #[.int .i64 14, .int .u32 a, .int .u32 b] w fun e w' => e = .returned (.tuple #[.int .u32 (partsQ a b true), .nilIface]) ∧ ∃ k, w.drewN k = w' := by
  have Wd := Lib.hid (fun x y w => wide_any a b ha hb x y w)
  have Pt := Lib.hid (fun x w => parts_any a b ha hb x w)
  clear ha hb
  go_enter Try.func37, Try.ntmps37
  go_wp2_with (first | (go_at_call 31; refine (Wd.out _ _ _).mono ?_; rintro e w' ⟨rfl, rfl⟩) | (go_at_call 34; refine (Pt.out _ _).mono ?_; rintro e w' ⟨rfl, k, rfl⟩))
  go_ret2
  exact ⟨rfl, _, rfl⟩
theorem do_rem (a b : Nat) (ha : a < 4294967296) (hb : b < 4294967296) (w : World) : Calls Try.prog 37 #[.int .i64 16, .int .u32 a, .int .u32 b] w fun e w' => e = .returned (.tuple #[.int .u32 (partsR a b true), .nilIface]) ∧ ∃ k, w.drewN k = w' := by
  have Wd := Lib.hid (fun x y w => wide_any a b ha hb x y w)
  have Pt := Lib.hid (fun x w => parts_any a b ha hb x w)
  clear ha hb
  go_enter Try.func37, Try.ntmps37
  go_wp2_with (first | (go_at_call 31; refine (Wd.out _ _ _).mono ?_; rintro e w' ⟨rfl, rfl⟩) | (go_at_call 34; refine (Pt.out _ _).mono ?_; rintro e w' ⟨rfl, k, rfl⟩))
  go_ret2
  exact ⟨rfl, _, rfl⟩
theorem sureA_div (w : World) : Calls Try.prog 37 #[.int .i64 14, .int .u32 4294967289, .int .u32 2] w fun e w' => e = .returned (.tuple #[.int .u32 4294967293, .nilIface]) ∧ ∃ k, w.drewN k = w' :=
  (do_div 4294967289 2 (by omega) (by omega) w).mono fun e w' h => ⟨by rw [h.1, show partsQ 4294967289 2 true = 4294967293 from by decide +kernel], h.2⟩
theorem sureA_rem (w : World) : Calls Try.prog 37 #[.int .i64 16, .int .u32 4294967289, .int .u32 2] w fun e w' => e = .returned (.tuple #[.int .u32 4294967295, .nilIface]) ∧ ∃ k, w.drewN k = w' :=
  (do_rem 4294967289 2 (by omega) (by omega) w).mono fun e w' h => ⟨by rw [h.1, show partsR 4294967289 2 true = 4294967295 from by decide +kernel], h.2⟩
theorem sureA_any (w : World) : Calls Try.prog 33 #[] w fun e w' => e = .returned (.bool true) ∧ ∃ k, w.drewN k = w' := by
  go_enter Try.func33, Try.ntmps33
  go_wp2_with (go_at_call 37; first | ((with_reducible refine (sureA_div _).mono ?_); rintro e w' ⟨rfl, k1, rfl⟩) | ((with_reducible refine (sureA_rem _).mono ?_); rintro e w' ⟨rfl, k2, rfl⟩))
  go_ret
  exact ⟨rfl, _, rfl⟩
theorem aluParts_walk (a : Nat) (ha : a < 4294967296) (b : Nat) (hb : b < 4294967296) (s : Bool) (w : World) : Calls Try.prog 10 #[.int .u32 a, .int .u32 b, .bool s] w fun e w' => e = .returned (.bool true) ∧ Below w.heap.size w w' := by
  have P := Lib.hid (fun w => parts_any a b ha hb s w)
  have R := Lib.hid (fun w => rparts_any a b ha hb s w)
  clear ha hb
  go_enter Try.func10, Try.ntmps10
  go_wp2_with (first | (go_at_call 34; refine (P.out _).mono ?_; rintro e w' ⟨rfl, k1, rfl⟩) | (go_at_call 35; refine (R.out _).mono ?_; rintro e w' ⟨rfl, rfl⟩) | (go_at_call 33; refine (sureA_any _).mono ?_; rintro e w' ⟨rfl, k2, rfl⟩))
  go_ret
  exact ⟨rfl, below_drewN (Below.refl _ _) _⟩
theorem aluWide_walk (a : Nat) (ha : a < 4294967296) (b : Nat) (hb : b < 4294967296) (s t : Bool) (w : World) : Calls Try.prog 9 #[.int .u32 a, .int .u32 b, .agg #[.bool s, .bool t]] w fun e w' => e = .returned (.bool true) ∧ Below w.heap.size w w' := by
  have P := Lib.hid (fun w => wide_any a b ha hb s t w)
  have R := Lib.hid (fun w => wide_ref a b ha hb s t w)
  clear ha hb
  go_enter Try.func9, Try.ntmps9
  go_wp2_with (first | (go_at_call 31; refine (P.out _).mono ?_; rintro e w' ⟨rfl, rfl⟩) | (go_at_call 32; refine (R.out _).mono ?_; rintro e w' ⟨rfl, rfl⟩) | (go_at_call 33; refine (sureA_any _).mono ?_; rintro e w' ⟨rfl, k2, rfl⟩))
  go_ret
  exact ⟨rfl, below_drewN ((Below.refl _ _).alloc (Nat.le_refl _) _) _⟩

end Go.Proofs.Yteoblldopbeomaa
