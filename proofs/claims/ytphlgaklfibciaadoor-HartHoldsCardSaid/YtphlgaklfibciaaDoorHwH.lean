import Derived.Test.YtphlgaklfibciaaDoorHoN
import Derived.Test.YtphlgaklfibciaaDoorLaidW
import Derived.Below
import Derived.Deep.Draws
import Derived.Deep.AppendLies
import Derived.Maps.AppendAt
import Derived.OwnWalk
import Derived.Laws.BytesArg
import Derived.Laws.MakeOwn
import Derived.Laws.OwnMore
import Derived.Deep.OwnRows
import Derived.Tactics
import Derived.Lib.ConvBytes
import Derived.Laws.Slices
import Derived.WalkKit
import Derived.KernelRfl
import Derived.RowKit3
import Derived.Deep.LoopGhost
import Derived.Deep.QuietTactic
import Derived.BigQuiet
import Derived.WideLaws
import Derived.Deep.DeepCutAuto
import Derived.Deep.CutBlock
import Derived.Deep.RegionHeld3
import Derived.Laws.Rows
import Derived.Lib.AppendStr
import Derived.ArgAppend
import Derived.Laws.IdiomCopy
import Derived.OrdersHeld
import Derived.Laws.BitsLemmas
import Derived.RowKit
import Derived.Lib.Hide
import Derived.Laws.BitsAllLaws
import Derived.WalkLawsBesides
import Derived.WalkSpells
import Derived.LaidEql
namespace Go.Proofs.YtphlgaklfibciaaDoor
open Go.RowKit
set_option maxRecDepth 100000
set_option linter.unusedVariables false
set_option linter.unusedSimpArgs false

theorem hartHolds_walk (pc x0 x1 x2 x3 x4 x5 x6 x7 x8 x9 x10 x11 x12 x13 x14 x15 x16 x17 x18 x19 x20 x21 x22 x23 x24 x25 x26 x27 x28 x29 x30 x31 : Nat) (wt : Bool) (c0 c1 c2 c3 c4 c5 c6 c7 : Nat) (k_pc : pc < 4294967296) (k_x0 : x0 < 4294967296) (k_x1 : x1 < 4294967296) (k_x2 : x2 < 4294967296) (k_x3 : x3 < 4294967296) (k_x4 : x4 < 4294967296) (k_x5 : x5 < 4294967296) (k_x6 : x6 < 4294967296) (k_x7 : x7 < 4294967296) (k_x8 : x8 < 4294967296) (k_x9 : x9 < 4294967296) (k_x10 : x10 < 4294967296) (k_x11 : x11 < 4294967296) (k_x12 : x12 < 4294967296) (k_x13 : x13 < 4294967296) (k_x14 : x14 < 4294967296) (k_x15 : x15 < 4294967296) (k_x16 : x16 < 4294967296) (k_x17 : x17 < 4294967296) (k_x18 : x18 < 4294967296) (k_x19 : x19 < 4294967296) (k_x20 : x20 < 4294967296) (k_x21 : x21 < 4294967296) (k_x22 : x22 < 4294967296) (k_x23 : x23 < 4294967296) (k_x24 : x24 < 4294967296) (k_x25 : x25 < 4294967296) (k_x26 : x26 < 4294967296) (k_x27 : x27 < 4294967296) (k_x28 : x28 < 4294967296) (k_x29 : x29 < 4294967296) (k_x30 : x30 < 4294967296) (k_x31 : x31 < 4294967296) (k_c0 : c0 < 4294967296) (k_c1 : c1 < 4294967296) (k_c2 : c2 < 4294967296) (k_c3 : c3 < 4294967296) (k_c4 : c4 < 4294967296) (k_c5 : c5 < 4294967296) (k_c6 : c6 < 4294967296) (k7 : c7 < 18446744073709551616) (A1 : Option Addr) (n1 m1 : Nat) (f1 : Nat → Nat) (A2 : Option Addr) (n2 m2 : Nat) (f2 : Nat → Nat) (w : World) (B1 : WordsAt w A1 n1 m1 f1) (B2 : WordsAt w A2 n2 m2 f2) (hT : TabW w) :
    Calls Tryd.prog 4 #[.agg #[.int .u32 pc, .int .u32 x0, .int .u32 x1, .int .u32 x2, .int .u32 x3, .int .u32 x4, .int .u32 x5, .int .u32 x6, .int .u32 x7, .int .u32 x8, .int .u32 x9, .int .u32 x10, .int .u32 x11, .int .u32 x12, .int .u32 x13, .int .u32 x14, .int .u32 x15, .int .u32 x16, .int .u32 x17, .int .u32 x18, .int .u32 x19, .int .u32 x20, .int .u32 x21, .int .u32 x22, .int .u32 x23, .int .u32 x24, .int .u32 x25, .int .u32 x26, .int .u32 x27, .int .u32 x28, .int .u32 x29, .int .u32 x30, .int .u32 x31, .bool wt, .int .u32 c0, .int .u32 c1, .int .u32 c2, .int .u32 c3, .int .u32 c4, .int .u32 c5, .int .u32 c6, .int .u64 c7], .slice A1 n1 m1, .slice A2 n2 m2] w fun e w' => e = .returned (.bool true) ∧ Below w.heap.size w w' := by
  have hk : HS.ok ⟨pc, fun j => [x0, x1, x2, x3, x4, x5, x6, x7, x8, x9, x10, x11, x12, x13, x14, x15, x16, x17, x18, x19, x20, x21, x22, x23, x24, x25, x26, x27, x28, x29, x30, x31].getD j 0, wt, ⟨c0, c1, c2, c3, c4, c5, c6, c7⟩⟩ := ⟨k_pc, fun j hj => by
    rcases lt32c hj with rfl | rfl | rfl | rfl | rfl | rfl | rfl | rfl | rfl | rfl | rfl | rfl | rfl | rfl | rfl | rfl | rfl | rfl | rfl | rfl | rfl | rfl | rfl | rfl | rfl | rfl | rfl | rfl | rfl | rfl | rfl | rfl <;> assumption, ⟨k_c0, k_c1, k_c2, k_c3, k_c4, k_c5, k_c6, k7⟩⟩
  exact hartHolds_h _ hk A1 n1 m1 f1 A2 n2 m2 f2 w B1 B2 hT

end Go.Proofs.YtphlgaklfibciaaDoor
