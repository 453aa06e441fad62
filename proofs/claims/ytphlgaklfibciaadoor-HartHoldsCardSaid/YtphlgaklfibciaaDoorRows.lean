/-
  NARROWER THAN 'FOR EVERY INPUT', by the rows' own cells (each row's printed sentence says how): InstDecodes: laid · HartHolds: laid · HartBegins: laid.
  DERIVED. THE GIVEN ROWS OF THIS SEAT. 3 by the template 'for every input the law returns true; each argument reads behind the call as it read before'; 0 by the template 'total and deterministic' (their statements: YtphlgaklfibciaaDoorTotals.lean).
  GIVEN WITH THE SEED: the statements are not yours to turn. If you find one false, say at which input.
  Laid BY PROGRAM, IN A SANDBOX (cutbox-rows.mjs): the forced cells as the released guide's own fill.sh prints them over the translation 17926fcace93ee6b… (all of the seat's roots in one cut). By AI agents, Wed Nov 11 2026. No macro, syntax, notation, axiom, sorry.
-/
import Derived.Test.YtphlgaklfibciaaDoorChecked
import GoSem.Claim
import GoSem.ClaimJoined
import GoSem.ClaimMapViews
import Derived.JoinedTies
import Derived.KernelRfl
namespace Go.Proofs.YtphlgaklfibciaaDoor
/- THE CELL 'sum', in the pinned program and in every row, IS THE sha256 OF THE DUMP (.gsa) THAT YtphlgaklfibciaaDoorProg.lean LOADS. Nothing in Lean hashes anything: it is a label: what it is worth is what the hold of that sum in a sandbox is worth. -/
noncomputable def Tryd.pinned : Pinned := { name := "ytphlgaklfibciaadoor", sum := "17926fcace93ee6bba4d222283570e6dc0f1eb0b5aa193d4576830c0124e1dbe", checked := Tryd.checked }
namespace Rows
def none {H : Type} : Left H := { results := [], args := [] }

/- WHAT THE LISTED PACKAGE-LEVEL VARIABLES READ AS WHEN THE CALL BEGINS. Each datum BY PROGRAM (the guide's laid-datum.mjs) off the statement by which the dump's own 'gosem.cut.vars' lays the variable. In a bare row this is a premise. The card (YtphlgaklfibciaaDoorCards.lean) ties it to the program's text. -/
def laid_errors_errorType {H : Type} : DataW H := .iface "internal/reflectlite.rtype" (.agg [.ptr (.lit (.string [101, 114, 114, 111, 114]))])
def laid_pinnace_inst_names {H : Type} : DataW H := .agg [.lit (.string [108, 117, 105]), .lit (.string [97, 117, 105, 112, 99]), .lit (.string [106, 97, 108]), .lit (.string [106, 97, 108, 114]), .lit (.string [98, 101, 113]), .lit (.string [98, 110, 101]), .lit (.string [98, 108, 116]), .lit (.string [98, 103, 101]), .lit (.string [98, 108, 116, 117]), .lit (.string [98, 103, 101, 117]), .lit (.string [108, 98]), .lit (.string [108, 104]), .lit (.string [108, 119]), .lit (.string [108, 98, 117]), .lit (.string [108, 104, 117]), .lit (.string [115, 98]), .lit (.string [115, 104]), .lit (.string [115, 119]), .lit (.string [97, 100, 100, 105]), .lit (.string [115, 108, 116, 105]), .lit (.string [115, 108, 116, 105, 117]), .lit (.string [120, 111, 114, 105]), .lit (.string [111, 114, 105]), .lit (.string [97, 110, 100, 105]), .lit (.string [115, 108, 108, 105]), .lit (.string [115, 114, 108, 105]), .lit (.string [115, 114, 97, 105]), .lit (.string [97, 100, 100]), .lit (.string [115, 117, 98]), .lit (.string [115, 108, 108]), .lit (.string [115, 108, 116]), .lit (.string [115, 108, 116, 117]), .lit (.string [120, 111, 114]), .lit (.string [115, 114, 108]), .lit (.string [115, 114, 97]), .lit (.string [111, 114]), .lit (.string [97, 110, 100]), .lit (.string [109, 117, 108]), .lit (.string [109, 117, 108, 104]), .lit (.string [109, 117, 108, 104, 115, 117]), .lit (.string [109, 117, 108, 104, 117]), .lit (.string [100, 105, 118]), .lit (.string [100, 105, 118, 117]), .lit (.string [114, 101, 109]), .lit (.string [114, 101, 109, 117]), .lit (.string [102, 101, 110, 99, 101]), .lit (.string [102, 101, 110, 99, 101, 46, 105]), .lit (.string [101, 99, 97, 108, 108]), .lit (.string [101, 98, 114, 101, 97, 107]), .lit (.string [109, 114, 101, 116]), .lit (.string [119, 102, 105]), .lit (.string [99, 115, 114, 114, 119]), .lit (.string [99, 115, 114, 114, 115]), .lit (.string [99, 115, 114, 114, 99]), .lit (.string [99, 115, 114, 114, 119, 105]), .lit (.string [99, 115, 114, 114, 115, 105]), .lit (.string [99, 115, 114, 114, 99, 105])]
def laid_pinnace_inst_words {H : Type} : DataW H := .agg [.lit (.int .u32 55), .lit (.int .u32 23), .lit (.int .u32 111), .lit (.int .u32 103), .lit (.int .u32 99), .lit (.int .u32 4195), .lit (.int .u32 16483), .lit (.int .u32 20579), .lit (.int .u32 24675), .lit (.int .u32 28771), .lit (.int .u32 3), .lit (.int .u32 4099), .lit (.int .u32 8195), .lit (.int .u32 16387), .lit (.int .u32 20483), .lit (.int .u32 35), .lit (.int .u32 4131), .lit (.int .u32 8227), .lit (.int .u32 19), .lit (.int .u32 8211), .lit (.int .u32 12307), .lit (.int .u32 16403), .lit (.int .u32 24595), .lit (.int .u32 28691), .lit (.int .u32 4115), .lit (.int .u32 20499), .lit (.int .u32 1073762323), .lit (.int .u32 51), .lit (.int .u32 1073741875), .lit (.int .u32 4147), .lit (.int .u32 8243), .lit (.int .u32 12339), .lit (.int .u32 16435), .lit (.int .u32 20531), .lit (.int .u32 1073762355), .lit (.int .u32 24627), .lit (.int .u32 28723), .lit (.int .u32 33554483), .lit (.int .u32 33558579), .lit (.int .u32 33562675), .lit (.int .u32 33566771), .lit (.int .u32 33570867), .lit (.int .u32 33574963), .lit (.int .u32 33579059), .lit (.int .u32 33583155), .lit (.int .u32 15), .lit (.int .u32 4111), .lit (.int .u32 115), .lit (.int .u32 1048691), .lit (.int .u32 807403635), .lit (.int .u32 273678451), .lit (.int .u32 4211), .lit (.int .u32 8307), .lit (.int .u32 12403), .lit (.int .u32 20595), .lit (.int .u32 24691), .lit (.int .u32 28787)]

/-- 'pinnacelaw03.InstDecodes': WHATEVER THE INPUT: true; the input reads as it did. -/
def instDecodesSpec : ChangeSpec := { name := "instDecodes", fn := fun _ => fun
  | [d] => { results := [.lit (.bool true)], args := [d] }
  | _ => none }
def instDecodesRow : OpenClaim := { program := "ytphlgaklfibciaadoor", sum := "17926fcace93ee6bba4d222283570e6dc0f1eb0b5aa193d4576830c0124e1dbe", func := "pinnace/pinnacelaw03.InstDecodes", spec := "instDecodes", inPlace := ["internal/reflectlite.ValueOf", "(internal/reflectlite.Value).Type", "(internal/reflectlite.Value).IsNil", "internal/reflectlite.TypeOf", "(internal/reflectlite.Value).Elem", "(internal/reflectlite.Value).Set"], unfollowed := true, recurses := true, named := ["pinnace/inst.words", "errors.errorType", "pinnace/inst.names"], apart := false, laid := [("errors.errorType", laid_errors_errorType), ("pinnace/inst.names", laid_pinnace_inst_names), ("pinnace/inst.words", laid_pinnace_inst_words)] }
def InstDecodesSaid : Prop := instDecodesRow.holds Tryd.pinned (OpenSpec.ofChange instDecodesSpec)

/-- ITS FALSE NEIGHBOUR: 'it returns false'. Refute it at one input. -/
def instDecodesWrong : ChangeSpec := { name := "instDecodes", fn := fun _ => fun
  | [d] => { results := [.lit (.bool false)], args := [d] }
  | _ => none }
def InstDecodesWrongFalsely : Prop := instDecodesRow.holds Tryd.pinned (OpenSpec.ofChange instDecodesWrong)

/-- 'pinnacelaw08.HartHolds': WHATEVER THE INPUT: true; the input reads as it did. -/
def hartHoldsSpec : ChangeSpec := { name := "hartHolds", fn := fun _ => fun
  | [d1, d2, d3] => { results := [.lit (.bool true)], args := [d1, d2, d3] }
  | _ => none }
def hartHoldsRow : OpenClaim := { program := "ytphlgaklfibciaadoor", sum := "17926fcace93ee6bba4d222283570e6dc0f1eb0b5aa193d4576830c0124e1dbe", func := "pinnace/pinnacelaw08.HartHolds", spec := "hartHolds", named := ["pinnace/inst.words"], apart := false, laid := [("pinnace/inst.words", laid_pinnace_inst_words)] }
def HartHoldsSaid : Prop := hartHoldsRow.holds Tryd.pinned (OpenSpec.ofChange hartHoldsSpec)

/-- ITS FALSE NEIGHBOUR: 'it returns false'. Refute it at one input. -/
def hartHoldsWrong : ChangeSpec := { name := "hartHolds", fn := fun _ => fun
  | [d1, d2, d3] => { results := [.lit (.bool false)], args := [d1, d2, d3] }
  | _ => none }
def HartHoldsWrongFalsely : Prop := hartHoldsRow.holds Tryd.pinned (OpenSpec.ofChange hartHoldsWrong)

/-- 'pinnacelaw08.HartBegins': WHATEVER THE INPUT: true; the input reads as it did. -/
def hartBeginsSpec : ChangeSpec := { name := "hartBegins", fn := fun _ => fun
  | [d1, d2, d3] => { results := [.lit (.bool true)], args := [d1, d2, d3] }
  | _ => none }
def hartBeginsRow : OpenClaim := { program := "ytphlgaklfibciaadoor", sum := "17926fcace93ee6bba4d222283570e6dc0f1eb0b5aa193d4576830c0124e1dbe", func := "pinnace/pinnacelaw08.HartBegins", spec := "hartBegins", inPlace := ["internal/reflectlite.ValueOf", "(internal/reflectlite.Value).Type", "(internal/reflectlite.Value).IsNil", "internal/reflectlite.TypeOf", "(internal/reflectlite.Value).Elem", "(internal/reflectlite.Value).Set"], unfollowed := true, recurses := true, named := ["errors.errorType", "pinnace/inst.words"], apart := false, laid := [("errors.errorType", laid_errors_errorType), ("pinnace/inst.words", laid_pinnace_inst_words)] }
def HartBeginsSaid : Prop := hartBeginsRow.holds Tryd.pinned (OpenSpec.ofChange hartBeginsSpec)

/-- ITS FALSE NEIGHBOUR: 'it returns false'. Refute it at one input. -/
def hartBeginsWrong : ChangeSpec := { name := "hartBegins", fn := fun _ => fun
  | [d1, d2, d3] => { results := [.lit (.bool false)], args := [d1, d2, d3] }
  | _ => none }
def HartBeginsWrongFalsely : Prop := hartBeginsRow.holds Tryd.pinned (OpenSpec.ofChange hartBeginsWrong)

/- THE SECOND FORM. 'bulk': how many values and letters a reading holds, each counted each time it is reached (what is shared counts as often as it is met; a slice's spare places count too). A statement '..UptoSaid' is the law's where the arguments, and the package variables that the reading takes, are together of bulk at most 1048576: NARROWER than '..Said'. Prove '..Said' where nothing that the law and all that it calls make is longer than what came in: it says more and counts as full. Else prove '..UptoSaid'. A law counts once. -/
mutual
def uptoBulk {H : Type} : DataW H → Nat
  | .lit (.string bytes) => bytes.length + 1
  | .lit _ => 1
  | .nil => 1
  | .ptr d => uptoBulk d + 1
  | .slice elems spare => uptoBulkAll elems + uptoBulkAll spare + 1
  | .agg parts => uptoBulkAll parts + 1
  | .iface _ d => uptoBulk d + 1
  | .map entries => uptoBulkEntries entries + 1
  | .held _ => 1
def uptoBulkAll {H : Type} : List (DataW H) → Nat
  | [] => 0
  | d :: r => uptoBulk d + uptoBulkAll r
def uptoBulkEntries {H : Type} : List (Lit × DataW H) → Nat
  | [] => 0
  | x :: r => uptoBulkEntry x + uptoBulkEntries r
def uptoBulkEntry {H : Type} : Lit × DataW H → Nat
  | (.string bytes, d) => bytes.length + uptoBulk d + 1
  | (_, d) => uptoBulk d + 1
 end
def uptoSmall : (H : Type) → List (DataW H) → Bool := fun _ ds => decide (uptoBulkAll ds ≤ 1048576)
def OpenSpec.upto (s : _root_.Go.ChangeSpec) : _root_.Go.OpenSpec := { _root_.Go.OpenSpec.ofChange s with cond := some uptoSmall }

/-- 'pinnacelaw03.InstDecodes', WHERE WHAT IT READS IS OF BULK AT MOST 1048576: true; the input reads as it did. -/
def instDecodesUptoRow : OpenClaim := { program := "ytphlgaklfibciaadoor", sum := "17926fcace93ee6bba4d222283570e6dc0f1eb0b5aa193d4576830c0124e1dbe", func := "pinnace/pinnacelaw03.InstDecodes", spec := "instDecodes", inPlace := ["internal/reflectlite.ValueOf", "(internal/reflectlite.Value).Type", "(internal/reflectlite.Value).IsNil", "internal/reflectlite.TypeOf", "(internal/reflectlite.Value).Elem", "(internal/reflectlite.Value).Set"], unfollowed := true, recurses := true, named := ["pinnace/inst.words", "errors.errorType", "pinnace/inst.names"], apart := false, laid := [("errors.errorType", laid_errors_errorType), ("pinnace/inst.names", laid_pinnace_inst_names), ("pinnace/inst.words", laid_pinnace_inst_words)], narrowed := true }
def InstDecodesUptoSaid : Prop := instDecodesUptoRow.holds Tryd.pinned (OpenSpec.upto instDecodesSpec)

/-- 'pinnacelaw08.HartHolds', WHERE WHAT IT READS IS OF BULK AT MOST 1048576: true; the input reads as it did. -/
def hartHoldsUptoRow : OpenClaim := { program := "ytphlgaklfibciaadoor", sum := "17926fcace93ee6bba4d222283570e6dc0f1eb0b5aa193d4576830c0124e1dbe", func := "pinnace/pinnacelaw08.HartHolds", spec := "hartHolds", named := ["pinnace/inst.words"], apart := false, laid := [("pinnace/inst.words", laid_pinnace_inst_words)], narrowed := true }
def HartHoldsUptoSaid : Prop := hartHoldsUptoRow.holds Tryd.pinned (OpenSpec.upto hartHoldsSpec)

/-- 'pinnacelaw08.HartBegins', WHERE WHAT IT READS IS OF BULK AT MOST 1048576: true; the input reads as it did. -/
def hartBeginsUptoRow : OpenClaim := { program := "ytphlgaklfibciaadoor", sum := "17926fcace93ee6bba4d222283570e6dc0f1eb0b5aa193d4576830c0124e1dbe", func := "pinnace/pinnacelaw08.HartBegins", spec := "hartBegins", inPlace := ["internal/reflectlite.ValueOf", "(internal/reflectlite.Value).Type", "(internal/reflectlite.Value).IsNil", "internal/reflectlite.TypeOf", "(internal/reflectlite.Value).Elem", "(internal/reflectlite.Value).Set"], unfollowed := true, recurses := true, named := ["errors.errorType", "pinnace/inst.words"], apart := false, laid := [("errors.errorType", laid_errors_errorType), ("pinnace/inst.words", laid_pinnace_inst_words)], narrowed := true }
def HartBeginsUptoSaid : Prop := hartBeginsUptoRow.holds Tryd.pinned (OpenSpec.upto hartBeginsSpec)

end Rows
end Go.Proofs.YtphlgaklfibciaaDoor
