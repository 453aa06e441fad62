/-
  No cell of these rows narrows 'for every input' (looked for: loops, veiled, ifaces, maps, wideKeys, modest, calm, conditions, laid).
  DERIVED. THE GIVEN ROWS OF THIS SEAT. 9 by the template 'for every input the law returns true; each argument reads behind the call as it read before'; 0 by the template 'total and deterministic' (their statements: YtgbpalclapcfeaaTotals.lean).
  GIVEN WITH THE SEED: the statements are not yours to turn. If you find one false, say at which input.
  Laid BY PROGRAM, IN A SANDBOX (cutbox-rows.mjs): the forced cells as the released guide's own fill.sh prints them over the translation 3c5a98cdb8b2a02b… (all of the seat's roots in one cut). By AI agents, Wed Nov 11 2026. No macro, syntax, notation, axiom, sorry.
-/
import Derived.Test.YtgbpalclapcfeaaChecked
import GoSem.Claim
import GoSem.ClaimJoined
import GoSem.ClaimMapViews
import Derived.JoinedTies
import Derived.KernelRfl
namespace Go.Proofs.Ytgbpalclapcfeaa
/- THE CELL 'sum', in the pinned program and in every row, IS THE sha256 OF THE DUMP (.gsa) THAT YtgbpalclapcfeaaProg.lean LOADS. Nothing in Lean hashes anything: it is a label: what it is worth is what the hold of that sum in a sandbox is worth. -/
noncomputable def Try.pinned : Pinned := { name := "ytgbpalclapcfeaa", sum := "3c5a98cdb8b2a02b1e559fa4c36c5df78738736be04e4faf6574f72fe0249abd", checked := Try.checked }
namespace Rows
def none {H : Type} : Left H := { results := [], args := [] }

/-- 'pinnacelaw05.CsrTraps': WHATEVER THE INPUT: true; the input reads as it did. -/
def csrTrapsSpec : ChangeSpec := { name := "csrTraps", fn := fun _ => fun
  | [d1, d2] => { results := [.lit (.bool true)], args := [d1, d2] }
  | _ => none }
def csrTrapsRow : OpenClaim := { program := "ytgbpalclapcfeaa", sum := "3c5a98cdb8b2a02b1e559fa4c36c5df78738736be04e4faf6574f72fe0249abd", func := "pinnace/pinnacelaw05.CsrTraps", spec := "csrTraps", apart := false }
def CsrTrapsSaid : Prop := csrTrapsRow.holds Try.pinned (OpenSpec.ofChange csrTrapsSpec)

/-- ITS FALSE NEIGHBOUR: 'it returns false'. Refute it at one input. -/
def csrTrapsWrong : ChangeSpec := { name := "csrTraps", fn := fun _ => fun
  | [d1, d2] => { results := [.lit (.bool false)], args := [d1, d2] }
  | _ => none }
def CsrTrapsWrongFalsely : Prop := csrTrapsRow.holds Try.pinned (OpenSpec.ofChange csrTrapsWrong)

/-- 'pinnacelaw05.CsrAsks': WHATEVER THE INPUT: true; the input reads as it did. -/
def csrAsksSpec : ChangeSpec := { name := "csrAsks", fn := fun _ => fun
  | [d1, d2] => { results := [.lit (.bool true)], args := [d1, d2] }
  | _ => none }
def csrAsksRow : OpenClaim := { program := "ytgbpalclapcfeaa", sum := "3c5a98cdb8b2a02b1e559fa4c36c5df78738736be04e4faf6574f72fe0249abd", func := "pinnace/pinnacelaw05.CsrAsks", spec := "csrAsks", apart := false }
def CsrAsksSaid : Prop := csrAsksRow.holds Try.pinned (OpenSpec.ofChange csrAsksSpec)

/-- ITS FALSE NEIGHBOUR: 'it returns false'. Refute it at one input. -/
def csrAsksWrong : ChangeSpec := { name := "csrAsks", fn := fun _ => fun
  | [d1, d2] => { results := [.lit (.bool false)], args := [d1, d2] }
  | _ => none }
def CsrAsksWrongFalsely : Prop := csrAsksRow.holds Try.pinned (OpenSpec.ofChange csrAsksWrong)

/-- 'pinnacelaw05.CsrReturns': WHATEVER THE INPUT: true; the input reads as it did. -/
def csrReturnsSpec : ChangeSpec := { name := "csrReturns", fn := fun _ => fun
  | [d1, d2] => { results := [.lit (.bool true)], args := [d1, d2] }
  | _ => none }
def csrReturnsRow : OpenClaim := { program := "ytgbpalclapcfeaa", sum := "3c5a98cdb8b2a02b1e559fa4c36c5df78738736be04e4faf6574f72fe0249abd", func := "pinnace/pinnacelaw05.CsrReturns", spec := "csrReturns", apart := false }
def CsrReturnsSaid : Prop := csrReturnsRow.holds Try.pinned (OpenSpec.ofChange csrReturnsSpec)

/-- ITS FALSE NEIGHBOUR: 'it returns false'. Refute it at one input. -/
def csrReturnsWrong : ChangeSpec := { name := "csrReturns", fn := fun _ => fun
  | [d1, d2] => { results := [.lit (.bool false)], args := [d1, d2] }
  | _ => none }
def CsrReturnsWrongFalsely : Prop := csrReturnsRow.holds Try.pinned (OpenSpec.ofChange csrReturnsWrong)

/-- 'pinnacelaw05.CsrBack': WHATEVER THE INPUT: true; the input reads as it did. -/
def csrBackSpec : ChangeSpec := { name := "csrBack", fn := fun _ => fun
  | [d1, d2, d3] => { results := [.lit (.bool true)], args := [d1, d2, d3] }
  | _ => none }
def csrBackRow : OpenClaim := { program := "ytgbpalclapcfeaa", sum := "3c5a98cdb8b2a02b1e559fa4c36c5df78738736be04e4faf6574f72fe0249abd", func := "pinnace/pinnacelaw05.CsrBack", spec := "csrBack", apart := false }
def CsrBackSaid : Prop := csrBackRow.holds Try.pinned (OpenSpec.ofChange csrBackSpec)

/-- ITS FALSE NEIGHBOUR: 'it returns false'. Refute it at one input. -/
def csrBackWrong : ChangeSpec := { name := "csrBack", fn := fun _ => fun
  | [d1, d2, d3] => { results := [.lit (.bool false)], args := [d1, d2, d3] }
  | _ => none }
def CsrBackWrongFalsely : Prop := csrBackRow.holds Try.pinned (OpenSpec.ofChange csrBackWrong)

/-- 'pinnacelaw05.CsrHalves': WHATEVER THE INPUT: true; the input reads as it did. -/
def csrHalvesSpec : ChangeSpec := { name := "csrHalves", fn := fun _ => fun
  | [d1, d2, d3] => { results := [.lit (.bool true)], args := [d1, d2, d3] }
  | _ => none }
def csrHalvesRow : OpenClaim := { program := "ytgbpalclapcfeaa", sum := "3c5a98cdb8b2a02b1e559fa4c36c5df78738736be04e4faf6574f72fe0249abd", func := "pinnace/pinnacelaw05.CsrHalves", spec := "csrHalves", apart := false }
def CsrHalvesSaid : Prop := csrHalvesRow.holds Try.pinned (OpenSpec.ofChange csrHalvesSpec)

/-- ITS FALSE NEIGHBOUR: 'it returns false'. Refute it at one input. -/
def csrHalvesWrong : ChangeSpec := { name := "csrHalves", fn := fun _ => fun
  | [d1, d2, d3] => { results := [.lit (.bool false)], args := [d1, d2, d3] }
  | _ => none }
def CsrHalvesWrongFalsely : Prop := csrHalvesRow.holds Try.pinned (OpenSpec.ofChange csrHalvesWrong)

/-- 'pinnacelaw05.CsrHolds': WHATEVER THE INPUT: true; the input reads as it did. -/
def csrHoldsSpec : ChangeSpec := { name := "csrHolds", fn := fun _ => fun
  | [d1, d2, d3] => { results := [.lit (.bool true)], args := [d1, d2, d3] }
  | _ => none }
def csrHoldsRow : OpenClaim := { program := "ytgbpalclapcfeaa", sum := "3c5a98cdb8b2a02b1e559fa4c36c5df78738736be04e4faf6574f72fe0249abd", func := "pinnace/pinnacelaw05.CsrHolds", spec := "csrHolds", apart := false }
def CsrHoldsSaid : Prop := csrHoldsRow.holds Try.pinned (OpenSpec.ofChange csrHoldsSpec)

/-- ITS FALSE NEIGHBOUR: 'it returns false'. Refute it at one input. -/
def csrHoldsWrong : ChangeSpec := { name := "csrHolds", fn := fun _ => fun
  | [d1, d2, d3] => { results := [.lit (.bool false)], args := [d1, d2, d3] }
  | _ => none }
def CsrHoldsWrongFalsely : Prop := csrHoldsRow.holds Try.pinned (OpenSpec.ofChange csrHoldsWrong)

/-- 'pinnacelaw01.WordBack': WHATEVER THE INPUT: true; the input reads as it did. -/
def wordBackSpec : ChangeSpec := { name := "wordBack", fn := fun _ => fun
  | [d1, d2, d3] => { results := [.lit (.bool true)], args := [d1, d2, d3] }
  | _ => none }
def wordBackRow : OpenClaim := { program := "ytgbpalclapcfeaa", sum := "3c5a98cdb8b2a02b1e559fa4c36c5df78738736be04e4faf6574f72fe0249abd", func := "pinnace/pinnacelaw01.WordBack", spec := "wordBack", unfollowed := true, recurses := true, apart := false }
def WordBackSaid : Prop := wordBackRow.holds Try.pinned (OpenSpec.ofChange wordBackSpec)

/-- ITS FALSE NEIGHBOUR: 'it returns false'. Refute it at one input. -/
def wordBackWrong : ChangeSpec := { name := "wordBack", fn := fun _ => fun
  | [d1, d2, d3] => { results := [.lit (.bool false)], args := [d1, d2, d3] }
  | _ => none }
def WordBackWrongFalsely : Prop := wordBackRow.holds Try.pinned (OpenSpec.ofChange wordBackWrong)

/-- 'pinnacelaw01.WordSets': WHATEVER THE INPUT: true; the input reads as it did. -/
def wordSetsSpec : ChangeSpec := { name := "wordSets", fn := fun _ => fun
  | [d1, d2, d3] => { results := [.lit (.bool true)], args := [d1, d2, d3] }
  | _ => none }
def wordSetsRow : OpenClaim := { program := "ytgbpalclapcfeaa", sum := "3c5a98cdb8b2a02b1e559fa4c36c5df78738736be04e4faf6574f72fe0249abd", func := "pinnace/pinnacelaw01.WordSets", spec := "wordSets", unfollowed := true, recurses := true, apart := false }
def WordSetsSaid : Prop := wordSetsRow.holds Try.pinned (OpenSpec.ofChange wordSetsSpec)

/-- ITS FALSE NEIGHBOUR: 'it returns false'. Refute it at one input. -/
def wordSetsWrong : ChangeSpec := { name := "wordSets", fn := fun _ => fun
  | [d1, d2, d3] => { results := [.lit (.bool false)], args := [d1, d2, d3] }
  | _ => none }
def WordSetsWrongFalsely : Prop := wordSetsRow.holds Try.pinned (OpenSpec.ofChange wordSetsWrong)

/-- 'pinnacelaw01.WordFields': WHATEVER THE INPUT: true; the input reads as it did. -/
def wordFieldsSpec : ChangeSpec := { name := "wordFields", fn := fun _ => fun
  | [d1, d2, d3] => { results := [.lit (.bool true)], args := [d1, d2, d3] }
  | _ => none }
def wordFieldsRow : OpenClaim := { program := "ytgbpalclapcfeaa", sum := "3c5a98cdb8b2a02b1e559fa4c36c5df78738736be04e4faf6574f72fe0249abd", func := "pinnace/pinnacelaw01.WordFields", spec := "wordFields", unfollowed := true, recurses := true, apart := false }
def WordFieldsSaid : Prop := wordFieldsRow.holds Try.pinned (OpenSpec.ofChange wordFieldsSpec)

/-- ITS FALSE NEIGHBOUR: 'it returns false'. Refute it at one input. -/
def wordFieldsWrong : ChangeSpec := { name := "wordFields", fn := fun _ => fun
  | [d1, d2, d3] => { results := [.lit (.bool false)], args := [d1, d2, d3] }
  | _ => none }
def WordFieldsWrongFalsely : Prop := wordFieldsRow.holds Try.pinned (OpenSpec.ofChange wordFieldsWrong)

/- THE SECOND FORM. 'bulk': how many values and letters a reading holds, each counted each time it is reached (what is shared counts as often as it is met; a slice's spare places count too). A statement '..UptoSaid' is the law's where the arguments, and the package variables that the reading takes, are together of bulk at most 1048576: NARROWER than '..Said'. Prove '..Said' where nothing that the law and all that it calls make is longer than what came in: it says more and counts as full. Else prove '..UptoSaid'. A law counts once. -/
mutual
def uptoBulk {H : Type} : DataW H → Nat
  | .lit (.string bytes) => bytes.length + 1
  | .lit _ => 1
  | .nil => 1
  | .ptr d => uptoBulk d + 1
  | .slice elems spare => uptoBulkAll elems + uptoBulkAll spare + 1
  | .agg parts => uptoBulkAll parts + 1
  | .iface _ d => uptoBulk d + 1
  | .map entries => uptoBulkEntries entries + 1
  | .held _ => 1
def uptoBulkAll {H : Type} : List (DataW H) → Nat
  | [] => 0
  | d :: r => uptoBulk d + uptoBulkAll r
def uptoBulkEntries {H : Type} : List (Lit × DataW H) → Nat
  | [] => 0
  | x :: r => uptoBulkEntry x + uptoBulkEntries r
def uptoBulkEntry {H : Type} : Lit × DataW H → Nat
  | (.string bytes, d) => bytes.length + uptoBulk d + 1
  | (_, d) => uptoBulk d + 1
 end
def uptoSmall : (H : Type) → List (DataW H) → Bool := fun _ ds => decide (uptoBulkAll ds ≤ 1048576)
def OpenSpec.upto (s : _root_.Go.ChangeSpec) : _root_.Go.OpenSpec := { _root_.Go.OpenSpec.ofChange s with cond := some uptoSmall }

/-- 'pinnacelaw05.CsrTraps', WHERE WHAT IT READS IS OF BULK AT MOST 1048576: true; the input reads as it did. -/
def csrTrapsUptoRow : OpenClaim := { program := "ytgbpalclapcfeaa", sum := "3c5a98cdb8b2a02b1e559fa4c36c5df78738736be04e4faf6574f72fe0249abd", func := "pinnace/pinnacelaw05.CsrTraps", spec := "csrTraps", apart := false, narrowed := true }
def CsrTrapsUptoSaid : Prop := csrTrapsUptoRow.holds Try.pinned (OpenSpec.upto csrTrapsSpec)

/-- 'pinnacelaw05.CsrAsks', WHERE WHAT IT READS IS OF BULK AT MOST 1048576: true; the input reads as it did. -/
def csrAsksUptoRow : OpenClaim := { program := "ytgbpalclapcfeaa", sum := "3c5a98cdb8b2a02b1e559fa4c36c5df78738736be04e4faf6574f72fe0249abd", func := "pinnace/pinnacelaw05.CsrAsks", spec := "csrAsks", apart := false, narrowed := true }
def CsrAsksUptoSaid : Prop := csrAsksUptoRow.holds Try.pinned (OpenSpec.upto csrAsksSpec)

/-- 'pinnacelaw05.CsrReturns', WHERE WHAT IT READS IS OF BULK AT MOST 1048576: true; the input reads as it did. -/
def csrReturnsUptoRow : OpenClaim := { program := "ytgbpalclapcfeaa", sum := "3c5a98cdb8b2a02b1e559fa4c36c5df78738736be04e4faf6574f72fe0249abd", func := "pinnace/pinnacelaw05.CsrReturns", spec := "csrReturns", apart := false, narrowed := true }
def CsrReturnsUptoSaid : Prop := csrReturnsUptoRow.holds Try.pinned (OpenSpec.upto csrReturnsSpec)

/-- 'pinnacelaw05.CsrBack', WHERE WHAT IT READS IS OF BULK AT MOST 1048576: true; the input reads as it did. -/
def csrBackUptoRow : OpenClaim := { program := "ytgbpalclapcfeaa", sum := "3c5a98cdb8b2a02b1e559fa4c36c5df78738736be04e4faf6574f72fe0249abd", func := "pinnace/pinnacelaw05.CsrBack", spec := "csrBack", apart := false, narrowed := true }
def CsrBackUptoSaid : Prop := csrBackUptoRow.holds Try.pinned (OpenSpec.upto csrBackSpec)

/-- 'pinnacelaw05.CsrHalves', WHERE WHAT IT READS IS OF BULK AT MOST 1048576: true; the input reads as it did. -/
def csrHalvesUptoRow : OpenClaim := { program := "ytgbpalclapcfeaa", sum := "3c5a98cdb8b2a02b1e559fa4c36c5df78738736be04e4faf6574f72fe0249abd", func := "pinnace/pinnacelaw05.CsrHalves", spec := "csrHalves", apart := false, narrowed := true }
def CsrHalvesUptoSaid : Prop := csrHalvesUptoRow.holds Try.pinned (OpenSpec.upto csrHalvesSpec)

/-- 'pinnacelaw05.CsrHolds', WHERE WHAT IT READS IS OF BULK AT MOST 1048576: true; the input reads as it did. -/
def csrHoldsUptoRow : OpenClaim := { program := "ytgbpalclapcfeaa", sum := "3c5a98cdb8b2a02b1e559fa4c36c5df78738736be04e4faf6574f72fe0249abd", func := "pinnace/pinnacelaw05.CsrHolds", spec := "csrHolds", apart := false, narrowed := true }
def CsrHoldsUptoSaid : Prop := csrHoldsUptoRow.holds Try.pinned (OpenSpec.upto csrHoldsSpec)

/-- 'pinnacelaw01.WordBack', WHERE WHAT IT READS IS OF BULK AT MOST 1048576: true; the input reads as it did. -/
def wordBackUptoRow : OpenClaim := { program := "ytgbpalclapcfeaa", sum := "3c5a98cdb8b2a02b1e559fa4c36c5df78738736be04e4faf6574f72fe0249abd", func := "pinnace/pinnacelaw01.WordBack", spec := "wordBack", unfollowed := true, recurses := true, apart := false, narrowed := true }
def WordBackUptoSaid : Prop := wordBackUptoRow.holds Try.pinned (OpenSpec.upto wordBackSpec)

/-- 'pinnacelaw01.WordSets', WHERE WHAT IT READS IS OF BULK AT MOST 1048576: true; the input reads as it did. -/
def wordSetsUptoRow : OpenClaim := { program := "ytgbpalclapcfeaa", sum := "3c5a98cdb8b2a02b1e559fa4c36c5df78738736be04e4faf6574f72fe0249abd", func := "pinnace/pinnacelaw01.WordSets", spec := "wordSets", unfollowed := true, recurses := true, apart := false, narrowed := true }
def WordSetsUptoSaid : Prop := wordSetsUptoRow.holds Try.pinned (OpenSpec.upto wordSetsSpec)

/-- 'pinnacelaw01.WordFields', WHERE WHAT IT READS IS OF BULK AT MOST 1048576: true; the input reads as it did. -/
def wordFieldsUptoRow : OpenClaim := { program := "ytgbpalclapcfeaa", sum := "3c5a98cdb8b2a02b1e559fa4c36c5df78738736be04e4faf6574f72fe0249abd", func := "pinnace/pinnacelaw01.WordFields", spec := "wordFields", unfollowed := true, recurses := true, apart := false, narrowed := true }
def WordFieldsUptoSaid : Prop := wordFieldsUptoRow.holds Try.pinned (OpenSpec.upto wordFieldsSpec)

end Rows
end Go.Proofs.Ytgbpalclapcfeaa
