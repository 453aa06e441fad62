/-
  NARROWER THAN 'FOR EVERY INPUT', by the rows' own cells (each row's printed sentence says how): WordBits: laid · WordGets: laid · WordWith: laid · WordHex: laid · InstBack: laid · InstApart: laid · InstAll: laid · InstDecodes: laid · InstEncodes: laid · InstNames: laid.
  DERIVED. THE GIVEN ROWS OF THIS SEAT. 10 by the template 'for every input the law returns true; each argument reads behind the call as it read before'; 0 by the template 'total and deterministic' (their statements: YtaknbakkahlilaaDoorTotals.lean).
  GIVEN WITH THE SEED: the statements are not yours to turn. If you find one false, say at which input.
  Laid BY PROGRAM, IN A SANDBOX (cutbox-rows.mjs): the forced cells as the released guide's own fill.sh prints them over the translation 7ecc8137c99d4887… (all of the seat's roots in one cut). By AI agents, Wed Nov 11 2026. No macro, syntax, notation, axiom, sorry.
-/
import Derived.Test.YtaknbakkahlilaaDoorChecked
import GoSem.Claim
import GoSem.ClaimJoined
import GoSem.ClaimMapViews
import Derived.JoinedTies
import Derived.KernelRfl
namespace Go.Proofs.YtaknbakkahlilaaDoor
/- THE CELL 'sum', in the pinned program and in every row, IS THE sha256 OF THE DUMP (.gsa) THAT YtaknbakkahlilaaDoorProg.lean LOADS. Nothing in Lean hashes anything: it is a label: what it is worth is what the hold of that sum in a sandbox is worth. -/
noncomputable def Tryd.pinned : Pinned := { name := "ytaknbakkahlilaadoor", sum := "7ecc8137c99d48879b45d51b1cb2266d4ba1d9b1311aab4a0482f957024f03c6", checked := Tryd.checked }
namespace Rows
def none {H : Type} : Left H := { results := [], args := [] }

/- WHAT THE LISTED PACKAGE-LEVEL VARIABLES READ AS WHEN THE CALL BEGINS. Each datum BY PROGRAM (the guide's laid-datum.mjs) off the statement by which the dump's own 'gosem.cut.vars' lays the variable. In a bare row this is a premise. The card (YtaknbakkahlilaaDoorCards.lean) ties it to the program's text. -/
def laid_math_bits_deBruijn32tab {H : Type} : DataW H := .agg [.lit (.int .u8 0), .lit (.int .u8 1), .lit (.int .u8 28), .lit (.int .u8 2), .lit (.int .u8 29), .lit (.int .u8 14), .lit (.int .u8 24), .lit (.int .u8 3), .lit (.int .u8 30), .lit (.int .u8 22), .lit (.int .u8 20), .lit (.int .u8 15), .lit (.int .u8 25), .lit (.int .u8 17), .lit (.int .u8 4), .lit (.int .u8 8), .lit (.int .u8 31), .lit (.int .u8 27), .lit (.int .u8 13), .lit (.int .u8 23), .lit (.int .u8 21), .lit (.int .u8 19), .lit (.int .u8 16), .lit (.int .u8 7), .lit (.int .u8 26), .lit (.int .u8 12), .lit (.int .u8 18), .lit (.int .u8 6), .lit (.int .u8 11), .lit (.int .u8 5), .lit (.int .u8 10), .lit (.int .u8 9)]
def laid_errors_errorType {H : Type} : DataW H := .iface "internal/reflectlite.rtype" (.agg [.ptr (.lit (.string [101, 114, 114, 111, 114]))])
def laid_math_bits_deBruijn64tab {H : Type} : DataW H := .agg [.lit (.int .u8 0), .lit (.int .u8 1), .lit (.int .u8 56), .lit (.int .u8 2), .lit (.int .u8 57), .lit (.int .u8 49), .lit (.int .u8 28), .lit (.int .u8 3), .lit (.int .u8 61), .lit (.int .u8 58), .lit (.int .u8 42), .lit (.int .u8 50), .lit (.int .u8 38), .lit (.int .u8 29), .lit (.int .u8 17), .lit (.int .u8 4), .lit (.int .u8 62), .lit (.int .u8 47), .lit (.int .u8 59), .lit (.int .u8 36), .lit (.int .u8 45), .lit (.int .u8 43), .lit (.int .u8 51), .lit (.int .u8 22), .lit (.int .u8 53), .lit (.int .u8 39), .lit (.int .u8 33), .lit (.int .u8 30), .lit (.int .u8 24), .lit (.int .u8 18), .lit (.int .u8 12), .lit (.int .u8 5), .lit (.int .u8 63), .lit (.int .u8 55), .lit (.int .u8 48), .lit (.int .u8 27), .lit (.int .u8 60), .lit (.int .u8 41), .lit (.int .u8 37), .lit (.int .u8 16), .lit (.int .u8 46), .lit (.int .u8 35), .lit (.int .u8 44), .lit (.int .u8 21), .lit (.int .u8 52), .lit (.int .u8 32), .lit (.int .u8 23), .lit (.int .u8 11), .lit (.int .u8 54), .lit (.int .u8 26), .lit (.int .u8 40), .lit (.int .u8 15), .lit (.int .u8 34), .lit (.int .u8 20), .lit (.int .u8 31), .lit (.int .u8 10), .lit (.int .u8 25), .lit (.int .u8 14), .lit (.int .u8 19), .lit (.int .u8 9), .lit (.int .u8 13), .lit (.int .u8 8), .lit (.int .u8 7), .lit (.int .u8 6)]
def laid_internal_strconv_uint64pow10 {H : Type} : DataW H := .agg [.lit (.int .u64 1), .lit (.int .u64 10), .lit (.int .u64 100), .lit (.int .u64 1000), .lit (.int .u64 10000), .lit (.int .u64 100000), .lit (.int .u64 1000000), .lit (.int .u64 10000000), .lit (.int .u64 100000000), .lit (.int .u64 1000000000), .lit (.int .u64 10000000000), .lit (.int .u64 100000000000), .lit (.int .u64 1000000000000), .lit (.int .u64 10000000000000), .lit (.int .u64 100000000000000), .lit (.int .u64 1000000000000000), .lit (.int .u64 10000000000000000), .lit (.int .u64 100000000000000000), .lit (.int .u64 1000000000000000000), .lit (.int .u64 10000000000000000000)]
def laid_pinnace_inst_names {H : Type} : DataW H := .agg [.lit (.string [108, 117, 105]), .lit (.string [97, 117, 105, 112, 99]), .lit (.string [106, 97, 108]), .lit (.string [106, 97, 108, 114]), .lit (.string [98, 101, 113]), .lit (.string [98, 110, 101]), .lit (.string [98, 108, 116]), .lit (.string [98, 103, 101]), .lit (.string [98, 108, 116, 117]), .lit (.string [98, 103, 101, 117]), .lit (.string [108, 98]), .lit (.string [108, 104]), .lit (.string [108, 119]), .lit (.string [108, 98, 117]), .lit (.string [108, 104, 117]), .lit (.string [115, 98]), .lit (.string [115, 104]), .lit (.string [115, 119]), .lit (.string [97, 100, 100, 105]), .lit (.string [115, 108, 116, 105]), .lit (.string [115, 108, 116, 105, 117]), .lit (.string [120, 111, 114, 105]), .lit (.string [111, 114, 105]), .lit (.string [97, 110, 100, 105]), .lit (.string [115, 108, 108, 105]), .lit (.string [115, 114, 108, 105]), .lit (.string [115, 114, 97, 105]), .lit (.string [97, 100, 100]), .lit (.string [115, 117, 98]), .lit (.string [115, 108, 108]), .lit (.string [115, 108, 116]), .lit (.string [115, 108, 116, 117]), .lit (.string [120, 111, 114]), .lit (.string [115, 114, 108]), .lit (.string [115, 114, 97]), .lit (.string [111, 114]), .lit (.string [97, 110, 100]), .lit (.string [109, 117, 108]), .lit (.string [109, 117, 108, 104]), .lit (.string [109, 117, 108, 104, 115, 117]), .lit (.string [109, 117, 108, 104, 117]), .lit (.string [100, 105, 118]), .lit (.string [100, 105, 118, 117]), .lit (.string [114, 101, 109]), .lit (.string [114, 101, 109, 117]), .lit (.string [102, 101, 110, 99, 101]), .lit (.string [102, 101, 110, 99, 101, 46, 105]), .lit (.string [101, 99, 97, 108, 108]), .lit (.string [101, 98, 114, 101, 97, 107]), .lit (.string [109, 114, 101, 116]), .lit (.string [119, 102, 105]), .lit (.string [99, 115, 114, 114, 119]), .lit (.string [99, 115, 114, 114, 115]), .lit (.string [99, 115, 114, 114, 99]), .lit (.string [99, 115, 114, 114, 119, 105]), .lit (.string [99, 115, 114, 114, 115, 105]), .lit (.string [99, 115, 114, 114, 99, 105])]
def laid_pinnace_inst_words {H : Type} : DataW H := .agg [.lit (.int .u32 55), .lit (.int .u32 23), .lit (.int .u32 111), .lit (.int .u32 103), .lit (.int .u32 99), .lit (.int .u32 4195), .lit (.int .u32 16483), .lit (.int .u32 20579), .lit (.int .u32 24675), .lit (.int .u32 28771), .lit (.int .u32 3), .lit (.int .u32 4099), .lit (.int .u32 8195), .lit (.int .u32 16387), .lit (.int .u32 20483), .lit (.int .u32 35), .lit (.int .u32 4131), .lit (.int .u32 8227), .lit (.int .u32 19), .lit (.int .u32 8211), .lit (.int .u32 12307), .lit (.int .u32 16403), .lit (.int .u32 24595), .lit (.int .u32 28691), .lit (.int .u32 4115), .lit (.int .u32 20499), .lit (.int .u32 1073762323), .lit (.int .u32 51), .lit (.int .u32 1073741875), .lit (.int .u32 4147), .lit (.int .u32 8243), .lit (.int .u32 12339), .lit (.int .u32 16435), .lit (.int .u32 20531), .lit (.int .u32 1073762355), .lit (.int .u32 24627), .lit (.int .u32 28723), .lit (.int .u32 33554483), .lit (.int .u32 33558579), .lit (.int .u32 33562675), .lit (.int .u32 33566771), .lit (.int .u32 33570867), .lit (.int .u32 33574963), .lit (.int .u32 33579059), .lit (.int .u32 33583155), .lit (.int .u32 15), .lit (.int .u32 4111), .lit (.int .u32 115), .lit (.int .u32 1048691), .lit (.int .u32 807403635), .lit (.int .u32 273678451), .lit (.int .u32 4211), .lit (.int .u32 8307), .lit (.int .u32 12403), .lit (.int .u32 20595), .lit (.int .u32 24691), .lit (.int .u32 28787)]

/-- 'pinnacelaw01.WordBits': WHATEVER THE INPUT: true; the input reads as it did. -/
def wordBitsSpec : ChangeSpec := { name := "wordBits", fn := fun _ => fun
  | [d] => { results := [.lit (.bool true)], args := [d] }
  | _ => none }
def wordBitsRow : OpenClaim := { program := "ytaknbakkahlilaadoor", sum := "7ecc8137c99d48879b45d51b1cb2266d4ba1d9b1311aab4a0482f957024f03c6", func := "pinnace/pinnacelaw01.WordBits", spec := "wordBits", unfollowed := true, recurses := true, named := ["math/bits.deBruijn32tab"], apart := false, laid := [("math/bits.deBruijn32tab", laid_math_bits_deBruijn32tab)] }
def WordBitsSaid : Prop := wordBitsRow.holds Tryd.pinned (OpenSpec.ofChange wordBitsSpec)

/-- ITS FALSE NEIGHBOUR: 'it returns false'. Refute it at one input. -/
def wordBitsWrong : ChangeSpec := { name := "wordBits", fn := fun _ => fun
  | [d] => { results := [.lit (.bool false)], args := [d] }
  | _ => none }
def WordBitsWrongFalsely : Prop := wordBitsRow.holds Tryd.pinned (OpenSpec.ofChange wordBitsWrong)

/-- 'pinnacelaw01.WordGets': WHATEVER THE INPUT: true; the input reads as it did. -/
def wordGetsSpec : ChangeSpec := { name := "wordGets", fn := fun _ => fun
  | [d1, d2, d3] => { results := [.lit (.bool true)], args := [d1, d2, d3] }
  | _ => none }
def wordGetsRow : OpenClaim := { program := "ytaknbakkahlilaadoor", sum := "7ecc8137c99d48879b45d51b1cb2266d4ba1d9b1311aab4a0482f957024f03c6", func := "pinnace/pinnacelaw01.WordGets", spec := "wordGets", inPlace := ["internal/reflectlite.ValueOf", "(internal/reflectlite.Value).Type", "(internal/reflectlite.Value).IsNil", "internal/reflectlite.TypeOf", "(internal/reflectlite.Value).Elem", "(internal/reflectlite.Value).Set"], unfollowed := true, recurses := true, named := ["errors.errorType"], apart := false, laid := [("errors.errorType", laid_errors_errorType)] }
def WordGetsSaid : Prop := wordGetsRow.holds Tryd.pinned (OpenSpec.ofChange wordGetsSpec)

/-- ITS FALSE NEIGHBOUR: 'it returns false'. Refute it at one input. -/
def wordGetsWrong : ChangeSpec := { name := "wordGets", fn := fun _ => fun
  | [d1, d2, d3] => { results := [.lit (.bool false)], args := [d1, d2, d3] }
  | _ => none }
def WordGetsWrongFalsely : Prop := wordGetsRow.holds Tryd.pinned (OpenSpec.ofChange wordGetsWrong)

/-- 'pinnacelaw01.WordWith': WHATEVER THE INPUT: true; the input reads as it did. -/
def wordWithSpec : ChangeSpec := { name := "wordWith", fn := fun _ => fun
  | [d1, d2, d3] => { results := [.lit (.bool true)], args := [d1, d2, d3] }
  | _ => none }
def wordWithRow : OpenClaim := { program := "ytaknbakkahlilaadoor", sum := "7ecc8137c99d48879b45d51b1cb2266d4ba1d9b1311aab4a0482f957024f03c6", func := "pinnace/pinnacelaw01.WordWith", spec := "wordWith", inPlace := ["internal/reflectlite.ValueOf", "(internal/reflectlite.Value).Type", "(internal/reflectlite.Value).IsNil", "internal/reflectlite.TypeOf", "(internal/reflectlite.Value).Elem", "(internal/reflectlite.Value).Set"], unfollowed := true, recurses := true, named := ["errors.errorType"], apart := false, laid := [("errors.errorType", laid_errors_errorType)] }
def WordWithSaid : Prop := wordWithRow.holds Tryd.pinned (OpenSpec.ofChange wordWithSpec)

/-- ITS FALSE NEIGHBOUR: 'it returns false'. Refute it at one input. -/
def wordWithWrong : ChangeSpec := { name := "wordWith", fn := fun _ => fun
  | [d1, d2, d3] => { results := [.lit (.bool false)], args := [d1, d2, d3] }
  | _ => none }
def WordWithWrongFalsely : Prop := wordWithRow.holds Tryd.pinned (OpenSpec.ofChange wordWithWrong)

/-- 'pinnacelaw01.WordHex': WHATEVER THE INPUT: true; the input reads as it did. -/
def wordHexSpec : ChangeSpec := { name := "wordHex", fn := fun _ => fun
  | [d1, d2] => { results := [.lit (.bool true)], args := [d1, d2] }
  | _ => none }
def wordHexRow : OpenClaim := { program := "ytaknbakkahlilaadoor", sum := "7ecc8137c99d48879b45d51b1cb2266d4ba1d9b1311aab4a0482f957024f03c6", func := "pinnace/pinnacelaw01.WordHex", spec := "wordHex", inPlace := ["internal/reflectlite.ValueOf", "(internal/reflectlite.Value).Type", "(internal/reflectlite.Value).IsNil", "internal/reflectlite.TypeOf", "(internal/reflectlite.Value).Elem", "(internal/reflectlite.Value).Set"], unfollowed := true, recurses := true, named := ["internal/strconv.uint64pow10", "math/bits.deBruijn32tab", "math/bits.deBruijn64tab", "errors.errorType"], apart := false, laid := [("math/bits.deBruijn32tab", laid_math_bits_deBruijn32tab), ("math/bits.deBruijn64tab", laid_math_bits_deBruijn64tab), ("internal/strconv.uint64pow10", laid_internal_strconv_uint64pow10), ("errors.errorType", laid_errors_errorType)] }
def WordHexSaid : Prop := wordHexRow.holds Tryd.pinned (OpenSpec.ofChange wordHexSpec)

/-- ITS FALSE NEIGHBOUR: 'it returns false'. Refute it at one input. -/
def wordHexWrong : ChangeSpec := { name := "wordHex", fn := fun _ => fun
  | [d1, d2] => { results := [.lit (.bool false)], args := [d1, d2] }
  | _ => none }
def WordHexWrongFalsely : Prop := wordHexRow.holds Tryd.pinned (OpenSpec.ofChange wordHexWrong)

/-- 'pinnacelaw03.InstBack': WHATEVER THE INPUT: true; the input reads as it did. -/
def instBackSpec : ChangeSpec := { name := "instBack", fn := fun _ => fun
  | [d1, d2] => { results := [.lit (.bool true)], args := [d1, d2] }
  | _ => none }
def instBackRow : OpenClaim := { program := "ytaknbakkahlilaadoor", sum := "7ecc8137c99d48879b45d51b1cb2266d4ba1d9b1311aab4a0482f957024f03c6", func := "pinnace/pinnacelaw03.InstBack", spec := "instBack", named := ["pinnace/inst.words", "pinnace/inst.names"], apart := false, laid := [("pinnace/inst.names", laid_pinnace_inst_names), ("pinnace/inst.words", laid_pinnace_inst_words)] }
def InstBackSaid : Prop := instBackRow.holds Tryd.pinned (OpenSpec.ofChange instBackSpec)

/-- ITS FALSE NEIGHBOUR: 'it returns false'. Refute it at one input. -/
def instBackWrong : ChangeSpec := { name := "instBack", fn := fun _ => fun
  | [d1, d2] => { results := [.lit (.bool false)], args := [d1, d2] }
  | _ => none }
def InstBackWrongFalsely : Prop := instBackRow.holds Tryd.pinned (OpenSpec.ofChange instBackWrong)

/-- 'pinnacelaw03.InstApart': WHATEVER THE INPUT: true; the input reads as it did. -/
def instApartSpec : ChangeSpec := { name := "instApart", fn := fun _ => fun
  | [d1, d2] => { results := [.lit (.bool true)], args := [d1, d2] }
  | _ => none }
def instApartRow : OpenClaim := { program := "ytaknbakkahlilaadoor", sum := "7ecc8137c99d48879b45d51b1cb2266d4ba1d9b1311aab4a0482f957024f03c6", func := "pinnace/pinnacelaw03.InstApart", spec := "instApart", named := ["pinnace/inst.words", "pinnace/inst.names"], apart := false, laid := [("pinnace/inst.names", laid_pinnace_inst_names), ("pinnace/inst.words", laid_pinnace_inst_words)] }
def InstApartSaid : Prop := instApartRow.holds Tryd.pinned (OpenSpec.ofChange instApartSpec)

/-- ITS FALSE NEIGHBOUR: 'it returns false'. Refute it at one input. -/
def instApartWrong : ChangeSpec := { name := "instApart", fn := fun _ => fun
  | [d1, d2] => { results := [.lit (.bool false)], args := [d1, d2] }
  | _ => none }
def InstApartWrongFalsely : Prop := instApartRow.holds Tryd.pinned (OpenSpec.ofChange instApartWrong)

/-- 'pinnacelaw03.InstAll': WHATEVER THE INPUT: true; the input reads as it did. -/
def instAllSpec : ChangeSpec := { name := "instAll", fn := fun _ => fun
  | [d] => { results := [.lit (.bool true)], args := [d] }
  | _ => none }
def instAllRow : OpenClaim := { program := "ytaknbakkahlilaadoor", sum := "7ecc8137c99d48879b45d51b1cb2266d4ba1d9b1311aab4a0482f957024f03c6", func := "pinnace/pinnacelaw03.InstAll", spec := "instAll", named := ["pinnace/inst.names", "pinnace/inst.words"], apart := false, laid := [("pinnace/inst.names", laid_pinnace_inst_names), ("pinnace/inst.words", laid_pinnace_inst_words)] }
def InstAllSaid : Prop := instAllRow.holds Tryd.pinned (OpenSpec.ofChange instAllSpec)

/-- ITS FALSE NEIGHBOUR: 'it returns false'. Refute it at one input. -/
def instAllWrong : ChangeSpec := { name := "instAll", fn := fun _ => fun
  | [d] => { results := [.lit (.bool false)], args := [d] }
  | _ => none }
def InstAllWrongFalsely : Prop := instAllRow.holds Tryd.pinned (OpenSpec.ofChange instAllWrong)

/-- 'pinnacelaw03.InstDecodes': WHATEVER THE INPUT: true; the input reads as it did. -/
def instDecodesSpec : ChangeSpec := { name := "instDecodes", fn := fun _ => fun
  | [d] => { results := [.lit (.bool true)], args := [d] }
  | _ => none }
def instDecodesRow : OpenClaim := { program := "ytaknbakkahlilaadoor", sum := "7ecc8137c99d48879b45d51b1cb2266d4ba1d9b1311aab4a0482f957024f03c6", func := "pinnace/pinnacelaw03.InstDecodes", spec := "instDecodes", inPlace := ["internal/reflectlite.ValueOf", "(internal/reflectlite.Value).Type", "(internal/reflectlite.Value).IsNil", "internal/reflectlite.TypeOf", "(internal/reflectlite.Value).Elem", "(internal/reflectlite.Value).Set"], unfollowed := true, recurses := true, named := ["pinnace/inst.words", "errors.errorType", "pinnace/inst.names"], apart := false, laid := [("errors.errorType", laid_errors_errorType), ("pinnace/inst.names", laid_pinnace_inst_names), ("pinnace/inst.words", laid_pinnace_inst_words)] }
def InstDecodesSaid : Prop := instDecodesRow.holds Tryd.pinned (OpenSpec.ofChange instDecodesSpec)

/-- ITS FALSE NEIGHBOUR: 'it returns false'. Refute it at one input. -/
def instDecodesWrong : ChangeSpec := { name := "instDecodes", fn := fun _ => fun
  | [d] => { results := [.lit (.bool false)], args := [d] }
  | _ => none }
def InstDecodesWrongFalsely : Prop := instDecodesRow.holds Tryd.pinned (OpenSpec.ofChange instDecodesWrong)

/-- 'pinnacelaw03.InstEncodes': WHATEVER THE INPUT: true; the input reads as it did. -/
def instEncodesSpec : ChangeSpec := { name := "instEncodes", fn := fun _ => fun
  | [d] => { results := [.lit (.bool true)], args := [d] }
  | _ => none }
def instEncodesRow : OpenClaim := { program := "ytaknbakkahlilaadoor", sum := "7ecc8137c99d48879b45d51b1cb2266d4ba1d9b1311aab4a0482f957024f03c6", func := "pinnace/pinnacelaw03.InstEncodes", spec := "instEncodes", inPlace := ["internal/reflectlite.ValueOf", "(internal/reflectlite.Value).Type", "(internal/reflectlite.Value).IsNil", "internal/reflectlite.TypeOf", "(internal/reflectlite.Value).Elem", "(internal/reflectlite.Value).Set"], unfollowed := true, recurses := true, named := ["pinnace/inst.words", "errors.errorType", "pinnace/inst.names"], apart := false, laid := [("errors.errorType", laid_errors_errorType), ("pinnace/inst.names", laid_pinnace_inst_names), ("pinnace/inst.words", laid_pinnace_inst_words)] }
def InstEncodesSaid : Prop := instEncodesRow.holds Tryd.pinned (OpenSpec.ofChange instEncodesSpec)

/-- ITS FALSE NEIGHBOUR: 'it returns false'. Refute it at one input. -/
def instEncodesWrong : ChangeSpec := { name := "instEncodes", fn := fun _ => fun
  | [d] => { results := [.lit (.bool false)], args := [d] }
  | _ => none }
def InstEncodesWrongFalsely : Prop := instEncodesRow.holds Tryd.pinned (OpenSpec.ofChange instEncodesWrong)

/-- 'pinnacelaw03.InstNames': WHATEVER THE INPUT: true; the input reads as it did. -/
def instNamesSpec : ChangeSpec := { name := "instNames", fn := fun _ => fun
  | [d1, d2] => { results := [.lit (.bool true)], args := [d1, d2] }
  | _ => none }
def instNamesRow : OpenClaim := { program := "ytaknbakkahlilaadoor", sum := "7ecc8137c99d48879b45d51b1cb2266d4ba1d9b1311aab4a0482f957024f03c6", func := "pinnace/pinnacelaw03.InstNames", spec := "instNames", inPlace := ["internal/reflectlite.ValueOf", "(internal/reflectlite.Value).Type", "(internal/reflectlite.Value).IsNil", "internal/reflectlite.TypeOf", "(internal/reflectlite.Value).Elem", "(internal/reflectlite.Value).Set"], unfollowed := true, recurses := true, named := ["pinnace/inst.names", "errors.errorType", "pinnace/inst.words"], apart := false, laid := [("errors.errorType", laid_errors_errorType), ("pinnace/inst.names", laid_pinnace_inst_names), ("pinnace/inst.words", laid_pinnace_inst_words)] }
def InstNamesSaid : Prop := instNamesRow.holds Tryd.pinned (OpenSpec.ofChange instNamesSpec)

/-- ITS FALSE NEIGHBOUR: 'it returns false'. Refute it at one input. -/
def instNamesWrong : ChangeSpec := { name := "instNames", fn := fun _ => fun
  | [d1, d2] => { results := [.lit (.bool false)], args := [d1, d2] }
  | _ => none }
def InstNamesWrongFalsely : Prop := instNamesRow.holds Tryd.pinned (OpenSpec.ofChange instNamesWrong)

/- THE SECOND FORM. 'bulk': how many values and letters a reading holds, each counted each time it is reached (what is shared counts as often as it is met; a slice's spare places count too). A statement '..UptoSaid' is the law's where the arguments, and the package variables that the reading takes, are together of bulk at most 1048576: NARROWER than '..Said'. Prove '..Said' where nothing that the law and all that it calls make is longer than what came in: it says more and counts as full. Else prove '..UptoSaid'. A law counts once. -/
mutual
def uptoBulk {H : Type} : DataW H → Nat
  | .lit (.string bytes) => bytes.length + 1
  | .lit _ => 1
  | .nil => 1
  | .ptr d => uptoBulk d + 1
  | .slice elems spare => uptoBulkAll elems + uptoBulkAll spare + 1
  | .agg parts => uptoBulkAll parts + 1
  | .iface _ d => uptoBulk d + 1
  | .map entries => uptoBulkEntries entries + 1
  | .held _ => 1
def uptoBulkAll {H : Type} : List (DataW H) → Nat
  | [] => 0
  | d :: r => uptoBulk d + uptoBulkAll r
def uptoBulkEntries {H : Type} : List (Lit × DataW H) → Nat
  | [] => 0
  | x :: r => uptoBulkEntry x + uptoBulkEntries r
def uptoBulkEntry {H : Type} : Lit × DataW H → Nat
  | (.string bytes, d) => bytes.length + uptoBulk d + 1
  | (_, d) => uptoBulk d + 1
 end
def uptoSmall : (H : Type) → List (DataW H) → Bool := fun _ ds => decide (uptoBulkAll ds ≤ 1048576)
def OpenSpec.upto (s : _root_.Go.ChangeSpec) : _root_.Go.OpenSpec := { _root_.Go.OpenSpec.ofChange s with cond := some uptoSmall }

/-- 'pinnacelaw01.WordBits', WHERE WHAT IT READS IS OF BULK AT MOST 1048576: true; the input reads as it did. -/
def wordBitsUptoRow : OpenClaim := { program := "ytaknbakkahlilaadoor", sum := "7ecc8137c99d48879b45d51b1cb2266d4ba1d9b1311aab4a0482f957024f03c6", func := "pinnace/pinnacelaw01.WordBits", spec := "wordBits", unfollowed := true, recurses := true, named := ["math/bits.deBruijn32tab"], apart := false, laid := [("math/bits.deBruijn32tab", laid_math_bits_deBruijn32tab)], narrowed := true }
def WordBitsUptoSaid : Prop := wordBitsUptoRow.holds Tryd.pinned (OpenSpec.upto wordBitsSpec)

/-- 'pinnacelaw01.WordGets', WHERE WHAT IT READS IS OF BULK AT MOST 1048576: true; the input reads as it did. -/
def wordGetsUptoRow : OpenClaim := { program := "ytaknbakkahlilaadoor", sum := "7ecc8137c99d48879b45d51b1cb2266d4ba1d9b1311aab4a0482f957024f03c6", func := "pinnace/pinnacelaw01.WordGets", spec := "wordGets", inPlace := ["internal/reflectlite.ValueOf", "(internal/reflectlite.Value).Type", "(internal/reflectlite.Value).IsNil", "internal/reflectlite.TypeOf", "(internal/reflectlite.Value).Elem", "(internal/reflectlite.Value).Set"], unfollowed := true, recurses := true, named := ["errors.errorType"], apart := false, laid := [("errors.errorType", laid_errors_errorType)], narrowed := true }
def WordGetsUptoSaid : Prop := wordGetsUptoRow.holds Tryd.pinned (OpenSpec.upto wordGetsSpec)

/-- 'pinnacelaw01.WordWith', WHERE WHAT IT READS IS OF BULK AT MOST 1048576: true; the input reads as it did. -/
def wordWithUptoRow : OpenClaim := { program := "ytaknbakkahlilaadoor", sum := "7ecc8137c99d48879b45d51b1cb2266d4ba1d9b1311aab4a0482f957024f03c6", func := "pinnace/pinnacelaw01.WordWith", spec := "wordWith", inPlace := ["internal/reflectlite.ValueOf", "(internal/reflectlite.Value).Type", "(internal/reflectlite.Value).IsNil", "internal/reflectlite.TypeOf", "(internal/reflectlite.Value).Elem", "(internal/reflectlite.Value).Set"], unfollowed := true, recurses := true, named := ["errors.errorType"], apart := false, laid := [("errors.errorType", laid_errors_errorType)], narrowed := true }
def WordWithUptoSaid : Prop := wordWithUptoRow.holds Tryd.pinned (OpenSpec.upto wordWithSpec)

/-- 'pinnacelaw01.WordHex', WHERE WHAT IT READS IS OF BULK AT MOST 1048576: true; the input reads as it did. -/
def wordHexUptoRow : OpenClaim := { program := "ytaknbakkahlilaadoor", sum := "7ecc8137c99d48879b45d51b1cb2266d4ba1d9b1311aab4a0482f957024f03c6", func := "pinnace/pinnacelaw01.WordHex", spec := "wordHex", inPlace := ["internal/reflectlite.ValueOf", "(internal/reflectlite.Value).Type", "(internal/reflectlite.Value).IsNil", "internal/reflectlite.TypeOf", "(internal/reflectlite.Value).Elem", "(internal/reflectlite.Value).Set"], unfollowed := true, recurses := true, named := ["internal/strconv.uint64pow10", "math/bits.deBruijn32tab", "math/bits.deBruijn64tab", "errors.errorType"], apart := false, laid := [("math/bits.deBruijn32tab", laid_math_bits_deBruijn32tab), ("math/bits.deBruijn64tab", laid_math_bits_deBruijn64tab), ("internal/strconv.uint64pow10", laid_internal_strconv_uint64pow10), ("errors.errorType", laid_errors_errorType)], narrowed := true }
def WordHexUptoSaid : Prop := wordHexUptoRow.holds Tryd.pinned (OpenSpec.upto wordHexSpec)

/-- 'pinnacelaw03.InstBack', WHERE WHAT IT READS IS OF BULK AT MOST 1048576: true; the input reads as it did. -/
def instBackUptoRow : OpenClaim := { program := "ytaknbakkahlilaadoor", sum := "7ecc8137c99d48879b45d51b1cb2266d4ba1d9b1311aab4a0482f957024f03c6", func := "pinnace/pinnacelaw03.InstBack", spec := "instBack", named := ["pinnace/inst.words", "pinnace/inst.names"], apart := false, laid := [("pinnace/inst.names", laid_pinnace_inst_names), ("pinnace/inst.words", laid_pinnace_inst_words)], narrowed := true }
def InstBackUptoSaid : Prop := instBackUptoRow.holds Tryd.pinned (OpenSpec.upto instBackSpec)

/-- 'pinnacelaw03.InstApart', WHERE WHAT IT READS IS OF BULK AT MOST 1048576: true; the input reads as it did. -/
def instApartUptoRow : OpenClaim := { program := "ytaknbakkahlilaadoor", sum := "7ecc8137c99d48879b45d51b1cb2266d4ba1d9b1311aab4a0482f957024f03c6", func := "pinnace/pinnacelaw03.InstApart", spec := "instApart", named := ["pinnace/inst.words", "pinnace/inst.names"], apart := false, laid := [("pinnace/inst.names", laid_pinnace_inst_names), ("pinnace/inst.words", laid_pinnace_inst_words)], narrowed := true }
def InstApartUptoSaid : Prop := instApartUptoRow.holds Tryd.pinned (OpenSpec.upto instApartSpec)

/-- 'pinnacelaw03.InstAll', WHERE WHAT IT READS IS OF BULK AT MOST 1048576: true; the input reads as it did. -/
def instAllUptoRow : OpenClaim := { program := "ytaknbakkahlilaadoor", sum := "7ecc8137c99d48879b45d51b1cb2266d4ba1d9b1311aab4a0482f957024f03c6", func := "pinnace/pinnacelaw03.InstAll", spec := "instAll", named := ["pinnace/inst.names", "pinnace/inst.words"], apart := false, laid := [("pinnace/inst.names", laid_pinnace_inst_names), ("pinnace/inst.words", laid_pinnace_inst_words)], narrowed := true }
def InstAllUptoSaid : Prop := instAllUptoRow.holds Tryd.pinned (OpenSpec.upto instAllSpec)

/-- 'pinnacelaw03.InstDecodes', WHERE WHAT IT READS IS OF BULK AT MOST 1048576: true; the input reads as it did. -/
def instDecodesUptoRow : OpenClaim := { program := "ytaknbakkahlilaadoor", sum := "7ecc8137c99d48879b45d51b1cb2266d4ba1d9b1311aab4a0482f957024f03c6", func := "pinnace/pinnacelaw03.InstDecodes", spec := "instDecodes", inPlace := ["internal/reflectlite.ValueOf", "(internal/reflectlite.Value).Type", "(internal/reflectlite.Value).IsNil", "internal/reflectlite.TypeOf", "(internal/reflectlite.Value).Elem", "(internal/reflectlite.Value).Set"], unfollowed := true, recurses := true, named := ["pinnace/inst.words", "errors.errorType", "pinnace/inst.names"], apart := false, laid := [("errors.errorType", laid_errors_errorType), ("pinnace/inst.names", laid_pinnace_inst_names), ("pinnace/inst.words", laid_pinnace_inst_words)], narrowed := true }
def InstDecodesUptoSaid : Prop := instDecodesUptoRow.holds Tryd.pinned (OpenSpec.upto instDecodesSpec)

/-- 'pinnacelaw03.InstEncodes', WHERE WHAT IT READS IS OF BULK AT MOST 1048576: true; the input reads as it did. -/
def instEncodesUptoRow : OpenClaim := { program := "ytaknbakkahlilaadoor", sum := "7ecc8137c99d48879b45d51b1cb2266d4ba1d9b1311aab4a0482f957024f03c6", func := "pinnace/pinnacelaw03.InstEncodes", spec := "instEncodes", inPlace := ["internal/reflectlite.ValueOf", "(internal/reflectlite.Value).Type", "(internal/reflectlite.Value).IsNil", "internal/reflectlite.TypeOf", "(internal/reflectlite.Value).Elem", "(internal/reflectlite.Value).Set"], unfollowed := true, recurses := true, named := ["pinnace/inst.words", "errors.errorType", "pinnace/inst.names"], apart := false, laid := [("errors.errorType", laid_errors_errorType), ("pinnace/inst.names", laid_pinnace_inst_names), ("pinnace/inst.words", laid_pinnace_inst_words)], narrowed := true }
def InstEncodesUptoSaid : Prop := instEncodesUptoRow.holds Tryd.pinned (OpenSpec.upto instEncodesSpec)

/-- 'pinnacelaw03.InstNames', WHERE WHAT IT READS IS OF BULK AT MOST 1048576: true; the input reads as it did. -/
def instNamesUptoRow : OpenClaim := { program := "ytaknbakkahlilaadoor", sum := "7ecc8137c99d48879b45d51b1cb2266d4ba1d9b1311aab4a0482f957024f03c6", func := "pinnace/pinnacelaw03.InstNames", spec := "instNames", inPlace := ["internal/reflectlite.ValueOf", "(internal/reflectlite.Value).Type", "(internal/reflectlite.Value).IsNil", "internal/reflectlite.TypeOf", "(internal/reflectlite.Value).Elem", "(internal/reflectlite.Value).Set"], unfollowed := true, recurses := true, named := ["pinnace/inst.names", "errors.errorType", "pinnace/inst.words"], apart := false, laid := [("errors.errorType", laid_errors_errorType), ("pinnace/inst.names", laid_pinnace_inst_names), ("pinnace/inst.words", laid_pinnace_inst_words)], narrowed := true }
def InstNamesUptoSaid : Prop := instNamesUptoRow.holds Tryd.pinned (OpenSpec.upto instNamesSpec)

end Rows
end Go.Proofs.YtaknbakkahlilaaDoor
