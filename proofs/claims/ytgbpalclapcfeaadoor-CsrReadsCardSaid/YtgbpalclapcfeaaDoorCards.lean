/-
  DERIVED. GIVEN WITH THE SEED: THE CARDS: each row of YtgbpalclapcfeaaDoorRows.lean that lists a variable, with what it lists TIED to the program's text (the seventh form; the later family's looks); each row that meets fmt, with fmt's text TOLD by the authors' own Lean function (tested against real Go, not proved from fmt's source: count such statements apart). THE CARD IS WHAT COUNTS. Prove the row's statement (the work); the ties are given (YtgbpalclapcfeaaDoorTie.lean); close each card by the builder's one call (the guide's Derived/Test/ToyasCard.lean, 'card_holds'). Laid BY PROGRAM, IN A SANDBOX (cutbox-door.mjs). By AI agents, Wed Nov 11 2026. No macro, syntax, notation, axiom, sorry.
-/
import Derived.Test.YtgbpalclapcfeaaDoorRows
import GoSem.ClaimSeven
namespace Go.Proofs.YtgbpalclapcfeaaDoor
namespace Rows

/-- THE TIED CARD OF 'pinnacelaw01.WordBits'. -/
def wordBitsCard : Claim7 := { stood := { row := wordBitsRow, standIns := [], harness := (true, "b8a589338330da57770f7c8b1b1efa9d7ef117e9e0e8d2aaa8c898dde24850b7"), looks := true }, kinds := [], alts := [], laidByText := true, laidKinds := [.data], laidTests := true, laidLooks := .later }
def WordBitsCardSaid : Prop := Claim7.holds Tryd.pinned (.plain (OpenSpec.ofChange wordBitsSpec)) wordBitsCard

/-- THE TIED CARD OF 'pinnacelaw01.WordGets'. -/
def wordGetsCard : Claim7 := { stood := { row := wordGetsRow, standIns := [], harness := (true, "b8a589338330da57770f7c8b1b1efa9d7ef117e9e0e8d2aaa8c898dde24850b7"), looks := true }, kinds := [], alts := [], laidByText := true, laidKinds := [.handle], laidTests := true, laidLooks := .later }
def WordGetsCardSaid : Prop := Claim7.holds Tryd.pinned (.plain (OpenSpec.ofChange wordGetsSpec)) wordGetsCard

/-- THE TIED CARD OF 'pinnacelaw01.WordWith'. -/
def wordWithCard : Claim7 := { stood := { row := wordWithRow, standIns := [], harness := (true, "b8a589338330da57770f7c8b1b1efa9d7ef117e9e0e8d2aaa8c898dde24850b7"), looks := true }, kinds := [], alts := [], laidByText := true, laidKinds := [.handle], laidTests := true, laidLooks := .later }
def WordWithCardSaid : Prop := Claim7.holds Tryd.pinned (.plain (OpenSpec.ofChange wordWithSpec)) wordWithCard

/-- THE TIED CARD OF 'pinnacelaw02.AluDoes'. -/
def aluDoesCard : Claim7 := { stood := { row := aluDoesRow, standIns := [], harness := (true, "b8a589338330da57770f7c8b1b1efa9d7ef117e9e0e8d2aaa8c898dde24850b7"), looks := true }, kinds := [], alts := [], laidByText := true, laidKinds := [.handle], laidTests := true, laidLooks := .later }
def AluDoesCardSaid : Prop := Claim7.holds Tryd.pinned (.plain (OpenSpec.ofChange aluDoesSpec)) aluDoesCard

/-- THE TIED CARD OF 'pinnacelaw02.AluHolds'. -/
def aluHoldsCard : Claim7 := { stood := { row := aluHoldsRow, standIns := [], harness := (true, "b8a589338330da57770f7c8b1b1efa9d7ef117e9e0e8d2aaa8c898dde24850b7"), looks := true }, kinds := [], alts := [], laidByText := true, laidKinds := [.handle], laidTests := true, laidLooks := .later }
def AluHoldsCardSaid : Prop := Claim7.holds Tryd.pinned (.plain (OpenSpec.ofChange aluHoldsSpec)) aluHoldsCard

/-- THE TIED CARD OF 'pinnacelaw05.CsrReads'. -/
def csrReadsCard : Claim7 := { stood := { row := csrReadsRow, standIns := [], harness := (true, "b8a589338330da57770f7c8b1b1efa9d7ef117e9e0e8d2aaa8c898dde24850b7"), looks := true }, kinds := [], alts := [], laidByText := true, laidKinds := [.handle], laidTests := true, laidLooks := .later }
def CsrReadsCardSaid : Prop := Claim7.holds Tryd.pinned (.plain (OpenSpec.ofChange csrReadsSpec)) csrReadsCard

/-- THE TIED CARD OF 'pinnacelaw05.CsrWrites'. -/
def csrWritesCard : Claim7 := { stood := { row := csrWritesRow, standIns := [], harness := (true, "b8a589338330da57770f7c8b1b1efa9d7ef117e9e0e8d2aaa8c898dde24850b7"), looks := true }, kinds := [], alts := [], laidByText := true, laidKinds := [.handle], laidTests := true, laidLooks := .later }
def CsrWritesCardSaid : Prop := Claim7.holds Tryd.pinned (.plain (OpenSpec.ofChange csrWritesSpec)) csrWritesCard

/-- THE TIED CARD OF 'pinnacelaw01.WordHex'. -/
def wordHexCard : Claim7 := { stood := { row := wordHexRow, standIns := [], harness := (true, "b8a589338330da57770f7c8b1b1efa9d7ef117e9e0e8d2aaa8c898dde24850b7"), looks := true }, kinds := [], alts := [], laidByText := true, laidKinds := [.data, .data, .data, .handle], laidTests := true, laidLooks := .later }
def WordHexCardSaid : Prop := Claim7.holds Tryd.pinned (.plain (OpenSpec.ofChange wordHexSpec)) wordHexCard

/-- THE SECOND FORM's CARD OF 'pinnacelaw01.WordBits'. -/
def wordBitsUptoCard : Claim7 := { stood := { row := wordBitsUptoRow, standIns := [], harness := (true, "b8a589338330da57770f7c8b1b1efa9d7ef117e9e0e8d2aaa8c898dde24850b7"), looks := true }, kinds := [], alts := [], laidByText := true, laidKinds := [.data], laidTests := true, laidLooks := .later }
def WordBitsUptoCardSaid : Prop := Claim7.holds Tryd.pinned (.plain (OpenSpec.upto wordBitsSpec)) wordBitsUptoCard

/-- THE SECOND FORM's CARD OF 'pinnacelaw01.WordGets'. -/
def wordGetsUptoCard : Claim7 := { stood := { row := wordGetsUptoRow, standIns := [], harness := (true, "b8a589338330da57770f7c8b1b1efa9d7ef117e9e0e8d2aaa8c898dde24850b7"), looks := true }, kinds := [], alts := [], laidByText := true, laidKinds := [.handle], laidTests := true, laidLooks := .later }
def WordGetsUptoCardSaid : Prop := Claim7.holds Tryd.pinned (.plain (OpenSpec.upto wordGetsSpec)) wordGetsUptoCard

/-- THE SECOND FORM's CARD OF 'pinnacelaw01.WordWith'. -/
def wordWithUptoCard : Claim7 := { stood := { row := wordWithUptoRow, standIns := [], harness := (true, "b8a589338330da57770f7c8b1b1efa9d7ef117e9e0e8d2aaa8c898dde24850b7"), looks := true }, kinds := [], alts := [], laidByText := true, laidKinds := [.handle], laidTests := true, laidLooks := .later }
def WordWithUptoCardSaid : Prop := Claim7.holds Tryd.pinned (.plain (OpenSpec.upto wordWithSpec)) wordWithUptoCard

/-- THE SECOND FORM's CARD OF 'pinnacelaw02.AluDoes'. -/
def aluDoesUptoCard : Claim7 := { stood := { row := aluDoesUptoRow, standIns := [], harness := (true, "b8a589338330da57770f7c8b1b1efa9d7ef117e9e0e8d2aaa8c898dde24850b7"), looks := true }, kinds := [], alts := [], laidByText := true, laidKinds := [.handle], laidTests := true, laidLooks := .later }
def AluDoesUptoCardSaid : Prop := Claim7.holds Tryd.pinned (.plain (OpenSpec.upto aluDoesSpec)) aluDoesUptoCard

/-- THE SECOND FORM's CARD OF 'pinnacelaw02.AluHolds'. -/
def aluHoldsUptoCard : Claim7 := { stood := { row := aluHoldsUptoRow, standIns := [], harness := (true, "b8a589338330da57770f7c8b1b1efa9d7ef117e9e0e8d2aaa8c898dde24850b7"), looks := true }, kinds := [], alts := [], laidByText := true, laidKinds := [.handle], laidTests := true, laidLooks := .later }
def AluHoldsUptoCardSaid : Prop := Claim7.holds Tryd.pinned (.plain (OpenSpec.upto aluHoldsSpec)) aluHoldsUptoCard

/-- THE SECOND FORM's CARD OF 'pinnacelaw05.CsrReads'. -/
def csrReadsUptoCard : Claim7 := { stood := { row := csrReadsUptoRow, standIns := [], harness := (true, "b8a589338330da57770f7c8b1b1efa9d7ef117e9e0e8d2aaa8c898dde24850b7"), looks := true }, kinds := [], alts := [], laidByText := true, laidKinds := [.handle], laidTests := true, laidLooks := .later }
def CsrReadsUptoCardSaid : Prop := Claim7.holds Tryd.pinned (.plain (OpenSpec.upto csrReadsSpec)) csrReadsUptoCard

/-- THE SECOND FORM's CARD OF 'pinnacelaw05.CsrWrites'. -/
def csrWritesUptoCard : Claim7 := { stood := { row := csrWritesUptoRow, standIns := [], harness := (true, "b8a589338330da57770f7c8b1b1efa9d7ef117e9e0e8d2aaa8c898dde24850b7"), looks := true }, kinds := [], alts := [], laidByText := true, laidKinds := [.handle], laidTests := true, laidLooks := .later }
def CsrWritesUptoCardSaid : Prop := Claim7.holds Tryd.pinned (.plain (OpenSpec.upto csrWritesSpec)) csrWritesUptoCard

/-- THE SECOND FORM's CARD OF 'pinnacelaw01.WordHex'. -/
def wordHexUptoCard : Claim7 := { stood := { row := wordHexUptoRow, standIns := [], harness := (true, "b8a589338330da57770f7c8b1b1efa9d7ef117e9e0e8d2aaa8c898dde24850b7"), looks := true }, kinds := [], alts := [], laidByText := true, laidKinds := [.data, .data, .data, .handle], laidTests := true, laidLooks := .later }
def WordHexUptoCardSaid : Prop := Claim7.holds Tryd.pinned (.plain (OpenSpec.upto wordHexSpec)) wordHexUptoCard
end Rows
end Go.Proofs.YtgbpalclapcfeaaDoor
