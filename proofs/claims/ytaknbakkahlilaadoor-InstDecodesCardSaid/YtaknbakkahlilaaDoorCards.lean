/-
  DERIVED. GIVEN WITH THE SEED: THE CARDS: each row of YtaknbakkahlilaaDoorRows.lean that lists a variable, with what it lists TIED to the program's text (the seventh form; the later family's looks); each row that meets fmt, with fmt's text TOLD by the authors' own Lean function (tested against real Go, not proved from fmt's source: count such statements apart). THE CARD IS WHAT COUNTS. Prove the row's statement (the work); the ties are given (YtaknbakkahlilaaDoorTie.lean); close each card by the builder's one call (the guide's Derived/Test/ToyasCard.lean, 'card_holds'). Laid BY PROGRAM, IN A SANDBOX (cutbox-door.mjs). By AI agents, Wed Nov 11 2026. No macro, syntax, notation, axiom, sorry.
-/
import Derived.Test.YtaknbakkahlilaaDoorRows
import GoSem.ClaimSeven
namespace Go.Proofs.YtaknbakkahlilaaDoor
namespace Rows

/-- THE TIED CARD OF 'pinnacelaw01.WordBits'. -/
def wordBitsCard : Claim7 := { stood := { row := wordBitsRow, standIns := [], harness := (true, "1a0d665cb52c1eb20640a8b31d4ebd1d3567d24e8ba0852677b4c6eb61a6de52"), looks := true }, kinds := [], alts := [], laidByText := true, laidKinds := [.data], laidTests := true, laidLooks := .later }
def WordBitsCardSaid : Prop := Claim7.holds Tryd.pinned (.plain (OpenSpec.ofChange wordBitsSpec)) wordBitsCard

/-- THE TIED CARD OF 'pinnacelaw01.WordGets'. -/
def wordGetsCard : Claim7 := { stood := { row := wordGetsRow, standIns := [], harness := (true, "1a0d665cb52c1eb20640a8b31d4ebd1d3567d24e8ba0852677b4c6eb61a6de52"), looks := true }, kinds := [], alts := [], laidByText := true, laidKinds := [.handle], laidTests := true, laidLooks := .later }
def WordGetsCardSaid : Prop := Claim7.holds Tryd.pinned (.plain (OpenSpec.ofChange wordGetsSpec)) wordGetsCard

/-- THE TIED CARD OF 'pinnacelaw01.WordWith'. -/
def wordWithCard : Claim7 := { stood := { row := wordWithRow, standIns := [], harness := (true, "1a0d665cb52c1eb20640a8b31d4ebd1d3567d24e8ba0852677b4c6eb61a6de52"), looks := true }, kinds := [], alts := [], laidByText := true, laidKinds := [.handle], laidTests := true, laidLooks := .later }
def WordWithCardSaid : Prop := Claim7.holds Tryd.pinned (.plain (OpenSpec.ofChange wordWithSpec)) wordWithCard

/-- THE TIED CARD OF 'pinnacelaw01.WordHex'. -/
def wordHexCard : Claim7 := { stood := { row := wordHexRow, standIns := [], harness := (true, "1a0d665cb52c1eb20640a8b31d4ebd1d3567d24e8ba0852677b4c6eb61a6de52"), looks := true }, kinds := [], alts := [], laidByText := true, laidKinds := [.data, .data, .data, .handle], laidTests := true, laidLooks := .later }
def WordHexCardSaid : Prop := Claim7.holds Tryd.pinned (.plain (OpenSpec.ofChange wordHexSpec)) wordHexCard

/-- THE TIED CARD OF 'pinnacelaw03.InstBack'. -/
def instBackCard : Claim7 := { stood := { row := instBackRow, standIns := [], harness := (true, "1a0d665cb52c1eb20640a8b31d4ebd1d3567d24e8ba0852677b4c6eb61a6de52"), looks := true }, kinds := [], alts := [], laidByText := true, laidKinds := [.data, .data], laidTests := true, laidLooks := .later }
def InstBackCardSaid : Prop := Claim7.holds Tryd.pinned (.plain (OpenSpec.ofChange instBackSpec)) instBackCard

/-- THE TIED CARD OF 'pinnacelaw03.InstApart'. -/
def instApartCard : Claim7 := { stood := { row := instApartRow, standIns := [], harness := (true, "1a0d665cb52c1eb20640a8b31d4ebd1d3567d24e8ba0852677b4c6eb61a6de52"), looks := true }, kinds := [], alts := [], laidByText := true, laidKinds := [.data, .data], laidTests := true, laidLooks := .later }
def InstApartCardSaid : Prop := Claim7.holds Tryd.pinned (.plain (OpenSpec.ofChange instApartSpec)) instApartCard

/-- THE TIED CARD OF 'pinnacelaw03.InstAll'. -/
def instAllCard : Claim7 := { stood := { row := instAllRow, standIns := [], harness := (true, "1a0d665cb52c1eb20640a8b31d4ebd1d3567d24e8ba0852677b4c6eb61a6de52"), looks := true }, kinds := [], alts := [], laidByText := true, laidKinds := [.data, .data], laidTests := true, laidLooks := .later }
def InstAllCardSaid : Prop := Claim7.holds Tryd.pinned (.plain (OpenSpec.ofChange instAllSpec)) instAllCard

/-- THE TIED CARD OF 'pinnacelaw03.InstDecodes'. -/
def instDecodesCard : Claim7 := { stood := { row := instDecodesRow, standIns := [], harness := (true, "1a0d665cb52c1eb20640a8b31d4ebd1d3567d24e8ba0852677b4c6eb61a6de52"), looks := true }, kinds := [], alts := [], laidByText := true, laidKinds := [.handle, .data, .data], laidTests := true, laidLooks := .later }
def InstDecodesCardSaid : Prop := Claim7.holds Tryd.pinned (.plain (OpenSpec.ofChange instDecodesSpec)) instDecodesCard

/-- THE TIED CARD OF 'pinnacelaw03.InstEncodes'. -/
def instEncodesCard : Claim7 := { stood := { row := instEncodesRow, standIns := [], harness := (true, "1a0d665cb52c1eb20640a8b31d4ebd1d3567d24e8ba0852677b4c6eb61a6de52"), looks := true }, kinds := [], alts := [], laidByText := true, laidKinds := [.handle, .data, .data], laidTests := true, laidLooks := .later }
def InstEncodesCardSaid : Prop := Claim7.holds Tryd.pinned (.plain (OpenSpec.ofChange instEncodesSpec)) instEncodesCard

/-- THE TIED CARD OF 'pinnacelaw03.InstNames'. -/
def instNamesCard : Claim7 := { stood := { row := instNamesRow, standIns := [], harness := (true, "1a0d665cb52c1eb20640a8b31d4ebd1d3567d24e8ba0852677b4c6eb61a6de52"), looks := true }, kinds := [], alts := [], laidByText := true, laidKinds := [.handle, .data, .data], laidTests := true, laidLooks := .later }
def InstNamesCardSaid : Prop := Claim7.holds Tryd.pinned (.plain (OpenSpec.ofChange instNamesSpec)) instNamesCard

/-- THE SECOND FORM's CARD OF 'pinnacelaw01.WordBits'. -/
def wordBitsUptoCard : Claim7 := { stood := { row := wordBitsUptoRow, standIns := [], harness := (true, "1a0d665cb52c1eb20640a8b31d4ebd1d3567d24e8ba0852677b4c6eb61a6de52"), looks := true }, kinds := [], alts := [], laidByText := true, laidKinds := [.data], laidTests := true, laidLooks := .later }
def WordBitsUptoCardSaid : Prop := Claim7.holds Tryd.pinned (.plain (OpenSpec.upto wordBitsSpec)) wordBitsUptoCard

/-- THE SECOND FORM's CARD OF 'pinnacelaw01.WordGets'. -/
def wordGetsUptoCard : Claim7 := { stood := { row := wordGetsUptoRow, standIns := [], harness := (true, "1a0d665cb52c1eb20640a8b31d4ebd1d3567d24e8ba0852677b4c6eb61a6de52"), looks := true }, kinds := [], alts := [], laidByText := true, laidKinds := [.handle], laidTests := true, laidLooks := .later }
def WordGetsUptoCardSaid : Prop := Claim7.holds Tryd.pinned (.plain (OpenSpec.upto wordGetsSpec)) wordGetsUptoCard

/-- THE SECOND FORM's CARD OF 'pinnacelaw01.WordWith'. -/
def wordWithUptoCard : Claim7 := { stood := { row := wordWithUptoRow, standIns := [], harness := (true, "1a0d665cb52c1eb20640a8b31d4ebd1d3567d24e8ba0852677b4c6eb61a6de52"), looks := true }, kinds := [], alts := [], laidByText := true, laidKinds := [.handle], laidTests := true, laidLooks := .later }
def WordWithUptoCardSaid : Prop := Claim7.holds Tryd.pinned (.plain (OpenSpec.upto wordWithSpec)) wordWithUptoCard

/-- THE SECOND FORM's CARD OF 'pinnacelaw01.WordHex'. -/
def wordHexUptoCard : Claim7 := { stood := { row := wordHexUptoRow, standIns := [], harness := (true, "1a0d665cb52c1eb20640a8b31d4ebd1d3567d24e8ba0852677b4c6eb61a6de52"), looks := true }, kinds := [], alts := [], laidByText := true, laidKinds := [.data, .data, .data, .handle], laidTests := true, laidLooks := .later }
def WordHexUptoCardSaid : Prop := Claim7.holds Tryd.pinned (.plain (OpenSpec.upto wordHexSpec)) wordHexUptoCard

/-- THE SECOND FORM's CARD OF 'pinnacelaw03.InstBack'. -/
def instBackUptoCard : Claim7 := { stood := { row := instBackUptoRow, standIns := [], harness := (true, "1a0d665cb52c1eb20640a8b31d4ebd1d3567d24e8ba0852677b4c6eb61a6de52"), looks := true }, kinds := [], alts := [], laidByText := true, laidKinds := [.data, .data], laidTests := true, laidLooks := .later }
def InstBackUptoCardSaid : Prop := Claim7.holds Tryd.pinned (.plain (OpenSpec.upto instBackSpec)) instBackUptoCard

/-- THE SECOND FORM's CARD OF 'pinnacelaw03.InstApart'. -/
def instApartUptoCard : Claim7 := { stood := { row := instApartUptoRow, standIns := [], harness := (true, "1a0d665cb52c1eb20640a8b31d4ebd1d3567d24e8ba0852677b4c6eb61a6de52"), looks := true }, kinds := [], alts := [], laidByText := true, laidKinds := [.data, .data], laidTests := true, laidLooks := .later }
def InstApartUptoCardSaid : Prop := Claim7.holds Tryd.pinned (.plain (OpenSpec.upto instApartSpec)) instApartUptoCard

/-- THE SECOND FORM's CARD OF 'pinnacelaw03.InstAll'. -/
def instAllUptoCard : Claim7 := { stood := { row := instAllUptoRow, standIns := [], harness := (true, "1a0d665cb52c1eb20640a8b31d4ebd1d3567d24e8ba0852677b4c6eb61a6de52"), looks := true }, kinds := [], alts := [], laidByText := true, laidKinds := [.data, .data], laidTests := true, laidLooks := .later }
def InstAllUptoCardSaid : Prop := Claim7.holds Tryd.pinned (.plain (OpenSpec.upto instAllSpec)) instAllUptoCard

/-- THE SECOND FORM's CARD OF 'pinnacelaw03.InstDecodes'. -/
def instDecodesUptoCard : Claim7 := { stood := { row := instDecodesUptoRow, standIns := [], harness := (true, "1a0d665cb52c1eb20640a8b31d4ebd1d3567d24e8ba0852677b4c6eb61a6de52"), looks := true }, kinds := [], alts := [], laidByText := true, laidKinds := [.handle, .data, .data], laidTests := true, laidLooks := .later }
def InstDecodesUptoCardSaid : Prop := Claim7.holds Tryd.pinned (.plain (OpenSpec.upto instDecodesSpec)) instDecodesUptoCard

/-- THE SECOND FORM's CARD OF 'pinnacelaw03.InstEncodes'. -/
def instEncodesUptoCard : Claim7 := { stood := { row := instEncodesUptoRow, standIns := [], harness := (true, "1a0d665cb52c1eb20640a8b31d4ebd1d3567d24e8ba0852677b4c6eb61a6de52"), looks := true }, kinds := [], alts := [], laidByText := true, laidKinds := [.handle, .data, .data], laidTests := true, laidLooks := .later }
def InstEncodesUptoCardSaid : Prop := Claim7.holds Tryd.pinned (.plain (OpenSpec.upto instEncodesSpec)) instEncodesUptoCard

/-- THE SECOND FORM's CARD OF 'pinnacelaw03.InstNames'. -/
def instNamesUptoCard : Claim7 := { stood := { row := instNamesUptoRow, standIns := [], harness := (true, "1a0d665cb52c1eb20640a8b31d4ebd1d3567d24e8ba0852677b4c6eb61a6de52"), looks := true }, kinds := [], alts := [], laidByText := true, laidKinds := [.handle, .data, .data], laidTests := true, laidLooks := .later }
def InstNamesUptoCardSaid : Prop := Claim7.holds Tryd.pinned (.plain (OpenSpec.upto instNamesSpec)) instNamesUptoCard
end Rows
end Go.Proofs.YtaknbakkahlilaaDoor
