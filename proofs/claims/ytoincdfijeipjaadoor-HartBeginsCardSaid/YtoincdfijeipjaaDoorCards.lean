/-
  DERIVED. GIVEN WITH THE SEED: THE CARDS: each row of YtoincdfijeipjaaDoorRows.lean that lists a variable, with what it lists TIED to the program's text (the seventh form; the later family's looks); each row that meets fmt, with fmt's text TOLD by the authors' own Lean function (tested against real Go, not proved from fmt's source: count such statements apart). THE CARD IS WHAT COUNTS. Prove the row's statement (the work); the ties are given (YtoincdfijeipjaaDoorTie.lean); close each card by the builder's one call (the guide's Derived/Test/ToyasCard.lean, 'card_holds'). Laid BY PROGRAM, IN A SANDBOX (cutbox-door.mjs). By AI agents, Wed Nov 11 2026. No macro, syntax, notation, axiom, sorry.
-/
import Derived.Test.YtoincdfijeipjaaDoorRows
import GoSem.ClaimSeven
namespace Go.Proofs.YtoincdfijeipjaaDoor
namespace Rows

/-- THE TIED CARD OF 'pinnacelaw03.InstDecodes'. -/
def instDecodesCard : Claim7 := { stood := { row := instDecodesRow, standIns := [], harness := (true, "dd57940dd91b9d9f73e595a9ea1a2934b56c0259c63cea98096f2b4b103f8b8a"), looks := true }, kinds := [], alts := [], laidByText := true, laidKinds := [.handle, .data, .data], laidTests := true, laidLooks := .later }
def InstDecodesCardSaid : Prop := Claim7.holds Tryd.pinned (.plain (OpenSpec.ofChange instDecodesSpec)) instDecodesCard

/-- THE TIED CARD OF 'pinnacelaw03.InstEncodes'. -/
def instEncodesCard : Claim7 := { stood := { row := instEncodesRow, standIns := [], harness := (true, "dd57940dd91b9d9f73e595a9ea1a2934b56c0259c63cea98096f2b4b103f8b8a"), looks := true }, kinds := [], alts := [], laidByText := true, laidKinds := [.handle, .data, .data], laidTests := true, laidLooks := .later }
def InstEncodesCardSaid : Prop := Claim7.holds Tryd.pinned (.plain (OpenSpec.ofChange instEncodesSpec)) instEncodesCard

/-- THE TIED CARD OF 'pinnacelaw03.InstNames'. -/
def instNamesCard : Claim7 := { stood := { row := instNamesRow, standIns := [], harness := (true, "dd57940dd91b9d9f73e595a9ea1a2934b56c0259c63cea98096f2b4b103f8b8a"), looks := true }, kinds := [], alts := [], laidByText := true, laidKinds := [.handle, .data, .data], laidTests := true, laidLooks := .later }
def InstNamesCardSaid : Prop := Claim7.holds Tryd.pinned (.plain (OpenSpec.ofChange instNamesSpec)) instNamesCard

/-- THE TIED CARD OF 'pinnacelaw08.HartSums'. -/
def hartSumsCard : Claim7 := { stood := { row := hartSumsRow, standIns := [], harness := (true, "dd57940dd91b9d9f73e595a9ea1a2934b56c0259c63cea98096f2b4b103f8b8a"), looks := true }, kinds := [], alts := [], laidByText := true, laidKinds := [.data], laidTests := true, laidLooks := .later }
def HartSumsCardSaid : Prop := Claim7.holds Tryd.pinned (.plain (OpenSpec.ofChange hartSumsSpec)) hartSumsCard

/-- THE TIED CARD OF 'pinnacelaw08.HartTraps'. -/
def hartTrapsCard : Claim7 := { stood := { row := hartTrapsRow, standIns := [], harness := (true, "dd57940dd91b9d9f73e595a9ea1a2934b56c0259c63cea98096f2b4b103f8b8a"), looks := true }, kinds := [], alts := [], laidByText := true, laidKinds := [.data], laidTests := true, laidLooks := .later }
def HartTrapsCardSaid : Prop := Claim7.holds Tryd.pinned (.plain (OpenSpec.ofChange hartTrapsSpec)) hartTrapsCard

/-- THE TIED CARD OF 'pinnacelaw08.HartMakes'. -/
def hartMakesCard : Claim7 := { stood := { row := hartMakesRow, standIns := [], harness := (true, "dd57940dd91b9d9f73e595a9ea1a2934b56c0259c63cea98096f2b4b103f8b8a"), looks := true }, kinds := [], alts := [], laidByText := true, laidKinds := [.data], laidTests := true, laidLooks := .later }
def HartMakesCardSaid : Prop := Claim7.holds Tryd.pinned (.plain (OpenSpec.ofChange hartMakesSpec)) hartMakesCard

/-- THE TIED CARD OF 'pinnacelaw08.HartHolds'. -/
def hartHoldsCard : Claim7 := { stood := { row := hartHoldsRow, standIns := [], harness := (true, "dd57940dd91b9d9f73e595a9ea1a2934b56c0259c63cea98096f2b4b103f8b8a"), looks := true }, kinds := [], alts := [], laidByText := true, laidKinds := [.data], laidTests := true, laidLooks := .later }
def HartHoldsCardSaid : Prop := Claim7.holds Tryd.pinned (.plain (OpenSpec.ofChange hartHoldsSpec)) hartHoldsCard

/-- THE TIED CARD OF 'pinnacelaw08.HartBegins'. -/
def hartBeginsCard : Claim7 := { stood := { row := hartBeginsRow, standIns := [], harness := (true, "dd57940dd91b9d9f73e595a9ea1a2934b56c0259c63cea98096f2b4b103f8b8a"), looks := true }, kinds := [], alts := [], laidByText := true, laidKinds := [.handle, .data], laidTests := true, laidLooks := .later }
def HartBeginsCardSaid : Prop := Claim7.holds Tryd.pinned (.plain (OpenSpec.ofChange hartBeginsSpec)) hartBeginsCard

/-- THE SECOND FORM's CARD OF 'pinnacelaw03.InstDecodes'. -/
def instDecodesUptoCard : Claim7 := { stood := { row := instDecodesUptoRow, standIns := [], harness := (true, "dd57940dd91b9d9f73e595a9ea1a2934b56c0259c63cea98096f2b4b103f8b8a"), looks := true }, kinds := [], alts := [], laidByText := true, laidKinds := [.handle, .data, .data], laidTests := true, laidLooks := .later }
def InstDecodesUptoCardSaid : Prop := Claim7.holds Tryd.pinned (.plain (OpenSpec.upto instDecodesSpec)) instDecodesUptoCard

/-- THE SECOND FORM's CARD OF 'pinnacelaw03.InstEncodes'. -/
def instEncodesUptoCard : Claim7 := { stood := { row := instEncodesUptoRow, standIns := [], harness := (true, "dd57940dd91b9d9f73e595a9ea1a2934b56c0259c63cea98096f2b4b103f8b8a"), looks := true }, kinds := [], alts := [], laidByText := true, laidKinds := [.handle, .data, .data], laidTests := true, laidLooks := .later }
def InstEncodesUptoCardSaid : Prop := Claim7.holds Tryd.pinned (.plain (OpenSpec.upto instEncodesSpec)) instEncodesUptoCard

/-- THE SECOND FORM's CARD OF 'pinnacelaw03.InstNames'. -/
def instNamesUptoCard : Claim7 := { stood := { row := instNamesUptoRow, standIns := [], harness := (true, "dd57940dd91b9d9f73e595a9ea1a2934b56c0259c63cea98096f2b4b103f8b8a"), looks := true }, kinds := [], alts := [], laidByText := true, laidKinds := [.handle, .data, .data], laidTests := true, laidLooks := .later }
def InstNamesUptoCardSaid : Prop := Claim7.holds Tryd.pinned (.plain (OpenSpec.upto instNamesSpec)) instNamesUptoCard

/-- THE SECOND FORM's CARD OF 'pinnacelaw08.HartSums'. -/
def hartSumsUptoCard : Claim7 := { stood := { row := hartSumsUptoRow, standIns := [], harness := (true, "dd57940dd91b9d9f73e595a9ea1a2934b56c0259c63cea98096f2b4b103f8b8a"), looks := true }, kinds := [], alts := [], laidByText := true, laidKinds := [.data], laidTests := true, laidLooks := .later }
def HartSumsUptoCardSaid : Prop := Claim7.holds Tryd.pinned (.plain (OpenSpec.upto hartSumsSpec)) hartSumsUptoCard

/-- THE SECOND FORM's CARD OF 'pinnacelaw08.HartTraps'. -/
def hartTrapsUptoCard : Claim7 := { stood := { row := hartTrapsUptoRow, standIns := [], harness := (true, "dd57940dd91b9d9f73e595a9ea1a2934b56c0259c63cea98096f2b4b103f8b8a"), looks := true }, kinds := [], alts := [], laidByText := true, laidKinds := [.data], laidTests := true, laidLooks := .later }
def HartTrapsUptoCardSaid : Prop := Claim7.holds Tryd.pinned (.plain (OpenSpec.upto hartTrapsSpec)) hartTrapsUptoCard

/-- THE SECOND FORM's CARD OF 'pinnacelaw08.HartMakes'. -/
def hartMakesUptoCard : Claim7 := { stood := { row := hartMakesUptoRow, standIns := [], harness := (true, "dd57940dd91b9d9f73e595a9ea1a2934b56c0259c63cea98096f2b4b103f8b8a"), looks := true }, kinds := [], alts := [], laidByText := true, laidKinds := [.data], laidTests := true, laidLooks := .later }
def HartMakesUptoCardSaid : Prop := Claim7.holds Tryd.pinned (.plain (OpenSpec.upto hartMakesSpec)) hartMakesUptoCard

/-- THE SECOND FORM's CARD OF 'pinnacelaw08.HartHolds'. -/
def hartHoldsUptoCard : Claim7 := { stood := { row := hartHoldsUptoRow, standIns := [], harness := (true, "dd57940dd91b9d9f73e595a9ea1a2934b56c0259c63cea98096f2b4b103f8b8a"), looks := true }, kinds := [], alts := [], laidByText := true, laidKinds := [.data], laidTests := true, laidLooks := .later }
def HartHoldsUptoCardSaid : Prop := Claim7.holds Tryd.pinned (.plain (OpenSpec.upto hartHoldsSpec)) hartHoldsUptoCard

/-- THE SECOND FORM's CARD OF 'pinnacelaw08.HartBegins'. -/
def hartBeginsUptoCard : Claim7 := { stood := { row := hartBeginsUptoRow, standIns := [], harness := (true, "dd57940dd91b9d9f73e595a9ea1a2934b56c0259c63cea98096f2b4b103f8b8a"), looks := true }, kinds := [], alts := [], laidByText := true, laidKinds := [.handle, .data], laidTests := true, laidLooks := .later }
def HartBeginsUptoCardSaid : Prop := Claim7.holds Tryd.pinned (.plain (OpenSpec.upto hartBeginsSpec)) hartBeginsUptoCard
end Rows
end Go.Proofs.YtoincdfijeipjaaDoor
