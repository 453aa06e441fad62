/-
  DERIVED. GIVEN WITH THE SEED: THE CARDS: each row of YtphlgaklfibciaaDoorRows.lean that lists a variable, with what it lists TIED to the program's text (the seventh form; the later family's looks); each row that meets fmt, with fmt's text TOLD by the authors' own Lean function (tested against real Go, not proved from fmt's source: count such statements apart). THE CARD IS WHAT COUNTS. Prove the row's statement (the work); the ties are given (YtphlgaklfibciaaDoorTie.lean); close each card by the builder's one call (the guide's Derived/Test/ToyasCard.lean, 'card_holds'). Laid BY PROGRAM, IN A SANDBOX (cutbox-door.mjs). By AI agents, Wed Nov 11 2026. No macro, syntax, notation, axiom, sorry.
-/
import Derived.Test.YtphlgaklfibciaaDoorRows
import GoSem.ClaimSeven
namespace Go.Proofs.YtphlgaklfibciaaDoor
namespace Rows

/-- THE TIED CARD OF 'pinnacelaw03.InstDecodes'. -/
def instDecodesCard : Claim7 := { stood := { row := instDecodesRow, standIns := [], harness := (true, "2ecabce7cdaebec631fe66c61e76df40cd62d9581b79a04b45f8679107ab2f81"), looks := true }, kinds := [], alts := [], laidByText := true, laidKinds := [.handle, .data, .data], laidTests := true, laidLooks := .later }
def InstDecodesCardSaid : Prop := Claim7.holds Tryd.pinned (.plain (OpenSpec.ofChange instDecodesSpec)) instDecodesCard

/-- THE TIED CARD OF 'pinnacelaw08.HartHolds'. -/
def hartHoldsCard : Claim7 := { stood := { row := hartHoldsRow, standIns := [], harness := (true, "2ecabce7cdaebec631fe66c61e76df40cd62d9581b79a04b45f8679107ab2f81"), looks := true }, kinds := [], alts := [], laidByText := true, laidKinds := [.data], laidTests := true, laidLooks := .later }
def HartHoldsCardSaid : Prop := Claim7.holds Tryd.pinned (.plain (OpenSpec.ofChange hartHoldsSpec)) hartHoldsCard

/-- THE TIED CARD OF 'pinnacelaw08.HartBegins'. -/
def hartBeginsCard : Claim7 := { stood := { row := hartBeginsRow, standIns := [], harness := (true, "2ecabce7cdaebec631fe66c61e76df40cd62d9581b79a04b45f8679107ab2f81"), looks := true }, kinds := [], alts := [], laidByText := true, laidKinds := [.handle, .data], laidTests := true, laidLooks := .later }
def HartBeginsCardSaid : Prop := Claim7.holds Tryd.pinned (.plain (OpenSpec.ofChange hartBeginsSpec)) hartBeginsCard

/-- THE SECOND FORM's CARD OF 'pinnacelaw03.InstDecodes'. -/
def instDecodesUptoCard : Claim7 := { stood := { row := instDecodesUptoRow, standIns := [], harness := (true, "2ecabce7cdaebec631fe66c61e76df40cd62d9581b79a04b45f8679107ab2f81"), looks := true }, kinds := [], alts := [], laidByText := true, laidKinds := [.handle, .data, .data], laidTests := true, laidLooks := .later }
def InstDecodesUptoCardSaid : Prop := Claim7.holds Tryd.pinned (.plain (OpenSpec.upto instDecodesSpec)) instDecodesUptoCard

/-- THE SECOND FORM's CARD OF 'pinnacelaw08.HartHolds'. -/
def hartHoldsUptoCard : Claim7 := { stood := { row := hartHoldsUptoRow, standIns := [], harness := (true, "2ecabce7cdaebec631fe66c61e76df40cd62d9581b79a04b45f8679107ab2f81"), looks := true }, kinds := [], alts := [], laidByText := true, laidKinds := [.data], laidTests := true, laidLooks := .later }
def HartHoldsUptoCardSaid : Prop := Claim7.holds Tryd.pinned (.plain (OpenSpec.upto hartHoldsSpec)) hartHoldsUptoCard

/-- THE SECOND FORM's CARD OF 'pinnacelaw08.HartBegins'. -/
def hartBeginsUptoCard : Claim7 := { stood := { row := hartBeginsUptoRow, standIns := [], harness := (true, "2ecabce7cdaebec631fe66c61e76df40cd62d9581b79a04b45f8679107ab2f81"), looks := true }, kinds := [], alts := [], laidByText := true, laidKinds := [.handle, .data], laidTests := true, laidLooks := .later }
def HartBeginsUptoCardSaid : Prop := Claim7.holds Tryd.pinned (.plain (OpenSpec.upto hartBeginsSpec)) hartBeginsUptoCard
end Rows
end Go.Proofs.YtphlgaklfibciaaDoor
