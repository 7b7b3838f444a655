/-
  DERIVED. GIVEN WITH THE SEED: THE CARDS: each row of YtlfhhfjlflccgaaDoorRows.lean that lists a variable, with what it lists TIED to the program's text (the seventh form; the later family's looks); each row that meets fmt, with fmt's text TOLD by the authors' own Lean function (tested against real Go, not proved from fmt's source: count such statements apart). THE CARD IS WHAT COUNTS. Prove the row's statement (the work); the ties are given (YtlfhhfjlflccgaaDoorTie.lean); close each card by the builder's one call (the guide's Derived/Test/ToyasCard.lean, 'card_holds'). Laid BY PROGRAM, IN A SANDBOX (cutbox-door.mjs). By AI agents, Wed Nov 11 2026. No macro, syntax, notation, axiom, sorry.
-/
import Derived.Test.YtlfhhfjlflccgaaDoorRows
import GoSem.ClaimSeven
namespace Go.Proofs.YtlfhhfjlflccgaaDoor
namespace Rows

/-- THE TIED CARD OF 'petrinetlaw12.TransformComplements'. -/
def transformComplementsCard : Claim7 := { stood := { row := transformComplementsRow, standIns := [], harness := (true, "1e55fb04102b450163404f9d951610036aaa0acb96589fa6661d5d3c406bb9ab"), looks := false }, kinds := [], alts := [], laidByText := true, laidKinds := [.data, .data, .data], laidTests := true, laidLooks := .later }
def TransformComplementsCardSaid : Prop := Claim7.holds Tryd.pinned (.plain (OpenSpec.ofChange transformComplementsSpec)) transformComplementsCard

/-- THE TIED CARD OF 'petrinetlaw12.TransformMirrors'. -/
def transformMirrorsCard : Claim7 := { stood := { row := transformMirrorsRow, standIns := [], harness := (true, "1e55fb04102b450163404f9d951610036aaa0acb96589fa6661d5d3c406bb9ab"), looks := false }, kinds := [], alts := [], laidByText := true, laidKinds := [.data, .data, .data], laidTests := true, laidLooks := .later }
def TransformMirrorsCardSaid : Prop := Claim7.holds Tryd.pinned (.plain (OpenSpec.ofChange transformMirrorsSpec)) transformMirrorsCard

/-- THE TIED CARD OF 'petrinetlaw12.TransformParts'. -/
def transformPartsCard : Claim7 := { stood := { row := transformPartsRow, standIns := [], harness := (true, "1e55fb04102b450163404f9d951610036aaa0acb96589fa6661d5d3c406bb9ab"), looks := false }, kinds := [], alts := [], laidByText := true, laidKinds := [.data, .data, .data], laidTests := true, laidLooks := .later }
def TransformPartsCardSaid : Prop := Claim7.holds Tryd.pinned (.plain (OpenSpec.ofChange transformPartsSpec)) transformPartsCard

/-- THE TIED CARD OF 'petrinetlaw12.TransformUnions'. -/
def transformUnionsCard : Claim7 := { stood := { row := transformUnionsRow, standIns := [], harness := (true, "1e55fb04102b450163404f9d951610036aaa0acb96589fa6661d5d3c406bb9ab"), looks := false }, kinds := [], alts := [], laidByText := true, laidKinds := [.data, .data, .data], laidTests := true, laidLooks := .later }
def TransformUnionsCardSaid : Prop := Claim7.holds Tryd.pinned (.plain (OpenSpec.ofChange transformUnionsSpec)) transformUnionsCard

/-- THE TIED CARD OF 'petrinetlaw12.TransformReturns'. -/
def transformReturnsCard : Claim7 := { stood := { row := transformReturnsRow, standIns := [], harness := (true, "1e55fb04102b450163404f9d951610036aaa0acb96589fa6661d5d3c406bb9ab"), looks := false }, kinds := [], alts := [], laidByText := true, laidKinds := [.data, .data, .data], laidTests := true, laidLooks := .later }
def TransformReturnsCardSaid : Prop := Claim7.holds Tryd.pinned (.plain (OpenSpec.ofChange transformReturnsSpec)) transformReturnsCard

/-- THE TIED CARD OF 'petrinetlaw12.TransformJoins'. -/
def transformJoinsCard : Claim7 := { stood := { row := transformJoinsRow, standIns := [], harness := (true, "1e55fb04102b450163404f9d951610036aaa0acb96589fa6661d5d3c406bb9ab"), looks := false }, kinds := [], alts := [], laidByText := true, laidKinds := [.data, .data, .data], laidTests := true, laidLooks := .later }
def TransformJoinsCardSaid : Prop := Claim7.holds Tryd.pinned (.plain (OpenSpec.ofChange transformJoinsSpec)) transformJoinsCard

/-- THE TIED CARD OF 'petrinetlaw12.TransformStarts'. -/
def transformStartsCard : Claim7 := { stood := { row := transformStartsRow, standIns := [], harness := (true, "1e55fb04102b450163404f9d951610036aaa0acb96589fa6661d5d3c406bb9ab"), looks := false }, kinds := [], alts := [], laidByText := true, laidKinds := [.data, .data, .data], laidTests := true, laidLooks := .later }
def TransformStartsCardSaid : Prop := Claim7.holds Tryd.pinned (.plain (OpenSpec.ofChange transformStartsSpec)) transformStartsCard

/-- THE TIED CARD OF 'petrinetlaw12.TransformBehaves'. -/
def transformBehavesCard : Claim7 := { stood := { row := transformBehavesRow, standIns := [], harness := (true, "1e55fb04102b450163404f9d951610036aaa0acb96589fa6661d5d3c406bb9ab"), looks := false }, kinds := [], alts := [], laidByText := true, laidKinds := [.data, .data, .data], laidTests := true, laidLooks := .later }
def TransformBehavesCardSaid : Prop := Claim7.holds Tryd.pinned (.plain (OpenSpec.ofChange transformBehavesSpec)) transformBehavesCard

/-- THE SECOND FORM's CARD OF 'petrinetlaw12.TransformComplements'. -/
def transformComplementsUptoCard : Claim7 := { stood := { row := transformComplementsUptoRow, standIns := [], harness := (true, "1e55fb04102b450163404f9d951610036aaa0acb96589fa6661d5d3c406bb9ab"), looks := false }, kinds := [], alts := [], laidByText := true, laidKinds := [.data, .data, .data], laidTests := true, laidLooks := .later }
def TransformComplementsUptoCardSaid : Prop := Claim7.holds Tryd.pinned (.plain (OpenSpec.upto transformComplementsSpec)) transformComplementsUptoCard

/-- THE SECOND FORM's CARD OF 'petrinetlaw12.TransformMirrors'. -/
def transformMirrorsUptoCard : Claim7 := { stood := { row := transformMirrorsUptoRow, standIns := [], harness := (true, "1e55fb04102b450163404f9d951610036aaa0acb96589fa6661d5d3c406bb9ab"), looks := false }, kinds := [], alts := [], laidByText := true, laidKinds := [.data, .data, .data], laidTests := true, laidLooks := .later }
def TransformMirrorsUptoCardSaid : Prop := Claim7.holds Tryd.pinned (.plain (OpenSpec.upto transformMirrorsSpec)) transformMirrorsUptoCard

/-- THE SECOND FORM's CARD OF 'petrinetlaw12.TransformParts'. -/
def transformPartsUptoCard : Claim7 := { stood := { row := transformPartsUptoRow, standIns := [], harness := (true, "1e55fb04102b450163404f9d951610036aaa0acb96589fa6661d5d3c406bb9ab"), looks := false }, kinds := [], alts := [], laidByText := true, laidKinds := [.data, .data, .data], laidTests := true, laidLooks := .later }
def TransformPartsUptoCardSaid : Prop := Claim7.holds Tryd.pinned (.plain (OpenSpec.upto transformPartsSpec)) transformPartsUptoCard

/-- THE SECOND FORM's CARD OF 'petrinetlaw12.TransformUnions'. -/
def transformUnionsUptoCard : Claim7 := { stood := { row := transformUnionsUptoRow, standIns := [], harness := (true, "1e55fb04102b450163404f9d951610036aaa0acb96589fa6661d5d3c406bb9ab"), looks := false }, kinds := [], alts := [], laidByText := true, laidKinds := [.data, .data, .data], laidTests := true, laidLooks := .later }
def TransformUnionsUptoCardSaid : Prop := Claim7.holds Tryd.pinned (.plain (OpenSpec.upto transformUnionsSpec)) transformUnionsUptoCard

/-- THE SECOND FORM's CARD OF 'petrinetlaw12.TransformReturns'. -/
def transformReturnsUptoCard : Claim7 := { stood := { row := transformReturnsUptoRow, standIns := [], harness := (true, "1e55fb04102b450163404f9d951610036aaa0acb96589fa6661d5d3c406bb9ab"), looks := false }, kinds := [], alts := [], laidByText := true, laidKinds := [.data, .data, .data], laidTests := true, laidLooks := .later }
def TransformReturnsUptoCardSaid : Prop := Claim7.holds Tryd.pinned (.plain (OpenSpec.upto transformReturnsSpec)) transformReturnsUptoCard

/-- THE SECOND FORM's CARD OF 'petrinetlaw12.TransformJoins'. -/
def transformJoinsUptoCard : Claim7 := { stood := { row := transformJoinsUptoRow, standIns := [], harness := (true, "1e55fb04102b450163404f9d951610036aaa0acb96589fa6661d5d3c406bb9ab"), looks := false }, kinds := [], alts := [], laidByText := true, laidKinds := [.data, .data, .data], laidTests := true, laidLooks := .later }
def TransformJoinsUptoCardSaid : Prop := Claim7.holds Tryd.pinned (.plain (OpenSpec.upto transformJoinsSpec)) transformJoinsUptoCard

/-- THE SECOND FORM's CARD OF 'petrinetlaw12.TransformStarts'. -/
def transformStartsUptoCard : Claim7 := { stood := { row := transformStartsUptoRow, standIns := [], harness := (true, "1e55fb04102b450163404f9d951610036aaa0acb96589fa6661d5d3c406bb9ab"), looks := false }, kinds := [], alts := [], laidByText := true, laidKinds := [.data, .data, .data], laidTests := true, laidLooks := .later }
def TransformStartsUptoCardSaid : Prop := Claim7.holds Tryd.pinned (.plain (OpenSpec.upto transformStartsSpec)) transformStartsUptoCard

/-- THE SECOND FORM's CARD OF 'petrinetlaw12.TransformBehaves'. -/
def transformBehavesUptoCard : Claim7 := { stood := { row := transformBehavesUptoRow, standIns := [], harness := (true, "1e55fb04102b450163404f9d951610036aaa0acb96589fa6661d5d3c406bb9ab"), looks := false }, kinds := [], alts := [], laidByText := true, laidKinds := [.data, .data, .data], laidTests := true, laidLooks := .later }
def TransformBehavesUptoCardSaid : Prop := Claim7.holds Tryd.pinned (.plain (OpenSpec.upto transformBehavesSpec)) transformBehavesUptoCard
end Rows
end Go.Proofs.YtlfhhfjlflccgaaDoor
