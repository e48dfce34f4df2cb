/-
  DERIVED. GIVEN WITH THE SEED: THE CARDS: each row of YtigghbfcflnoeaaDoorRows.lean that lists a variable, with what it lists TIED to the program's text (the seventh form; the later family's looks); each row that meets fmt, with fmt's text TOLD by the authors' own Lean function (tested against real Go, not proved from fmt's source: count such statements apart). THE CARD IS WHAT COUNTS. Prove the row's statement (the work); the ties are given (YtigghbfcflnoeaaDoorTie.lean); close each card by the builder's one call (the guide's Derived/Test/ToyasCard.lean, 'card_holds'). Laid BY PROGRAM, IN A SANDBOX (cutbox-door.mjs). By AI agents, Wed Nov 11 2026. No macro, syntax, notation, axiom, sorry.
-/
import Derived.Test.YtigghbfcflnoeaaDoorRows
import GoSem.ClaimSeven
namespace Go.Proofs.YtigghbfcflnoeaaDoor
namespace Rows

/-- THE TIED CARD OF 'vestrylaw10.ExprMatchesReference'. -/
def exprMatchesReferenceCard : Claim7 := { stood := { row := exprMatchesReferenceRow, standIns := [], harness := (true, "73269c5990668e0b4c79949e972bca21a0f6a4d021e3a96f97fa812c585b1c92"), looks := true }, kinds := [], alts := [], laidByText := true, laidKinds := [.widerDeep], laidTests := true, laidLooks := .later }
def ExprMatchesReferenceCardSaid : Prop := Claim7.holds Tryd.pinned (.plain (OpenSpec.ofChange exprMatchesReferenceSpec)) exprMatchesReferenceCard

/-- THE TIED CARD OF 'vestrylaw10.ExprCompares'. -/
def exprComparesCard : Claim7 := { stood := { row := exprComparesRow, standIns := [], harness := (true, "73269c5990668e0b4c79949e972bca21a0f6a4d021e3a96f97fa812c585b1c92"), looks := true }, kinds := [], alts := [], laidByText := true, laidKinds := [.widerDeep], laidTests := true, laidLooks := .later }
def ExprComparesCardSaid : Prop := Claim7.holds Tryd.pinned (.plain (OpenSpec.ofChange exprComparesSpec)) exprComparesCard

/-- THE TIED CARD OF 'vestrylaw10.ExprTexts'. -/
def exprTextsCard : Claim7 := { stood := { row := exprTextsRow, standIns := [], harness := (true, "73269c5990668e0b4c79949e972bca21a0f6a4d021e3a96f97fa812c585b1c92"), looks := true }, kinds := [], alts := [], laidByText := true, laidKinds := [.widerDeep], laidTests := true, laidLooks := .later }
def ExprTextsCardSaid : Prop := Claim7.holds Tryd.pinned (.plain (OpenSpec.ofChange exprTextsSpec)) exprTextsCard

/-- THE TIED CARD OF 'vestrylaw10.ExprLeaves'. -/
def exprLeavesCard : Claim7 := { stood := { row := exprLeavesRow, standIns := [], harness := (true, "73269c5990668e0b4c79949e972bca21a0f6a4d021e3a96f97fa812c585b1c92"), looks := true }, kinds := [], alts := [], laidByText := true, laidKinds := [.widerDeep], laidTests := true, laidLooks := .later }
def ExprLeavesCardSaid : Prop := Claim7.holds Tryd.pinned (.plain (OpenSpec.ofChange exprLeavesSpec)) exprLeavesCard

/-- THE TIED CARD OF 'vestrylaw10.ExprMaps'. -/
def exprMapsCard : Claim7 := { stood := { row := exprMapsRow, standIns := [], harness := (true, "73269c5990668e0b4c79949e972bca21a0f6a4d021e3a96f97fa812c585b1c92"), looks := true }, kinds := [], alts := [], laidByText := true, laidKinds := [.widerDeep], laidTests := true, laidLooks := .later }
def ExprMapsCardSaid : Prop := Claim7.holds Tryd.pinned (.plain (OpenSpec.ofChange exprMapsSpec)) exprMapsCard

/-- THE TIED CARD OF 'vestrylaw11.SchemaAllows'. -/
def schemaAllowsCard : Claim7 := { stood := { row := schemaAllowsRow, standIns := [], harness := (true, "73269c5990668e0b4c79949e972bca21a0f6a4d021e3a96f97fa812c585b1c92"), looks := true }, kinds := [], alts := [], laidByText := true, laidKinds := [.widerDeep], laidTests := true, laidLooks := .later }
def SchemaAllowsCardSaid : Prop := Claim7.holds Tryd.pinned (.plain (OpenSpec.ofChange schemaAllowsSpec)) schemaAllowsCard

/-- THE TIED CARD OF 'vestrylaw12.ParseExprs'. -/
def parseExprsCard : Claim7 := { stood := { row := parseExprsRow, standIns := [], harness := (true, "73269c5990668e0b4c79949e972bca21a0f6a4d021e3a96f97fa812c585b1c92"), looks := true }, kinds := [], alts := [], laidByText := true, laidKinds := [.handle, .widerDeep], laidTests := true, laidLooks := .later }
def ParseExprsCardSaid : Prop := Claim7.holds Tryd.pinned (.plain (OpenSpec.ofChange parseExprsSpec)) parseExprsCard

/-- THE TIED CARD OF 'vestrylaw12.ParseNests'. -/
def parseNestsCard : Claim7 := { stood := { row := parseNestsRow, standIns := [], harness := (true, "73269c5990668e0b4c79949e972bca21a0f6a4d021e3a96f97fa812c585b1c92"), looks := true }, kinds := [], alts := [], laidByText := true, laidKinds := [.handle, .widerDeep], laidTests := true, laidLooks := .later }
def ParseNestsCardSaid : Prop := Claim7.holds Tryd.pinned (.plain (OpenSpec.ofChange parseNestsSpec)) parseNestsCard

/-- THE TIED CARD OF 'vestrylaw12.ParseLimits'. -/
def parseLimitsCard : Claim7 := { stood := { row := parseLimitsRow, standIns := [], harness := (true, "73269c5990668e0b4c79949e972bca21a0f6a4d021e3a96f97fa812c585b1c92"), looks := true }, kinds := [], alts := [], laidByText := true, laidKinds := [.handle, .widerDeep], laidTests := true, laidLooks := .later }
def ParseLimitsCardSaid : Prop := Claim7.holds Tryd.pinned (.plain (OpenSpec.ofChange parseLimitsSpec)) parseLimitsCard

/-- THE TIED CARD OF 'vestrylaw12.ParseTypes'. -/
def parseTypesCard : Claim7 := { stood := { row := parseTypesRow, standIns := [], harness := (true, "73269c5990668e0b4c79949e972bca21a0f6a4d021e3a96f97fa812c585b1c92"), looks := true }, kinds := [], alts := [], laidByText := true, laidKinds := [.handle, .widerDeep], laidTests := true, laidLooks := .later }
def ParseTypesCardSaid : Prop := Claim7.holds Tryd.pinned (.plain (OpenSpec.ofChange parseTypesSpec)) parseTypesCard

/-- THE SECOND FORM's CARD OF 'vestrylaw10.ExprMatchesReference'. -/
def exprMatchesReferenceUptoCard : Claim7 := { stood := { row := exprMatchesReferenceUptoRow, standIns := [], harness := (true, "73269c5990668e0b4c79949e972bca21a0f6a4d021e3a96f97fa812c585b1c92"), looks := true }, kinds := [], alts := [], laidByText := true, laidKinds := [.widerDeep], laidTests := true, laidLooks := .later }
def ExprMatchesReferenceUptoCardSaid : Prop := Claim7.holds Tryd.pinned (.plain (OpenSpec.upto exprMatchesReferenceSpec)) exprMatchesReferenceUptoCard

/-- THE SECOND FORM's CARD OF 'vestrylaw10.ExprCompares'. -/
def exprComparesUptoCard : Claim7 := { stood := { row := exprComparesUptoRow, standIns := [], harness := (true, "73269c5990668e0b4c79949e972bca21a0f6a4d021e3a96f97fa812c585b1c92"), looks := true }, kinds := [], alts := [], laidByText := true, laidKinds := [.widerDeep], laidTests := true, laidLooks := .later }
def ExprComparesUptoCardSaid : Prop := Claim7.holds Tryd.pinned (.plain (OpenSpec.upto exprComparesSpec)) exprComparesUptoCard

/-- THE SECOND FORM's CARD OF 'vestrylaw10.ExprTexts'. -/
def exprTextsUptoCard : Claim7 := { stood := { row := exprTextsUptoRow, standIns := [], harness := (true, "73269c5990668e0b4c79949e972bca21a0f6a4d021e3a96f97fa812c585b1c92"), looks := true }, kinds := [], alts := [], laidByText := true, laidKinds := [.widerDeep], laidTests := true, laidLooks := .later }
def ExprTextsUptoCardSaid : Prop := Claim7.holds Tryd.pinned (.plain (OpenSpec.upto exprTextsSpec)) exprTextsUptoCard

/-- THE SECOND FORM's CARD OF 'vestrylaw10.ExprLeaves'. -/
def exprLeavesUptoCard : Claim7 := { stood := { row := exprLeavesUptoRow, standIns := [], harness := (true, "73269c5990668e0b4c79949e972bca21a0f6a4d021e3a96f97fa812c585b1c92"), looks := true }, kinds := [], alts := [], laidByText := true, laidKinds := [.widerDeep], laidTests := true, laidLooks := .later }
def ExprLeavesUptoCardSaid : Prop := Claim7.holds Tryd.pinned (.plain (OpenSpec.upto exprLeavesSpec)) exprLeavesUptoCard

/-- THE SECOND FORM's CARD OF 'vestrylaw10.ExprMaps'. -/
def exprMapsUptoCard : Claim7 := { stood := { row := exprMapsUptoRow, standIns := [], harness := (true, "73269c5990668e0b4c79949e972bca21a0f6a4d021e3a96f97fa812c585b1c92"), looks := true }, kinds := [], alts := [], laidByText := true, laidKinds := [.widerDeep], laidTests := true, laidLooks := .later }
def ExprMapsUptoCardSaid : Prop := Claim7.holds Tryd.pinned (.plain (OpenSpec.upto exprMapsSpec)) exprMapsUptoCard

/-- THE SECOND FORM's CARD OF 'vestrylaw11.SchemaAllows'. -/
def schemaAllowsUptoCard : Claim7 := { stood := { row := schemaAllowsUptoRow, standIns := [], harness := (true, "73269c5990668e0b4c79949e972bca21a0f6a4d021e3a96f97fa812c585b1c92"), looks := true }, kinds := [], alts := [], laidByText := true, laidKinds := [.widerDeep], laidTests := true, laidLooks := .later }
def SchemaAllowsUptoCardSaid : Prop := Claim7.holds Tryd.pinned (.plain (OpenSpec.upto schemaAllowsSpec)) schemaAllowsUptoCard

/-- THE SECOND FORM's CARD OF 'vestrylaw12.ParseExprs'. -/
def parseExprsUptoCard : Claim7 := { stood := { row := parseExprsUptoRow, standIns := [], harness := (true, "73269c5990668e0b4c79949e972bca21a0f6a4d021e3a96f97fa812c585b1c92"), looks := true }, kinds := [], alts := [], laidByText := true, laidKinds := [.handle, .widerDeep], laidTests := true, laidLooks := .later }
def ParseExprsUptoCardSaid : Prop := Claim7.holds Tryd.pinned (.plain (OpenSpec.upto parseExprsSpec)) parseExprsUptoCard

/-- THE SECOND FORM's CARD OF 'vestrylaw12.ParseNests'. -/
def parseNestsUptoCard : Claim7 := { stood := { row := parseNestsUptoRow, standIns := [], harness := (true, "73269c5990668e0b4c79949e972bca21a0f6a4d021e3a96f97fa812c585b1c92"), looks := true }, kinds := [], alts := [], laidByText := true, laidKinds := [.handle, .widerDeep], laidTests := true, laidLooks := .later }
def ParseNestsUptoCardSaid : Prop := Claim7.holds Tryd.pinned (.plain (OpenSpec.upto parseNestsSpec)) parseNestsUptoCard

/-- THE SECOND FORM's CARD OF 'vestrylaw12.ParseLimits'. -/
def parseLimitsUptoCard : Claim7 := { stood := { row := parseLimitsUptoRow, standIns := [], harness := (true, "73269c5990668e0b4c79949e972bca21a0f6a4d021e3a96f97fa812c585b1c92"), looks := true }, kinds := [], alts := [], laidByText := true, laidKinds := [.handle, .widerDeep], laidTests := true, laidLooks := .later }
def ParseLimitsUptoCardSaid : Prop := Claim7.holds Tryd.pinned (.plain (OpenSpec.upto parseLimitsSpec)) parseLimitsUptoCard

/-- THE SECOND FORM's CARD OF 'vestrylaw12.ParseTypes'. -/
def parseTypesUptoCard : Claim7 := { stood := { row := parseTypesUptoRow, standIns := [], harness := (true, "73269c5990668e0b4c79949e972bca21a0f6a4d021e3a96f97fa812c585b1c92"), looks := true }, kinds := [], alts := [], laidByText := true, laidKinds := [.handle, .widerDeep], laidTests := true, laidLooks := .later }
def ParseTypesUptoCardSaid : Prop := Claim7.holds Tryd.pinned (.plain (OpenSpec.upto parseTypesSpec)) parseTypesUptoCard
end Rows
end Go.Proofs.YtigghbfcflnoeaaDoor
