/-
  DERIVED. GIVEN WITH THE SEED: THE CARDS: each row of YthkjedplcebpjadDoorRows.lean that lists a variable, with what it lists TIED to the program's text (the seventh form; the later family's looks); each row that meets fmt, with fmt's text TOLD by the authors' own Lean function (tested against real Go, not proved from fmt's source: count such statements apart). THE CARD IS WHAT COUNTS. Prove the row's statement (the work); the ties are given (YthkjedplcebpjadDoorTie.lean); close each card by the builder's one call (the guide's Derived/Test/ToyasCard.lean, 'card_holds'). Laid BY PROGRAM, IN A SANDBOX (cutbox-door.mjs). By AI agents, Wed Nov 11 2026. No macro, syntax, notation, axiom, sorry.
-/
import Derived.Test.YthkjedplcebpjadDoorRows
import GoSem.ClaimSeven
namespace Go.Proofs.YthkjedplcebpjadDoor
namespace Rows

/-- THE TIED CARD OF 'laws.FnExactProductOfDigits'. -/
def fnExactProductOfDigitsCard : Claim7 := { stood := { row := fnExactProductOfDigitsRow, standIns := [], harness := (true, "05894d2d5657f64d5fbc076cdeea98b89b09357aaaed4b24ac52da8ab7e7f76c"), looks := false }, kinds := [], alts := [], laidByText := true, laidKinds := [.data, .data, .data], laidTests := true, laidLooks := .later }
def FnExactProductOfDigitsCardSaid : Prop := Claim7.holds Tryd.pinned (.plain (OpenSpec.ofChange fnExactProductOfDigitsSpec)) fnExactProductOfDigitsCard

/-- THE TIED CARD OF 'laws.FnExactSumDivides'. -/
def fnExactSumDividesCard : Claim7 := { stood := { row := fnExactSumDividesRow, standIns := [], harness := (true, "05894d2d5657f64d5fbc076cdeea98b89b09357aaaed4b24ac52da8ab7e7f76c"), looks := false }, kinds := [], alts := [], laidByText := true, laidKinds := [.data, .data, .data], laidTests := true, laidLooks := .later }
def FnExactSumDividesCardSaid : Prop := Claim7.holds Tryd.pinned (.plain (OpenSpec.ofChange fnExactSumDividesSpec)) fnExactSumDividesCard

/-- THE SECOND FORM's CARD OF 'laws.FnExactProductOfDigits'. -/
def fnExactProductOfDigitsUptoCard : Claim7 := { stood := { row := fnExactProductOfDigitsUptoRow, standIns := [], harness := (true, "05894d2d5657f64d5fbc076cdeea98b89b09357aaaed4b24ac52da8ab7e7f76c"), looks := false }, kinds := [], alts := [], laidByText := true, laidKinds := [.data, .data, .data], laidTests := true, laidLooks := .later }
def FnExactProductOfDigitsUptoCardSaid : Prop := Claim7.holds Tryd.pinned (.plain (OpenSpec.upto fnExactProductOfDigitsSpec)) fnExactProductOfDigitsUptoCard

/-- THE SECOND FORM's CARD OF 'laws.FnExactSumDivides'. -/
def fnExactSumDividesUptoCard : Claim7 := { stood := { row := fnExactSumDividesUptoRow, standIns := [], harness := (true, "05894d2d5657f64d5fbc076cdeea98b89b09357aaaed4b24ac52da8ab7e7f76c"), looks := false }, kinds := [], alts := [], laidByText := true, laidKinds := [.data, .data, .data], laidTests := true, laidLooks := .later }
def FnExactSumDividesUptoCardSaid : Prop := Claim7.holds Tryd.pinned (.plain (OpenSpec.upto fnExactSumDividesSpec)) fnExactSumDividesUptoCard
end Rows
end Go.Proofs.YthkjedplcebpjadDoor
