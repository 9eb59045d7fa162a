/-
  DERIVED. GIVEN WITH THE SEED: THE CARDS: each row of YthkjedplcebpjaeDoorRows.lean that lists a variable, with what it lists TIED to the program's text (the seventh form; the later family's looks); each row that meets fmt, with fmt's text TOLD by the authors' own Lean function (tested against real Go, not proved from fmt's source: count such statements apart). THE CARD IS WHAT COUNTS. Prove the row's statement (the work); the ties are given (YthkjedplcebpjaeDoorTie.lean); close each card by the builder's one call (the guide's Derived/Test/ToyasCard.lean, 'card_holds'). Laid BY PROGRAM, IN A SANDBOX (cutbox-door.mjs). By AI agents, Wed Nov 11 2026. No macro, syntax, notation, axiom, sorry.
-/
import Derived.Test.YthkjedplcebpjaeDoorRows
import GoSem.ClaimSeven
namespace Go.Proofs.YthkjedplcebpjaeDoor
namespace Rows

/-- THE TIED CARD OF 'laws.FnExactProductSteps'. -/
def fnExactProductStepsCard : Claim7 := { stood := { row := fnExactProductStepsRow, standIns := [], harness := (true, "114402d1a7301759de21e31c383705e4dc9120832998ac419ba88a8bac192a61"), looks := false }, kinds := [], alts := [], laidByText := true, laidKinds := [.data, .data, .data], laidTests := true, laidLooks := .later }
def FnExactProductStepsCardSaid : Prop := Claim7.holds Tryd.pinned (.plain (OpenSpec.ofChange fnExactProductStepsSpec)) fnExactProductStepsCard

/-- THE TIED CARD OF 'laws.FnExactGreatestOfDigits'. -/
def fnExactGreatestOfDigitsCard : Claim7 := { stood := { row := fnExactGreatestOfDigitsRow, standIns := [], harness := (true, "114402d1a7301759de21e31c383705e4dc9120832998ac419ba88a8bac192a61"), looks := false }, kinds := [], alts := [], laidByText := true, laidKinds := [.data, .data, .data], laidTests := true, laidLooks := .later }
def FnExactGreatestOfDigitsCardSaid : Prop := Claim7.holds Tryd.pinned (.plain (OpenSpec.ofChange fnExactGreatestOfDigitsSpec)) fnExactGreatestOfDigitsCard

/-- THE TIED CARD OF 'laws.FnExactLeastOfDigits'. -/
def fnExactLeastOfDigitsCard : Claim7 := { stood := { row := fnExactLeastOfDigitsRow, standIns := [], harness := (true, "114402d1a7301759de21e31c383705e4dc9120832998ac419ba88a8bac192a61"), looks := false }, kinds := [], alts := [], laidByText := true, laidKinds := [.data, .data, .data], laidTests := true, laidLooks := .later }
def FnExactLeastOfDigitsCardSaid : Prop := Claim7.holds Tryd.pinned (.plain (OpenSpec.ofChange fnExactLeastOfDigitsSpec)) fnExactLeastOfDigitsCard

/-- THE TIED CARD OF 'laws.FnExactLastSameDigits'. -/
def fnExactLastSameDigitsCard : Claim7 := { stood := { row := fnExactLastSameDigitsRow, standIns := [], harness := (true, "114402d1a7301759de21e31c383705e4dc9120832998ac419ba88a8bac192a61"), looks := false }, kinds := [], alts := [], laidByText := true, laidKinds := [.data, .data, .data], laidTests := true, laidLooks := .later }
def FnExactLastSameDigitsCardSaid : Prop := Claim7.holds Tryd.pinned (.plain (OpenSpec.ofChange fnExactLastSameDigitsSpec)) fnExactLastSameDigitsCard

/-- THE SECOND FORM's CARD OF 'laws.FnExactProductSteps'. -/
def fnExactProductStepsUptoCard : Claim7 := { stood := { row := fnExactProductStepsUptoRow, standIns := [], harness := (true, "114402d1a7301759de21e31c383705e4dc9120832998ac419ba88a8bac192a61"), looks := false }, kinds := [], alts := [], laidByText := true, laidKinds := [.data, .data, .data], laidTests := true, laidLooks := .later }
def FnExactProductStepsUptoCardSaid : Prop := Claim7.holds Tryd.pinned (.plain (OpenSpec.upto fnExactProductStepsSpec)) fnExactProductStepsUptoCard

/-- THE SECOND FORM's CARD OF 'laws.FnExactGreatestOfDigits'. -/
def fnExactGreatestOfDigitsUptoCard : Claim7 := { stood := { row := fnExactGreatestOfDigitsUptoRow, standIns := [], harness := (true, "114402d1a7301759de21e31c383705e4dc9120832998ac419ba88a8bac192a61"), looks := false }, kinds := [], alts := [], laidByText := true, laidKinds := [.data, .data, .data], laidTests := true, laidLooks := .later }
def FnExactGreatestOfDigitsUptoCardSaid : Prop := Claim7.holds Tryd.pinned (.plain (OpenSpec.upto fnExactGreatestOfDigitsSpec)) fnExactGreatestOfDigitsUptoCard

/-- THE SECOND FORM's CARD OF 'laws.FnExactLeastOfDigits'. -/
def fnExactLeastOfDigitsUptoCard : Claim7 := { stood := { row := fnExactLeastOfDigitsUptoRow, standIns := [], harness := (true, "114402d1a7301759de21e31c383705e4dc9120832998ac419ba88a8bac192a61"), looks := false }, kinds := [], alts := [], laidByText := true, laidKinds := [.data, .data, .data], laidTests := true, laidLooks := .later }
def FnExactLeastOfDigitsUptoCardSaid : Prop := Claim7.holds Tryd.pinned (.plain (OpenSpec.upto fnExactLeastOfDigitsSpec)) fnExactLeastOfDigitsUptoCard

/-- THE SECOND FORM's CARD OF 'laws.FnExactLastSameDigits'. -/
def fnExactLastSameDigitsUptoCard : Claim7 := { stood := { row := fnExactLastSameDigitsUptoRow, standIns := [], harness := (true, "114402d1a7301759de21e31c383705e4dc9120832998ac419ba88a8bac192a61"), looks := false }, kinds := [], alts := [], laidByText := true, laidKinds := [.data, .data, .data], laidTests := true, laidLooks := .later }
def FnExactLastSameDigitsUptoCardSaid : Prop := Claim7.holds Tryd.pinned (.plain (OpenSpec.upto fnExactLastSameDigitsSpec)) fnExactLastSameDigitsUptoCard
end Rows
end Go.Proofs.YthkjedplcebpjaeDoor
