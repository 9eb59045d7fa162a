/-
  DERIVED. GIVEN WITH THE SEED: THE CARDS: each row of YtkbbmkbkpkmdkaaDoorRows.lean that lists a variable, with what it lists TIED to the program's text (the seventh form; the later family's looks); each row that meets fmt, with fmt's text TOLD by the authors' own Lean function (tested against real Go, not proved from fmt's source: count such statements apart). THE CARD IS WHAT COUNTS. Prove the row's statement (the work); the ties are given (YtkbbmkbkpkmdkaaDoorTie.lean); close each card by the builder's one call (the guide's Derived/Test/ToyasCard.lean, 'card_holds'). Laid BY PROGRAM, IN A SANDBOX (cutbox-door.mjs). By AI agents, Wed Nov 11 2026. No macro, syntax, notation, axiom, sorry.
-/
import Derived.Test.YtkbbmkbkpkmdkaaDoorRows
import GoSem.ClaimSeven
namespace Go.Proofs.YtkbbmkbkpkmdkaaDoor
namespace Rows

/-- THE TIED CARD OF 'laws.FnExactLastSameDigits'. -/
def fnExactLastSameDigitsCard : Claim7 := { stood := { row := fnExactLastSameDigitsRow, standIns := [], harness := (true, "503a50d6e519ed6ce0b95acdf88cf91e72612a08b370b2114a519a49919dab23"), looks := false }, kinds := [], alts := [], laidByText := true, laidKinds := [.data, .data, .data], laidTests := true, laidLooks := .later }
def FnExactLastSameDigitsCardSaid : Prop := Claim7.holds Tryd.pinned (.plain (OpenSpec.ofChange fnExactLastSameDigitsSpec)) fnExactLastSameDigitsCard

/-- THE TIED CARD OF 'laws.FnExactNextSameDigits'. -/
def fnExactNextSameDigitsCard : Claim7 := { stood := { row := fnExactNextSameDigitsRow, standIns := [], harness := (true, "503a50d6e519ed6ce0b95acdf88cf91e72612a08b370b2114a519a49919dab23"), looks := false }, kinds := [], alts := [], laidByText := true, laidKinds := [.data, .data, .data], laidTests := true, laidLooks := .later }
def FnExactNextSameDigitsCardSaid : Prop := Claim7.holds Tryd.pinned (.plain (OpenSpec.ofChange fnExactNextSameDigitsSpec)) fnExactNextSameDigitsCard

/-- THE SECOND FORM's CARD OF 'laws.FnExactLastSameDigits'. -/
def fnExactLastSameDigitsUptoCard : Claim7 := { stood := { row := fnExactLastSameDigitsUptoRow, standIns := [], harness := (true, "503a50d6e519ed6ce0b95acdf88cf91e72612a08b370b2114a519a49919dab23"), looks := false }, kinds := [], alts := [], laidByText := true, laidKinds := [.data, .data, .data], laidTests := true, laidLooks := .later }
def FnExactLastSameDigitsUptoCardSaid : Prop := Claim7.holds Tryd.pinned (.plain (OpenSpec.upto fnExactLastSameDigitsSpec)) fnExactLastSameDigitsUptoCard

/-- THE SECOND FORM's CARD OF 'laws.FnExactNextSameDigits'. -/
def fnExactNextSameDigitsUptoCard : Claim7 := { stood := { row := fnExactNextSameDigitsUptoRow, standIns := [], harness := (true, "503a50d6e519ed6ce0b95acdf88cf91e72612a08b370b2114a519a49919dab23"), looks := false }, kinds := [], alts := [], laidByText := true, laidKinds := [.data, .data, .data], laidTests := true, laidLooks := .later }
def FnExactNextSameDigitsUptoCardSaid : Prop := Claim7.holds Tryd.pinned (.plain (OpenSpec.upto fnExactNextSameDigitsSpec)) fnExactNextSameDigitsUptoCard
end Rows
end Go.Proofs.YtkbbmkbkpkmdkaaDoor
