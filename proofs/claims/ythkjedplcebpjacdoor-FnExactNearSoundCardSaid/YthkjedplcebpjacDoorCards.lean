/-
  DERIVED. GIVEN WITH THE SEED: THE CARDS: each row of YthkjedplcebpjacDoorRows.lean that lists a variable, with what it lists TIED to the program's text (the seventh form; the later family's looks); each row that meets fmt, with fmt's text TOLD by the authors' own Lean function (tested against real Go, not proved from fmt's source: count such statements apart). THE CARD IS WHAT COUNTS. Prove the row's statement (the work); the ties are given (YthkjedplcebpjacDoorTie.lean); close each card by the builder's one call (the guide's Derived/Test/ToyasCard.lean, 'card_holds'). Laid BY PROGRAM, IN A SANDBOX (cutbox-door.mjs). By AI agents, Wed Nov 11 2026. No macro, syntax, notation, axiom, sorry.
-/
import Derived.Test.YthkjedplcebpjacDoorRows
import GoSem.ClaimSeven
namespace Go.Proofs.YthkjedplcebpjacDoor
namespace Rows

/-- THE TIED CARD OF 'laws.FnExactNearSound'. -/
def fnExactNearSoundCard : Claim7 := { stood := { row := fnExactNearSoundRow, standIns := [], harness := (true, "13c64b959099089e102a3d1b746196262d456a8d7a22b13271fb8d255e92ad4e"), looks := false }, kinds := [], alts := [], laidByText := true, laidKinds := [.data, .data, .data], laidTests := true, laidLooks := .later }
def FnExactNearSoundCardSaid : Prop := Claim7.holds Tryd.pinned (.plain (OpenSpec.ofChange fnExactNearSoundSpec)) fnExactNearSoundCard

/-- THE SECOND FORM's CARD OF 'laws.FnExactNearSound'. -/
def fnExactNearSoundUptoCard : Claim7 := { stood := { row := fnExactNearSoundUptoRow, standIns := [], harness := (true, "13c64b959099089e102a3d1b746196262d456a8d7a22b13271fb8d255e92ad4e"), looks := false }, kinds := [], alts := [], laidByText := true, laidKinds := [.data, .data, .data], laidTests := true, laidLooks := .later }
def FnExactNearSoundUptoCardSaid : Prop := Claim7.holds Tryd.pinned (.plain (OpenSpec.upto fnExactNearSoundSpec)) fnExactNearSoundUptoCard
end Rows
end Go.Proofs.YthkjedplcebpjacDoor
