/-
  DERIVED. GIVEN WITH THE SEED: THE CARDS: each row of YthkjedplcebpjahDoorRows.lean that lists a variable, with what it lists TIED to the program's text (the seventh form; the later family's looks); each row that meets fmt, with fmt's text TOLD by the authors' own Lean function (tested against real Go, not proved from fmt's source: count such statements apart). THE CARD IS WHAT COUNTS. Prove the row's statement (the work); the ties are given (YthkjedplcebpjahDoorTie.lean); close each card by the builder's one call (the guide's Derived/Test/ToyasCard.lean, 'card_holds'). Laid BY PROGRAM, IN A SANDBOX (cutbox-door.mjs). By AI agents, Wed Nov 11 2026. No macro, syntax, notation, axiom, sorry.
-/
import Derived.Test.YthkjedplcebpjahDoorRows
import GoSem.ClaimSeven
namespace Go.Proofs.YthkjedplcebpjahDoor
namespace Rows

/-- THE TIED CARD OF 'laws.FnExactFirstSound'. -/
def fnExactFirstSoundCard : Claim7 := { stood := { row := fnExactFirstSoundRow, standIns := [], harness := (true, "89558b6c8436642a733d500d1c80e9dfd9521527db513fa22ee980dcee9e8735"), looks := false }, kinds := [], alts := [], laidByText := true, laidKinds := [.data, .data, .data], laidTests := true, laidLooks := .later }
def FnExactFirstSoundCardSaid : Prop := Claim7.holds Tryd.pinned (.plain (OpenSpec.ofChange fnExactFirstSoundSpec)) fnExactFirstSoundCard

/-- THE SECOND FORM's CARD OF 'laws.FnExactFirstSound'. -/
def fnExactFirstSoundUptoCard : Claim7 := { stood := { row := fnExactFirstSoundUptoRow, standIns := [], harness := (true, "89558b6c8436642a733d500d1c80e9dfd9521527db513fa22ee980dcee9e8735"), looks := false }, kinds := [], alts := [], laidByText := true, laidKinds := [.data, .data, .data], laidTests := true, laidLooks := .later }
def FnExactFirstSoundUptoCardSaid : Prop := Claim7.holds Tryd.pinned (.plain (OpenSpec.upto fnExactFirstSoundSpec)) fnExactFirstSoundUptoCard
end Rows
end Go.Proofs.YthkjedplcebpjahDoor
