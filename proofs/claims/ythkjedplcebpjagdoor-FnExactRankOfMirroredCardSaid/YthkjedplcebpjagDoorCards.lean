/-
  DERIVED. GIVEN WITH THE SEED: THE CARDS: each row of YthkjedplcebpjagDoorRows.lean that lists a variable, with what it lists TIED to the program's text (the seventh form; the later family's looks); each row that meets fmt, with fmt's text TOLD by the authors' own Lean function (tested against real Go, not proved from fmt's source: count such statements apart). THE CARD IS WHAT COUNTS. Prove the row's statement (the work); the ties are given (YthkjedplcebpjagDoorTie.lean); close each card by the builder's one call (the guide's Derived/Test/ToyasCard.lean, 'card_holds'). Laid BY PROGRAM, IN A SANDBOX (cutbox-door.mjs). By AI agents, Wed Nov 11 2026. No macro, syntax, notation, axiom, sorry.
-/
import Derived.Test.YthkjedplcebpjagDoorRows
import GoSem.ClaimSeven
namespace Go.Proofs.YthkjedplcebpjagDoor
namespace Rows

/-- THE TIED CARD OF 'laws.FnExactAddMiles'. -/
def fnExactAddMilesCard : Claim7 := { stood := { row := fnExactAddMilesRow, standIns := [], harness := (true, "1f861118dc8c60e7aa11f1ff3ef10c30b0573ba3453732f04de69e3e0574fb94"), looks := false }, kinds := [], alts := [], laidByText := true, laidKinds := [.data, .data, .data], laidTests := true, laidLooks := .later }
def FnExactAddMilesCardSaid : Prop := Claim7.holds Tryd.pinned (.plain (OpenSpec.ofChange fnExactAddMilesSpec)) fnExactAddMilesCard

/-- THE TIED CARD OF 'laws.FnExactRankOfMirrored'. -/
def fnExactRankOfMirroredCard : Claim7 := { stood := { row := fnExactRankOfMirroredRow, standIns := [], harness := (true, "1f861118dc8c60e7aa11f1ff3ef10c30b0573ba3453732f04de69e3e0574fb94"), looks := false }, kinds := [], alts := [], laidByText := true, laidKinds := [.data, .data, .data], laidTests := true, laidLooks := .later }
def FnExactRankOfMirroredCardSaid : Prop := Claim7.holds Tryd.pinned (.plain (OpenSpec.ofChange fnExactRankOfMirroredSpec)) fnExactRankOfMirroredCard

/-- THE TIED CARD OF 'laws.FnExactGreatestGapMirrored'. -/
def fnExactGreatestGapMirroredCard : Claim7 := { stood := { row := fnExactGreatestGapMirroredRow, standIns := [], harness := (true, "1f861118dc8c60e7aa11f1ff3ef10c30b0573ba3453732f04de69e3e0574fb94"), looks := false }, kinds := [], alts := [], laidByText := true, laidKinds := [.data, .data, .data], laidTests := true, laidLooks := .later }
def FnExactGreatestGapMirroredCardSaid : Prop := Claim7.holds Tryd.pinned (.plain (OpenSpec.ofChange fnExactGreatestGapMirroredSpec)) fnExactGreatestGapMirroredCard

/-- THE SECOND FORM's CARD OF 'laws.FnExactAddMiles'. -/
def fnExactAddMilesUptoCard : Claim7 := { stood := { row := fnExactAddMilesUptoRow, standIns := [], harness := (true, "1f861118dc8c60e7aa11f1ff3ef10c30b0573ba3453732f04de69e3e0574fb94"), looks := false }, kinds := [], alts := [], laidByText := true, laidKinds := [.data, .data, .data], laidTests := true, laidLooks := .later }
def FnExactAddMilesUptoCardSaid : Prop := Claim7.holds Tryd.pinned (.plain (OpenSpec.upto fnExactAddMilesSpec)) fnExactAddMilesUptoCard

/-- THE SECOND FORM's CARD OF 'laws.FnExactRankOfMirrored'. -/
def fnExactRankOfMirroredUptoCard : Claim7 := { stood := { row := fnExactRankOfMirroredUptoRow, standIns := [], harness := (true, "1f861118dc8c60e7aa11f1ff3ef10c30b0573ba3453732f04de69e3e0574fb94"), looks := false }, kinds := [], alts := [], laidByText := true, laidKinds := [.data, .data, .data], laidTests := true, laidLooks := .later }
def FnExactRankOfMirroredUptoCardSaid : Prop := Claim7.holds Tryd.pinned (.plain (OpenSpec.upto fnExactRankOfMirroredSpec)) fnExactRankOfMirroredUptoCard

/-- THE SECOND FORM's CARD OF 'laws.FnExactGreatestGapMirrored'. -/
def fnExactGreatestGapMirroredUptoCard : Claim7 := { stood := { row := fnExactGreatestGapMirroredUptoRow, standIns := [], harness := (true, "1f861118dc8c60e7aa11f1ff3ef10c30b0573ba3453732f04de69e3e0574fb94"), looks := false }, kinds := [], alts := [], laidByText := true, laidKinds := [.data, .data, .data], laidTests := true, laidLooks := .later }
def FnExactGreatestGapMirroredUptoCardSaid : Prop := Claim7.holds Tryd.pinned (.plain (OpenSpec.upto fnExactGreatestGapMirroredSpec)) fnExactGreatestGapMirroredUptoCard
end Rows
end Go.Proofs.YthkjedplcebpjagDoor
