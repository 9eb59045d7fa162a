/-
  DERIVED. GIVEN WITH THE SEED: THE CARDS: each row of YthkjedplcebpjafDoorRows.lean that lists a variable, with what it lists TIED to the program's text (the seventh form; the later family's looks); each row that meets fmt, with fmt's text TOLD by the authors' own Lean function (tested against real Go, not proved from fmt's source: count such statements apart). THE CARD IS WHAT COUNTS. Prove the row's statement (the work); the ties are given (YthkjedplcebpjafDoorTie.lean); close each card by the builder's one call (the guide's Derived/Test/ToyasCard.lean, 'card_holds'). Laid BY PROGRAM, IN A SANDBOX (cutbox-door.mjs). By AI agents, Wed Nov 11 2026. No macro, syntax, notation, axiom, sorry.
-/
import Derived.Test.YthkjedplcebpjafDoorRows
import GoSem.ClaimSeven
namespace Go.Proofs.YthkjedplcebpjafDoor
namespace Rows

/-- THE TIED CARD OF 'laws.FnExactNextSameDigits'. -/
def fnExactNextSameDigitsCard : Claim7 := { stood := { row := fnExactNextSameDigitsRow, standIns := [], harness := (true, "4908a7ae76489231c42a0edc274057ae3e117ab6b57f4d4078d5b007d2cdde67"), looks := false }, kinds := [], alts := [], laidByText := true, laidKinds := [.data, .data, .data], laidTests := true, laidLooks := .later }
def FnExactNextSameDigitsCardSaid : Prop := Claim7.holds Tryd.pinned (.plain (OpenSpec.ofChange fnExactNextSameDigitsSpec)) fnExactNextSameDigitsCard

/-- THE TIED CARD OF 'laws.FnExactCheckDigit'. -/
def fnExactCheckDigitCard : Claim7 := { stood := { row := fnExactCheckDigitRow, standIns := [], harness := (true, "4908a7ae76489231c42a0edc274057ae3e117ab6b57f4d4078d5b007d2cdde67"), looks := false }, kinds := [], alts := [], laidByText := true, laidKinds := [.data, .data, .data], laidTests := true, laidLooks := .later }
def FnExactCheckDigitCardSaid : Prop := Claim7.holds Tryd.pinned (.plain (OpenSpec.ofChange fnExactCheckDigitSpec)) fnExactCheckDigitCard

/-- THE TIED CARD OF 'laws.FnExactCheckText'. -/
def fnExactCheckTextCard : Claim7 := { stood := { row := fnExactCheckTextRow, standIns := [], harness := (true, "4908a7ae76489231c42a0edc274057ae3e117ab6b57f4d4078d5b007d2cdde67"), looks := false }, kinds := [], alts := [], laidByText := true, laidKinds := [.data, .data, .data], laidTests := true, laidLooks := .later }
def FnExactCheckTextCardSaid : Prop := Claim7.holds Tryd.pinned (.plain (OpenSpec.ofChange fnExactCheckTextSpec)) fnExactCheckTextCard

/-- THE TIED CARD OF 'laws.FnExactFillUnread'. -/
def fnExactFillUnreadCard : Claim7 := { stood := { row := fnExactFillUnreadRow, standIns := [], harness := (true, "4908a7ae76489231c42a0edc274057ae3e117ab6b57f4d4078d5b007d2cdde67"), looks := false }, kinds := [], alts := [], laidByText := true, laidKinds := [.data, .data, .data], laidTests := true, laidLooks := .later }
def FnExactFillUnreadCardSaid : Prop := Claim7.holds Tryd.pinned (.plain (OpenSpec.ofChange fnExactFillUnreadSpec)) fnExactFillUnreadCard

/-- THE TIED CARD OF 'laws.FnExactMirroredOfRank'. -/
def fnExactMirroredOfRankCard : Claim7 := { stood := { row := fnExactMirroredOfRankRow, standIns := [], harness := (true, "4908a7ae76489231c42a0edc274057ae3e117ab6b57f4d4078d5b007d2cdde67"), looks := false }, kinds := [], alts := [], laidByText := true, laidKinds := [.data, .data, .data], laidTests := true, laidLooks := .later }
def FnExactMirroredOfRankCardSaid : Prop := Claim7.holds Tryd.pinned (.plain (OpenSpec.ofChange fnExactMirroredOfRankSpec)) fnExactMirroredOfRankCard

/-- THE SECOND FORM's CARD OF 'laws.FnExactNextSameDigits'. -/
def fnExactNextSameDigitsUptoCard : Claim7 := { stood := { row := fnExactNextSameDigitsUptoRow, standIns := [], harness := (true, "4908a7ae76489231c42a0edc274057ae3e117ab6b57f4d4078d5b007d2cdde67"), looks := false }, kinds := [], alts := [], laidByText := true, laidKinds := [.data, .data, .data], laidTests := true, laidLooks := .later }
def FnExactNextSameDigitsUptoCardSaid : Prop := Claim7.holds Tryd.pinned (.plain (OpenSpec.upto fnExactNextSameDigitsSpec)) fnExactNextSameDigitsUptoCard

/-- THE SECOND FORM's CARD OF 'laws.FnExactCheckDigit'. -/
def fnExactCheckDigitUptoCard : Claim7 := { stood := { row := fnExactCheckDigitUptoRow, standIns := [], harness := (true, "4908a7ae76489231c42a0edc274057ae3e117ab6b57f4d4078d5b007d2cdde67"), looks := false }, kinds := [], alts := [], laidByText := true, laidKinds := [.data, .data, .data], laidTests := true, laidLooks := .later }
def FnExactCheckDigitUptoCardSaid : Prop := Claim7.holds Tryd.pinned (.plain (OpenSpec.upto fnExactCheckDigitSpec)) fnExactCheckDigitUptoCard

/-- THE SECOND FORM's CARD OF 'laws.FnExactCheckText'. -/
def fnExactCheckTextUptoCard : Claim7 := { stood := { row := fnExactCheckTextUptoRow, standIns := [], harness := (true, "4908a7ae76489231c42a0edc274057ae3e117ab6b57f4d4078d5b007d2cdde67"), looks := false }, kinds := [], alts := [], laidByText := true, laidKinds := [.data, .data, .data], laidTests := true, laidLooks := .later }
def FnExactCheckTextUptoCardSaid : Prop := Claim7.holds Tryd.pinned (.plain (OpenSpec.upto fnExactCheckTextSpec)) fnExactCheckTextUptoCard

/-- THE SECOND FORM's CARD OF 'laws.FnExactFillUnread'. -/
def fnExactFillUnreadUptoCard : Claim7 := { stood := { row := fnExactFillUnreadUptoRow, standIns := [], harness := (true, "4908a7ae76489231c42a0edc274057ae3e117ab6b57f4d4078d5b007d2cdde67"), looks := false }, kinds := [], alts := [], laidByText := true, laidKinds := [.data, .data, .data], laidTests := true, laidLooks := .later }
def FnExactFillUnreadUptoCardSaid : Prop := Claim7.holds Tryd.pinned (.plain (OpenSpec.upto fnExactFillUnreadSpec)) fnExactFillUnreadUptoCard

/-- THE SECOND FORM's CARD OF 'laws.FnExactMirroredOfRank'. -/
def fnExactMirroredOfRankUptoCard : Claim7 := { stood := { row := fnExactMirroredOfRankUptoRow, standIns := [], harness := (true, "4908a7ae76489231c42a0edc274057ae3e117ab6b57f4d4078d5b007d2cdde67"), looks := false }, kinds := [], alts := [], laidByText := true, laidKinds := [.data, .data, .data], laidTests := true, laidLooks := .later }
def FnExactMirroredOfRankUptoCardSaid : Prop := Claim7.holds Tryd.pinned (.plain (OpenSpec.upto fnExactMirroredOfRankSpec)) fnExactMirroredOfRankUptoCard
end Rows
end Go.Proofs.YthkjedplcebpjafDoor
