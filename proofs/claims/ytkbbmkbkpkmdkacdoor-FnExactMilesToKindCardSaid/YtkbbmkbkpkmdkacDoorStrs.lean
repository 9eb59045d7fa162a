/- strings.Contains at a text of one byte, strings.IndexByte: what they return; the world is as it was. -/
import Derived.Test.YtkbbmkbkpkmdkacDoorShelf
import Derived.Test.YtkbbmkbkpkmdkacDoorWWords
namespace Go.Proofs.YtkbbmkbkpkmdkacDoor.Ext
set_option linter.unusedVariables false
open Go.RowKit Go.Proofs.YtkbbmkbkpkmdkacDoorW.PrintWords
/-- Does a text hold a text of one byte. -/
def strings_Contains.f (s sub : ByteArray) : Option (Bool) := if sub.size = 1 then some (decide (0 ≤ Go.Lib.indexByte s.data.toList (sub.data.toList.getD 0 0))) else none
theorem strings_Contains.calls (a0 a1 : ByteArray) (r : Bool) (w : World) (h : strings_Contains.f a0 a1 = some r) :
    Calls Tryd.prog 28 #[.string a0, .string a1] w fun e w' => e = .returned (.bool r) ∧ Drawn0 w w' := by
  unfold strings_Contains.f at h
  by_cases hs : a1.size = 1
  · rw [if_pos hs] at h
    obtain rfl := Option.some.inj h
    obtain ⟨⟨l⟩⟩ := a1
    match l, hs with
    | [c], _ => exact (Go.Proofs.Tryd.strings_Contains_one a0 c w).mono fun e w' ⟨he, hw⟩ => ⟨he, by rw [hw]; exact Drawn0.refl _⟩
  · rw [if_neg hs] at h; cases h
end Go.Proofs.YtkbbmkbkpkmdkacDoor.Ext
