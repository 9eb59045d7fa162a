/- strconv.Itoa at numbers from 0 to 99: what it returns; the world is as it was. Condition: the told function answers nothing elsewhere. -/
import Derived.Test.YthkjedplcebpjacDoorShelf
import Derived.Test.YthkjedplcebpjacDoorWWords
namespace Go.Proofs.YthkjedplcebpjacDoor.Ext
set_option linter.unusedVariables false
open Go.RowKit Go.Proofs.YthkjedplcebpjacDoorW.PrintWords
def strconv_Itoa.f (a0 : Int) : Option (ByteArray) := if 0 ≤ a0 ∧ a0 < 100 then some ⟨(Lib.decDigits a0.toNat).toArray⟩ else none
theorem strconv_Itoa.calls (a0 : Int) (r : ByteArray) (w : World) (h : strconv_Itoa.f a0 = some r) :
    Calls Tryd.prog 33 #[.int .i64 a0] w fun e w' => e = .returned (.string r) ∧ Drawn0 w w' := by
  unfold strconv_Itoa.f at h
  by_cases hs : 0 ≤ a0 ∧ a0 < 100
  · rw [if_pos hs] at h
    obtain rfl := Option.some.inj h
    obtain ⟨m, rfl⟩ : ∃ m : Nat, a0 = m := ⟨a0.toNat, by omega⟩
    exact (Go.Proofs.Tryd.strconv_Itoa_small m (by omega) w).mono fun e w' ⟨he, hw⟩ => ⟨by rw [Int.toNat_natCast]; exact he, by rw [hw]; exact Drawn0.refl _⟩
  · rw [if_neg hs] at h; cases h
end Go.Proofs.YthkjedplcebpjacDoor.Ext
