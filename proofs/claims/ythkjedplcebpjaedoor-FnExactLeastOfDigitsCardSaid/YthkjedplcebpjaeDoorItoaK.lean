/- strconv.Itoa at numbers from 0 to 99, told digit by digit: what it returns; the world is as it was. Condition: the told function answers nothing elsewhere. -/
import Derived.Test.YthkjedplcebpjaeDoorShelf
import Derived.Test.YthkjedplcebpjaeDoorWWords
namespace Go.Proofs.YthkjedplcebpjaeDoor.Ext
set_option linter.unusedVariables false
open Go.RowKit Go.Proofs.YthkjedplcebpjaeDoorW.PrintWords
def strconv_Itoa.f (a0 : Int) : Option (ByteArray) := if 0 ≤ a0 then (if a0 < 10 then some ⟨#[UInt8.ofNat (48 + a0.toNat)]⟩ else (if a0 < 100 then some ⟨#[UInt8.ofNat (48 + a0.toNat / 10), UInt8.ofNat (48 + a0.toNat % 10)]⟩ else none)) else none
theorem strconv_Itoa.calls (a0 : Int) (r : ByteArray) (w : World) (h : strconv_Itoa.f a0 = some r) :
    Calls Tryd.prog 27 #[.int .i64 a0] w fun e w' => e = .returned (.string r) ∧ Drawn0 w w' := by
  unfold strconv_Itoa.f at h
  by_cases hs : 0 ≤ a0 ∧ a0 < 100
  · obtain ⟨m, rfl⟩ : ∃ m : Nat, a0 = m := ⟨a0.toNat, by omega⟩
    have hr : r = ⟨(Lib.decDigits m).toArray⟩ := by
      rw [if_pos hs.1, Int.toNat_natCast] at h
      by_cases h10 : (m : Int) < 10
      · rw [if_pos h10] at h
        rw [Lib.decDigits, dif_pos (by omega)]
        exact (Option.some.inj h).symm
      · rw [if_neg h10, if_pos hs.2] at h
        rw [Lib.decDigits, dif_neg (by omega), Lib.decDigits, dif_pos (by omega)]
        exact (Option.some.inj h).symm
    subst hr
    exact (Go.Proofs.Tryd.strconv_Itoa_small m (by omega) w).mono fun e w' ⟨he, hw⟩ => ⟨he, by rw [hw]; exact Drawn0.refl _⟩
  · by_cases h0 : 0 ≤ a0
    · rw [if_pos h0, if_neg (by omega), if_neg (by omega)] at h; cases h
    · rw [if_neg h0] at h; cases h
end Go.Proofs.YthkjedplcebpjaeDoor.Ext
