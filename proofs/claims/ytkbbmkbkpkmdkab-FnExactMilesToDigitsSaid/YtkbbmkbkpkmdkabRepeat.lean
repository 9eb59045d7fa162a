/- strings.Repeat at a text of at most 1000 bytes, from 0 to 1000 times: the copies; new memory alone. Condition: the told function answers nothing elsewhere. -/
import Derived.Test.YtkbbmkbkpkmdkabShelf
import Derived.Test.YtkbbmkbkpkmdkabWWords
namespace Go.Proofs.Ytkbbmkbkpkmdkab.Ext
set_option linter.unusedVariables false
open Go.RowKit Go.Proofs.YtkbbmkbkpkmdkabW.PrintWords
def strings_Repeat.f (a0 : ByteArray) (a1 : Int) : Option (ByteArray) := if 0 ≤ a1 ∧ a1 ≤ 1000 ∧ a0.size ≤ 1000 then some ⟨(Go.Lib.repeatL a0.data.toList a1.toNat).toArray⟩ else none
theorem strings_Repeat.calls (a0 : ByteArray) (a1 : Int) (r : ByteArray) (w : World) (h : strings_Repeat.f a0 a1 = some r) :
    Calls Try.prog 50 #[.string a0, .int .i64 a1] w fun e w' => e = .returned (.string r) ∧ Below w.heap.size w w' := by
  unfold strings_Repeat.f at h
  by_cases hs : 0 ≤ a1 ∧ a1 ≤ 1000 ∧ a0.size ≤ 1000
  · rw [if_pos hs] at h
    obtain rfl := Option.some.inj h
    obtain ⟨m, rfl⟩ : ∃ m : Nat, a1 = m := ⟨a1.toNat, by omega⟩
    rw [Int.toNat_natCast]
    have hm : m ≤ 1000 := by omega
    have hp : a0.size * m ≤ 1000 * 1000 := Nat.mul_le_mul hs.2.2 hm
    exact Go.Proofs.Try.strings_Repeat a0 m w (by omega) (by omega)
  · rw [if_neg hs] at h; cases h
end Go.Proofs.Ytkbbmkbkpkmdkab.Ext
