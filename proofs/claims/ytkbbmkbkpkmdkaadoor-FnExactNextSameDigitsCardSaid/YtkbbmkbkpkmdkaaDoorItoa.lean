/- strconv.Itoa at any int: what it returns; new memory alone. Condition: the table of powers of ten reads as it was laid. -/
import Derived.Test.YtkbbmkbkpkmdkaaDoorShelf
import Derived.Test.YtkbbmkbkpkmdkaaDoorWWords
import Derived.Lib.AppendIntMem
namespace Go.Proofs.YtkbbmkbkpkmdkaaDoor.Ext
set_option linter.unusedVariables false
open Go.RowKit Go.Proofs.YtkbbmkbkpkmdkaaDoorW.PrintWords
/-- The table of powers of ten reads as it was laid. -/
def Tab (w : World) : Prop := Lib.TabIs Tryd.prog w "internal/strconv.uint64pow10" .u64 Lib.pow10Tab
theorem Tab.at_ {w W : World} (h : Tab w) (hb : Below w.heap.size w W) : Tab W := Lib.tabBelow_of_tabIs h W hb
def strconv_Itoa.f (a0 : Int) : Option (ByteArray) := if -9223372036854775808 ≤ a0 ∧ a0 ≤ 9223372036854775807 then some ⟨(Lib.itoa a0).toArray⟩ else none
theorem strconv_Itoa.calls (a0 : Int) (r : ByteArray) (w : World) (h : strconv_Itoa.f a0 = some r) (hT : Tab w) :
    Calls Tryd.prog 15 #[.int .i64 a0] w fun e w' => e = .returned (.string r) ∧ Below w.heap.size w w' := by
  unfold strconv_Itoa.f at h
  by_cases hs : -9223372036854775808 ≤ a0 ∧ a0 ≤ 9223372036854775807
  · rw [if_pos hs] at h
    obtain rfl := Option.some.inj h
    refine (Go.Proofs.Tryd.strconv_Itoa a0 hs.1 hs.2 w hT).mono ?_
    rintro e w' ⟨rfl, k, os, rfl⟩
    exact ⟨rfl, Lib.below_grow _ w (Nat.le_refl _) k os⟩
  · rw [if_neg hs] at h; cases h
end Go.Proofs.YtkbbmkbkpkmdkaaDoor.Ext
