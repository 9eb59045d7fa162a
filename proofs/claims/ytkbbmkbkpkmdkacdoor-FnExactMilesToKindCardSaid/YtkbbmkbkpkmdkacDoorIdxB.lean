/- strings.IndexByte: what it returns; the world is as it was. -/
import Derived.Test.YtkbbmkbkpkmdkacDoorShelf
import Derived.Test.YtkbbmkbkpkmdkacDoorWWords
namespace Go.Proofs.YtkbbmkbkpkmdkacDoor.Ext
set_option linter.unusedVariables false
open Go.RowKit Go.Proofs.YtkbbmkbkpkmdkacDoorW.PrintWords
/-- Where a byte stands first. -/
def strings_IndexByte.f (s : ByteArray) (c : Int) : Option (Int) := some (Go.Lib.indexByte s.data.toList c.toNat.toUInt8)
theorem strings_IndexByte.calls (a0 : ByteArray) (a1 : Int) (r : Int) (w : World) (h : strings_IndexByte.f a0 a1 = some r) :
    Calls Tryd.prog 32 #[.string a0, .int .u8 a1] w fun e w' => e = .returned (.int .i64 r) ∧ Drawn0 w w' := by
  obtain rfl := Option.some.inj h
  exact (Go.Proofs.Tryd.strings_IndexByte a0 a1 w).mono fun e w' ⟨he, hw⟩ => ⟨he, by rw [hw]; exact Drawn0.refl _⟩
end Go.Proofs.YtkbbmkbkpkmdkacDoor.Ext
