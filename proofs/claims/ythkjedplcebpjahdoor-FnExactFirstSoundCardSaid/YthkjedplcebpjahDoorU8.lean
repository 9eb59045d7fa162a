/- A byte less 48, told as a whole number. -/
import Derived.Test.YthkjedplcebpjahDoorWWords
import Derived.IntWalk
namespace Go.Proofs.YthkjedplcebpjahDoor.Ext
open Go.RowKit Go.Proofs.YthkjedplcebpjahDoorW.PrintWords
theorem u8w_ (s : ByteArray) (i : Int) : wrap64 (IntKind.u8.wrap (bt s i - 48)) = (bt s i - 48) % 256 := by
  rw [IntKind.wrap_u8]
  unfold wrap64
  omega
theorem u8v_ (s : ByteArray) (i : Int) : IntKind.u8.wrap (bt s i - 48) = (bt s i - 48) % 256 := IntKind.wrap_u8 _
end Go.Proofs.YthkjedplcebpjahDoor.Ext
