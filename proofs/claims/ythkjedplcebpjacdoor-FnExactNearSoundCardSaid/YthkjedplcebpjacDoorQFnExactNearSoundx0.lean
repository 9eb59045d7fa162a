/- What the functions that the law reaches do, each told as a plain Lean function, and proved. No condition beyond each theorem's own. Told by a program of this session out of the translation's own print. -/
import Derived.Test.YthkjedplcebpjacDoorProg
import Derived.Below
import Derived.Deep.Draws
import Derived.Deep.AppendLies
import Derived.Maps.AppendAt
import Derived.OwnWalk
import Derived.Laws.BytesArg
import Derived.Laws.MakeOwn
import Derived.Laws.OwnMore
import Derived.Deep.OwnRows
import Derived.Tactics
import Derived.Lib.ConvBytes
import Derived.Laws.Slices
import Derived.WalkKit
import Derived.KernelRfl
import Derived.RowKit3
import Derived.Deep.LoopGhost
import Derived.Deep.QuietTactic
import Derived.BigQuiet
import Derived.WideLaws
import Derived.Deep.DeepCutAuto
import Derived.Deep.CutBlock
import Derived.Deep.RegionHeld3
import Derived.Laws.Rows
import Derived.Lib.AppendStr
import Derived.ArgAppend
import Derived.Laws.IdiomCopy
import Derived.OrdersHeld
import Derived.Laws.BitsLemmas
import Derived.RowKit
import Derived.Test.YthkjedplcebpjacDoorItoa0
import Derived.Test.YthkjedplcebpjacDoorIsCheck
import Derived.Test.YthkjedplcebpjacDoorSortS
import Derived.Test.YthkjedplcebpjacDoorWWords
import Derived.Test.YthkjedplcebpjacDoorWLast
import Derived.Test.YthkjedplcebpjacDoorWTab
import Derived.Test.YthkjedplcebpjacDoorWFour
import Derived.Test.YthkjedplcebpjacDoorWQPut
import Derived.Test.YthkjedplcebpjacDoorWApart
import Derived.Test.YthkjedplcebpjacDoorWArr
import Derived.Test.YthkjedplcebpjacDoorWZeros
import Derived.Test.YthkjedplcebpjacDoorWFoot
import Derived.Test.YthkjedplcebpjacDoorWKept
import Derived.Test.YthkjedplcebpjacDoorWShare
import Derived.Test.YthkjedplcebpjacDoorWN
import Derived.Test.YthkjedplcebpjacDoorWFootNe
import Derived.Test.YthkjedplcebpjacDoorWAt
import Derived.Test.YthkjedplcebpjacDoorWEqStruct
import Derived.Test.YthkjedplcebpjacDoorWRepsOne
import Derived.Test.YthkjedplcebpjacDoorWInv
import Derived.Test.YthkjedplcebpjacDoorWInvWords
import Derived.Test.YthkjedplcebpjacDoorWGuard
import Derived.Test.YthkjedplcebpjacDoorWNEv
import Derived.Test.YthkjedplcebpjacDoorWMore
namespace Go.Proofs.YthkjedplcebpjacDoor.QFnExactNearSound
open Go.RowKit Go.Proofs.YthkjedplcebpjacDoorW.PrintWords Go.Proofs.YthkjedplcebpjacDoorW.PrintLast Go.Proofs.YthkjedplcebpjacDoorW.PrintMore Go.Proofs.YthkjedplcebpjacDoor.Ext Go.Proofs.YthkjedplcebpjacDoor.Ext Go.Proofs.YthkjedplcebpjacDoor.Ext
attribute [local go_sem] max2_int min2_int max_two min_two max_three min_three max_four min_four   -- for this text's walks alone
set_option linter.unusedVariables false
set_option linter.unusedSimpArgs false



def errW : Option Int → Value
  | none => .nilIface
  | some c => .iface 0 (.int .i64 c)
theorem errW_none : errW none = .nilIface := rfl
theorem errW_some (c : Int) : errW (some c) = .iface 0 (.int .i64 c) := rfl

theorem info3 : (Tryd.prog.info? 3).map (fun i => (i.zero, i.size, i.bytes)) = some (some (.int .i64 0), 1, 8) := by kernel_rfl
theorem info5 : (Tryd.prog.info? 5).map (fun i => (i.zero, i.size, i.bytes)) = some (some (.int .u8 0), 1, 1) := by kernel_rfl
theorem info9 : (Tryd.prog.info? 9).map (fun i => (i.zero, i.size, i.bytes)) = some (some (.string ⟨#[]⟩), 1, 16) := by kernel_rfl
-- the values' own types

end Go.Proofs.YthkjedplcebpjacDoor.QFnExactNearSound
