/- What the functions that the law reaches do, each told as a plain Lean function, and proved. No condition beyond each theorem's own. Told by a program of this session out of the translation's own print. -/
import Derived.Test.YthkjedplcebpjaaProg
import Derived.Below
import Derived.Deep.Draws
import Derived.Deep.AppendLies
import Derived.Maps.AppendAt
import Derived.OwnWalk
import Derived.Laws.BytesArg
import Derived.Laws.MakeOwn
import Derived.Laws.OwnMore
import Derived.Deep.OwnRows
import Derived.Tactics
import Derived.Lib.ConvBytes
import Derived.Laws.Slices
import Derived.WalkKit
import Derived.KernelRfl
import Derived.RowKit3
import Derived.Deep.LoopGhost
import Derived.Deep.QuietTactic
import Derived.BigQuiet
import Derived.WideLaws
import Derived.Deep.DeepCutAuto
import Derived.Deep.CutBlock
import Derived.Deep.RegionHeld3
import Derived.Laws.Rows
import Derived.Lib.AppendStr
import Derived.ArgAppend
import Derived.Laws.IdiomCopy
import Derived.OrdersHeld
import Derived.Laws.BitsLemmas
import Derived.RowKit
import Derived.Test.YthkjedplcebpjaaIsCheck
import Derived.Test.YthkjedplcebpjaaWWords
import Derived.Test.YthkjedplcebpjaaWLast
import Derived.Test.YthkjedplcebpjaaWTab
import Derived.Test.YthkjedplcebpjaaWFour
import Derived.Test.YthkjedplcebpjaaWQPut
import Derived.Test.YthkjedplcebpjaaWApart
import Derived.Test.YthkjedplcebpjaaWArr
import Derived.Test.YthkjedplcebpjaaWZeros
import Derived.Test.YthkjedplcebpjaaWFoot
import Derived.Test.YthkjedplcebpjaaWKept
import Derived.Test.YthkjedplcebpjaaWShare
import Derived.Test.YthkjedplcebpjaaWN
import Derived.Test.YthkjedplcebpjaaWFootNe
import Derived.Test.YthkjedplcebpjaaWAt
import Derived.Test.YthkjedplcebpjaaWEqStruct
import Derived.Test.YthkjedplcebpjaaWRepsOne
import Derived.Test.YthkjedplcebpjaaWInv
import Derived.Test.YthkjedplcebpjaaWInvWords
import Derived.Test.YthkjedplcebpjaaWGuard
import Derived.Test.YthkjedplcebpjaaWNEv
import Derived.Test.YthkjedplcebpjaaWMore
namespace Go.Proofs.Ythkjedplcebpjaa.QFnExactIsCheck
open Go.RowKit Go.Proofs.YthkjedplcebpjaaW.PrintWords Go.Proofs.YthkjedplcebpjaaW.PrintLast Go.Proofs.YthkjedplcebpjaaW.PrintMore Go.Proofs.Ythkjedplcebpjaa.Ext
attribute [local go_sem] max2_int min2_int max_two min_two max_three min_three max_four min_four   -- for this text's walks alone
set_option linter.unusedVariables false
set_option linter.unusedSimpArgs false



def errW : Option Int → Value
  | none => .nilIface
  | some c => .iface 0 (.int .i64 c)
theorem errW_none : errW none = .nilIface := rfl
theorem errW_some (c : Int) : errW (some c) = .iface 0 (.int .i64 c) := rfl

theorem info3 : (Try.prog.info? 3).map (fun i => (i.zero, i.size, i.bytes)) = some (some (.int .i64 0), 1, 8) := by kernel_rfl
-- the values' own types

end Go.Proofs.Ythkjedplcebpjaa.QFnExactIsCheck
