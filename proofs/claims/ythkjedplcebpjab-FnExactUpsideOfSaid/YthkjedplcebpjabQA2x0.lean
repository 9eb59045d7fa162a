/- What the functions that the law reaches do, each told as a plain Lean function, and proved. No condition beyond each theorem's own. Told by a program of this session out of the translation's own print. -/
import Derived.Test.YthkjedplcebpjabProg
import Derived.Below
import Derived.Deep.Draws
import Derived.Deep.AppendLies
import Derived.Maps.AppendAt
import Derived.OwnWalk
import Derived.Laws.BytesArg
import Derived.Laws.MakeOwn
import Derived.Laws.OwnMore
import Derived.Deep.OwnRows
import Derived.Tactics
import Derived.Lib.ConvBytes
import Derived.Laws.Slices
import Derived.WalkKit
import Derived.KernelRfl
import Derived.RowKit3
import Derived.Deep.LoopGhost
import Derived.Deep.QuietTactic
import Derived.BigQuiet
import Derived.WideLaws
import Derived.Deep.DeepCutAuto
import Derived.Deep.CutBlock
import Derived.Deep.RegionHeld3
import Derived.Laws.Rows
import Derived.Lib.AppendStr
import Derived.ArgAppend
import Derived.Laws.IdiomCopy
import Derived.OrdersHeld
import Derived.Laws.BitsLemmas
import Derived.RowKit
import Derived.Test.YthkjedplcebpjabWWords
import Derived.Test.YthkjedplcebpjabWLast
import Derived.Test.YthkjedplcebpjabWTab
import Derived.Test.YthkjedplcebpjabWFour
import Derived.Test.YthkjedplcebpjabWQPut
import Derived.Test.YthkjedplcebpjabWApart
import Derived.Test.YthkjedplcebpjabWArr
import Derived.Test.YthkjedplcebpjabWZeros
import Derived.Test.YthkjedplcebpjabWFoot
import Derived.Test.YthkjedplcebpjabWKept
import Derived.Test.YthkjedplcebpjabWShare
import Derived.Test.YthkjedplcebpjabWN
import Derived.Test.YthkjedplcebpjabWFootNe
import Derived.Test.YthkjedplcebpjabWAt
import Derived.Test.YthkjedplcebpjabWEqStruct
import Derived.Test.YthkjedplcebpjabWRepsOne
import Derived.Test.YthkjedplcebpjabWInv
import Derived.Test.YthkjedplcebpjabWInvWords
import Derived.Test.YthkjedplcebpjabWGuard
import Derived.Test.YthkjedplcebpjabWNEv
import Derived.Test.YthkjedplcebpjabWMore
namespace Go.Proofs.Ythkjedplcebpjab.QA2
open Go.RowKit Go.Proofs.YthkjedplcebpjabW.PrintWords Go.Proofs.YthkjedplcebpjabW.PrintLast Go.Proofs.YthkjedplcebpjabW.PrintMore
attribute [local go_sem] max2_int min2_int max_two min_two max_three min_three max_four min_four   -- for this text's walks alone
set_option linter.unusedVariables false
set_option linter.unusedSimpArgs false



def errW : Option Int → Value
  | none => .nilIface
  | some c => .iface 0 (.int .i64 c)
theorem errW_none : errW none = .nilIface := rfl
theorem errW_some (c : Int) : errW (some c) = .iface 0 (.int .i64 c) := rfl

-- the values' own types

end Go.Proofs.Ythkjedplcebpjab.QA2
