/- What the functions that the law reaches do, each told as a plain Lean function, and proved. No condition beyond each theorem's own. Told by a program of this session out of the translation's own print. -/
import Derived.Test.YthkjedplcebpjacProg
import Derived.Below
import Derived.Deep.Draws
import Derived.Deep.AppendLies
import Derived.Maps.AppendAt
import Derived.OwnWalk
import Derived.Laws.BytesArg
import Derived.Laws.MakeOwn
import Derived.Laws.OwnMore
import Derived.Deep.OwnRows
import Derived.Tactics
import Derived.Lib.ConvBytes
import Derived.Laws.Slices
import Derived.WalkKit
import Derived.KernelRfl
import Derived.RowKit3
import Derived.Deep.LoopGhost
import Derived.Deep.QuietTactic
import Derived.BigQuiet
import Derived.WideLaws
import Derived.Deep.DeepCutAuto
import Derived.Deep.CutBlock
import Derived.Deep.RegionHeld3
import Derived.Laws.Rows
import Derived.Lib.AppendStr
import Derived.ArgAppend
import Derived.Laws.IdiomCopy
import Derived.OrdersHeld
import Derived.Laws.BitsLemmas
import Derived.RowKit
import Derived.Test.YthkjedplcebpjacStrs
import Derived.Test.YthkjedplcebpjacWWords
import Derived.Test.YthkjedplcebpjacWLast
import Derived.Test.YthkjedplcebpjacWTab
import Derived.Test.YthkjedplcebpjacWFour
import Derived.Test.YthkjedplcebpjacWQPut
import Derived.Test.YthkjedplcebpjacWApart
import Derived.Test.YthkjedplcebpjacWArr
import Derived.Test.YthkjedplcebpjacWZeros
import Derived.Test.YthkjedplcebpjacWFoot
import Derived.Test.YthkjedplcebpjacWKept
import Derived.Test.YthkjedplcebpjacWShare
import Derived.Test.YthkjedplcebpjacWN
import Derived.Test.YthkjedplcebpjacWFootNe
import Derived.Test.YthkjedplcebpjacWAt
import Derived.Test.YthkjedplcebpjacWEqStruct
import Derived.Test.YthkjedplcebpjacWRepsOne
import Derived.Test.YthkjedplcebpjacWInv
import Derived.Test.YthkjedplcebpjacWInvWords
import Derived.Test.YthkjedplcebpjacWGuard
import Derived.Test.YthkjedplcebpjacWNEv
import Derived.Test.YthkjedplcebpjacWMore
namespace Go.Proofs.Ythkjedplcebpjac.QFnExactCountOfKind
open Go.RowKit Go.Proofs.YthkjedplcebpjacW.PrintWords Go.Proofs.YthkjedplcebpjacW.PrintLast Go.Proofs.YthkjedplcebpjacW.PrintMore Go.Proofs.Ythkjedplcebpjac.Ext
attribute [local go_sem] max2_int min2_int max_two min_two max_three min_three max_four min_four   -- for this text's walks alone
set_option linter.unusedVariables false
set_option linter.unusedSimpArgs false



def errW : Option Int → Value
  | none => .nilIface
  | some c => .iface 0 (.int .i64 c)
theorem errW_none : errW none = .nilIface := rfl
theorem errW_some (c : Int) : errW (some c) = .iface 0 (.int .i64 c) := rfl

theorem info9 : (Try.prog.info? 9).map (fun i => (i.zero, i.size, i.bytes)) = some (some (.string ⟨#[]⟩), 1, 16) := by kernel_rfl
-- the values' own types

end Go.Proofs.Ythkjedplcebpjac.QFnExactCountOfKind
