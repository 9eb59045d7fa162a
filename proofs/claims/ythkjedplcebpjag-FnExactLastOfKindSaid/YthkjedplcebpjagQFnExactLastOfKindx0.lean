/- What the functions that the law reaches do, each told as a plain Lean function, and proved. No condition beyond each theorem's own. Told by a program of this session out of the translation's own print. -/
import Derived.Test.YthkjedplcebpjagProg
import Derived.Below
import Derived.Deep.Draws
import Derived.Deep.AppendLies
import Derived.Maps.AppendAt
import Derived.OwnWalk
import Derived.Laws.BytesArg
import Derived.Laws.MakeOwn
import Derived.Laws.OwnMore
import Derived.Deep.OwnRows
import Derived.Tactics
import Derived.Lib.ConvBytes
import Derived.Laws.Slices
import Derived.WalkKit
import Derived.KernelRfl
import Derived.RowKit3
import Derived.Deep.LoopGhost
import Derived.Deep.QuietTactic
import Derived.BigQuiet
import Derived.WideLaws
import Derived.Deep.DeepCutAuto
import Derived.Deep.CutBlock
import Derived.Deep.RegionHeld3
import Derived.Laws.Rows
import Derived.Lib.AppendStr
import Derived.ArgAppend
import Derived.Laws.IdiomCopy
import Derived.OrdersHeld
import Derived.Laws.BitsLemmas
import Derived.RowKit
import Derived.Test.YthkjedplcebpjagStrs
import Derived.Test.YthkjedplcebpjagRepeat
import Derived.Test.YthkjedplcebpjagMiDigits
import Derived.Test.YthkjedplcebpjagOfKind
import Derived.Test.YthkjedplcebpjagLeq
import Derived.Test.YthkjedplcebpjagWWords
import Derived.Test.YthkjedplcebpjagWLast
import Derived.Test.YthkjedplcebpjagWTab
import Derived.Test.YthkjedplcebpjagWFour
import Derived.Test.YthkjedplcebpjagWQPut
import Derived.Test.YthkjedplcebpjagWApart
import Derived.Test.YthkjedplcebpjagWArr
import Derived.Test.YthkjedplcebpjagWZeros
import Derived.Test.YthkjedplcebpjagWFoot
import Derived.Test.YthkjedplcebpjagWKept
import Derived.Test.YthkjedplcebpjagWShare
import Derived.Test.YthkjedplcebpjagWN
import Derived.Test.YthkjedplcebpjagWFootNe
import Derived.Test.YthkjedplcebpjagWAt
import Derived.Test.YthkjedplcebpjagWEqStruct
import Derived.Test.YthkjedplcebpjagWRepsOne
import Derived.Test.YthkjedplcebpjagWInv
import Derived.Test.YthkjedplcebpjagWInvWords
import Derived.Test.YthkjedplcebpjagWGuard
import Derived.Test.YthkjedplcebpjagWNEv
import Derived.Test.YthkjedplcebpjagWMore
namespace Go.Proofs.Ythkjedplcebpjag.QFnExactLastOfKind
open Go.RowKit Go.Proofs.YthkjedplcebpjagW.PrintWords Go.Proofs.YthkjedplcebpjagW.PrintLast Go.Proofs.YthkjedplcebpjagW.PrintMore Go.Proofs.Ythkjedplcebpjag.Ext Go.Proofs.Ythkjedplcebpjag.Ext Go.Proofs.Ythkjedplcebpjag.Ext Go.Proofs.Ythkjedplcebpjag.Ext Go.Proofs.Ythkjedplcebpjag.Ext
attribute [local go_sem] max2_int min2_int max_two min_two max_three min_three max_four min_four   -- for this text's walks alone
set_option linter.unusedVariables false
set_option linter.unusedSimpArgs false



def errW : Option Int → Value
  | none => .nilIface
  | some c => .iface 0 (.int .i64 c)
theorem errW_none : errW none = .nilIface := rfl
theorem errW_some (c : Int) : errW (some c) = .iface 0 (.int .i64 c) := rfl

theorem info5 : (Try.prog.info? 5).map (fun i => (i.zero, i.size, i.bytes)) = some (some (.int .u8 0), 1, 1) := by kernel_rfl
theorem info9 : (Try.prog.info? 9).map (fun i => (i.zero, i.size, i.bytes)) = some (some (.string ⟨#[]⟩), 1, 16) := by kernel_rfl
-- the values' own types

end Go.Proofs.Ythkjedplcebpjag.QFnExactLastOfKind
