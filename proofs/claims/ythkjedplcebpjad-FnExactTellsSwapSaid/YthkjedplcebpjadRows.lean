/-
  No cell of these rows narrows 'for every input' (looked for: loops, veiled, ifaces, maps, wideKeys, modest, calm, conditions, laid).
  DERIVED. THE GIVEN ROWS OF THIS SEAT. 4 by the template 'for every input the law returns true; each argument reads behind the call as it read before'; 0 by the template 'total and deterministic' (their statements: YthkjedplcebpjadTotals.lean).
  GIVEN WITH THE SEED: the statements are not yours to turn. If you find one false, say at which input.
  Laid BY PROGRAM, IN A SANDBOX (cutbox-rows.mjs): the forced cells as the released guide's own fill.sh prints them over the translation faa5cab32f593f18… (all of the seat's roots in one cut). By AI agents, Wed Nov 11 2026. No macro, syntax, notation, axiom, sorry.
-/
import Derived.Test.YthkjedplcebpjadChecked
import GoSem.Claim
import GoSem.ClaimJoined
import GoSem.ClaimMapViews
import Derived.JoinedTies
import Derived.KernelRfl
namespace Go.Proofs.Ythkjedplcebpjad
/- THE CELL 'sum', in the pinned program and in every row, IS THE sha256 OF THE DUMP (.gsa) THAT YthkjedplcebpjadProg.lean LOADS. Nothing in Lean hashes anything: it is a label: what it is worth is what the hold of that sum in a sandbox is worth. -/
noncomputable def Try.pinned : Pinned := { name := "ythkjedplcebpjad", sum := "faa5cab32f593f189ae1ff97f1c6055040f2c11ab5659de3755f30914a58bd6a", checked := Try.checked }
namespace Rows
def none {H : Type} : Left H := { results := [], args := [] }

/-- 'laws.FnExactTellsSingle': WHATEVER THE INPUT: true; the input reads as it did. -/
def fnExactTellsSingleSpec : ChangeSpec := { name := "fnExactTellsSingle", fn := fun _ => fun
  | [d1, d2] => { results := [.lit (.bool true)], args := [d1, d2] }
  | _ => none }
def fnExactTellsSingleRow : OpenClaim := { program := "ythkjedplcebpjad", sum := "faa5cab32f593f189ae1ff97f1c6055040f2c11ab5659de3755f30914a58bd6a", func := "loop.example/g01395/laws.FnExactTellsSingle", spec := "fnExactTellsSingle", unfollowed := true, recurses := true, apart := false }
def FnExactTellsSingleSaid : Prop := fnExactTellsSingleRow.holds Try.pinned (OpenSpec.ofChange fnExactTellsSingleSpec)

/-- ITS FALSE NEIGHBOUR: 'it returns false'. Refute it at one input. -/
def fnExactTellsSingleWrong : ChangeSpec := { name := "fnExactTellsSingle", fn := fun _ => fun
  | [d1, d2] => { results := [.lit (.bool false)], args := [d1, d2] }
  | _ => none }
def FnExactTellsSingleWrongFalsely : Prop := fnExactTellsSingleRow.holds Try.pinned (OpenSpec.ofChange fnExactTellsSingleWrong)

/-- 'laws.FnExactTellsSwap': WHATEVER THE INPUT: true; the input reads as it did. -/
def fnExactTellsSwapSpec : ChangeSpec := { name := "fnExactTellsSwap", fn := fun _ => fun
  | [d1, d2] => { results := [.lit (.bool true)], args := [d1, d2] }
  | _ => none }
def fnExactTellsSwapRow : OpenClaim := { program := "ythkjedplcebpjad", sum := "faa5cab32f593f189ae1ff97f1c6055040f2c11ab5659de3755f30914a58bd6a", func := "loop.example/g01395/laws.FnExactTellsSwap", spec := "fnExactTellsSwap", unfollowed := true, recurses := true, apart := false }
def FnExactTellsSwapSaid : Prop := fnExactTellsSwapRow.holds Try.pinned (OpenSpec.ofChange fnExactTellsSwapSpec)

/-- ITS FALSE NEIGHBOUR: 'it returns false'. Refute it at one input. -/
def fnExactTellsSwapWrong : ChangeSpec := { name := "fnExactTellsSwap", fn := fun _ => fun
  | [d1, d2] => { results := [.lit (.bool false)], args := [d1, d2] }
  | _ => none }
def FnExactTellsSwapWrongFalsely : Prop := fnExactTellsSwapRow.holds Try.pinned (OpenSpec.ofChange fnExactTellsSwapWrong)

/-- 'laws.FnExactBothMirrored': WHATEVER THE INPUT: true; the input reads as it did. -/
def fnExactBothMirroredSpec : ChangeSpec := { name := "fnExactBothMirrored", fn := fun _ => fun
  | [d1, d2] => { results := [.lit (.bool true)], args := [d1, d2] }
  | _ => none }
def fnExactBothMirroredRow : OpenClaim := { program := "ythkjedplcebpjad", sum := "faa5cab32f593f189ae1ff97f1c6055040f2c11ab5659de3755f30914a58bd6a", func := "loop.example/g01395/laws.FnExactBothMirrored", spec := "fnExactBothMirrored", recurses := true, apart := false }
def FnExactBothMirroredSaid : Prop := fnExactBothMirroredRow.holds Try.pinned (OpenSpec.ofChange fnExactBothMirroredSpec)

/-- ITS FALSE NEIGHBOUR: 'it returns false'. Refute it at one input. -/
def fnExactBothMirroredWrong : ChangeSpec := { name := "fnExactBothMirrored", fn := fun _ => fun
  | [d1, d2] => { results := [.lit (.bool false)], args := [d1, d2] }
  | _ => none }
def FnExactBothMirroredWrongFalsely : Prop := fnExactBothMirroredRow.holds Try.pinned (OpenSpec.ofChange fnExactBothMirroredWrong)

/-- 'laws.FnExactBestWeights': WHATEVER THE INPUT: true; the input reads as it did. -/
def fnExactBestWeightsSpec : ChangeSpec := { name := "fnExactBestWeights", fn := fun _ => fun
  | [d1, d2] => { results := [.lit (.bool true)], args := [d1, d2] }
  | _ => none }
def fnExactBestWeightsRow : OpenClaim := { program := "ythkjedplcebpjad", sum := "faa5cab32f593f189ae1ff97f1c6055040f2c11ab5659de3755f30914a58bd6a", func := "loop.example/g01395/laws.FnExactBestWeights", spec := "fnExactBestWeights", unfollowed := true, recurses := true, apart := false }
def FnExactBestWeightsSaid : Prop := fnExactBestWeightsRow.holds Try.pinned (OpenSpec.ofChange fnExactBestWeightsSpec)

/-- ITS FALSE NEIGHBOUR: 'it returns false'. Refute it at one input. -/
def fnExactBestWeightsWrong : ChangeSpec := { name := "fnExactBestWeights", fn := fun _ => fun
  | [d1, d2] => { results := [.lit (.bool false)], args := [d1, d2] }
  | _ => none }
def FnExactBestWeightsWrongFalsely : Prop := fnExactBestWeightsRow.holds Try.pinned (OpenSpec.ofChange fnExactBestWeightsWrong)

/- THE SECOND FORM. 'bulk': how many values and letters a reading holds, each counted each time it is reached (what is shared counts as often as it is met; a slice's spare places count too). A statement '..UptoSaid' is the law's where the arguments, and the package variables that the reading takes, are together of bulk at most 1048576: NARROWER than '..Said'. Prove '..Said' where nothing that the law and all that it calls make is longer than what came in: it says more and counts as full. Else prove '..UptoSaid'. A law counts once. -/
mutual
def uptoBulk {H : Type} : DataW H → Nat
  | .lit (.string bytes) => bytes.length + 1
  | .lit _ => 1
  | .nil => 1
  | .ptr d => uptoBulk d + 1
  | .slice elems spare => uptoBulkAll elems + uptoBulkAll spare + 1
  | .agg parts => uptoBulkAll parts + 1
  | .iface _ d => uptoBulk d + 1
  | .map entries => uptoBulkEntries entries + 1
  | .held _ => 1
def uptoBulkAll {H : Type} : List (DataW H) → Nat
  | [] => 0
  | d :: r => uptoBulk d + uptoBulkAll r
def uptoBulkEntries {H : Type} : List (Lit × DataW H) → Nat
  | [] => 0
  | x :: r => uptoBulkEntry x + uptoBulkEntries r
def uptoBulkEntry {H : Type} : Lit × DataW H → Nat
  | (.string bytes, d) => bytes.length + uptoBulk d + 1
  | (_, d) => uptoBulk d + 1
 end
def uptoSmall : (H : Type) → List (DataW H) → Bool := fun _ ds => decide (uptoBulkAll ds ≤ 1048576)
def OpenSpec.upto (s : _root_.Go.ChangeSpec) : _root_.Go.OpenSpec := { _root_.Go.OpenSpec.ofChange s with cond := some uptoSmall }

/-- 'laws.FnExactTellsSingle', WHERE WHAT IT READS IS OF BULK AT MOST 1048576: true; the input reads as it did. -/
def fnExactTellsSingleUptoRow : OpenClaim := { program := "ythkjedplcebpjad", sum := "faa5cab32f593f189ae1ff97f1c6055040f2c11ab5659de3755f30914a58bd6a", func := "loop.example/g01395/laws.FnExactTellsSingle", spec := "fnExactTellsSingle", unfollowed := true, recurses := true, apart := false, narrowed := true }
def FnExactTellsSingleUptoSaid : Prop := fnExactTellsSingleUptoRow.holds Try.pinned (OpenSpec.upto fnExactTellsSingleSpec)

/-- 'laws.FnExactTellsSwap', WHERE WHAT IT READS IS OF BULK AT MOST 1048576: true; the input reads as it did. -/
def fnExactTellsSwapUptoRow : OpenClaim := { program := "ythkjedplcebpjad", sum := "faa5cab32f593f189ae1ff97f1c6055040f2c11ab5659de3755f30914a58bd6a", func := "loop.example/g01395/laws.FnExactTellsSwap", spec := "fnExactTellsSwap", unfollowed := true, recurses := true, apart := false, narrowed := true }
def FnExactTellsSwapUptoSaid : Prop := fnExactTellsSwapUptoRow.holds Try.pinned (OpenSpec.upto fnExactTellsSwapSpec)

/-- 'laws.FnExactBothMirrored', WHERE WHAT IT READS IS OF BULK AT MOST 1048576: true; the input reads as it did. -/
def fnExactBothMirroredUptoRow : OpenClaim := { program := "ythkjedplcebpjad", sum := "faa5cab32f593f189ae1ff97f1c6055040f2c11ab5659de3755f30914a58bd6a", func := "loop.example/g01395/laws.FnExactBothMirrored", spec := "fnExactBothMirrored", recurses := true, apart := false, narrowed := true }
def FnExactBothMirroredUptoSaid : Prop := fnExactBothMirroredUptoRow.holds Try.pinned (OpenSpec.upto fnExactBothMirroredSpec)

/-- 'laws.FnExactBestWeights', WHERE WHAT IT READS IS OF BULK AT MOST 1048576: true; the input reads as it did. -/
def fnExactBestWeightsUptoRow : OpenClaim := { program := "ythkjedplcebpjad", sum := "faa5cab32f593f189ae1ff97f1c6055040f2c11ab5659de3755f30914a58bd6a", func := "loop.example/g01395/laws.FnExactBestWeights", spec := "fnExactBestWeights", unfollowed := true, recurses := true, apart := false, narrowed := true }
def FnExactBestWeightsUptoSaid : Prop := fnExactBestWeightsUptoRow.holds Try.pinned (OpenSpec.upto fnExactBestWeightsSpec)

end Rows
end Go.Proofs.Ythkjedplcebpjad
