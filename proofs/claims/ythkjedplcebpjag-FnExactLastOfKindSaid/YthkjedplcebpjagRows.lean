/-
  No cell of these rows narrows 'for every input' (looked for: loops, veiled, ifaces, maps, wideKeys, modest, calm, conditions, laid).
  DERIVED. THE GIVEN ROWS OF THIS SEAT. 3 by the template 'for every input the law returns true; each argument reads behind the call as it read before'; 0 by the template 'total and deterministic' (their statements: YthkjedplcebpjagTotals.lean).
  GIVEN WITH THE SEED: the statements are not yours to turn. If you find one false, say at which input.
  Laid BY PROGRAM, IN A SANDBOX (cutbox-rows.mjs): the forced cells as the released guide's own fill.sh prints them over the translation d06274686b5f2e35… (all of the seat's roots in one cut). By AI agents, Wed Nov 11 2026. No macro, syntax, notation, axiom, sorry.
-/
import Derived.Test.YthkjedplcebpjagChecked
import GoSem.Claim
import GoSem.ClaimJoined
import GoSem.ClaimMapViews
import Derived.JoinedTies
import Derived.KernelRfl
namespace Go.Proofs.Ythkjedplcebpjag
/- THE CELL 'sum', in the pinned program and in every row, IS THE sha256 OF THE DUMP (.gsa) THAT YthkjedplcebpjagProg.lean LOADS. Nothing in Lean hashes anything: it is a label: what it is worth is what the hold of that sum in a sandbox is worth. -/
noncomputable def Try.pinned : Pinned := { name := "ythkjedplcebpjag", sum := "d06274686b5f2e35116e77d405beab61e8596eb9eee3ab186675791882f60342", checked := Try.checked }
namespace Rows
def none {H : Type} : Left H := { results := [], args := [] }

/-- 'laws.FnExactDifferentDigits': WHATEVER THE INPUT: true; the input reads as it did. -/
def fnExactDifferentDigitsSpec : ChangeSpec := { name := "fnExactDifferentDigits", fn := fun _ => fun
  | [d] => { results := [.lit (.bool true)], args := [d] }
  | _ => none }
def fnExactDifferentDigitsRow : OpenClaim := { program := "ythkjedplcebpjag", sum := "d06274686b5f2e35116e77d405beab61e8596eb9eee3ab186675791882f60342", func := "loop.example/g01395/laws.FnExactDifferentDigits", spec := "fnExactDifferentDigits", recurses := true, apart := false }
def FnExactDifferentDigitsSaid : Prop := fnExactDifferentDigitsRow.holds Try.pinned (OpenSpec.ofChange fnExactDifferentDigitsSpec)

/-- ITS FALSE NEIGHBOUR: 'it returns false'. Refute it at one input. -/
def fnExactDifferentDigitsWrong : ChangeSpec := { name := "fnExactDifferentDigits", fn := fun _ => fun
  | [d] => { results := [.lit (.bool false)], args := [d] }
  | _ => none }
def FnExactDifferentDigitsWrongFalsely : Prop := fnExactDifferentDigitsRow.holds Try.pinned (OpenSpec.ofChange fnExactDifferentDigitsWrong)

/-- 'laws.FnExactFirstOfKind': WHATEVER THE INPUT: true; the input reads as it did. -/
def fnExactFirstOfKindSpec : ChangeSpec := { name := "fnExactFirstOfKind", fn := fun _ => fun
  | [d1, d2] => { results := [.lit (.bool true)], args := [d1, d2] }
  | _ => none }
def fnExactFirstOfKindRow : OpenClaim := { program := "ythkjedplcebpjag", sum := "d06274686b5f2e35116e77d405beab61e8596eb9eee3ab186675791882f60342", func := "loop.example/g01395/laws.FnExactFirstOfKind", spec := "fnExactFirstOfKind", inPlace := ["internal/bytealg.IndexByteString", "internal/bytealg.IndexString", "internal/abi.NoEscape", "internal/bytealg.MakeNoZero"], unfollowed := true, recurses := true, named := ["internal/bytealg.MaxLen"], apart := false }
def FnExactFirstOfKindSaid : Prop := fnExactFirstOfKindRow.holds Try.pinned (OpenSpec.ofChange fnExactFirstOfKindSpec)

/-- ITS FALSE NEIGHBOUR: 'it returns false'. Refute it at one input. -/
def fnExactFirstOfKindWrong : ChangeSpec := { name := "fnExactFirstOfKind", fn := fun _ => fun
  | [d1, d2] => { results := [.lit (.bool false)], args := [d1, d2] }
  | _ => none }
def FnExactFirstOfKindWrongFalsely : Prop := fnExactFirstOfKindRow.holds Try.pinned (OpenSpec.ofChange fnExactFirstOfKindWrong)

/-- 'laws.FnExactLastOfKind': WHATEVER THE INPUT: true; the input reads as it did. -/
def fnExactLastOfKindSpec : ChangeSpec := { name := "fnExactLastOfKind", fn := fun _ => fun
  | [d1, d2] => { results := [.lit (.bool true)], args := [d1, d2] }
  | _ => none }
def fnExactLastOfKindRow : OpenClaim := { program := "ythkjedplcebpjag", sum := "d06274686b5f2e35116e77d405beab61e8596eb9eee3ab186675791882f60342", func := "loop.example/g01395/laws.FnExactLastOfKind", spec := "fnExactLastOfKind", inPlace := ["internal/bytealg.IndexByteString", "internal/bytealg.IndexString", "internal/abi.NoEscape", "internal/bytealg.MakeNoZero"], unfollowed := true, recurses := true, named := ["internal/bytealg.MaxLen"], apart := false }
def FnExactLastOfKindSaid : Prop := fnExactLastOfKindRow.holds Try.pinned (OpenSpec.ofChange fnExactLastOfKindSpec)

/-- ITS FALSE NEIGHBOUR: 'it returns false'. Refute it at one input. -/
def fnExactLastOfKindWrong : ChangeSpec := { name := "fnExactLastOfKind", fn := fun _ => fun
  | [d1, d2] => { results := [.lit (.bool false)], args := [d1, d2] }
  | _ => none }
def FnExactLastOfKindWrongFalsely : Prop := fnExactLastOfKindRow.holds Try.pinned (OpenSpec.ofChange fnExactLastOfKindWrong)

/- THE SECOND FORM. 'bulk': how many values and letters a reading holds, each counted each time it is reached (what is shared counts as often as it is met; a slice's spare places count too). A statement '..UptoSaid' is the law's where the arguments, and the package variables that the reading takes, are together of bulk at most 1048576: NARROWER than '..Said'. Prove '..Said' where nothing that the law and all that it calls make is longer than what came in: it says more and counts as full. Else prove '..UptoSaid'. A law counts once. -/
mutual
def uptoBulk {H : Type} : DataW H → Nat
  | .lit (.string bytes) => bytes.length + 1
  | .lit _ => 1
  | .nil => 1
  | .ptr d => uptoBulk d + 1
  | .slice elems spare => uptoBulkAll elems + uptoBulkAll spare + 1
  | .agg parts => uptoBulkAll parts + 1
  | .iface _ d => uptoBulk d + 1
  | .map entries => uptoBulkEntries entries + 1
  | .held _ => 1
def uptoBulkAll {H : Type} : List (DataW H) → Nat
  | [] => 0
  | d :: r => uptoBulk d + uptoBulkAll r
def uptoBulkEntries {H : Type} : List (Lit × DataW H) → Nat
  | [] => 0
  | x :: r => uptoBulkEntry x + uptoBulkEntries r
def uptoBulkEntry {H : Type} : Lit × DataW H → Nat
  | (.string bytes, d) => bytes.length + uptoBulk d + 1
  | (_, d) => uptoBulk d + 1
 end
def uptoSmall : (H : Type) → List (DataW H) → Bool := fun _ ds => decide (uptoBulkAll ds ≤ 1048576)
def OpenSpec.upto (s : _root_.Go.ChangeSpec) : _root_.Go.OpenSpec := { _root_.Go.OpenSpec.ofChange s with cond := some uptoSmall }

/-- 'laws.FnExactDifferentDigits', WHERE WHAT IT READS IS OF BULK AT MOST 1048576: true; the input reads as it did. -/
def fnExactDifferentDigitsUptoRow : OpenClaim := { program := "ythkjedplcebpjag", sum := "d06274686b5f2e35116e77d405beab61e8596eb9eee3ab186675791882f60342", func := "loop.example/g01395/laws.FnExactDifferentDigits", spec := "fnExactDifferentDigits", recurses := true, apart := false, narrowed := true }
def FnExactDifferentDigitsUptoSaid : Prop := fnExactDifferentDigitsUptoRow.holds Try.pinned (OpenSpec.upto fnExactDifferentDigitsSpec)

/-- 'laws.FnExactFirstOfKind', WHERE WHAT IT READS IS OF BULK AT MOST 1048576: true; the input reads as it did. -/
def fnExactFirstOfKindUptoRow : OpenClaim := { program := "ythkjedplcebpjag", sum := "d06274686b5f2e35116e77d405beab61e8596eb9eee3ab186675791882f60342", func := "loop.example/g01395/laws.FnExactFirstOfKind", spec := "fnExactFirstOfKind", inPlace := ["internal/bytealg.IndexByteString", "internal/bytealg.IndexString", "internal/abi.NoEscape", "internal/bytealg.MakeNoZero"], unfollowed := true, recurses := true, named := ["internal/bytealg.MaxLen"], apart := false, narrowed := true }
def FnExactFirstOfKindUptoSaid : Prop := fnExactFirstOfKindUptoRow.holds Try.pinned (OpenSpec.upto fnExactFirstOfKindSpec)

/-- 'laws.FnExactLastOfKind', WHERE WHAT IT READS IS OF BULK AT MOST 1048576: true; the input reads as it did. -/
def fnExactLastOfKindUptoRow : OpenClaim := { program := "ythkjedplcebpjag", sum := "d06274686b5f2e35116e77d405beab61e8596eb9eee3ab186675791882f60342", func := "loop.example/g01395/laws.FnExactLastOfKind", spec := "fnExactLastOfKind", inPlace := ["internal/bytealg.IndexByteString", "internal/bytealg.IndexString", "internal/abi.NoEscape", "internal/bytealg.MakeNoZero"], unfollowed := true, recurses := true, named := ["internal/bytealg.MaxLen"], apart := false, narrowed := true }
def FnExactLastOfKindUptoSaid : Prop := fnExactLastOfKindUptoRow.holds Try.pinned (OpenSpec.upto fnExactLastOfKindSpec)

end Rows
end Go.Proofs.Ythkjedplcebpjag
