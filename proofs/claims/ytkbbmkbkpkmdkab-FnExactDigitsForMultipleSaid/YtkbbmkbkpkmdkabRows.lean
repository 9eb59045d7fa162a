/-
  No cell of these rows narrows 'for every input' (looked for: loops, veiled, ifaces, maps, wideKeys, modest, calm, conditions, laid).
  DERIVED. THE GIVEN ROWS OF THIS SEAT. 6 by the template 'for every input the law returns true; each argument reads behind the call as it read before'; 0 by the template 'total and deterministic' (their statements: YtkbbmkbkpkmdkabTotals.lean).
  GIVEN WITH THE SEED: the statements are not yours to turn. If you find one false, say at which input.
  Laid BY PROGRAM, IN A SANDBOX (cutbox-rows.mjs): the forced cells as the released guide's own fill.sh prints them over the translation 5f497b47b57a79a6… (all of the seat's roots in one cut). By AI agents, Wed Nov 11 2026. No macro, syntax, notation, axiom, sorry.
-/
import Derived.Test.YtkbbmkbkpkmdkabChecked
import GoSem.Claim
import GoSem.ClaimJoined
import GoSem.ClaimMapViews
import Derived.JoinedTies
import Derived.KernelRfl
namespace Go.Proofs.Ytkbbmkbkpkmdkab
/- THE CELL 'sum', in the pinned program and in every row, IS THE sha256 OF THE DUMP (.gsa) THAT YtkbbmkbkpkmdkabProg.lean LOADS. Nothing in Lean hashes anything: it is a label: what it is worth is what the hold of that sum in a sandbox is worth. -/
noncomputable def Try.pinned : Pinned := { name := "ytkbbmkbkpkmdkab", sum := "5f497b47b57a79a67135108758a1101a5732ea457055bf17989a94b106d1207e", checked := Try.checked }
namespace Rows
def none {H : Type} : Left H := { results := [], args := [] }

/-- 'laws.FnExactDifferentDigits': WHATEVER THE INPUT: true; the input reads as it did. -/
def fnExactDifferentDigitsSpec : ChangeSpec := { name := "fnExactDifferentDigits", fn := fun _ => fun
  | [d] => { results := [.lit (.bool true)], args := [d] }
  | _ => none }
def fnExactDifferentDigitsRow : OpenClaim := { program := "ytkbbmkbkpkmdkab", sum := "5f497b47b57a79a67135108758a1101a5732ea457055bf17989a94b106d1207e", func := "loop.example/g01395/laws.FnExactDifferentDigits", spec := "fnExactDifferentDigits", recurses := true, apart := false }
def FnExactDifferentDigitsSaid : Prop := fnExactDifferentDigitsRow.holds Try.pinned (OpenSpec.ofChange fnExactDifferentDigitsSpec)

/-- ITS FALSE NEIGHBOUR: 'it returns false'. Refute it at one input. -/
def fnExactDifferentDigitsWrong : ChangeSpec := { name := "fnExactDifferentDigits", fn := fun _ => fun
  | [d] => { results := [.lit (.bool false)], args := [d] }
  | _ => none }
def FnExactDifferentDigitsWrongFalsely : Prop := fnExactDifferentDigitsRow.holds Try.pinned (OpenSpec.ofChange fnExactDifferentDigitsWrong)

/-- 'laws.FnExactMilesToDigits': WHATEVER THE INPUT: true; the input reads as it did. -/
def fnExactMilesToDigitsSpec : ChangeSpec := { name := "fnExactMilesToDigits", fn := fun _ => fun
  | [d1, d2] => { results := [.lit (.bool true)], args := [d1, d2] }
  | _ => none }
def fnExactMilesToDigitsRow : OpenClaim := { program := "ytkbbmkbkpkmdkab", sum := "5f497b47b57a79a67135108758a1101a5732ea457055bf17989a94b106d1207e", func := "loop.example/g01395/laws.FnExactMilesToDigits", spec := "fnExactMilesToDigits", inPlace := ["internal/abi.NoEscape", "internal/bytealg.MakeNoZero"], unfollowed := true, recurses := true, apart := false }
def FnExactMilesToDigitsSaid : Prop := fnExactMilesToDigitsRow.holds Try.pinned (OpenSpec.ofChange fnExactMilesToDigitsSpec)

/-- ITS FALSE NEIGHBOUR: 'it returns false'. Refute it at one input. -/
def fnExactMilesToDigitsWrong : ChangeSpec := { name := "fnExactMilesToDigits", fn := fun _ => fun
  | [d1, d2] => { results := [.lit (.bool false)], args := [d1, d2] }
  | _ => none }
def FnExactMilesToDigitsWrongFalsely : Prop := fnExactMilesToDigitsRow.holds Try.pinned (OpenSpec.ofChange fnExactMilesToDigitsWrong)

/-- 'laws.FnExactOnesFor': WHATEVER THE INPUT: true; the input reads as it did. -/
def fnExactOnesForSpec : ChangeSpec := { name := "fnExactOnesFor", fn := fun _ => fun
  | [d] => { results := [.lit (.bool true)], args := [d] }
  | _ => none }
def fnExactOnesForRow : OpenClaim := { program := "ytkbbmkbkpkmdkab", sum := "5f497b47b57a79a67135108758a1101a5732ea457055bf17989a94b106d1207e", func := "loop.example/g01395/laws.FnExactOnesFor", spec := "fnExactOnesFor", unfollowed := true, recurses := true, apart := false }
def FnExactOnesForSaid : Prop := fnExactOnesForRow.holds Try.pinned (OpenSpec.ofChange fnExactOnesForSpec)

/-- ITS FALSE NEIGHBOUR: 'it returns false'. Refute it at one input. -/
def fnExactOnesForWrong : ChangeSpec := { name := "fnExactOnesFor", fn := fun _ => fun
  | [d] => { results := [.lit (.bool false)], args := [d] }
  | _ => none }
def FnExactOnesForWrongFalsely : Prop := fnExactOnesForRow.holds Try.pinned (OpenSpec.ofChange fnExactOnesForWrong)

/-- 'laws.FnExactLeastMultiple': WHATEVER THE INPUT: true; the input reads as it did. -/
def fnExactLeastMultipleSpec : ChangeSpec := { name := "fnExactLeastMultiple", fn := fun _ => fun
  | [d1, d2] => { results := [.lit (.bool true)], args := [d1, d2] }
  | _ => none }
def fnExactLeastMultipleRow : OpenClaim := { program := "ytkbbmkbkpkmdkab", sum := "5f497b47b57a79a67135108758a1101a5732ea457055bf17989a94b106d1207e", func := "loop.example/g01395/laws.FnExactLeastMultiple", spec := "fnExactLeastMultiple", unfollowed := true, recurses := true, apart := false }
def FnExactLeastMultipleSaid : Prop := fnExactLeastMultipleRow.holds Try.pinned (OpenSpec.ofChange fnExactLeastMultipleSpec)

/-- ITS FALSE NEIGHBOUR: 'it returns false'. Refute it at one input. -/
def fnExactLeastMultipleWrong : ChangeSpec := { name := "fnExactLeastMultiple", fn := fun _ => fun
  | [d1, d2] => { results := [.lit (.bool false)], args := [d1, d2] }
  | _ => none }
def FnExactLeastMultipleWrongFalsely : Prop := fnExactLeastMultipleRow.holds Try.pinned (OpenSpec.ofChange fnExactLeastMultipleWrong)

/-- 'laws.FnExactDigitsForMultiple': WHATEVER THE INPUT: true; the input reads as it did. -/
def fnExactDigitsForMultipleSpec : ChangeSpec := { name := "fnExactDigitsForMultiple", fn := fun _ => fun
  | [d] => { results := [.lit (.bool true)], args := [d] }
  | _ => none }
def fnExactDigitsForMultipleRow : OpenClaim := { program := "ytkbbmkbkpkmdkab", sum := "5f497b47b57a79a67135108758a1101a5732ea457055bf17989a94b106d1207e", func := "loop.example/g01395/laws.FnExactDigitsForMultiple", spec := "fnExactDigitsForMultiple", unfollowed := true, recurses := true, apart := false }
def FnExactDigitsForMultipleSaid : Prop := fnExactDigitsForMultipleRow.holds Try.pinned (OpenSpec.ofChange fnExactDigitsForMultipleSpec)

/-- ITS FALSE NEIGHBOUR: 'it returns false'. Refute it at one input. -/
def fnExactDigitsForMultipleWrong : ChangeSpec := { name := "fnExactDigitsForMultiple", fn := fun _ => fun
  | [d] => { results := [.lit (.bool false)], args := [d] }
  | _ => none }
def FnExactDigitsForMultipleWrongFalsely : Prop := fnExactDigitsForMultipleRow.holds Try.pinned (OpenSpec.ofChange fnExactDigitsForMultipleWrong)

/-- 'laws.FnExactBothMirrored': WHATEVER THE INPUT: true; the input reads as it did. -/
def fnExactBothMirroredSpec : ChangeSpec := { name := "fnExactBothMirrored", fn := fun _ => fun
  | [d1, d2] => { results := [.lit (.bool true)], args := [d1, d2] }
  | _ => none }
def fnExactBothMirroredRow : OpenClaim := { program := "ytkbbmkbkpkmdkab", sum := "5f497b47b57a79a67135108758a1101a5732ea457055bf17989a94b106d1207e", func := "loop.example/g01395/laws.FnExactBothMirrored", spec := "fnExactBothMirrored", recurses := true, apart := false }
def FnExactBothMirroredSaid : Prop := fnExactBothMirroredRow.holds Try.pinned (OpenSpec.ofChange fnExactBothMirroredSpec)

/-- ITS FALSE NEIGHBOUR: 'it returns false'. Refute it at one input. -/
def fnExactBothMirroredWrong : ChangeSpec := { name := "fnExactBothMirrored", fn := fun _ => fun
  | [d1, d2] => { results := [.lit (.bool false)], args := [d1, d2] }
  | _ => none }
def FnExactBothMirroredWrongFalsely : Prop := fnExactBothMirroredRow.holds Try.pinned (OpenSpec.ofChange fnExactBothMirroredWrong)

/- THE SECOND FORM. 'bulk': how many values and letters a reading holds, each counted each time it is reached (what is shared counts as often as it is met; a slice's spare places count too). A statement '..UptoSaid' is the law's where the arguments, and the package variables that the reading takes, are together of bulk at most 1048576: NARROWER than '..Said'. Prove '..Said' where nothing that the law and all that it calls make is longer than what came in: it says more and counts as full. Else prove '..UptoSaid'. A law counts once. -/
mutual
def uptoBulk {H : Type} : DataW H → Nat
  | .lit (.string bytes) => bytes.length + 1
  | .lit _ => 1
  | .nil => 1
  | .ptr d => uptoBulk d + 1
  | .slice elems spare => uptoBulkAll elems + uptoBulkAll spare + 1
  | .agg parts => uptoBulkAll parts + 1
  | .iface _ d => uptoBulk d + 1
  | .map entries => uptoBulkEntries entries + 1
  | .held _ => 1
def uptoBulkAll {H : Type} : List (DataW H) → Nat
  | [] => 0
  | d :: r => uptoBulk d + uptoBulkAll r
def uptoBulkEntries {H : Type} : List (Lit × DataW H) → Nat
  | [] => 0
  | x :: r => uptoBulkEntry x + uptoBulkEntries r
def uptoBulkEntry {H : Type} : Lit × DataW H → Nat
  | (.string bytes, d) => bytes.length + uptoBulk d + 1
  | (_, d) => uptoBulk d + 1
 end
def uptoSmall : (H : Type) → List (DataW H) → Bool := fun _ ds => decide (uptoBulkAll ds ≤ 1048576)
def OpenSpec.upto (s : _root_.Go.ChangeSpec) : _root_.Go.OpenSpec := { _root_.Go.OpenSpec.ofChange s with cond := some uptoSmall }

/-- 'laws.FnExactDifferentDigits', WHERE WHAT IT READS IS OF BULK AT MOST 1048576: true; the input reads as it did. -/
def fnExactDifferentDigitsUptoRow : OpenClaim := { program := "ytkbbmkbkpkmdkab", sum := "5f497b47b57a79a67135108758a1101a5732ea457055bf17989a94b106d1207e", func := "loop.example/g01395/laws.FnExactDifferentDigits", spec := "fnExactDifferentDigits", recurses := true, apart := false, narrowed := true }
def FnExactDifferentDigitsUptoSaid : Prop := fnExactDifferentDigitsUptoRow.holds Try.pinned (OpenSpec.upto fnExactDifferentDigitsSpec)

/-- 'laws.FnExactMilesToDigits', WHERE WHAT IT READS IS OF BULK AT MOST 1048576: true; the input reads as it did. -/
def fnExactMilesToDigitsUptoRow : OpenClaim := { program := "ytkbbmkbkpkmdkab", sum := "5f497b47b57a79a67135108758a1101a5732ea457055bf17989a94b106d1207e", func := "loop.example/g01395/laws.FnExactMilesToDigits", spec := "fnExactMilesToDigits", inPlace := ["internal/abi.NoEscape", "internal/bytealg.MakeNoZero"], unfollowed := true, recurses := true, apart := false, narrowed := true }
def FnExactMilesToDigitsUptoSaid : Prop := fnExactMilesToDigitsUptoRow.holds Try.pinned (OpenSpec.upto fnExactMilesToDigitsSpec)

/-- 'laws.FnExactOnesFor', WHERE WHAT IT READS IS OF BULK AT MOST 1048576: true; the input reads as it did. -/
def fnExactOnesForUptoRow : OpenClaim := { program := "ytkbbmkbkpkmdkab", sum := "5f497b47b57a79a67135108758a1101a5732ea457055bf17989a94b106d1207e", func := "loop.example/g01395/laws.FnExactOnesFor", spec := "fnExactOnesFor", unfollowed := true, recurses := true, apart := false, narrowed := true }
def FnExactOnesForUptoSaid : Prop := fnExactOnesForUptoRow.holds Try.pinned (OpenSpec.upto fnExactOnesForSpec)

/-- 'laws.FnExactLeastMultiple', WHERE WHAT IT READS IS OF BULK AT MOST 1048576: true; the input reads as it did. -/
def fnExactLeastMultipleUptoRow : OpenClaim := { program := "ytkbbmkbkpkmdkab", sum := "5f497b47b57a79a67135108758a1101a5732ea457055bf17989a94b106d1207e", func := "loop.example/g01395/laws.FnExactLeastMultiple", spec := "fnExactLeastMultiple", unfollowed := true, recurses := true, apart := false, narrowed := true }
def FnExactLeastMultipleUptoSaid : Prop := fnExactLeastMultipleUptoRow.holds Try.pinned (OpenSpec.upto fnExactLeastMultipleSpec)

/-- 'laws.FnExactDigitsForMultiple', WHERE WHAT IT READS IS OF BULK AT MOST 1048576: true; the input reads as it did. -/
def fnExactDigitsForMultipleUptoRow : OpenClaim := { program := "ytkbbmkbkpkmdkab", sum := "5f497b47b57a79a67135108758a1101a5732ea457055bf17989a94b106d1207e", func := "loop.example/g01395/laws.FnExactDigitsForMultiple", spec := "fnExactDigitsForMultiple", unfollowed := true, recurses := true, apart := false, narrowed := true }
def FnExactDigitsForMultipleUptoSaid : Prop := fnExactDigitsForMultipleUptoRow.holds Try.pinned (OpenSpec.upto fnExactDigitsForMultipleSpec)

/-- 'laws.FnExactBothMirrored', WHERE WHAT IT READS IS OF BULK AT MOST 1048576: true; the input reads as it did. -/
def fnExactBothMirroredUptoRow : OpenClaim := { program := "ytkbbmkbkpkmdkab", sum := "5f497b47b57a79a67135108758a1101a5732ea457055bf17989a94b106d1207e", func := "loop.example/g01395/laws.FnExactBothMirrored", spec := "fnExactBothMirrored", recurses := true, apart := false, narrowed := true }
def FnExactBothMirroredUptoSaid : Prop := fnExactBothMirroredUptoRow.holds Try.pinned (OpenSpec.upto fnExactBothMirroredSpec)

end Rows
end Go.Proofs.Ytkbbmkbkpkmdkab
