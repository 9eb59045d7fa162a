/-
  No cell of these rows narrows 'for every input' (looked for: loops, veiled, ifaces, maps, wideKeys, modest, calm, conditions, laid).
  DERIVED. THE GIVEN ROWS OF THIS SEAT. 5 by the template 'for every input the law returns true; each argument reads behind the call as it read before'; 0 by the template 'total and deterministic' (their statements: YthkjedplcebpjabTotals.lean).
  GIVEN WITH THE SEED: the statements are not yours to turn. If you find one false, say at which input.
  Laid BY PROGRAM, IN A SANDBOX (cutbox-rows.mjs): the forced cells as the released guide's own fill.sh prints them over the translation 9547797202a58066… (all of the seat's roots in one cut). By AI agents, Wed Nov 11 2026. No macro, syntax, notation, axiom, sorry.
-/
import Derived.Test.YthkjedplcebpjabChecked
import GoSem.Claim
import GoSem.ClaimJoined
import GoSem.ClaimMapViews
import Derived.JoinedTies
import Derived.KernelRfl
namespace Go.Proofs.Ythkjedplcebpjab
/- THE CELL 'sum', in the pinned program and in every row, IS THE sha256 OF THE DUMP (.gsa) THAT YthkjedplcebpjabProg.lean LOADS. Nothing in Lean hashes anything: it is a label: what it is worth is what the hold of that sum in a sandbox is worth. -/
noncomputable def Try.pinned : Pinned := { name := "ythkjedplcebpjab", sum := "9547797202a58066470eb1bfb58363b19043a8005367e8d249e3065ae0bdf7a0", checked := Try.checked }
namespace Rows
def none {H : Type} : Left H := { results := [], args := [] }

/-- 'laws.FnExactUpsideOf': WHATEVER THE INPUT: true; the input reads as it did. -/
def fnExactUpsideOfSpec : ChangeSpec := { name := "fnExactUpsideOf", fn := fun _ => fun
  | [d] => { results := [.lit (.bool true)], args := [d] }
  | _ => none }
def fnExactUpsideOfRow : OpenClaim := { program := "ythkjedplcebpjab", sum := "9547797202a58066470eb1bfb58363b19043a8005367e8d249e3065ae0bdf7a0", func := "loop.example/g01395/laws.FnExactUpsideOf", spec := "fnExactUpsideOf", apart := false }
def FnExactUpsideOfSaid : Prop := fnExactUpsideOfRow.holds Try.pinned (OpenSpec.ofChange fnExactUpsideOfSpec)

/-- ITS FALSE NEIGHBOUR: 'it returns false'. Refute it at one input. -/
def fnExactUpsideOfWrong : ChangeSpec := { name := "fnExactUpsideOf", fn := fun _ => fun
  | [d] => { results := [.lit (.bool false)], args := [d] }
  | _ => none }
def FnExactUpsideOfWrongFalsely : Prop := fnExactUpsideOfRow.holds Try.pinned (OpenSpec.ofChange fnExactUpsideOfWrong)

/-- 'laws.FnExactOnesFor': WHATEVER THE INPUT: true; the input reads as it did. -/
def fnExactOnesForSpec : ChangeSpec := { name := "fnExactOnesFor", fn := fun _ => fun
  | [d] => { results := [.lit (.bool true)], args := [d] }
  | _ => none }
def fnExactOnesForRow : OpenClaim := { program := "ythkjedplcebpjab", sum := "9547797202a58066470eb1bfb58363b19043a8005367e8d249e3065ae0bdf7a0", func := "loop.example/g01395/laws.FnExactOnesFor", spec := "fnExactOnesFor", unfollowed := true, recurses := true, apart := false }
def FnExactOnesForSaid : Prop := fnExactOnesForRow.holds Try.pinned (OpenSpec.ofChange fnExactOnesForSpec)

/-- ITS FALSE NEIGHBOUR: 'it returns false'. Refute it at one input. -/
def fnExactOnesForWrong : ChangeSpec := { name := "fnExactOnesFor", fn := fun _ => fun
  | [d] => { results := [.lit (.bool false)], args := [d] }
  | _ => none }
def FnExactOnesForWrongFalsely : Prop := fnExactOnesForRow.holds Try.pinned (OpenSpec.ofChange fnExactOnesForWrong)

/-- 'laws.FnExactLeastMultiple': WHATEVER THE INPUT: true; the input reads as it did. -/
def fnExactLeastMultipleSpec : ChangeSpec := { name := "fnExactLeastMultiple", fn := fun _ => fun
  | [d1, d2] => { results := [.lit (.bool true)], args := [d1, d2] }
  | _ => none }
def fnExactLeastMultipleRow : OpenClaim := { program := "ythkjedplcebpjab", sum := "9547797202a58066470eb1bfb58363b19043a8005367e8d249e3065ae0bdf7a0", func := "loop.example/g01395/laws.FnExactLeastMultiple", spec := "fnExactLeastMultiple", unfollowed := true, recurses := true, apart := false }
def FnExactLeastMultipleSaid : Prop := fnExactLeastMultipleRow.holds Try.pinned (OpenSpec.ofChange fnExactLeastMultipleSpec)

/-- ITS FALSE NEIGHBOUR: 'it returns false'. Refute it at one input. -/
def fnExactLeastMultipleWrong : ChangeSpec := { name := "fnExactLeastMultiple", fn := fun _ => fun
  | [d1, d2] => { results := [.lit (.bool false)], args := [d1, d2] }
  | _ => none }
def FnExactLeastMultipleWrongFalsely : Prop := fnExactLeastMultipleRow.holds Try.pinned (OpenSpec.ofChange fnExactLeastMultipleWrong)

/-- 'laws.FnExactDigitsForMultiple': WHATEVER THE INPUT: true; the input reads as it did. -/
def fnExactDigitsForMultipleSpec : ChangeSpec := { name := "fnExactDigitsForMultiple", fn := fun _ => fun
  | [d] => { results := [.lit (.bool true)], args := [d] }
  | _ => none }
def fnExactDigitsForMultipleRow : OpenClaim := { program := "ythkjedplcebpjab", sum := "9547797202a58066470eb1bfb58363b19043a8005367e8d249e3065ae0bdf7a0", func := "loop.example/g01395/laws.FnExactDigitsForMultiple", spec := "fnExactDigitsForMultiple", unfollowed := true, recurses := true, apart := false }
def FnExactDigitsForMultipleSaid : Prop := fnExactDigitsForMultipleRow.holds Try.pinned (OpenSpec.ofChange fnExactDigitsForMultipleSpec)

/-- ITS FALSE NEIGHBOUR: 'it returns false'. Refute it at one input. -/
def fnExactDigitsForMultipleWrong : ChangeSpec := { name := "fnExactDigitsForMultiple", fn := fun _ => fun
  | [d] => { results := [.lit (.bool false)], args := [d] }
  | _ => none }
def FnExactDigitsForMultipleWrongFalsely : Prop := fnExactDigitsForMultipleRow.holds Try.pinned (OpenSpec.ofChange fnExactDigitsForMultipleWrong)

/-- 'laws.FnExactCountSound': WHATEVER THE INPUT: true; the input reads as it did. -/
def fnExactCountSoundSpec : ChangeSpec := { name := "fnExactCountSound", fn := fun _ => fun
  | [d] => { results := [.lit (.bool true)], args := [d] }
  | _ => none }
def fnExactCountSoundRow : OpenClaim := { program := "ythkjedplcebpjab", sum := "9547797202a58066470eb1bfb58363b19043a8005367e8d249e3065ae0bdf7a0", func := "loop.example/g01395/laws.FnExactCountSound", spec := "fnExactCountSound", unfollowed := true, recurses := true, apart := false }
def FnExactCountSoundSaid : Prop := fnExactCountSoundRow.holds Try.pinned (OpenSpec.ofChange fnExactCountSoundSpec)

/-- ITS FALSE NEIGHBOUR: 'it returns false'. Refute it at one input. -/
def fnExactCountSoundWrong : ChangeSpec := { name := "fnExactCountSound", fn := fun _ => fun
  | [d] => { results := [.lit (.bool false)], args := [d] }
  | _ => none }
def FnExactCountSoundWrongFalsely : Prop := fnExactCountSoundRow.holds Try.pinned (OpenSpec.ofChange fnExactCountSoundWrong)

/- THE SECOND FORM. 'bulk': how many values and letters a reading holds, each counted each time it is reached (what is shared counts as often as it is met; a slice's spare places count too). A statement '..UptoSaid' is the law's where the arguments, and the package variables that the reading takes, are together of bulk at most 1048576: NARROWER than '..Said'. Prove '..Said' where nothing that the law and all that it calls make is longer than what came in: it says more and counts as full. Else prove '..UptoSaid'. A law counts once. -/
mutual
def uptoBulk {H : Type} : DataW H → Nat
  | .lit (.string bytes) => bytes.length + 1
  | .lit _ => 1
  | .nil => 1
  | .ptr d => uptoBulk d + 1
  | .slice elems spare => uptoBulkAll elems + uptoBulkAll spare + 1
  | .agg parts => uptoBulkAll parts + 1
  | .iface _ d => uptoBulk d + 1
  | .map entries => uptoBulkEntries entries + 1
  | .held _ => 1
def uptoBulkAll {H : Type} : List (DataW H) → Nat
  | [] => 0
  | d :: r => uptoBulk d + uptoBulkAll r
def uptoBulkEntries {H : Type} : List (Lit × DataW H) → Nat
  | [] => 0
  | x :: r => uptoBulkEntry x + uptoBulkEntries r
def uptoBulkEntry {H : Type} : Lit × DataW H → Nat
  | (.string bytes, d) => bytes.length + uptoBulk d + 1
  | (_, d) => uptoBulk d + 1
 end
def uptoSmall : (H : Type) → List (DataW H) → Bool := fun _ ds => decide (uptoBulkAll ds ≤ 1048576)
def OpenSpec.upto (s : _root_.Go.ChangeSpec) : _root_.Go.OpenSpec := { _root_.Go.OpenSpec.ofChange s with cond := some uptoSmall }

/-- 'laws.FnExactUpsideOf', WHERE WHAT IT READS IS OF BULK AT MOST 1048576: true; the input reads as it did. -/
def fnExactUpsideOfUptoRow : OpenClaim := { program := "ythkjedplcebpjab", sum := "9547797202a58066470eb1bfb58363b19043a8005367e8d249e3065ae0bdf7a0", func := "loop.example/g01395/laws.FnExactUpsideOf", spec := "fnExactUpsideOf", apart := false, narrowed := true }
def FnExactUpsideOfUptoSaid : Prop := fnExactUpsideOfUptoRow.holds Try.pinned (OpenSpec.upto fnExactUpsideOfSpec)

/-- 'laws.FnExactOnesFor', WHERE WHAT IT READS IS OF BULK AT MOST 1048576: true; the input reads as it did. -/
def fnExactOnesForUptoRow : OpenClaim := { program := "ythkjedplcebpjab", sum := "9547797202a58066470eb1bfb58363b19043a8005367e8d249e3065ae0bdf7a0", func := "loop.example/g01395/laws.FnExactOnesFor", spec := "fnExactOnesFor", unfollowed := true, recurses := true, apart := false, narrowed := true }
def FnExactOnesForUptoSaid : Prop := fnExactOnesForUptoRow.holds Try.pinned (OpenSpec.upto fnExactOnesForSpec)

/-- 'laws.FnExactLeastMultiple', WHERE WHAT IT READS IS OF BULK AT MOST 1048576: true; the input reads as it did. -/
def fnExactLeastMultipleUptoRow : OpenClaim := { program := "ythkjedplcebpjab", sum := "9547797202a58066470eb1bfb58363b19043a8005367e8d249e3065ae0bdf7a0", func := "loop.example/g01395/laws.FnExactLeastMultiple", spec := "fnExactLeastMultiple", unfollowed := true, recurses := true, apart := false, narrowed := true }
def FnExactLeastMultipleUptoSaid : Prop := fnExactLeastMultipleUptoRow.holds Try.pinned (OpenSpec.upto fnExactLeastMultipleSpec)

/-- 'laws.FnExactDigitsForMultiple', WHERE WHAT IT READS IS OF BULK AT MOST 1048576: true; the input reads as it did. -/
def fnExactDigitsForMultipleUptoRow : OpenClaim := { program := "ythkjedplcebpjab", sum := "9547797202a58066470eb1bfb58363b19043a8005367e8d249e3065ae0bdf7a0", func := "loop.example/g01395/laws.FnExactDigitsForMultiple", spec := "fnExactDigitsForMultiple", unfollowed := true, recurses := true, apart := false, narrowed := true }
def FnExactDigitsForMultipleUptoSaid : Prop := fnExactDigitsForMultipleUptoRow.holds Try.pinned (OpenSpec.upto fnExactDigitsForMultipleSpec)

/-- 'laws.FnExactCountSound', WHERE WHAT IT READS IS OF BULK AT MOST 1048576: true; the input reads as it did. -/
def fnExactCountSoundUptoRow : OpenClaim := { program := "ythkjedplcebpjab", sum := "9547797202a58066470eb1bfb58363b19043a8005367e8d249e3065ae0bdf7a0", func := "loop.example/g01395/laws.FnExactCountSound", spec := "fnExactCountSound", unfollowed := true, recurses := true, apart := false, narrowed := true }
def FnExactCountSoundUptoSaid : Prop := fnExactCountSoundUptoRow.holds Try.pinned (OpenSpec.upto fnExactCountSoundSpec)

end Rows
end Go.Proofs.Ythkjedplcebpjab
