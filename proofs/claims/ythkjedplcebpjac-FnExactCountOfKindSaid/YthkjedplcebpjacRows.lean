/-
  No cell of these rows narrows 'for every input' (looked for: loops, veiled, ifaces, maps, wideKeys, modest, calm, conditions, laid).
  DERIVED. THE GIVEN ROWS OF THIS SEAT. 5 by the template 'for every input the law returns true; each argument reads behind the call as it read before'; 0 by the template 'total and deterministic' (their statements: YthkjedplcebpjacTotals.lean).
  GIVEN WITH THE SEED: the statements are not yours to turn. If you find one false, say at which input.
  Laid BY PROGRAM, IN A SANDBOX (cutbox-rows.mjs): the forced cells as the released guide's own fill.sh prints them over the translation 22cef6cba6be491e… (all of the seat's roots in one cut). By AI agents, Wed Nov 11 2026. No macro, syntax, notation, axiom, sorry.
-/
import Derived.Test.YthkjedplcebpjacChecked
import GoSem.Claim
import GoSem.ClaimJoined
import GoSem.ClaimMapViews
import Derived.JoinedTies
import Derived.KernelRfl
namespace Go.Proofs.Ythkjedplcebpjac
/- THE CELL 'sum', in the pinned program and in every row, IS THE sha256 OF THE DUMP (.gsa) THAT YthkjedplcebpjacProg.lean LOADS. Nothing in Lean hashes anything: it is a label: what it is worth is what the hold of that sum in a sandbox is worth. -/
noncomputable def Try.pinned : Pinned := { name := "ythkjedplcebpjac", sum := "22cef6cba6be491e89018a91bc8c12260917e537317151b5db2a5a638353afe5", checked := Try.checked }
namespace Rows
def none {H : Type} : Left H := { results := [], args := [] }

/-- 'laws.FnExactSumOfCheck': WHATEVER THE INPUT: true; the input reads as it did. -/
def fnExactSumOfCheckSpec : ChangeSpec := { name := "fnExactSumOfCheck", fn := fun _ => fun
  | [d1, d2] => { results := [.lit (.bool true)], args := [d1, d2] }
  | _ => none }
def fnExactSumOfCheckRow : OpenClaim := { program := "ythkjedplcebpjac", sum := "22cef6cba6be491e89018a91bc8c12260917e537317151b5db2a5a638353afe5", func := "loop.example/g01395/laws.FnExactSumOfCheck", spec := "fnExactSumOfCheck", unfollowed := true, recurses := true, apart := false }
def FnExactSumOfCheckSaid : Prop := fnExactSumOfCheckRow.holds Try.pinned (OpenSpec.ofChange fnExactSumOfCheckSpec)

/-- ITS FALSE NEIGHBOUR: 'it returns false'. Refute it at one input. -/
def fnExactSumOfCheckWrong : ChangeSpec := { name := "fnExactSumOfCheck", fn := fun _ => fun
  | [d1, d2] => { results := [.lit (.bool false)], args := [d1, d2] }
  | _ => none }
def FnExactSumOfCheckWrongFalsely : Prop := fnExactSumOfCheckRow.holds Try.pinned (OpenSpec.ofChange fnExactSumOfCheckWrong)

/-- 'laws.FnExactIsSound': WHATEVER THE INPUT: true; the input reads as it did. -/
def fnExactIsSoundSpec : ChangeSpec := { name := "fnExactIsSound", fn := fun _ => fun
  | [d1, d2] => { results := [.lit (.bool true)], args := [d1, d2] }
  | _ => none }
def fnExactIsSoundRow : OpenClaim := { program := "ythkjedplcebpjac", sum := "22cef6cba6be491e89018a91bc8c12260917e537317151b5db2a5a638353afe5", func := "loop.example/g01395/laws.FnExactIsSound", spec := "fnExactIsSound", unfollowed := true, recurses := true, apart := false }
def FnExactIsSoundSaid : Prop := fnExactIsSoundRow.holds Try.pinned (OpenSpec.ofChange fnExactIsSoundSpec)

/-- ITS FALSE NEIGHBOUR: 'it returns false'. Refute it at one input. -/
def fnExactIsSoundWrong : ChangeSpec := { name := "fnExactIsSound", fn := fun _ => fun
  | [d1, d2] => { results := [.lit (.bool false)], args := [d1, d2] }
  | _ => none }
def FnExactIsSoundWrongFalsely : Prop := fnExactIsSoundRow.holds Try.pinned (OpenSpec.ofChange fnExactIsSoundWrong)

/-- 'laws.FnExactKindsOfReading': WHATEVER THE INPUT: true; the input reads as it did. -/
def fnExactKindsOfReadingSpec : ChangeSpec := { name := "fnExactKindsOfReading", fn := fun _ => fun
  | [d] => { results := [.lit (.bool true)], args := [d] }
  | _ => none }
def fnExactKindsOfReadingRow : OpenClaim := { program := "ythkjedplcebpjac", sum := "22cef6cba6be491e89018a91bc8c12260917e537317151b5db2a5a638353afe5", func := "loop.example/g01395/laws.FnExactKindsOfReading", spec := "fnExactKindsOfReading", inPlace := ["internal/bytealg.IndexByteString"], apart := false }
def FnExactKindsOfReadingSaid : Prop := fnExactKindsOfReadingRow.holds Try.pinned (OpenSpec.ofChange fnExactKindsOfReadingSpec)

/-- ITS FALSE NEIGHBOUR: 'it returns false'. Refute it at one input. -/
def fnExactKindsOfReadingWrong : ChangeSpec := { name := "fnExactKindsOfReading", fn := fun _ => fun
  | [d] => { results := [.lit (.bool false)], args := [d] }
  | _ => none }
def FnExactKindsOfReadingWrongFalsely : Prop := fnExactKindsOfReadingRow.holds Try.pinned (OpenSpec.ofChange fnExactKindsOfReadingWrong)

/-- 'laws.FnExactSwapsToSound': WHATEVER THE INPUT: true; the input reads as it did. -/
def fnExactSwapsToSoundSpec : ChangeSpec := { name := "fnExactSwapsToSound", fn := fun _ => fun
  | [d1, d2] => { results := [.lit (.bool true)], args := [d1, d2] }
  | _ => none }
def fnExactSwapsToSoundRow : OpenClaim := { program := "ythkjedplcebpjac", sum := "22cef6cba6be491e89018a91bc8c12260917e537317151b5db2a5a638353afe5", func := "loop.example/g01395/laws.FnExactSwapsToSound", spec := "fnExactSwapsToSound", unfollowed := true, recurses := true, apart := false }
def FnExactSwapsToSoundSaid : Prop := fnExactSwapsToSoundRow.holds Try.pinned (OpenSpec.ofChange fnExactSwapsToSoundSpec)

/-- ITS FALSE NEIGHBOUR: 'it returns false'. Refute it at one input. -/
def fnExactSwapsToSoundWrong : ChangeSpec := { name := "fnExactSwapsToSound", fn := fun _ => fun
  | [d1, d2] => { results := [.lit (.bool false)], args := [d1, d2] }
  | _ => none }
def FnExactSwapsToSoundWrongFalsely : Prop := fnExactSwapsToSoundRow.holds Try.pinned (OpenSpec.ofChange fnExactSwapsToSoundWrong)

/-- 'laws.FnExactCountOfKind': WHATEVER THE INPUT: true; the input reads as it did. -/
def fnExactCountOfKindSpec : ChangeSpec := { name := "fnExactCountOfKind", fn := fun _ => fun
  | [d1, d2] => { results := [.lit (.bool true)], args := [d1, d2] }
  | _ => none }
def fnExactCountOfKindRow : OpenClaim := { program := "ythkjedplcebpjac", sum := "22cef6cba6be491e89018a91bc8c12260917e537317151b5db2a5a638353afe5", func := "loop.example/g01395/laws.FnExactCountOfKind", spec := "fnExactCountOfKind", inPlace := ["internal/bytealg.IndexByteString", "internal/bytealg.IndexString"], named := ["internal/bytealg.MaxLen"], apart := false }
def FnExactCountOfKindSaid : Prop := fnExactCountOfKindRow.holds Try.pinned (OpenSpec.ofChange fnExactCountOfKindSpec)

/-- ITS FALSE NEIGHBOUR: 'it returns false'. Refute it at one input. -/
def fnExactCountOfKindWrong : ChangeSpec := { name := "fnExactCountOfKind", fn := fun _ => fun
  | [d1, d2] => { results := [.lit (.bool false)], args := [d1, d2] }
  | _ => none }
def FnExactCountOfKindWrongFalsely : Prop := fnExactCountOfKindRow.holds Try.pinned (OpenSpec.ofChange fnExactCountOfKindWrong)

/- THE SECOND FORM. 'bulk': how many values and letters a reading holds, each counted each time it is reached (what is shared counts as often as it is met; a slice's spare places count too). A statement '..UptoSaid' is the law's where the arguments, and the package variables that the reading takes, are together of bulk at most 1048576: NARROWER than '..Said'. Prove '..Said' where nothing that the law and all that it calls make is longer than what came in: it says more and counts as full. Else prove '..UptoSaid'. A law counts once. -/
mutual
def uptoBulk {H : Type} : DataW H → Nat
  | .lit (.string bytes) => bytes.length + 1
  | .lit _ => 1
  | .nil => 1
  | .ptr d => uptoBulk d + 1
  | .slice elems spare => uptoBulkAll elems + uptoBulkAll spare + 1
  | .agg parts => uptoBulkAll parts + 1
  | .iface _ d => uptoBulk d + 1
  | .map entries => uptoBulkEntries entries + 1
  | .held _ => 1
def uptoBulkAll {H : Type} : List (DataW H) → Nat
  | [] => 0
  | d :: r => uptoBulk d + uptoBulkAll r
def uptoBulkEntries {H : Type} : List (Lit × DataW H) → Nat
  | [] => 0
  | x :: r => uptoBulkEntry x + uptoBulkEntries r
def uptoBulkEntry {H : Type} : Lit × DataW H → Nat
  | (.string bytes, d) => bytes.length + uptoBulk d + 1
  | (_, d) => uptoBulk d + 1
 end
def uptoSmall : (H : Type) → List (DataW H) → Bool := fun _ ds => decide (uptoBulkAll ds ≤ 1048576)
def OpenSpec.upto (s : _root_.Go.ChangeSpec) : _root_.Go.OpenSpec := { _root_.Go.OpenSpec.ofChange s with cond := some uptoSmall }

/-- 'laws.FnExactSumOfCheck', WHERE WHAT IT READS IS OF BULK AT MOST 1048576: true; the input reads as it did. -/
def fnExactSumOfCheckUptoRow : OpenClaim := { program := "ythkjedplcebpjac", sum := "22cef6cba6be491e89018a91bc8c12260917e537317151b5db2a5a638353afe5", func := "loop.example/g01395/laws.FnExactSumOfCheck", spec := "fnExactSumOfCheck", unfollowed := true, recurses := true, apart := false, narrowed := true }
def FnExactSumOfCheckUptoSaid : Prop := fnExactSumOfCheckUptoRow.holds Try.pinned (OpenSpec.upto fnExactSumOfCheckSpec)

/-- 'laws.FnExactIsSound', WHERE WHAT IT READS IS OF BULK AT MOST 1048576: true; the input reads as it did. -/
def fnExactIsSoundUptoRow : OpenClaim := { program := "ythkjedplcebpjac", sum := "22cef6cba6be491e89018a91bc8c12260917e537317151b5db2a5a638353afe5", func := "loop.example/g01395/laws.FnExactIsSound", spec := "fnExactIsSound", unfollowed := true, recurses := true, apart := false, narrowed := true }
def FnExactIsSoundUptoSaid : Prop := fnExactIsSoundUptoRow.holds Try.pinned (OpenSpec.upto fnExactIsSoundSpec)

/-- 'laws.FnExactKindsOfReading', WHERE WHAT IT READS IS OF BULK AT MOST 1048576: true; the input reads as it did. -/
def fnExactKindsOfReadingUptoRow : OpenClaim := { program := "ythkjedplcebpjac", sum := "22cef6cba6be491e89018a91bc8c12260917e537317151b5db2a5a638353afe5", func := "loop.example/g01395/laws.FnExactKindsOfReading", spec := "fnExactKindsOfReading", inPlace := ["internal/bytealg.IndexByteString"], apart := false, narrowed := true }
def FnExactKindsOfReadingUptoSaid : Prop := fnExactKindsOfReadingUptoRow.holds Try.pinned (OpenSpec.upto fnExactKindsOfReadingSpec)

/-- 'laws.FnExactSwapsToSound', WHERE WHAT IT READS IS OF BULK AT MOST 1048576: true; the input reads as it did. -/
def fnExactSwapsToSoundUptoRow : OpenClaim := { program := "ythkjedplcebpjac", sum := "22cef6cba6be491e89018a91bc8c12260917e537317151b5db2a5a638353afe5", func := "loop.example/g01395/laws.FnExactSwapsToSound", spec := "fnExactSwapsToSound", unfollowed := true, recurses := true, apart := false, narrowed := true }
def FnExactSwapsToSoundUptoSaid : Prop := fnExactSwapsToSoundUptoRow.holds Try.pinned (OpenSpec.upto fnExactSwapsToSoundSpec)

/-- 'laws.FnExactCountOfKind', WHERE WHAT IT READS IS OF BULK AT MOST 1048576: true; the input reads as it did. -/
def fnExactCountOfKindUptoRow : OpenClaim := { program := "ythkjedplcebpjac", sum := "22cef6cba6be491e89018a91bc8c12260917e537317151b5db2a5a638353afe5", func := "loop.example/g01395/laws.FnExactCountOfKind", spec := "fnExactCountOfKind", inPlace := ["internal/bytealg.IndexByteString", "internal/bytealg.IndexString"], named := ["internal/bytealg.MaxLen"], apart := false, narrowed := true }
def FnExactCountOfKindUptoSaid : Prop := fnExactCountOfKindUptoRow.holds Try.pinned (OpenSpec.upto fnExactCountOfKindSpec)

end Rows
end Go.Proofs.Ythkjedplcebpjac
