/-
  No cell of these rows narrows 'for every input' (looked for: loops, veiled, ifaces, maps, wideKeys, modest, calm, conditions, laid).
  DERIVED. THE GIVEN ROWS OF THIS SEAT. 4 by the template 'for every input the law returns true; each argument reads behind the call as it read before'; 0 by the template 'total and deterministic' (their statements: YtkbbmkbkpkmdkaaTotals.lean).
  GIVEN WITH THE SEED: the statements are not yours to turn. If you find one false, say at which input.
  Laid BY PROGRAM, IN A SANDBOX (cutbox-rows.mjs): the forced cells as the released guide's own fill.sh prints them over the translation 71e3b8d382365d41… (all of the seat's roots in one cut). By AI agents, Wed Nov 11 2026. No macro, syntax, notation, axiom, sorry.
-/
import Derived.Test.YtkbbmkbkpkmdkaaChecked
import GoSem.Claim
import GoSem.ClaimJoined
import GoSem.ClaimMapViews
import Derived.JoinedTies
import Derived.KernelRfl
namespace Go.Proofs.Ytkbbmkbkpkmdkaa
/- THE CELL 'sum', in the pinned program and in every row, IS THE sha256 OF THE DUMP (.gsa) THAT YtkbbmkbkpkmdkaaProg.lean LOADS. Nothing in Lean hashes anything: it is a label: what it is worth is what the hold of that sum in a sandbox is worth. -/
noncomputable def Try.pinned : Pinned := { name := "ytkbbmkbkpkmdkaa", sum := "71e3b8d382365d41f0eb6f1ce926c23bad22455ee43a4ab2a598b0946526700e", checked := Try.checked }
namespace Rows
def none {H : Type} : Left H := { results := [], args := [] }

/-- 'laws.FnExactKindsOfReading': WHATEVER THE INPUT: true; the input reads as it did. -/
def fnExactKindsOfReadingSpec : ChangeSpec := { name := "fnExactKindsOfReading", fn := fun _ => fun
  | [d] => { results := [.lit (.bool true)], args := [d] }
  | _ => none }
def fnExactKindsOfReadingRow : OpenClaim := { program := "ytkbbmkbkpkmdkaa", sum := "71e3b8d382365d41f0eb6f1ce926c23bad22455ee43a4ab2a598b0946526700e", func := "loop.example/g01395/laws.FnExactKindsOfReading", spec := "fnExactKindsOfReading", inPlace := ["internal/bytealg.IndexByteString"], apart := false }
def FnExactKindsOfReadingSaid : Prop := fnExactKindsOfReadingRow.holds Try.pinned (OpenSpec.ofChange fnExactKindsOfReadingSpec)

/-- ITS FALSE NEIGHBOUR: 'it returns false'. Refute it at one input. -/
def fnExactKindsOfReadingWrong : ChangeSpec := { name := "fnExactKindsOfReading", fn := fun _ => fun
  | [d] => { results := [.lit (.bool false)], args := [d] }
  | _ => none }
def FnExactKindsOfReadingWrongFalsely : Prop := fnExactKindsOfReadingRow.holds Try.pinned (OpenSpec.ofChange fnExactKindsOfReadingWrong)

/-- 'laws.FnExactUntoldSingles': WHATEVER THE INPUT: true; the input reads as it did. -/
def fnExactUntoldSinglesSpec : ChangeSpec := { name := "fnExactUntoldSingles", fn := fun _ => fun
  | [d] => { results := [.lit (.bool true)], args := [d] }
  | _ => none }
def fnExactUntoldSinglesRow : OpenClaim := { program := "ytkbbmkbkpkmdkaa", sum := "71e3b8d382365d41f0eb6f1ce926c23bad22455ee43a4ab2a598b0946526700e", func := "loop.example/g01395/laws.FnExactUntoldSingles", spec := "fnExactUntoldSingles", unfollowed := true, recurses := true, apart := false }
def FnExactUntoldSinglesSaid : Prop := fnExactUntoldSinglesRow.holds Try.pinned (OpenSpec.ofChange fnExactUntoldSinglesSpec)

/-- ITS FALSE NEIGHBOUR: 'it returns false'. Refute it at one input. -/
def fnExactUntoldSinglesWrong : ChangeSpec := { name := "fnExactUntoldSingles", fn := fun _ => fun
  | [d] => { results := [.lit (.bool false)], args := [d] }
  | _ => none }
def FnExactUntoldSinglesWrongFalsely : Prop := fnExactUntoldSinglesRow.holds Try.pinned (OpenSpec.ofChange fnExactUntoldSinglesWrong)

/-- 'laws.FnExactUntoldSwaps': WHATEVER THE INPUT: true; the input reads as it did. -/
def fnExactUntoldSwapsSpec : ChangeSpec := { name := "fnExactUntoldSwaps", fn := fun _ => fun
  | [d] => { results := [.lit (.bool true)], args := [d] }
  | _ => none }
def fnExactUntoldSwapsRow : OpenClaim := { program := "ytkbbmkbkpkmdkaa", sum := "71e3b8d382365d41f0eb6f1ce926c23bad22455ee43a4ab2a598b0946526700e", func := "loop.example/g01395/laws.FnExactUntoldSwaps", spec := "fnExactUntoldSwaps", unfollowed := true, recurses := true, apart := false }
def FnExactUntoldSwapsSaid : Prop := fnExactUntoldSwapsRow.holds Try.pinned (OpenSpec.ofChange fnExactUntoldSwapsSpec)

/-- ITS FALSE NEIGHBOUR: 'it returns false'. Refute it at one input. -/
def fnExactUntoldSwapsWrong : ChangeSpec := { name := "fnExactUntoldSwaps", fn := fun _ => fun
  | [d] => { results := [.lit (.bool false)], args := [d] }
  | _ => none }
def FnExactUntoldSwapsWrongFalsely : Prop := fnExactUntoldSwapsRow.holds Try.pinned (OpenSpec.ofChange fnExactUntoldSwapsWrong)

/-- 'laws.FnExactLeastWithProduct': WHATEVER THE INPUT: true; the input reads as it did. -/
def fnExactLeastWithProductSpec : ChangeSpec := { name := "fnExactLeastWithProduct", fn := fun _ => fun
  | [d] => { results := [.lit (.bool true)], args := [d] }
  | _ => none }
def fnExactLeastWithProductRow : OpenClaim := { program := "ytkbbmkbkpkmdkaa", sum := "71e3b8d382365d41f0eb6f1ce926c23bad22455ee43a4ab2a598b0946526700e", func := "loop.example/g01395/laws.FnExactLeastWithProduct", spec := "fnExactLeastWithProduct", recurses := true, apart := false }
def FnExactLeastWithProductSaid : Prop := fnExactLeastWithProductRow.holds Try.pinned (OpenSpec.ofChange fnExactLeastWithProductSpec)

/-- ITS FALSE NEIGHBOUR: 'it returns false'. Refute it at one input. -/
def fnExactLeastWithProductWrong : ChangeSpec := { name := "fnExactLeastWithProduct", fn := fun _ => fun
  | [d] => { results := [.lit (.bool false)], args := [d] }
  | _ => none }
def FnExactLeastWithProductWrongFalsely : Prop := fnExactLeastWithProductRow.holds Try.pinned (OpenSpec.ofChange fnExactLeastWithProductWrong)

/- THE SECOND FORM. 'bulk': how many values and letters a reading holds, each counted each time it is reached (what is shared counts as often as it is met; a slice's spare places count too). A statement '..UptoSaid' is the law's where the arguments, and the package variables that the reading takes, are together of bulk at most 1048576: NARROWER than '..Said'. Prove '..Said' where nothing that the law and all that it calls make is longer than what came in: it says more and counts as full. Else prove '..UptoSaid'. A law counts once. -/
mutual
def uptoBulk {H : Type} : DataW H → Nat
  | .lit (.string bytes) => bytes.length + 1
  | .lit _ => 1
  | .nil => 1
  | .ptr d => uptoBulk d + 1
  | .slice elems spare => uptoBulkAll elems + uptoBulkAll spare + 1
  | .agg parts => uptoBulkAll parts + 1
  | .iface _ d => uptoBulk d + 1
  | .map entries => uptoBulkEntries entries + 1
  | .held _ => 1
def uptoBulkAll {H : Type} : List (DataW H) → Nat
  | [] => 0
  | d :: r => uptoBulk d + uptoBulkAll r
def uptoBulkEntries {H : Type} : List (Lit × DataW H) → Nat
  | [] => 0
  | x :: r => uptoBulkEntry x + uptoBulkEntries r
def uptoBulkEntry {H : Type} : Lit × DataW H → Nat
  | (.string bytes, d) => bytes.length + uptoBulk d + 1
  | (_, d) => uptoBulk d + 1
 end
def uptoSmall : (H : Type) → List (DataW H) → Bool := fun _ ds => decide (uptoBulkAll ds ≤ 1048576)
def OpenSpec.upto (s : _root_.Go.ChangeSpec) : _root_.Go.OpenSpec := { _root_.Go.OpenSpec.ofChange s with cond := some uptoSmall }

/-- 'laws.FnExactKindsOfReading', WHERE WHAT IT READS IS OF BULK AT MOST 1048576: true; the input reads as it did. -/
def fnExactKindsOfReadingUptoRow : OpenClaim := { program := "ytkbbmkbkpkmdkaa", sum := "71e3b8d382365d41f0eb6f1ce926c23bad22455ee43a4ab2a598b0946526700e", func := "loop.example/g01395/laws.FnExactKindsOfReading", spec := "fnExactKindsOfReading", inPlace := ["internal/bytealg.IndexByteString"], apart := false, narrowed := true }
def FnExactKindsOfReadingUptoSaid : Prop := fnExactKindsOfReadingUptoRow.holds Try.pinned (OpenSpec.upto fnExactKindsOfReadingSpec)

/-- 'laws.FnExactUntoldSingles', WHERE WHAT IT READS IS OF BULK AT MOST 1048576: true; the input reads as it did. -/
def fnExactUntoldSinglesUptoRow : OpenClaim := { program := "ytkbbmkbkpkmdkaa", sum := "71e3b8d382365d41f0eb6f1ce926c23bad22455ee43a4ab2a598b0946526700e", func := "loop.example/g01395/laws.FnExactUntoldSingles", spec := "fnExactUntoldSingles", unfollowed := true, recurses := true, apart := false, narrowed := true }
def FnExactUntoldSinglesUptoSaid : Prop := fnExactUntoldSinglesUptoRow.holds Try.pinned (OpenSpec.upto fnExactUntoldSinglesSpec)

/-- 'laws.FnExactUntoldSwaps', WHERE WHAT IT READS IS OF BULK AT MOST 1048576: true; the input reads as it did. -/
def fnExactUntoldSwapsUptoRow : OpenClaim := { program := "ytkbbmkbkpkmdkaa", sum := "71e3b8d382365d41f0eb6f1ce926c23bad22455ee43a4ab2a598b0946526700e", func := "loop.example/g01395/laws.FnExactUntoldSwaps", spec := "fnExactUntoldSwaps", unfollowed := true, recurses := true, apart := false, narrowed := true }
def FnExactUntoldSwapsUptoSaid : Prop := fnExactUntoldSwapsUptoRow.holds Try.pinned (OpenSpec.upto fnExactUntoldSwapsSpec)

/-- 'laws.FnExactLeastWithProduct', WHERE WHAT IT READS IS OF BULK AT MOST 1048576: true; the input reads as it did. -/
def fnExactLeastWithProductUptoRow : OpenClaim := { program := "ytkbbmkbkpkmdkaa", sum := "71e3b8d382365d41f0eb6f1ce926c23bad22455ee43a4ab2a598b0946526700e", func := "loop.example/g01395/laws.FnExactLeastWithProduct", spec := "fnExactLeastWithProduct", recurses := true, apart := false, narrowed := true }
def FnExactLeastWithProductUptoSaid : Prop := fnExactLeastWithProductUptoRow.holds Try.pinned (OpenSpec.upto fnExactLeastWithProductSpec)

end Rows
end Go.Proofs.Ytkbbmkbkpkmdkaa
