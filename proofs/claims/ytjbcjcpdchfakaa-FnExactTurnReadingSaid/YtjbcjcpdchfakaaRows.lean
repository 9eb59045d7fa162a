/-
  No cell of these rows narrows 'for every input' (looked for: loops, veiled, ifaces, maps, wideKeys, modest, calm, conditions, laid).
  DERIVED. THE GIVEN ROWS OF THIS SEAT. 5 by the template 'for every input the law returns true; each argument reads behind the call as it read before'; 0 by the template 'total and deterministic' (their statements: YtjbcjcpdchfakaaTotals.lean).
  GIVEN WITH THE SEED: the statements are not yours to turn. If you find one false, say at which input.
  Laid BY PROGRAM, IN A SANDBOX (cutbox-rows.mjs): the forced cells as the released guide's own fill.sh prints them over the translation 0a67a4fe5d88fac7… (all of the seat's roots in one cut). By AI agents, Wed Nov 11 2026. No macro, syntax, notation, axiom, sorry.
-/
import Derived.Test.YtjbcjcpdchfakaaChecked
import GoSem.Claim
import GoSem.ClaimJoined
import GoSem.ClaimMapViews
import Derived.JoinedTies
import Derived.KernelRfl
namespace Go.Proofs.Ytjbcjcpdchfakaa
/- THE CELL 'sum', in the pinned program and in every row, IS THE sha256 OF THE DUMP (.gsa) THAT YtjbcjcpdchfakaaProg.lean LOADS. Nothing in Lean hashes anything: it is a label: what it is worth is what the hold of that sum in a sandbox is worth. -/
noncomputable def Try.pinned : Pinned := { name := "ytjbcjcpdchfakaa", sum := "0a67a4fe5d88fac7e5162089bb6a824f2fbd2ae6ffdab31a2132ee7f4e44e7c4", checked := Try.checked }
namespace Rows
def none {H : Type} : Left H := { results := [], args := [] }

/-- 'laws.FnExactIsReading': WHATEVER THE INPUT: true; the input reads as it did. -/
def fnExactIsReadingSpec : ChangeSpec := { name := "fnExactIsReading", fn := fun _ => fun
  | [d] => { results := [.lit (.bool true)], args := [d] }
  | _ => none }
def fnExactIsReadingRow : OpenClaim := { program := "ytjbcjcpdchfakaa", sum := "0a67a4fe5d88fac7e5162089bb6a824f2fbd2ae6ffdab31a2132ee7f4e44e7c4", func := "loop.example/g01395/laws.FnExactIsReading", spec := "fnExactIsReading", apart := false }
def FnExactIsReadingSaid : Prop := fnExactIsReadingRow.holds Try.pinned (OpenSpec.ofChange fnExactIsReadingSpec)

/-- ITS FALSE NEIGHBOUR: 'it returns false'. Refute it at one input. -/
def fnExactIsReadingWrong : ChangeSpec := { name := "fnExactIsReading", fn := fun _ => fun
  | [d] => { results := [.lit (.bool false)], args := [d] }
  | _ => none }
def FnExactIsReadingWrongFalsely : Prop := fnExactIsReadingRow.holds Try.pinned (OpenSpec.ofChange fnExactIsReadingWrong)

/-- 'laws.FnExactRestOfOnes': WHATEVER THE INPUT: true; the input reads as it did. -/
def fnExactRestOfOnesSpec : ChangeSpec := { name := "fnExactRestOfOnes", fn := fun _ => fun
  | [d1, d2] => { results := [.lit (.bool true)], args := [d1, d2] }
  | _ => none }
def fnExactRestOfOnesRow : OpenClaim := { program := "ytjbcjcpdchfakaa", sum := "0a67a4fe5d88fac7e5162089bb6a824f2fbd2ae6ffdab31a2132ee7f4e44e7c4", func := "loop.example/g01395/laws.FnExactRestOfOnes", spec := "fnExactRestOfOnes", apart := false }
def FnExactRestOfOnesSaid : Prop := fnExactRestOfOnesRow.holds Try.pinned (OpenSpec.ofChange fnExactRestOfOnesSpec)

/-- ITS FALSE NEIGHBOUR: 'it returns false'. Refute it at one input. -/
def fnExactRestOfOnesWrong : ChangeSpec := { name := "fnExactRestOfOnes", fn := fun _ => fun
  | [d1, d2] => { results := [.lit (.bool false)], args := [d1, d2] }
  | _ => none }
def FnExactRestOfOnesWrongFalsely : Prop := fnExactRestOfOnesRow.holds Try.pinned (OpenSpec.ofChange fnExactRestOfOnesWrong)

/-- 'laws.FnExactTurnReading': WHATEVER THE INPUT: true; the input reads as it did. -/
def fnExactTurnReadingSpec : ChangeSpec := { name := "fnExactTurnReading", fn := fun _ => fun
  | [d] => { results := [.lit (.bool true)], args := [d] }
  | _ => none }
def fnExactTurnReadingRow : OpenClaim := { program := "ytjbcjcpdchfakaa", sum := "0a67a4fe5d88fac7e5162089bb6a824f2fbd2ae6ffdab31a2132ee7f4e44e7c4", func := "loop.example/g01395/laws.FnExactTurnReading", spec := "fnExactTurnReading", apart := false }
def FnExactTurnReadingSaid : Prop := fnExactTurnReadingRow.holds Try.pinned (OpenSpec.ofChange fnExactTurnReadingSpec)

/-- ITS FALSE NEIGHBOUR: 'it returns false'. Refute it at one input. -/
def fnExactTurnReadingWrong : ChangeSpec := { name := "fnExactTurnReading", fn := fun _ => fun
  | [d] => { results := [.lit (.bool false)], args := [d] }
  | _ => none }
def FnExactTurnReadingWrongFalsely : Prop := fnExactTurnReadingRow.holds Try.pinned (OpenSpec.ofChange fnExactTurnReadingWrong)

/-- 'laws.FnExactCountOfDigits': WHATEVER THE INPUT: true; the input reads as it did. -/
def fnExactCountOfDigitsSpec : ChangeSpec := { name := "fnExactCountOfDigits", fn := fun _ => fun
  | [d1, d2] => { results := [.lit (.bool true)], args := [d1, d2] }
  | _ => none }
def fnExactCountOfDigitsRow : OpenClaim := { program := "ytjbcjcpdchfakaa", sum := "0a67a4fe5d88fac7e5162089bb6a824f2fbd2ae6ffdab31a2132ee7f4e44e7c4", func := "loop.example/g01395/laws.FnExactCountOfDigits", spec := "fnExactCountOfDigits", apart := false }
def FnExactCountOfDigitsSaid : Prop := fnExactCountOfDigitsRow.holds Try.pinned (OpenSpec.ofChange fnExactCountOfDigitsSpec)

/-- ITS FALSE NEIGHBOUR: 'it returns false'. Refute it at one input. -/
def fnExactCountOfDigitsWrong : ChangeSpec := { name := "fnExactCountOfDigits", fn := fun _ => fun
  | [d1, d2] => { results := [.lit (.bool false)], args := [d1, d2] }
  | _ => none }
def FnExactCountOfDigitsWrongFalsely : Prop := fnExactCountOfDigitsRow.holds Try.pinned (OpenSpec.ofChange fnExactCountOfDigitsWrong)

/-- 'laws.FnExactDoubledSum': WHATEVER THE INPUT: true; the input reads as it did. -/
def fnExactDoubledSumSpec : ChangeSpec := { name := "fnExactDoubledSum", fn := fun _ => fun
  | [d] => { results := [.lit (.bool true)], args := [d] }
  | _ => none }
def fnExactDoubledSumRow : OpenClaim := { program := "ytjbcjcpdchfakaa", sum := "0a67a4fe5d88fac7e5162089bb6a824f2fbd2ae6ffdab31a2132ee7f4e44e7c4", func := "loop.example/g01395/laws.FnExactDoubledSum", spec := "fnExactDoubledSum", apart := false }
def FnExactDoubledSumSaid : Prop := fnExactDoubledSumRow.holds Try.pinned (OpenSpec.ofChange fnExactDoubledSumSpec)

/-- ITS FALSE NEIGHBOUR: 'it returns false'. Refute it at one input. -/
def fnExactDoubledSumWrong : ChangeSpec := { name := "fnExactDoubledSum", fn := fun _ => fun
  | [d] => { results := [.lit (.bool false)], args := [d] }
  | _ => none }
def FnExactDoubledSumWrongFalsely : Prop := fnExactDoubledSumRow.holds Try.pinned (OpenSpec.ofChange fnExactDoubledSumWrong)

/- THE SECOND FORM. 'bulk': how many values and letters a reading holds, each counted each time it is reached (what is shared counts as often as it is met; a slice's spare places count too). A statement '..UptoSaid' is the law's where the arguments, and the package variables that the reading takes, are together of bulk at most 1048576: NARROWER than '..Said'. Prove '..Said' where nothing that the law and all that it calls make is longer than what came in: it says more and counts as full. Else prove '..UptoSaid'. A law counts once. -/
mutual
def uptoBulk {H : Type} : DataW H → Nat
  | .lit (.string bytes) => bytes.length + 1
  | .lit _ => 1
  | .nil => 1
  | .ptr d => uptoBulk d + 1
  | .slice elems spare => uptoBulkAll elems + uptoBulkAll spare + 1
  | .agg parts => uptoBulkAll parts + 1
  | .iface _ d => uptoBulk d + 1
  | .map entries => uptoBulkEntries entries + 1
  | .held _ => 1
def uptoBulkAll {H : Type} : List (DataW H) → Nat
  | [] => 0
  | d :: r => uptoBulk d + uptoBulkAll r
def uptoBulkEntries {H : Type} : List (Lit × DataW H) → Nat
  | [] => 0
  | x :: r => uptoBulkEntry x + uptoBulkEntries r
def uptoBulkEntry {H : Type} : Lit × DataW H → Nat
  | (.string bytes, d) => bytes.length + uptoBulk d + 1
  | (_, d) => uptoBulk d + 1
 end
def uptoSmall : (H : Type) → List (DataW H) → Bool := fun _ ds => decide (uptoBulkAll ds ≤ 1048576)
def OpenSpec.upto (s : _root_.Go.ChangeSpec) : _root_.Go.OpenSpec := { _root_.Go.OpenSpec.ofChange s with cond := some uptoSmall }

/-- 'laws.FnExactIsReading', WHERE WHAT IT READS IS OF BULK AT MOST 1048576: true; the input reads as it did. -/
def fnExactIsReadingUptoRow : OpenClaim := { program := "ytjbcjcpdchfakaa", sum := "0a67a4fe5d88fac7e5162089bb6a824f2fbd2ae6ffdab31a2132ee7f4e44e7c4", func := "loop.example/g01395/laws.FnExactIsReading", spec := "fnExactIsReading", apart := false, narrowed := true }
def FnExactIsReadingUptoSaid : Prop := fnExactIsReadingUptoRow.holds Try.pinned (OpenSpec.upto fnExactIsReadingSpec)

/-- 'laws.FnExactRestOfOnes', WHERE WHAT IT READS IS OF BULK AT MOST 1048576: true; the input reads as it did. -/
def fnExactRestOfOnesUptoRow : OpenClaim := { program := "ytjbcjcpdchfakaa", sum := "0a67a4fe5d88fac7e5162089bb6a824f2fbd2ae6ffdab31a2132ee7f4e44e7c4", func := "loop.example/g01395/laws.FnExactRestOfOnes", spec := "fnExactRestOfOnes", apart := false, narrowed := true }
def FnExactRestOfOnesUptoSaid : Prop := fnExactRestOfOnesUptoRow.holds Try.pinned (OpenSpec.upto fnExactRestOfOnesSpec)

/-- 'laws.FnExactTurnReading', WHERE WHAT IT READS IS OF BULK AT MOST 1048576: true; the input reads as it did. -/
def fnExactTurnReadingUptoRow : OpenClaim := { program := "ytjbcjcpdchfakaa", sum := "0a67a4fe5d88fac7e5162089bb6a824f2fbd2ae6ffdab31a2132ee7f4e44e7c4", func := "loop.example/g01395/laws.FnExactTurnReading", spec := "fnExactTurnReading", apart := false, narrowed := true }
def FnExactTurnReadingUptoSaid : Prop := fnExactTurnReadingUptoRow.holds Try.pinned (OpenSpec.upto fnExactTurnReadingSpec)

/-- 'laws.FnExactCountOfDigits', WHERE WHAT IT READS IS OF BULK AT MOST 1048576: true; the input reads as it did. -/
def fnExactCountOfDigitsUptoRow : OpenClaim := { program := "ytjbcjcpdchfakaa", sum := "0a67a4fe5d88fac7e5162089bb6a824f2fbd2ae6ffdab31a2132ee7f4e44e7c4", func := "loop.example/g01395/laws.FnExactCountOfDigits", spec := "fnExactCountOfDigits", apart := false, narrowed := true }
def FnExactCountOfDigitsUptoSaid : Prop := fnExactCountOfDigitsUptoRow.holds Try.pinned (OpenSpec.upto fnExactCountOfDigitsSpec)

/-- 'laws.FnExactDoubledSum', WHERE WHAT IT READS IS OF BULK AT MOST 1048576: true; the input reads as it did. -/
def fnExactDoubledSumUptoRow : OpenClaim := { program := "ytjbcjcpdchfakaa", sum := "0a67a4fe5d88fac7e5162089bb6a824f2fbd2ae6ffdab31a2132ee7f4e44e7c4", func := "loop.example/g01395/laws.FnExactDoubledSum", spec := "fnExactDoubledSum", apart := false, narrowed := true }
def FnExactDoubledSumUptoSaid : Prop := fnExactDoubledSumUptoRow.holds Try.pinned (OpenSpec.upto fnExactDoubledSumSpec)

end Rows
end Go.Proofs.Ytjbcjcpdchfakaa
