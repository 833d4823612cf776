/-
  No cell of these rows narrows 'for every input' (looked for: loops, veiled, ifaces, maps, wideKeys, modest, calm, conditions, laid).
  DERIVED. THE GIVEN ROWS OF THIS SEAT. 9 by the template 'for every input the law returns true; each argument reads behind the call as it read before'; 0 by the template 'total and deterministic' (their statements: YtfdfnamkkepbiaaTotals.lean).
  GIVEN WITH THE SEED: the statements are not yours to turn. If you find one false, say at which input.
  Laid BY PROGRAM, IN A SANDBOX (cutbox-rows.mjs): the forced cells as the released guide's own fill.sh prints them over the translation 67a709a923545697… (all of the seat's roots in one cut). By AI agents, Wed Nov 11 2026. No macro, syntax, notation, axiom, sorry.
-/
import Derived.Test.YtfdfnamkkepbiaaChecked
import GoSem.Claim
import GoSem.ClaimJoined
import GoSem.ClaimMapViews
import Derived.JoinedTies
import Derived.KernelRfl
namespace Go.Proofs.Ytfdfnamkkepbiaa
/- THE CELL 'sum', in the pinned program and in every row, IS THE sha256 OF THE DUMP (.gsa) THAT YtfdfnamkkepbiaaProg.lean LOADS. Nothing in Lean hashes anything: it is a label: what it is worth is what the hold of that sum in a sandbox is worth. -/
noncomputable def Try.pinned : Pinned := { name := "ytfdfnamkkepbiaa", sum := "67a709a923545697082878cc654c3c0d523d4f796a84e4be9775aff64974ddee", checked := Try.checked }
namespace Rows
def none {H : Type} : Left H := { results := [], args := [] }

/-- 'sentinellaw02.CubeMatches': WHATEVER THE INPUT: true; the input reads as it did. -/
def cubeMatchesSpec : ChangeSpec := { name := "cubeMatches", fn := fun _ => fun
  | [d1, d2, d3] => { results := [.lit (.bool true)], args := [d1, d2, d3] }
  | _ => none }
def cubeMatchesRow : OpenClaim := { program := "ytfdfnamkkepbiaa", sum := "67a709a923545697082878cc654c3c0d523d4f796a84e4be9775aff64974ddee", func := "sentinel/sentinellaw02.CubeMatches", spec := "cubeMatches", inPlace := ["internal/abi.NoEscape"], unfollowed := true, recurses := true, apart := false }
def CubeMatchesSaid : Prop := cubeMatchesRow.holds Try.pinned (OpenSpec.ofChange cubeMatchesSpec)

/-- ITS FALSE NEIGHBOUR: 'it returns false'. Refute it at one input. -/
def cubeMatchesWrong : ChangeSpec := { name := "cubeMatches", fn := fun _ => fun
  | [d1, d2, d3] => { results := [.lit (.bool false)], args := [d1, d2, d3] }
  | _ => none }
def CubeMatchesWrongFalsely : Prop := cubeMatchesRow.holds Try.pinned (OpenSpec.ofChange cubeMatchesWrong)

/-- 'sentinellaw02.CubeCover': WHATEVER THE INPUT: true; the input reads as it did. -/
def cubeCoverSpec : ChangeSpec := { name := "cubeCover", fn := fun _ => fun
  | [d1, d2] => { results := [.lit (.bool true)], args := [d1, d2] }
  | _ => none }
def cubeCoverRow : OpenClaim := { program := "ytfdfnamkkepbiaa", sum := "67a709a923545697082878cc654c3c0d523d4f796a84e4be9775aff64974ddee", func := "sentinel/sentinellaw02.CubeCover", spec := "cubeCover", inPlace := ["internal/abi.NoEscape"], unfollowed := true, recurses := true, apart := false }
def CubeCoverSaid : Prop := cubeCoverRow.holds Try.pinned (OpenSpec.ofChange cubeCoverSpec)

/-- ITS FALSE NEIGHBOUR: 'it returns false'. Refute it at one input. -/
def cubeCoverWrong : ChangeSpec := { name := "cubeCover", fn := fun _ => fun
  | [d1, d2] => { results := [.lit (.bool false)], args := [d1, d2] }
  | _ => none }
def CubeCoverWrongFalsely : Prop := cubeCoverRow.holds Try.pinned (OpenSpec.ofChange cubeCoverWrong)

/-- 'sentinellaw02.CubeParse': WHATEVER THE INPUT: true; the input reads as it did. -/
def cubeParseSpec : ChangeSpec := { name := "cubeParse", fn := fun _ => fun
  | [d1, d2] => { results := [.lit (.bool true)], args := [d1, d2] }
  | _ => none }
def cubeParseRow : OpenClaim := { program := "ytfdfnamkkepbiaa", sum := "67a709a923545697082878cc654c3c0d523d4f796a84e4be9775aff64974ddee", func := "sentinel/sentinellaw02.CubeParse", spec := "cubeParse", inPlace := ["internal/abi.NoEscape"], unfollowed := true, recurses := true, apart := false }
def CubeParseSaid : Prop := cubeParseRow.holds Try.pinned (OpenSpec.ofChange cubeParseSpec)

/-- ITS FALSE NEIGHBOUR: 'it returns false'. Refute it at one input. -/
def cubeParseWrong : ChangeSpec := { name := "cubeParse", fn := fun _ => fun
  | [d1, d2] => { results := [.lit (.bool false)], args := [d1, d2] }
  | _ => none }
def CubeParseWrongFalsely : Prop := cubeParseRow.holds Try.pinned (OpenSpec.ofChange cubeParseWrong)

/-- 'sentinellaw02.CubeExamples': WHATEVER THE INPUT: true; the input reads as it did. -/
def cubeExamplesSpec : ChangeSpec := { name := "cubeExamples", fn := fun _ => fun
  | [] => { results := [.lit (.bool true)], args := [] }
  | _ => none }
def cubeExamplesRow : OpenClaim := { program := "ytfdfnamkkepbiaa", sum := "67a709a923545697082878cc654c3c0d523d4f796a84e4be9775aff64974ddee", func := "sentinel/sentinellaw02.CubeExamples", spec := "cubeExamples", inPlace := ["internal/abi.NoEscape"], unfollowed := true, recurses := true, apart := false }
def CubeExamplesSaid : Prop := cubeExamplesRow.holds Try.pinned (OpenSpec.ofChange cubeExamplesSpec)

/-- ITS FALSE NEIGHBOUR: 'it returns false'. Refute it at one input. -/
def cubeExamplesWrong : ChangeSpec := { name := "cubeExamples", fn := fun _ => fun
  | [] => { results := [.lit (.bool false)], args := [] }
  | _ => none }
def CubeExamplesWrongFalsely : Prop := cubeExamplesRow.holds Try.pinned (OpenSpec.ofChange cubeExamplesWrong)

/-- 'sentinellaw02.CubeRoundTrip': WHATEVER THE INPUT: true; the input reads as it did. -/
def cubeRoundTripSpec : ChangeSpec := { name := "cubeRoundTrip", fn := fun _ => fun
  | [d1, d2, d3] => { results := [.lit (.bool true)], args := [d1, d2, d3] }
  | _ => none }
def cubeRoundTripRow : OpenClaim := { program := "ytfdfnamkkepbiaa", sum := "67a709a923545697082878cc654c3c0d523d4f796a84e4be9775aff64974ddee", func := "sentinel/sentinellaw02.CubeRoundTrip", spec := "cubeRoundTrip", inPlace := ["internal/abi.NoEscape"], unfollowed := true, recurses := true, apart := false }
def CubeRoundTripSaid : Prop := cubeRoundTripRow.holds Try.pinned (OpenSpec.ofChange cubeRoundTripSpec)

/-- ITS FALSE NEIGHBOUR: 'it returns false'. Refute it at one input. -/
def cubeRoundTripWrong : ChangeSpec := { name := "cubeRoundTrip", fn := fun _ => fun
  | [d1, d2, d3] => { results := [.lit (.bool false)], args := [d1, d2, d3] }
  | _ => none }
def CubeRoundTripWrongFalsely : Prop := cubeRoundTripRow.holds Try.pinned (OpenSpec.ofChange cubeRoundTripWrong)

/-- 'sentinellaw02.CubePairs': WHATEVER THE INPUT: true; the input reads as it did. -/
def cubePairsSpec : ChangeSpec := { name := "cubePairs", fn := fun _ => fun
  | [d1, d2] => { results := [.lit (.bool true)], args := [d1, d2] }
  | _ => none }
def cubePairsRow : OpenClaim := { program := "ytfdfnamkkepbiaa", sum := "67a709a923545697082878cc654c3c0d523d4f796a84e4be9775aff64974ddee", func := "sentinel/sentinellaw02.CubePairs", spec := "cubePairs", inPlace := ["internal/abi.NoEscape"], unfollowed := true, recurses := true, apart := false }
def CubePairsSaid : Prop := cubePairsRow.holds Try.pinned (OpenSpec.ofChange cubePairsSpec)

/-- ITS FALSE NEIGHBOUR: 'it returns false'. Refute it at one input. -/
def cubePairsWrong : ChangeSpec := { name := "cubePairs", fn := fun _ => fun
  | [d1, d2] => { results := [.lit (.bool false)], args := [d1, d2] }
  | _ => none }
def CubePairsWrongFalsely : Prop := cubePairsRow.holds Try.pinned (OpenSpec.ofChange cubePairsWrong)

/-- 'sentinellaw02.CubeMeets': WHATEVER THE INPUT: true; the input reads as it did. -/
def cubeMeetsSpec : ChangeSpec := { name := "cubeMeets", fn := fun _ => fun
  | [d1, d2, d3] => { results := [.lit (.bool true)], args := [d1, d2, d3] }
  | _ => none }
def cubeMeetsRow : OpenClaim := { program := "ytfdfnamkkepbiaa", sum := "67a709a923545697082878cc654c3c0d523d4f796a84e4be9775aff64974ddee", func := "sentinel/sentinellaw02.CubeMeets", spec := "cubeMeets", inPlace := ["internal/abi.NoEscape"], unfollowed := true, recurses := true, apart := false }
def CubeMeetsSaid : Prop := cubeMeetsRow.holds Try.pinned (OpenSpec.ofChange cubeMeetsSpec)

/-- ITS FALSE NEIGHBOUR: 'it returns false'. Refute it at one input. -/
def cubeMeetsWrong : ChangeSpec := { name := "cubeMeets", fn := fun _ => fun
  | [d1, d2, d3] => { results := [.lit (.bool false)], args := [d1, d2, d3] }
  | _ => none }
def CubeMeetsWrongFalsely : Prop := cubeMeetsRow.holds Try.pinned (OpenSpec.ofChange cubeMeetsWrong)

/-- 'sentinellaw02.CubeContains': WHATEVER THE INPUT: true; the input reads as it did. -/
def cubeContainsSpec : ChangeSpec := { name := "cubeContains", fn := fun _ => fun
  | [d1, d2, d3] => { results := [.lit (.bool true)], args := [d1, d2, d3] }
  | _ => none }
def cubeContainsRow : OpenClaim := { program := "ytfdfnamkkepbiaa", sum := "67a709a923545697082878cc654c3c0d523d4f796a84e4be9775aff64974ddee", func := "sentinel/sentinellaw02.CubeContains", spec := "cubeContains", inPlace := ["internal/abi.NoEscape"], unfollowed := true, recurses := true, apart := false }
def CubeContainsSaid : Prop := cubeContainsRow.holds Try.pinned (OpenSpec.ofChange cubeContainsSpec)

/-- ITS FALSE NEIGHBOUR: 'it returns false'. Refute it at one input. -/
def cubeContainsWrong : ChangeSpec := { name := "cubeContains", fn := fun _ => fun
  | [d1, d2, d3] => { results := [.lit (.bool false)], args := [d1, d2, d3] }
  | _ => none }
def CubeContainsWrongFalsely : Prop := cubeContainsRow.holds Try.pinned (OpenSpec.ofChange cubeContainsWrong)

/-- 'sentinellaw02.CubePrimes': WHATEVER THE INPUT: true; the input reads as it did. -/
def cubePrimesSpec : ChangeSpec := { name := "cubePrimes", fn := fun _ => fun
  | [d1, d2] => { results := [.lit (.bool true)], args := [d1, d2] }
  | _ => none }
def cubePrimesRow : OpenClaim := { program := "ytfdfnamkkepbiaa", sum := "67a709a923545697082878cc654c3c0d523d4f796a84e4be9775aff64974ddee", func := "sentinel/sentinellaw02.CubePrimes", spec := "cubePrimes", inPlace := ["internal/abi.NoEscape"], unfollowed := true, recurses := true, apart := false }
def CubePrimesSaid : Prop := cubePrimesRow.holds Try.pinned (OpenSpec.ofChange cubePrimesSpec)

/-- ITS FALSE NEIGHBOUR: 'it returns false'. Refute it at one input. -/
def cubePrimesWrong : ChangeSpec := { name := "cubePrimes", fn := fun _ => fun
  | [d1, d2] => { results := [.lit (.bool false)], args := [d1, d2] }
  | _ => none }
def CubePrimesWrongFalsely : Prop := cubePrimesRow.holds Try.pinned (OpenSpec.ofChange cubePrimesWrong)

/- THE SECOND FORM. 'bulk': how many values and letters a reading holds, each counted each time it is reached (what is shared counts as often as it is met; a slice's spare places count too). A statement '..UptoSaid' is the law's where the arguments, and the package variables that the reading takes, are together of bulk at most 1048576: NARROWER than '..Said'. Prove '..Said' where nothing that the law and all that it calls make is longer than what came in: it says more and counts as full. Else prove '..UptoSaid'. A law counts once. -/
mutual
def uptoBulk {H : Type} : DataW H → Nat
  | .lit (.string bytes) => bytes.length + 1
  | .lit _ => 1
  | .nil => 1
  | .ptr d => uptoBulk d + 1
  | .slice elems spare => uptoBulkAll elems + uptoBulkAll spare + 1
  | .agg parts => uptoBulkAll parts + 1
  | .iface _ d => uptoBulk d + 1
  | .map entries => uptoBulkEntries entries + 1
  | .held _ => 1
def uptoBulkAll {H : Type} : List (DataW H) → Nat
  | [] => 0
  | d :: r => uptoBulk d + uptoBulkAll r
def uptoBulkEntries {H : Type} : List (Lit × DataW H) → Nat
  | [] => 0
  | x :: r => uptoBulkEntry x + uptoBulkEntries r
def uptoBulkEntry {H : Type} : Lit × DataW H → Nat
  | (.string bytes, d) => bytes.length + uptoBulk d + 1
  | (_, d) => uptoBulk d + 1
 end
def uptoSmall : (H : Type) → List (DataW H) → Bool := fun _ ds => decide (uptoBulkAll ds ≤ 1048576)
def OpenSpec.upto (s : _root_.Go.ChangeSpec) : _root_.Go.OpenSpec := { _root_.Go.OpenSpec.ofChange s with cond := some uptoSmall }

/-- 'sentinellaw02.CubeMatches', WHERE WHAT IT READS IS OF BULK AT MOST 1048576: true; the input reads as it did. -/
def cubeMatchesUptoRow : OpenClaim := { program := "ytfdfnamkkepbiaa", sum := "67a709a923545697082878cc654c3c0d523d4f796a84e4be9775aff64974ddee", func := "sentinel/sentinellaw02.CubeMatches", spec := "cubeMatches", inPlace := ["internal/abi.NoEscape"], unfollowed := true, recurses := true, apart := false, narrowed := true }
def CubeMatchesUptoSaid : Prop := cubeMatchesUptoRow.holds Try.pinned (OpenSpec.upto cubeMatchesSpec)

/-- 'sentinellaw02.CubeCover', WHERE WHAT IT READS IS OF BULK AT MOST 1048576: true; the input reads as it did. -/
def cubeCoverUptoRow : OpenClaim := { program := "ytfdfnamkkepbiaa", sum := "67a709a923545697082878cc654c3c0d523d4f796a84e4be9775aff64974ddee", func := "sentinel/sentinellaw02.CubeCover", spec := "cubeCover", inPlace := ["internal/abi.NoEscape"], unfollowed := true, recurses := true, apart := false, narrowed := true }
def CubeCoverUptoSaid : Prop := cubeCoverUptoRow.holds Try.pinned (OpenSpec.upto cubeCoverSpec)

/-- 'sentinellaw02.CubeParse', WHERE WHAT IT READS IS OF BULK AT MOST 1048576: true; the input reads as it did. -/
def cubeParseUptoRow : OpenClaim := { program := "ytfdfnamkkepbiaa", sum := "67a709a923545697082878cc654c3c0d523d4f796a84e4be9775aff64974ddee", func := "sentinel/sentinellaw02.CubeParse", spec := "cubeParse", inPlace := ["internal/abi.NoEscape"], unfollowed := true, recurses := true, apart := false, narrowed := true }
def CubeParseUptoSaid : Prop := cubeParseUptoRow.holds Try.pinned (OpenSpec.upto cubeParseSpec)

/-- 'sentinellaw02.CubeExamples', WHERE WHAT IT READS IS OF BULK AT MOST 1048576: true; the input reads as it did. -/
def cubeExamplesUptoRow : OpenClaim := { program := "ytfdfnamkkepbiaa", sum := "67a709a923545697082878cc654c3c0d523d4f796a84e4be9775aff64974ddee", func := "sentinel/sentinellaw02.CubeExamples", spec := "cubeExamples", inPlace := ["internal/abi.NoEscape"], unfollowed := true, recurses := true, apart := false, narrowed := true }
def CubeExamplesUptoSaid : Prop := cubeExamplesUptoRow.holds Try.pinned (OpenSpec.upto cubeExamplesSpec)

/-- 'sentinellaw02.CubeRoundTrip', WHERE WHAT IT READS IS OF BULK AT MOST 1048576: true; the input reads as it did. -/
def cubeRoundTripUptoRow : OpenClaim := { program := "ytfdfnamkkepbiaa", sum := "67a709a923545697082878cc654c3c0d523d4f796a84e4be9775aff64974ddee", func := "sentinel/sentinellaw02.CubeRoundTrip", spec := "cubeRoundTrip", inPlace := ["internal/abi.NoEscape"], unfollowed := true, recurses := true, apart := false, narrowed := true }
def CubeRoundTripUptoSaid : Prop := cubeRoundTripUptoRow.holds Try.pinned (OpenSpec.upto cubeRoundTripSpec)

/-- 'sentinellaw02.CubePairs', WHERE WHAT IT READS IS OF BULK AT MOST 1048576: true; the input reads as it did. -/
def cubePairsUptoRow : OpenClaim := { program := "ytfdfnamkkepbiaa", sum := "67a709a923545697082878cc654c3c0d523d4f796a84e4be9775aff64974ddee", func := "sentinel/sentinellaw02.CubePairs", spec := "cubePairs", inPlace := ["internal/abi.NoEscape"], unfollowed := true, recurses := true, apart := false, narrowed := true }
def CubePairsUptoSaid : Prop := cubePairsUptoRow.holds Try.pinned (OpenSpec.upto cubePairsSpec)

/-- 'sentinellaw02.CubeMeets', WHERE WHAT IT READS IS OF BULK AT MOST 1048576: true; the input reads as it did. -/
def cubeMeetsUptoRow : OpenClaim := { program := "ytfdfnamkkepbiaa", sum := "67a709a923545697082878cc654c3c0d523d4f796a84e4be9775aff64974ddee", func := "sentinel/sentinellaw02.CubeMeets", spec := "cubeMeets", inPlace := ["internal/abi.NoEscape"], unfollowed := true, recurses := true, apart := false, narrowed := true }
def CubeMeetsUptoSaid : Prop := cubeMeetsUptoRow.holds Try.pinned (OpenSpec.upto cubeMeetsSpec)

/-- 'sentinellaw02.CubeContains', WHERE WHAT IT READS IS OF BULK AT MOST 1048576: true; the input reads as it did. -/
def cubeContainsUptoRow : OpenClaim := { program := "ytfdfnamkkepbiaa", sum := "67a709a923545697082878cc654c3c0d523d4f796a84e4be9775aff64974ddee", func := "sentinel/sentinellaw02.CubeContains", spec := "cubeContains", inPlace := ["internal/abi.NoEscape"], unfollowed := true, recurses := true, apart := false, narrowed := true }
def CubeContainsUptoSaid : Prop := cubeContainsUptoRow.holds Try.pinned (OpenSpec.upto cubeContainsSpec)

/-- 'sentinellaw02.CubePrimes', WHERE WHAT IT READS IS OF BULK AT MOST 1048576: true; the input reads as it did. -/
def cubePrimesUptoRow : OpenClaim := { program := "ytfdfnamkkepbiaa", sum := "67a709a923545697082878cc654c3c0d523d4f796a84e4be9775aff64974ddee", func := "sentinel/sentinellaw02.CubePrimes", spec := "cubePrimes", inPlace := ["internal/abi.NoEscape"], unfollowed := true, recurses := true, apart := false, narrowed := true }
def CubePrimesUptoSaid : Prop := cubePrimesUptoRow.holds Try.pinned (OpenSpec.upto cubePrimesSpec)

end Rows
end Go.Proofs.Ytfdfnamkkepbiaa
