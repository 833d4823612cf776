/-
  No cell of these rows narrows 'for every input' (looked for: loops, veiled, ifaces, maps, wideKeys, modest, calm, conditions, laid).
  DERIVED. THE GIVEN ROWS OF THIS SEAT. 7 by the template 'for every input the law returns true; each argument reads behind the call as it read before'; 0 by the template 'total and deterministic' (their statements: YtebdkmfgfjanoaaTotals.lean).
  GIVEN WITH THE SEED: the statements are not yours to turn. If you find one false, say at which input.
  Laid BY PROGRAM, IN A SANDBOX (cutbox-rows.mjs): the forced cells as the released guide's own fill.sh prints them over the translation 28148b5b5b49615c… (all of the seat's roots in one cut). By AI agents, Wed Nov 11 2026. No macro, syntax, notation, axiom, sorry.
-/
import Derived.Test.YtebdkmfgfjanoaaChecked
import GoSem.Claim
import GoSem.ClaimJoined
import GoSem.ClaimMapViews
import Derived.JoinedTies
import Derived.KernelRfl
namespace Go.Proofs.Ytebdkmfgfjanoaa
/- THE CELL 'sum', in the pinned program and in every row, IS THE sha256 OF THE DUMP (.gsa) THAT YtebdkmfgfjanoaaProg.lean LOADS. Nothing in Lean hashes anything: it is a label: what it is worth is what the hold of that sum in a sandbox is worth. -/
noncomputable def Try.pinned : Pinned := { name := "ytebdkmfgfjanoaa", sum := "28148b5b5b49615c592b67f6a253c02c140f4bace9d6e79c96a84aa3ee54fcae", checked := Try.checked }
namespace Rows
def none {H : Type} : Left H := { results := [], args := [] }

/-- 'sentinellaw05.MatchTables': WHATEVER THE INPUT: true; the input reads as it did. -/
def matchTablesSpec : ChangeSpec := { name := "matchTables", fn := fun _ => fun
  | [d1, d2, d3] => { results := [.lit (.bool true)], args := [d1, d2, d3] }
  | _ => none }
def matchTablesRow : OpenClaim := { program := "ytebdkmfgfjanoaa", sum := "28148b5b5b49615c592b67f6a253c02c140f4bace9d6e79c96a84aa3ee54fcae", func := "sentinel/sentinellaw05.MatchTables", spec := "matchTables", unfollowed := true, recurses := true, apart := false }
def MatchTablesSaid : Prop := matchTablesRow.holds Try.pinned (OpenSpec.ofChange matchTablesSpec)

/-- ITS FALSE NEIGHBOUR: 'it returns false'. Refute it at one input. -/
def matchTablesWrong : ChangeSpec := { name := "matchTables", fn := fun _ => fun
  | [d1, d2, d3] => { results := [.lit (.bool false)], args := [d1, d2, d3] }
  | _ => none }
def MatchTablesWrongFalsely : Prop := matchTablesRow.holds Try.pinned (OpenSpec.ofChange matchTablesWrong)

/-- 'sentinellaw05.MatchDerives': WHATEVER THE INPUT: true; the input reads as it did. -/
def matchDerivesSpec : ChangeSpec := { name := "matchDerives", fn := fun _ => fun
  | [d1, d2, d3] => { results := [.lit (.bool true)], args := [d1, d2, d3] }
  | _ => none }
def matchDerivesRow : OpenClaim := { program := "ytebdkmfgfjanoaa", sum := "28148b5b5b49615c592b67f6a253c02c140f4bace9d6e79c96a84aa3ee54fcae", func := "sentinel/sentinellaw05.MatchDerives", spec := "matchDerives", unfollowed := true, recurses := true, apart := false }
def MatchDerivesSaid : Prop := matchDerivesRow.holds Try.pinned (OpenSpec.ofChange matchDerivesSpec)

/-- ITS FALSE NEIGHBOUR: 'it returns false'. Refute it at one input. -/
def matchDerivesWrong : ChangeSpec := { name := "matchDerives", fn := fun _ => fun
  | [d1, d2, d3] => { results := [.lit (.bool false)], args := [d1, d2, d3] }
  | _ => none }
def MatchDerivesWrongFalsely : Prop := matchDerivesRow.holds Try.pinned (OpenSpec.ofChange matchDerivesWrong)

/-- 'sentinellaw05.MatchExamples': WHATEVER THE INPUT: true; the input reads as it did. -/
def matchExamplesSpec : ChangeSpec := { name := "matchExamples", fn := fun _ => fun
  | [] => { results := [.lit (.bool true)], args := [] }
  | _ => none }
def matchExamplesRow : OpenClaim := { program := "ytebdkmfgfjanoaa", sum := "28148b5b5b49615c592b67f6a253c02c140f4bace9d6e79c96a84aa3ee54fcae", func := "sentinel/sentinellaw05.MatchExamples", spec := "matchExamples", unfollowed := true, recurses := true, apart := false }
def MatchExamplesSaid : Prop := matchExamplesRow.holds Try.pinned (OpenSpec.ofChange matchExamplesSpec)

/-- ITS FALSE NEIGHBOUR: 'it returns false'. Refute it at one input. -/
def matchExamplesWrong : ChangeSpec := { name := "matchExamples", fn := fun _ => fun
  | [] => { results := [.lit (.bool false)], args := [] }
  | _ => none }
def MatchExamplesWrongFalsely : Prop := matchExamplesRow.holds Try.pinned (OpenSpec.ofChange matchExamplesWrong)

/-- 'sentinellaw05.MatchFactors': WHATEVER THE INPUT: true; the input reads as it did. -/
def matchFactorsSpec : ChangeSpec := { name := "matchFactors", fn := fun _ => fun
  | [d1, d2, d3] => { results := [.lit (.bool true)], args := [d1, d2, d3] }
  | _ => none }
def matchFactorsRow : OpenClaim := { program := "ytebdkmfgfjanoaa", sum := "28148b5b5b49615c592b67f6a253c02c140f4bace9d6e79c96a84aa3ee54fcae", func := "sentinel/sentinellaw05.MatchFactors", spec := "matchFactors", unfollowed := true, recurses := true, apart := false }
def MatchFactorsSaid : Prop := matchFactorsRow.holds Try.pinned (OpenSpec.ofChange matchFactorsSpec)

/-- ITS FALSE NEIGHBOUR: 'it returns false'. Refute it at one input. -/
def matchFactorsWrong : ChangeSpec := { name := "matchFactors", fn := fun _ => fun
  | [d1, d2, d3] => { results := [.lit (.bool false)], args := [d1, d2, d3] }
  | _ => none }
def MatchFactorsWrongFalsely : Prop := matchFactorsRow.holds Try.pinned (OpenSpec.ofChange matchFactorsWrong)

/-- 'sentinellaw05.MatchBrzozowski': WHATEVER THE INPUT: true; the input reads as it did. -/
def matchBrzozowskiSpec : ChangeSpec := { name := "matchBrzozowski", fn := fun _ => fun
  | [d1, d2, d3] => { results := [.lit (.bool true)], args := [d1, d2, d3] }
  | _ => none }
def matchBrzozowskiRow : OpenClaim := { program := "ytebdkmfgfjanoaa", sum := "28148b5b5b49615c592b67f6a253c02c140f4bace9d6e79c96a84aa3ee54fcae", func := "sentinel/sentinellaw05.MatchBrzozowski", spec := "matchBrzozowski", unfollowed := true, recurses := true, apart := false }
def MatchBrzozowskiSaid : Prop := matchBrzozowskiRow.holds Try.pinned (OpenSpec.ofChange matchBrzozowskiSpec)

/-- ITS FALSE NEIGHBOUR: 'it returns false'. Refute it at one input. -/
def matchBrzozowskiWrong : ChangeSpec := { name := "matchBrzozowski", fn := fun _ => fun
  | [d1, d2, d3] => { results := [.lit (.bool false)], args := [d1, d2, d3] }
  | _ => none }
def MatchBrzozowskiWrongFalsely : Prop := matchBrzozowskiRow.holds Try.pinned (OpenSpec.ofChange matchBrzozowskiWrong)

/-- 'sentinellaw05.MatchLooks': WHATEVER THE INPUT: true; the input reads as it did. -/
def matchLooksSpec : ChangeSpec := { name := "matchLooks", fn := fun _ => fun
  | [d1, d2, d3] => { results := [.lit (.bool true)], args := [d1, d2, d3] }
  | _ => none }
def matchLooksRow : OpenClaim := { program := "ytebdkmfgfjanoaa", sum := "28148b5b5b49615c592b67f6a253c02c140f4bace9d6e79c96a84aa3ee54fcae", func := "sentinel/sentinellaw05.MatchLooks", spec := "matchLooks", unfollowed := true, recurses := true, apart := false }
def MatchLooksSaid : Prop := matchLooksRow.holds Try.pinned (OpenSpec.ofChange matchLooksSpec)

/-- ITS FALSE NEIGHBOUR: 'it returns false'. Refute it at one input. -/
def matchLooksWrong : ChangeSpec := { name := "matchLooks", fn := fun _ => fun
  | [d1, d2, d3] => { results := [.lit (.bool false)], args := [d1, d2, d3] }
  | _ => none }
def MatchLooksWrongFalsely : Prop := matchLooksRow.holds Try.pinned (OpenSpec.ofChange matchLooksWrong)

/-- 'sentinellaw05.MatchReverses': WHATEVER THE INPUT: true; the input reads as it did. -/
def matchReversesSpec : ChangeSpec := { name := "matchReverses", fn := fun _ => fun
  | [d1, d2, d3] => { results := [.lit (.bool true)], args := [d1, d2, d3] }
  | _ => none }
def matchReversesRow : OpenClaim := { program := "ytebdkmfgfjanoaa", sum := "28148b5b5b49615c592b67f6a253c02c140f4bace9d6e79c96a84aa3ee54fcae", func := "sentinel/sentinellaw05.MatchReverses", spec := "matchReverses", unfollowed := true, recurses := true, apart := false }
def MatchReversesSaid : Prop := matchReversesRow.holds Try.pinned (OpenSpec.ofChange matchReversesSpec)

/-- ITS FALSE NEIGHBOUR: 'it returns false'. Refute it at one input. -/
def matchReversesWrong : ChangeSpec := { name := "matchReverses", fn := fun _ => fun
  | [d1, d2, d3] => { results := [.lit (.bool false)], args := [d1, d2, d3] }
  | _ => none }
def MatchReversesWrongFalsely : Prop := matchReversesRow.holds Try.pinned (OpenSpec.ofChange matchReversesWrong)

/- THE SECOND FORM. 'bulk': how many values and letters a reading holds, each counted each time it is reached (what is shared counts as often as it is met; a slice's spare places count too). A statement '..UptoSaid' is the law's where the arguments, and the package variables that the reading takes, are together of bulk at most 1048576: NARROWER than '..Said'. Prove '..Said' where nothing that the law and all that it calls make is longer than what came in: it says more and counts as full. Else prove '..UptoSaid'. A law counts once. -/
mutual
def uptoBulk {H : Type} : DataW H → Nat
  | .lit (.string bytes) => bytes.length + 1
  | .lit _ => 1
  | .nil => 1
  | .ptr d => uptoBulk d + 1
  | .slice elems spare => uptoBulkAll elems + uptoBulkAll spare + 1
  | .agg parts => uptoBulkAll parts + 1
  | .iface _ d => uptoBulk d + 1
  | .map entries => uptoBulkEntries entries + 1
  | .held _ => 1
def uptoBulkAll {H : Type} : List (DataW H) → Nat
  | [] => 0
  | d :: r => uptoBulk d + uptoBulkAll r
def uptoBulkEntries {H : Type} : List (Lit × DataW H) → Nat
  | [] => 0
  | x :: r => uptoBulkEntry x + uptoBulkEntries r
def uptoBulkEntry {H : Type} : Lit × DataW H → Nat
  | (.string bytes, d) => bytes.length + uptoBulk d + 1
  | (_, d) => uptoBulk d + 1
 end
def uptoSmall : (H : Type) → List (DataW H) → Bool := fun _ ds => decide (uptoBulkAll ds ≤ 1048576)
def OpenSpec.upto (s : _root_.Go.ChangeSpec) : _root_.Go.OpenSpec := { _root_.Go.OpenSpec.ofChange s with cond := some uptoSmall }

/-- 'sentinellaw05.MatchTables', WHERE WHAT IT READS IS OF BULK AT MOST 1048576: true; the input reads as it did. -/
def matchTablesUptoRow : OpenClaim := { program := "ytebdkmfgfjanoaa", sum := "28148b5b5b49615c592b67f6a253c02c140f4bace9d6e79c96a84aa3ee54fcae", func := "sentinel/sentinellaw05.MatchTables", spec := "matchTables", unfollowed := true, recurses := true, apart := false, narrowed := true }
def MatchTablesUptoSaid : Prop := matchTablesUptoRow.holds Try.pinned (OpenSpec.upto matchTablesSpec)

/-- 'sentinellaw05.MatchDerives', WHERE WHAT IT READS IS OF BULK AT MOST 1048576: true; the input reads as it did. -/
def matchDerivesUptoRow : OpenClaim := { program := "ytebdkmfgfjanoaa", sum := "28148b5b5b49615c592b67f6a253c02c140f4bace9d6e79c96a84aa3ee54fcae", func := "sentinel/sentinellaw05.MatchDerives", spec := "matchDerives", unfollowed := true, recurses := true, apart := false, narrowed := true }
def MatchDerivesUptoSaid : Prop := matchDerivesUptoRow.holds Try.pinned (OpenSpec.upto matchDerivesSpec)

/-- 'sentinellaw05.MatchExamples', WHERE WHAT IT READS IS OF BULK AT MOST 1048576: true; the input reads as it did. -/
def matchExamplesUptoRow : OpenClaim := { program := "ytebdkmfgfjanoaa", sum := "28148b5b5b49615c592b67f6a253c02c140f4bace9d6e79c96a84aa3ee54fcae", func := "sentinel/sentinellaw05.MatchExamples", spec := "matchExamples", unfollowed := true, recurses := true, apart := false, narrowed := true }
def MatchExamplesUptoSaid : Prop := matchExamplesUptoRow.holds Try.pinned (OpenSpec.upto matchExamplesSpec)

/-- 'sentinellaw05.MatchFactors', WHERE WHAT IT READS IS OF BULK AT MOST 1048576: true; the input reads as it did. -/
def matchFactorsUptoRow : OpenClaim := { program := "ytebdkmfgfjanoaa", sum := "28148b5b5b49615c592b67f6a253c02c140f4bace9d6e79c96a84aa3ee54fcae", func := "sentinel/sentinellaw05.MatchFactors", spec := "matchFactors", unfollowed := true, recurses := true, apart := false, narrowed := true }
def MatchFactorsUptoSaid : Prop := matchFactorsUptoRow.holds Try.pinned (OpenSpec.upto matchFactorsSpec)

/-- 'sentinellaw05.MatchBrzozowski', WHERE WHAT IT READS IS OF BULK AT MOST 1048576: true; the input reads as it did. -/
def matchBrzozowskiUptoRow : OpenClaim := { program := "ytebdkmfgfjanoaa", sum := "28148b5b5b49615c592b67f6a253c02c140f4bace9d6e79c96a84aa3ee54fcae", func := "sentinel/sentinellaw05.MatchBrzozowski", spec := "matchBrzozowski", unfollowed := true, recurses := true, apart := false, narrowed := true }
def MatchBrzozowskiUptoSaid : Prop := matchBrzozowskiUptoRow.holds Try.pinned (OpenSpec.upto matchBrzozowskiSpec)

/-- 'sentinellaw05.MatchLooks', WHERE WHAT IT READS IS OF BULK AT MOST 1048576: true; the input reads as it did. -/
def matchLooksUptoRow : OpenClaim := { program := "ytebdkmfgfjanoaa", sum := "28148b5b5b49615c592b67f6a253c02c140f4bace9d6e79c96a84aa3ee54fcae", func := "sentinel/sentinellaw05.MatchLooks", spec := "matchLooks", unfollowed := true, recurses := true, apart := false, narrowed := true }
def MatchLooksUptoSaid : Prop := matchLooksUptoRow.holds Try.pinned (OpenSpec.upto matchLooksSpec)

/-- 'sentinellaw05.MatchReverses', WHERE WHAT IT READS IS OF BULK AT MOST 1048576: true; the input reads as it did. -/
def matchReversesUptoRow : OpenClaim := { program := "ytebdkmfgfjanoaa", sum := "28148b5b5b49615c592b67f6a253c02c140f4bace9d6e79c96a84aa3ee54fcae", func := "sentinel/sentinellaw05.MatchReverses", spec := "matchReverses", unfollowed := true, recurses := true, apart := false, narrowed := true }
def MatchReversesUptoSaid : Prop := matchReversesUptoRow.holds Try.pinned (OpenSpec.upto matchReversesSpec)

end Rows
end Go.Proofs.Ytebdkmfgfjanoaa
