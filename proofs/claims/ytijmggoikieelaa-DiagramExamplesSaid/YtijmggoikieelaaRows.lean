/-
  No cell of these rows narrows 'for every input' (looked for: loops, veiled, ifaces, maps, wideKeys, modest, calm, conditions, laid).
  DERIVED. THE GIVEN ROWS OF THIS SEAT. 6 by the template 'for every input the law returns true; each argument reads behind the call as it read before'; 0 by the template 'total and deterministic' (their statements: YtijmggoikieelaaTotals.lean).
  GIVEN WITH THE SEED: the statements are not yours to turn. If you find one false, say at which input.
  Laid BY PROGRAM, IN A SANDBOX (cutbox-rows.mjs): the forced cells as the released guide's own fill.sh prints them over the translation feacc8aa7f523692… (all of the seat's roots in one cut). By AI agents, Wed Nov 11 2026. No macro, syntax, notation, axiom, sorry.
-/
import Derived.Test.YtijmggoikieelaaChecked
import GoSem.Claim
import GoSem.ClaimJoined
import GoSem.ClaimMapViews
import Derived.JoinedTies
import Derived.KernelRfl
namespace Go.Proofs.Ytijmggoikieelaa
/- THE CELL 'sum', in the pinned program and in every row, IS THE sha256 OF THE DUMP (.gsa) THAT YtijmggoikieelaaProg.lean LOADS. Nothing in Lean hashes anything: it is a label: what it is worth is what the hold of that sum in a sandbox is worth. -/
noncomputable def Try.pinned : Pinned := { name := "ytijmggoikieelaa", sum := "feacc8aa7f5236927d69bbd3d411d9dbda332dfdd5446c3ff9876af5f92c2927", checked := Try.checked }
namespace Rows
def none {H : Type} : Left H := { results := [], args := [] }

/-- 'sentinellaw03.DiagramCanonical': WHATEVER THE INPUT: true; the input reads as it did. -/
def diagramCanonicalSpec : ChangeSpec := { name := "diagramCanonical", fn := fun _ => fun
  | [d1, d2, d3] => { results := [.lit (.bool true)], args := [d1, d2, d3] }
  | _ => none }
def diagramCanonicalRow : OpenClaim := { program := "ytijmggoikieelaa", sum := "feacc8aa7f5236927d69bbd3d411d9dbda332dfdd5446c3ff9876af5f92c2927", func := "sentinel/sentinellaw03.DiagramCanonical", spec := "diagramCanonical", unfollowed := true, recurses := true, plainKeys := false, apart := false }
def DiagramCanonicalSaid : Prop := diagramCanonicalRow.holds Try.pinned (OpenSpec.ofChange diagramCanonicalSpec)

/-- ITS FALSE NEIGHBOUR: 'it returns false'. Refute it at one input. -/
def diagramCanonicalWrong : ChangeSpec := { name := "diagramCanonical", fn := fun _ => fun
  | [d1, d2, d3] => { results := [.lit (.bool false)], args := [d1, d2, d3] }
  | _ => none }
def DiagramCanonicalWrongFalsely : Prop := diagramCanonicalRow.holds Try.pinned (OpenSpec.ofChange diagramCanonicalWrong)

/-- 'sentinellaw03.DiagramShannon': WHATEVER THE INPUT: true; the input reads as it did. -/
def diagramShannonSpec : ChangeSpec := { name := "diagramShannon", fn := fun _ => fun
  | [d1, d2, d3, d4, d5, d6] => { results := [.lit (.bool true)], args := [d1, d2, d3, d4, d5, d6] }
  | _ => none }
def diagramShannonRow : OpenClaim := { program := "ytijmggoikieelaa", sum := "feacc8aa7f5236927d69bbd3d411d9dbda332dfdd5446c3ff9876af5f92c2927", func := "sentinel/sentinellaw03.DiagramShannon", spec := "diagramShannon", unfollowed := true, recurses := true, plainKeys := false, apart := false }
def DiagramShannonSaid : Prop := diagramShannonRow.holds Try.pinned (OpenSpec.ofChange diagramShannonSpec)

/-- ITS FALSE NEIGHBOUR: 'it returns false'. Refute it at one input. -/
def diagramShannonWrong : ChangeSpec := { name := "diagramShannon", fn := fun _ => fun
  | [d1, d2, d3, d4, d5, d6] => { results := [.lit (.bool false)], args := [d1, d2, d3, d4, d5, d6] }
  | _ => none }
def DiagramShannonWrongFalsely : Prop := diagramShannonRow.holds Try.pinned (OpenSpec.ofChange diagramShannonWrong)

/-- 'sentinellaw03.DiagramLattice': WHATEVER THE INPUT: true; the input reads as it did. -/
def diagramLatticeSpec : ChangeSpec := { name := "diagramLattice", fn := fun _ => fun
  | [d1, d2, d3, d4, d5] => { results := [.lit (.bool true)], args := [d1, d2, d3, d4, d5] }
  | _ => none }
def diagramLatticeRow : OpenClaim := { program := "ytijmggoikieelaa", sum := "feacc8aa7f5236927d69bbd3d411d9dbda332dfdd5446c3ff9876af5f92c2927", func := "sentinel/sentinellaw03.DiagramLattice", spec := "diagramLattice", unfollowed := true, recurses := true, plainKeys := false, apart := false }
def DiagramLatticeSaid : Prop := diagramLatticeRow.holds Try.pinned (OpenSpec.ofChange diagramLatticeSpec)

/-- ITS FALSE NEIGHBOUR: 'it returns false'. Refute it at one input. -/
def diagramLatticeWrong : ChangeSpec := { name := "diagramLattice", fn := fun _ => fun
  | [d1, d2, d3, d4, d5] => { results := [.lit (.bool false)], args := [d1, d2, d3, d4, d5] }
  | _ => none }
def DiagramLatticeWrongFalsely : Prop := diagramLatticeRow.holds Try.pinned (OpenSpec.ofChange diagramLatticeWrong)

/-- 'sentinellaw03.DiagramForeign': WHATEVER THE INPUT: true; the input reads as it did. -/
def diagramForeignSpec : ChangeSpec := { name := "diagramForeign", fn := fun _ => fun
  | [d1, d2, d3, d4, d5] => { results := [.lit (.bool true)], args := [d1, d2, d3, d4, d5] }
  | _ => none }
def diagramForeignRow : OpenClaim := { program := "ytijmggoikieelaa", sum := "feacc8aa7f5236927d69bbd3d411d9dbda332dfdd5446c3ff9876af5f92c2927", func := "sentinel/sentinellaw03.DiagramForeign", spec := "diagramForeign", unfollowed := true, recurses := true, plainKeys := false, apart := false }
def DiagramForeignSaid : Prop := diagramForeignRow.holds Try.pinned (OpenSpec.ofChange diagramForeignSpec)

/-- ITS FALSE NEIGHBOUR: 'it returns false'. Refute it at one input. -/
def diagramForeignWrong : ChangeSpec := { name := "diagramForeign", fn := fun _ => fun
  | [d1, d2, d3, d4, d5] => { results := [.lit (.bool false)], args := [d1, d2, d3, d4, d5] }
  | _ => none }
def DiagramForeignWrongFalsely : Prop := diagramForeignRow.holds Try.pinned (OpenSpec.ofChange diagramForeignWrong)

/-- 'sentinellaw03.DiagramMatches': WHATEVER THE INPUT: true; the input reads as it did. -/
def diagramMatchesSpec : ChangeSpec := { name := "diagramMatches", fn := fun _ => fun
  | [d1, d2, d3] => { results := [.lit (.bool true)], args := [d1, d2, d3] }
  | _ => none }
def diagramMatchesRow : OpenClaim := { program := "ytijmggoikieelaa", sum := "feacc8aa7f5236927d69bbd3d411d9dbda332dfdd5446c3ff9876af5f92c2927", func := "sentinel/sentinellaw03.DiagramMatches", spec := "diagramMatches", unfollowed := true, recurses := true, plainKeys := false, apart := false }
def DiagramMatchesSaid : Prop := diagramMatchesRow.holds Try.pinned (OpenSpec.ofChange diagramMatchesSpec)

/-- ITS FALSE NEIGHBOUR: 'it returns false'. Refute it at one input. -/
def diagramMatchesWrong : ChangeSpec := { name := "diagramMatches", fn := fun _ => fun
  | [d1, d2, d3] => { results := [.lit (.bool false)], args := [d1, d2, d3] }
  | _ => none }
def DiagramMatchesWrongFalsely : Prop := diagramMatchesRow.holds Try.pinned (OpenSpec.ofChange diagramMatchesWrong)

/-- 'sentinellaw03.DiagramExamples': WHATEVER THE INPUT: true; the input reads as it did. -/
def diagramExamplesSpec : ChangeSpec := { name := "diagramExamples", fn := fun _ => fun
  | [] => { results := [.lit (.bool true)], args := [] }
  | _ => none }
def diagramExamplesRow : OpenClaim := { program := "ytijmggoikieelaa", sum := "feacc8aa7f5236927d69bbd3d411d9dbda332dfdd5446c3ff9876af5f92c2927", func := "sentinel/sentinellaw03.DiagramExamples", spec := "diagramExamples", unfollowed := true, recurses := true, plainKeys := false, apart := false }
def DiagramExamplesSaid : Prop := diagramExamplesRow.holds Try.pinned (OpenSpec.ofChange diagramExamplesSpec)

/-- ITS FALSE NEIGHBOUR: 'it returns false'. Refute it at one input. -/
def diagramExamplesWrong : ChangeSpec := { name := "diagramExamples", fn := fun _ => fun
  | [] => { results := [.lit (.bool false)], args := [] }
  | _ => none }
def DiagramExamplesWrongFalsely : Prop := diagramExamplesRow.holds Try.pinned (OpenSpec.ofChange diagramExamplesWrong)

/- THE SECOND FORM. 'bulk': how many values and letters a reading holds, each counted each time it is reached (what is shared counts as often as it is met; a slice's spare places count too). A statement '..UptoSaid' is the law's where the arguments, and the package variables that the reading takes, are together of bulk at most 1048576: NARROWER than '..Said'. Prove '..Said' where nothing that the law and all that it calls make is longer than what came in: it says more and counts as full. Else prove '..UptoSaid'. A law counts once. -/
mutual
def uptoBulk {H : Type} : DataW H → Nat
  | .lit (.string bytes) => bytes.length + 1
  | .lit _ => 1
  | .nil => 1
  | .ptr d => uptoBulk d + 1
  | .slice elems spare => uptoBulkAll elems + uptoBulkAll spare + 1
  | .agg parts => uptoBulkAll parts + 1
  | .iface _ d => uptoBulk d + 1
  | .map entries => uptoBulkEntries entries + 1
  | .held _ => 1
def uptoBulkAll {H : Type} : List (DataW H) → Nat
  | [] => 0
  | d :: r => uptoBulk d + uptoBulkAll r
def uptoBulkEntries {H : Type} : List (Lit × DataW H) → Nat
  | [] => 0
  | x :: r => uptoBulkEntry x + uptoBulkEntries r
def uptoBulkEntry {H : Type} : Lit × DataW H → Nat
  | (.string bytes, d) => bytes.length + uptoBulk d + 1
  | (_, d) => uptoBulk d + 1
 end
def uptoSmall : (H : Type) → List (DataW H) → Bool := fun _ ds => decide (uptoBulkAll ds ≤ 1048576)
def OpenSpec.upto (s : _root_.Go.ChangeSpec) : _root_.Go.OpenSpec := { _root_.Go.OpenSpec.ofChange s with cond := some uptoSmall }

/-- 'sentinellaw03.DiagramCanonical', WHERE WHAT IT READS IS OF BULK AT MOST 1048576: true; the input reads as it did. -/
def diagramCanonicalUptoRow : OpenClaim := { program := "ytijmggoikieelaa", sum := "feacc8aa7f5236927d69bbd3d411d9dbda332dfdd5446c3ff9876af5f92c2927", func := "sentinel/sentinellaw03.DiagramCanonical", spec := "diagramCanonical", unfollowed := true, recurses := true, plainKeys := false, apart := false, narrowed := true }
def DiagramCanonicalUptoSaid : Prop := diagramCanonicalUptoRow.holds Try.pinned (OpenSpec.upto diagramCanonicalSpec)

/-- 'sentinellaw03.DiagramShannon', WHERE WHAT IT READS IS OF BULK AT MOST 1048576: true; the input reads as it did. -/
def diagramShannonUptoRow : OpenClaim := { program := "ytijmggoikieelaa", sum := "feacc8aa7f5236927d69bbd3d411d9dbda332dfdd5446c3ff9876af5f92c2927", func := "sentinel/sentinellaw03.DiagramShannon", spec := "diagramShannon", unfollowed := true, recurses := true, plainKeys := false, apart := false, narrowed := true }
def DiagramShannonUptoSaid : Prop := diagramShannonUptoRow.holds Try.pinned (OpenSpec.upto diagramShannonSpec)

/-- 'sentinellaw03.DiagramLattice', WHERE WHAT IT READS IS OF BULK AT MOST 1048576: true; the input reads as it did. -/
def diagramLatticeUptoRow : OpenClaim := { program := "ytijmggoikieelaa", sum := "feacc8aa7f5236927d69bbd3d411d9dbda332dfdd5446c3ff9876af5f92c2927", func := "sentinel/sentinellaw03.DiagramLattice", spec := "diagramLattice", unfollowed := true, recurses := true, plainKeys := false, apart := false, narrowed := true }
def DiagramLatticeUptoSaid : Prop := diagramLatticeUptoRow.holds Try.pinned (OpenSpec.upto diagramLatticeSpec)

/-- 'sentinellaw03.DiagramForeign', WHERE WHAT IT READS IS OF BULK AT MOST 1048576: true; the input reads as it did. -/
def diagramForeignUptoRow : OpenClaim := { program := "ytijmggoikieelaa", sum := "feacc8aa7f5236927d69bbd3d411d9dbda332dfdd5446c3ff9876af5f92c2927", func := "sentinel/sentinellaw03.DiagramForeign", spec := "diagramForeign", unfollowed := true, recurses := true, plainKeys := false, apart := false, narrowed := true }
def DiagramForeignUptoSaid : Prop := diagramForeignUptoRow.holds Try.pinned (OpenSpec.upto diagramForeignSpec)

/-- 'sentinellaw03.DiagramMatches', WHERE WHAT IT READS IS OF BULK AT MOST 1048576: true; the input reads as it did. -/
def diagramMatchesUptoRow : OpenClaim := { program := "ytijmggoikieelaa", sum := "feacc8aa7f5236927d69bbd3d411d9dbda332dfdd5446c3ff9876af5f92c2927", func := "sentinel/sentinellaw03.DiagramMatches", spec := "diagramMatches", unfollowed := true, recurses := true, plainKeys := false, apart := false, narrowed := true }
def DiagramMatchesUptoSaid : Prop := diagramMatchesUptoRow.holds Try.pinned (OpenSpec.upto diagramMatchesSpec)

/-- 'sentinellaw03.DiagramExamples', WHERE WHAT IT READS IS OF BULK AT MOST 1048576: true; the input reads as it did. -/
def diagramExamplesUptoRow : OpenClaim := { program := "ytijmggoikieelaa", sum := "feacc8aa7f5236927d69bbd3d411d9dbda332dfdd5446c3ff9876af5f92c2927", func := "sentinel/sentinellaw03.DiagramExamples", spec := "diagramExamples", unfollowed := true, recurses := true, plainKeys := false, apart := false, narrowed := true }
def DiagramExamplesUptoSaid : Prop := diagramExamplesUptoRow.holds Try.pinned (OpenSpec.upto diagramExamplesSpec)

end Rows
end Go.Proofs.Ytijmggoikieelaa
