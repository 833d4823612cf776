/-
  regex.cut, Block: the block of a piece.
-/
import Derived.Test.YtebdkmfgfjanoaaRxSub
namespace Go.Proofs.Ytebdkmfgfjanoaa
open Go.RowKit

theorem rxCells_sub (L : List Pc) (i j : Nat) : subL (rxCells L) i j 5 = rxCells ((L.drop i).take (j - i)) := by
  have hd : ∀ (L : List Pc) (i : Nat), (rxCells L).drop (i * 5) = rxCells (L.drop i) := fun L i => by
    induction i generalizing L with
    | zero => simp
    | succ i ih =>
      cases L with
      | nil => simp [rxCells]
      | cons p L =>
        have : (i + 1) * 5 = (pcV p).length + i * 5 := by rw [pcV_len]; omega
        rw [this, ← List.drop_drop]
        simp only [rxCells, List.flatMap_cons, List.drop_left, List.drop_succ_cons] at ih ⊢
        exact ih L
  have ht : ∀ (L : List Pc) (i : Nat), (rxCells L).take (i * 5) = rxCells (L.take i) := fun L i => by
    induction i generalizing L with
    | zero => simp [rxCells]
    | succ i ih =>
      cases L with
      | nil => simp [rxCells]
      | cons p L =>
        have : (i + 1) * 5 = (pcV p).length + i * 5 := by rw [pcV_len]; omega
        rw [this]
        simp only [rxCells, List.flatMap_cons, List.take_succ_cons] at ih ⊢
        rw [List.take_length_add_append]
        rw [ih L]
  rw [subL, hd, ht]
theorem rxCells_snoc {M : List Pc} {q : Nat} {p : Pc} (h : M[q]? = some p) : rxCells (M.take (q + 1)) = rxCells (M.take q) ++ pcV p := by
  rw [List.take_add_one, h]; simp [rxCells]
/-- what Block answers -/
def blkE (L : List Pc) (v i : Int) : Int := if chkR L v ≠ 0 then chkR L v else if i < 0 ∨ (L.length : Int) ≤ i then 8 else 0
def blkL (L : List Pc) (v i : Int) : List Pc := if blkE L v i = 0 then (match treeOf L v with
  | some t => (t.sub 0 i.toNat).2.flat 0
  | none => []) else []
def BkPost (L : List Pc) (v i : Int) (W : World) (r : Value) (w' : World) : Prop :=
  ∃ A c, r = .tuple #[.slice A (blkL L v i).length c, .int .i64 (blkE L v i)] ∧ w'.ownsRow W.heap.size 55 5 (.slice A (blkL L v i).length c) (blkL L v i).length (rxCells (blkL L v i)) ∧ Fr Nof W w'
theorem blk_bad {L : List Pc} {v i e : Int} {W w' : World} (h : blkE L v i = e) (he : e ≠ 0) (hf : Fr Nof W w') : BkPost L v i W (.tuple #[.slice none 0 0, .int .i64 e]) w' := by
  have h0 : blkL L v i = [] := if_neg (by rw [h]; exact he)
  refine ⟨none, 0, ?_, ?_, hf⟩
  · rw [h0, h]; rfl
  · rw [h0]; exact World.ownsRow_nil _ _ _ _
end Go.Proofs.Ytebdkmfgfjanoaa
