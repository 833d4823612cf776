/-
  cube.literals: the iterator over the literals of a cube.
-/
import Derived.Test.YtebdkmfgfjanoaaCA
import Derived.RangeFuncNested
import Derived.RangeFuncBound
import Derived.RangeFuncCalls
import Derived.RangeFuncLeaves
import Derived.Shelf.Abstract
import Derived.Shelf.RegionOpen
import Derived.OwnWalkIn
import Derived.TacticsInMore
import Derived.LoopNIn
import Derived.LoopIn
import Derived.Lib.Builder
import Derived.Lib.UnsafeStr
import Derived.Lib.OthersKept
import Derived.Laws.Externs
namespace Go.Proofs.Ytebdkmfgfjanoaa
open Go.RowKit Go.Shelf
attribute [local go_sem] Oper.semAt_some
attribute [local go_sem] u8_and_nat u8_or_nat u8_xor_nat u8_andNot_nat

/-- a literal: the variable and its value -/
abbrev Litl := Fin 8 × Bool
def litAt (p n : Nat) (k : Fin 8) : List Litl := (if p &&& two k.val = 0 then [] else [(k, true)]) ++ (if n &&& two k.val = 0 then [] else [(k, false)])
def litTo (p n : Nat) : Nat → List Litl
  | 0 => []
  | k + 1 => litTo p n k ++ (if h : k < 8 then litAt p n ⟨k, h⟩ else [])
theorem litAt_len (p n : Nat) (k : Fin 8) : (litAt p n k).length ≤ 2 := by
  unfold litAt; split <;> split <;> simp
theorem litTo_len (p n k : Nat) : (litTo p n k).length ≤ 2 * k := by
  induction k with
  | zero => simp [litTo]
  | succ k ih =>
    simp only [litTo, List.length_append]
    split
    · have := litAt_len p n ⟨k, ‹_›⟩; omega
    · simp; omega
theorem litTo_prefix (p n i j : Nat) (h : i ≤ j) : litTo p n i <+: litTo p n j := by
  induction j with
  | zero => obtain rfl : i = 0 := by omega
            exact List.prefix_rfl
  | succ j ih =>
    by_cases e : i = j + 1
    · subst e; exact List.prefix_rfl
    · exact (ih (by omega)).trans (List.prefix_append _ _)
def lits (p n : Nat) : List Litl := litTo p n 8

end Go.Proofs.Ytebdkmfgfjanoaa
/-
  strings.Builder, made by the call itself: copyCheck and WriteByte (Len and String are the shelf's).
-/
namespace Go.Proofs.Ytebdkmfgfjanoaa
open Go.RowKit

end Go.Proofs.Ytebdkmfgfjanoaa
/-
  cube.Format: the text of a cube.
-/
namespace Go.Proofs.Ytebdkmfgfjanoaa
open Go.RowKit Go.Shelf
attribute [local go_sem] Oper.semAt_some

def litText (x : Litl) : List UInt8 := if x.2 then [UInt8.ofNat (97 + x.1.val)] else [33, UInt8.ofNat (97 + x.1.val)]
def litsText (l : List Litl) : List UInt8 := l.flatMap litText
def fmtText (p n : Nat) : List UInt8 := if litsText (lits p n) = [] then [42] else litsText (lits p n)
theorem litText_len (x : Litl) : (litText x).length ≤ 2 := by unfold litText; split <;> simp
theorem litsText_snoc (l : List Litl) (x : Litl) : litsText (l ++ [x]) = litsText l ++ litText x := by simp [litsText]
theorem litsText_len (l : List Litl) : (litsText l).length ≤ 2 * l.length := by
  induction l with
  | nil => simp [litsText]
  | cons x l ih => have := litText_len x; simp only [litsText, List.flatMap_cons, List.length_append, List.length_cons] at *; omega
theorem byteCells_append (l m : List UInt8) : Lib.byteCells (l ++ m) = Lib.byteCells l ++ Lib.byteCells m := by simp [Lib.byteCells]
theorem byteCells_len (l : List UInt8) : (Lib.byteCells l).length = l.length := by simp [Lib.byteCells]

end Go.Proofs.Ytebdkmfgfjanoaa
