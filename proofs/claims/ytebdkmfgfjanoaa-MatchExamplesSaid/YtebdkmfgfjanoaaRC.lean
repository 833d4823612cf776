/-
  regex's parser: fail, peek, take, add.
-/
import Derived.Test.YtebdkmfgfjanoaaRX
import Derived.Test.YtebdkmfgfjanoaaRB
namespace Go.Proofs.Ytebdkmfgfjanoaa
open Go.RowKit

theorem mem_index : ∀ {a : List UInt8} {c : UInt8}, c ∈ a → 0 ≤ Lib.indexByte a c ∧ Lib.indexByte a c < a.length
  | d :: a, c, h => by
    unfold Lib.indexByte
    by_cases e : d = c
    · subst e; simp
    · have h1 : c ∈ a := (List.mem_cons.1 h).resolve_left fun h => e h.symm
      have ih := mem_index h1
      rw [if_neg (by simpa using e), if_neg (by simp; try omega)]
      simp; omega
theorem not_mem_index : ∀ {a : List UInt8} {c : UInt8}, c ∉ a → Lib.indexByte a c = -1
  | [], c, _ => rfl
  | d :: a, c, h => by
    have h1 : ¬ d = c := fun e => h (by subst e; exact List.mem_cons_self ..)
    have h2 : c ∉ a := fun e => h (List.mem_cons_of_mem _ e)
    unfold Lib.indexByte
    rw [if_neg (by simpa using h1), if_pos (by rw [not_mem_index h2]; rfl)]
section
variable {F : Nat → Prop} {w0 w : World} {rs : List Res} {bp : Nat} {s : List UInt8} {L : List Pc}
end
end Go.Proofs.Ytebdkmfgfjanoaa
/-
  regex's parser: add, letter.
-/
namespace Go.Proofs.Ytebdkmfgfjanoaa
open Go.RowKit

section
variable {F : Nat → Prop} {w0 w : World} {rs : List Res} {bp : Nat} {s : List UInt8} {L : List Pc}
end
end Go.Proofs.Ytebdkmfgfjanoaa
