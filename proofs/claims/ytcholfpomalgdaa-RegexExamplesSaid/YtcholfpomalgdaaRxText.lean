/-
  The text of an expression.
-/
import Derived.Test.YtcholfpomalgdaaRxChk
import Derived.Test.YtcholfpomalgdaaBldr
namespace Go.Proofs.Ytcholfpomalgdaa
open Go.RowKit

def T.text : T → List UInt8
  | .none => [48]
  | .empty => [49]
  | .letter p n => 91 :: (fmtText p n ++ [93])
  | .un op a => opB op ++ (a.text ++ (opM op ++ opA op))
  | .bin op a b => opB op ++ (a.text ++ (opM op ++ (b.text ++ opA op)))
theorem opB_len (op : Nat) : (opB op).length ≤ 2 := by unfold opB; (repeat' split) <;> simp
theorem opM_len (op : Nat) : (opM op).length ≤ 1 := by unfold opM; (repeat' split) <;> simp
theorem opA_len (op : Nat) : (opA op).length ≤ 2 := by unfold opA; (repeat' split) <;> simp
theorem fmtText_len (p n : Nat) : (fmtText p n).length ≤ 32 := by
  unfold fmtText
  split
  · simp
  · have := litsText_len (lits p n); have := litTo_len p n 8; unfold lits at *; omega
theorem T.text_len : ∀ t : T, t.text.length ≤ 34 * t.size
  | .none => by simp [T.text, T.size]
  | .empty => by simp [T.text, T.size]
  | .letter p n => by have := fmtText_len p n; simp [T.text, T.size]; omega
  | .un op a => by have := T.text_len a; have := opB_len op; have := opM_len op; have := opA_len op; simp [T.text, T.size]; omega
  | .bin op a b => by have := T.text_len a; have := T.text_len b; have := opB_len op; have := opM_len op; have := opA_len op; simp [T.text, T.size]; omega
theorem wf_letter {p n : Nat} {v : Int} (h : chk p n v = 0) : p < 64 ∧ n < 64 ∧ p &&& n = 0 := by
  have h1 : ¬ (v < 0 ∨ 6 < v) := fun h' => by rw [chk_out h'] at h; cases h
  obtain ⟨k, rfl⟩ := Int.eq_ofNat_of_zero_le (show 0 ≤ v by omega)
  obtain ⟨z1, z2, z3⟩ := chk_zero (show k ≤ 6 by omega) h
  have := two_le6 (show k ≤ 6 by omega)
  exact ⟨by omega, by omega, z3⟩
section
variable {F : Nat → Prop} {w0 w : World} {rs : List Res} {a b c d : Res}
theorem St.perm {rs' : List Res} (h : St F w0 rs w) (hp : rs.Perm rs') : St F w0 rs' w :=
  ⟨h.fr, fun r hr => h.all r (hp.mem_iff.2 hr), (hp.pairwise_iff Res.apart_symm).1 h.apart, fun r hr => h.own r (hp.mem_iff.2 hr)⟩
theorem St.p3 (h : St F w0 (a :: b :: c :: rs) w) : St F w0 (b :: c :: a :: rs) w :=
  h.perm ((List.Perm.swap b a (c :: rs)).trans (List.Perm.cons b (List.Perm.swap c a rs)))
theorem St.p4 (h : St F w0 (a :: b :: c :: d :: rs) w) : St F w0 (c :: d :: a :: b :: rs) w :=
  h.perm ((List.perm_append_comm (l₁ := [a, b]) (l₂ := [c, d])).append_right rs)
end
end Go.Proofs.Ytcholfpomalgdaa
