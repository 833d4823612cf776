/-
  Plain laws of matching: reversal. No program in sight.
-/
import Derived.Test.YtebdkmfgfjanoaaMA
namespace Go.Proofs.Ytebdkmfgfjanoaa

inductive Chain (a : Tab) : Nat → Nat → Prop
  | refl (i : Nat) : Chain a i i
  | step {i k j : Nat} : i < k → a i k = true → Chain a k j → Chain a i j
theorem Chain.le {a : Tab} {i j : Nat} (h : Chain a i j) : i ≤ j := by
  induction h with
  | refl => exact Nat.le_refl _
  | step h1 _ _ ih => omega
theorem Chain.snoc {a : Tab} {i k j : Nat} (h : Chain a i k) (h1 : k < j) (h2 : a k j = true) : Chain a i j := by
  induction h with
  | refl i => exact .step h1 h2 (.refl _)
  | step g1 g2 _ ih => exact .step g1 g2 (ih h1 h2)
theorem starB_chain {a : Tab} {j : Nat} : ∀ f i, j - i ≤ f → i ≤ j → (starB a i j = true ↔ Chain a i j)
  | 0, i, hf, hi => by
    obtain rfl : i = j := by omega
    rw [starB_eq]
    simp
    exact .refl _
  | f + 1, i, hf, hi => by
    rw [starB_eq, Bool.or_eq_true, someB_iff]
    constructor
    · rintro (h | ⟨k, h1, h2, h3⟩)
      · obtain rfl := beq_iff_eq.1 h; exact .refl _
      · simp only [Bool.and_eq_true] at h3
        exact .step (by omega) h3.1 ((starB_chain f k (by omega) h2).1 h3.2)
    · intro h
      cases h with
      | refl => exact .inl (by simp)
      | step h1 h2 h3 =>
        rename_i k
        have := h3.le
        exact .inr ⟨k, by omega, this, by rw [Bool.and_eq_true]; exact ⟨h2, (starB_chain f k (by omega) this).2 h3⟩⟩
theorem Chain.rev {a a' : Tab} {n i j : Nat} (h : Chain a i j) (hj : j ≤ n) (ha : ∀ x y, x ≤ y → y ≤ n → a' (n - y) (n - x) = a x y) : Chain a' (n - j) (n - i) := by
  induction h with
  | refl => exact .refl _
  | step h1 h2 h3 ih =>
    have := h3.le
    exact (ih hj).snoc (by omega) (by rw [ha _ _ (by omega) (by omega)]; exact h2)
theorem starB_rev {a a' : Tab} {n i j : Nat} (hi : i ≤ j) (hj : j ≤ n) (ha : ∀ x y, x ≤ y → y ≤ n → a' (n - y) (n - x) = a x y) : starB a' (n - j) (n - i) = starB a i j := by
  rw [Bool.eq_iff_iff, starB_chain _ _ (Nat.le_refl _) (by omega), starB_chain _ _ (Nat.le_refl _) hi]
  constructor
  · intro h
    have h2 := h.rev (a' := a) (n := n) (Nat.sub_le _ _) (fun x y h1 h2 => by
      have := ha (n - y) (n - x) (by omega) (by omega)
      rw [show n - (n - x) = x by omega, show n - (n - y) = y by omega] at this
      exact this.symm)
    rwa [show n - (n - i) = i by omega, show n - (n - j) = j by omega] at h2
  · intro h
    exact h.rev hj ha
theorem someB_rev {lo hi n : Nat} {f : Nat → Bool} (hh : hi ≤ n) (hl : lo ≤ n) : someB (n - hi) (n - lo) (fun k => f (n - k)) = someB lo hi f := by
  rw [Bool.eq_iff_iff, someB_iff, someB_iff]
  constructor
  · rintro ⟨k, h1, h2, h3⟩
    exact ⟨n - k, by omega, by omega, h3⟩
  · rintro ⟨k, h1, h2, h3⟩
    exact ⟨n - k, by omega, by omega, by rw [show n - (n - k) = k by omega]; exact h3⟩
theorem mt_rev {v : Int} {w : List Nat} {n : Nat} (hn : w.length = n) : ∀ t : T, t.wf v → ∀ i j, i ≤ j → j ≤ n → mt w.reverse t.rev (n - j) (n - i) = mt w t i j
  | .none, _, i, j, h1, h2 => by
    show rel _ 1 0 0 noT noT _ _ = rel _ 1 0 0 noT noT _ _
    rw [rel_eq (by omega) (by simp; omega), rel_eq h1 (by omega)]
    rfl
  | .empty, _, i, j, h1, h2 => by
    show rel _ 2 0 0 noT noT _ _ = rel _ 2 0 0 noT noT _ _
    rw [rel_eq (by omega) (by simp; omega), rel_eq h1 (by omega), if_pos rfl, if_pos rfl, Bool.eq_iff_iff]
    simp
    omega
  | .letter p q, _, i, j, h1, h2 => by
    show rel _ 3 p q noT noT _ _ = rel _ 3 p q noT noT _ _
    rw [rel_eq (by omega) (by simp; omega), rel_eq h1 (by omega), if_neg (by decide), if_pos rfl, if_neg (by decide), if_pos rfl]
    by_cases hj : j = i + 1
    · have e : w.reverse.getD (n - j) 0 = w.getD i 0 := by
        rw [List.getD_eq_getElem?_getD, List.getD_eq_getElem?_getD, List.getElem?_reverse (by omega), show w.length - 1 - (n - j) = i by omega]
      rw [e, beq_iff_eq.2 hj, beq_iff_eq.2 (show n - i = n - j + 1 by omega)]
    · rw [beq_eq_false_iff_ne.2 hj, beq_eq_false_iff_ne.2 (show n - i ≠ n - j + 1 by omega)]
      rfl
  | .un op a, h, i, j, h1, h2 => by
    have ih := mt_rev hn a h.2
    have e2 : (n - j == n - i) = (i == j) := by rw [Bool.eq_iff_iff]; simp; omega
    rcases kids_one.1 h.1 with rfl | rfl | rfl | rfl
    · show rel _ 7 0 0 (mt _ a.rev) noT _ _ = rel _ 7 0 0 (mt w a) noT _ _
      rw [rel_eq (by omega) (by simp; omega), rel_eq h1 (by omega)]
      show (!_) = !_
      rw [ih i j h1 h2]
    · show rel _ 8 0 0 (mt _ a.rev) noT _ _ = rel _ 8 0 0 (mt w a) noT _ _
      rw [rel_eq (by omega) (by simp; omega), rel_eq h1 (by omega)]
      show starB _ _ _ = starB _ _ _
      exact starB_rev h1 h2 ih
    · show rel _ 10 0 0 (mt _ a.rev) noT _ _ = rel _ 9 0 0 (mt w a) noT _ _
      rw [rel_eq (by omega) (by simp; omega), rel_eq h1 (by omega)]
      show (n - j == n - i && someB 0 (n - j) fun k => mt _ a.rev k (n - j)) = (i == j && someB i w.length fun k => mt w a i k)
      rw [e2]
      by_cases hij : i = j
      · subst hij
        congr 1
        rw [hn, ← someB_rev (n := n) (lo := i) (hi := n) (Nat.le_refl _) h2, Nat.sub_self]
        refine someB_congr fun k g1 g2 => ?_
        have := ih i (n - k) (by omega) (by omega)
        rwa [show n - (n - k) = k by omega] at this
      · rw [beq_eq_false_iff_ne.2 hij, Bool.false_and, Bool.false_and]
    · show rel _ 9 0 0 (mt _ a.rev) noT _ _ = rel _ 10 0 0 (mt w a) noT _ _
      rw [rel_eq (by omega) (by simp; omega), rel_eq h1 (by omega)]
      show (n - j == n - i && someB (n - j) w.reverse.length fun k => mt _ a.rev (n - j) k) = (i == j && someB 0 i fun k => mt w a k i)
      rw [e2]
      by_cases hij : i = j
      · subst hij
        congr 1
        rw [List.length_reverse, hn, ← someB_rev (n := n) (lo := 0) (hi := i) h2 (Nat.zero_le _), Nat.sub_zero]
        refine someB_congr fun k g1 g2 => ?_
        have := ih (n - k) i (by omega) h2
        rwa [show n - (n - k) = k by omega] at this
      · rw [beq_eq_false_iff_ne.2 hij, Bool.false_and, Bool.false_and]
  | .bin op a b, h, i, j, h1, h2 => by
    have iha := mt_rev hn a h.2.1
    have ihb := mt_rev hn b h.2.2
    rcases kids_two.1 h.1 with rfl | rfl | rfl
    · show rel _ 4 0 0 (mt _ b.rev) (mt _ a.rev) _ _ = rel _ 4 0 0 (mt w a) (mt w b) _ _
      rw [rel_eq (by omega) (by simp; omega), rel_eq h1 (by omega)]
      show (someB (n - j) (n - i) fun k => mt _ b.rev (n - j) k && mt _ a.rev k (n - i)) = someB i j fun k => mt w a i k && mt w b k j
      rw [← someB_rev (n := n) (lo := i) (hi := j) h2 (by omega)]
      refine someB_congr fun k g1 g2 => ?_
      have q1 := iha i (n - k) (by omega) (by omega)
      have q2 := ihb (n - k) j (by omega) h2
      rw [show n - (n - k) = k by omega] at q1 q2
      rw [q1, q2, Bool.and_comm]
    · show rel _ 5 0 0 (mt _ a.rev) (mt _ b.rev) _ _ = rel _ 5 0 0 (mt w a) (mt w b) _ _
      rw [rel_eq (by omega) (by simp; omega), rel_eq h1 (by omega)]
      show (_ || _) = (_ || _)
      rw [iha i j h1 h2, ihb i j h1 h2]
    · show rel _ 6 0 0 (mt _ a.rev) (mt _ b.rev) _ _ = rel _ 6 0 0 (mt w a) (mt w b) _ _
      rw [rel_eq (by omega) (by simp; omega), rel_eq h1 (by omega)]
      show (_ && _) = (_ && _)
      rw [iha i j h1 h2, ihb i j h1 h2]
end Go.Proofs.Ytebdkmfgfjanoaa
