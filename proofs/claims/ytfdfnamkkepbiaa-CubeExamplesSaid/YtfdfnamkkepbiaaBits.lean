/-
  Bits: what a cube's two masks say of a letter.
-/
import Derived.Test.YtfdfnamkkepbiaaRefCube
namespace Go.Proofs.Ytfdfnamkkepbiaa

theorem sub_iff {x p : Nat} : x &&& p = p ↔ ∀ i, p.testBit i = true → x.testBit i = true := by
  constructor
  · intro h i hi
    have := congrArg (Nat.testBit · i) h
    simp only [Nat.testBit_and] at this
    rw [hi] at this
    simpa using this
  · intro h
    refine Nat.eq_of_testBit_eq fun i => ?_
    rw [Nat.testBit_and]
    cases hp : p.testBit i with
    | false => simp
    | true => simp [h i hp]
theorem dis_iff {x n : Nat} : x &&& n = 0 ↔ ∀ i, n.testBit i = true → x.testBit i = false := by
  constructor
  · intro h i hi
    have := congrArg (Nat.testBit · i) h
    simp only [Nat.testBit_and, Nat.zero_testBit] at this
    rw [hi] at this
    simpa using this
  · intro h
    refine Nat.eq_of_testBit_eq fun i => ?_
    rw [Nat.testBit_and, Nat.zero_testBit]
    cases hp : n.testBit i with
    | false => simp
    | true => simp [h i hp]
theorem hasB_iff {p n x : Nat} : hasB p n x = true ↔ (∀ i, p.testBit i = true → x.testBit i = true) ∧ ∀ i, n.testBit i = true → x.testBit i = false := by
  simp only [hasB, Bool.and_eq_true, beq_iff_eq, sub_iff, dis_iff]
theorem covB_iff {p n q m : Nat} : covB p n q m = true ↔ (∀ i, p.testBit i = true → q.testBit i = true) ∧ ∀ i, n.testBit i = true → m.testBit i = true := by
  simp only [covB, Bool.and_eq_true, beq_iff_eq]
  rw [Nat.and_comm p q, Nat.and_comm n m, sub_iff, sub_iff]
theorem hasB_or {p n q m x : Nat} : hasB (p ||| q) (n ||| m) x = (hasB p n x && hasB q m x) := by
  rw [Bool.eq_iff_iff, Bool.and_eq_true, hasB_iff, hasB_iff, hasB_iff]
  simp only [Nat.testBit_or, Bool.or_eq_true]
  constructor
  · rintro ⟨h1, h2⟩
    exact ⟨⟨fun i hi => h1 i (.inl hi), fun i hi => h2 i (.inl hi)⟩, fun i hi => h1 i (.inr hi), fun i hi => h2 i (.inr hi)⟩
  · rintro ⟨⟨h1, h2⟩, h3, h4⟩
    exact ⟨fun i hi => hi.elim (h1 i) (h3 i), fun i hi => hi.elim (h2 i) (h4 i)⟩
theorem covB_or_left {p n q m : Nat} : covB p n (p ||| q) (n ||| m) = true := by
  rw [covB_iff]; simp only [Nat.testBit_or]; exact ⟨fun i h => by simp [h], fun i h => by simp [h]⟩
theorem covB_or_right {p n q m : Nat} : covB q m (p ||| q) (n ||| m) = true := by
  rw [covB_iff]; simp only [Nat.testBit_or]; exact ⟨fun i h => by simp [h], fun i h => by simp [h]⟩
/-- a letter of a cube: no variable has both values -/
theorem hasB_disj {p n x : Nat} (h : hasB p n x = true) : p &&& n = 0 := by
  obtain ⟨h1, h2⟩ := hasB_iff.1 h
  rw [dis_iff]
  intro i hi
  cases hp : p.testBit i with
  | false => rfl
  | true => have := h1 i hp; rw [h2 i hi] at this; cases this
end Go.Proofs.Ytfdfnamkkepbiaa
