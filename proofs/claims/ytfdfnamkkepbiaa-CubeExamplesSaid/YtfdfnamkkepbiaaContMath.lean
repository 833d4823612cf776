/-
  Plain laws for CubeContains: a valid cube covers another exactly if it has all its letters; the number of a cube's letters.
-/
import Derived.Test.YtfdfnamkkepbiaaRoundMath
namespace Go.Proofs.Ytfdfnamkkepbiaa

theorem mem_letTo {p n k x : Nat} : x ∈ letTo p n k ↔ x < k ∧ hasB p n x = true := by simp [letTo]
theorem bit_ones {k i : Nat} : (two k - 1).testBit i = decide (i < k) := by simp [two, Nat.testBit_two_pow_sub_one]
/-- covering is having all letters -/
theorem cov_all {p n q m k : Nat} (_hp : p < two k) (hn : n < two k) (hq : q < two k) (_hm : m < two k) (hd : q &&& m = 0) :
    ((letTo q m (two k)).all (hasB p n ·)) = covB p n q m := by
  rw [Bool.eq_iff_iff, List.all_eq_true]
  constructor
  · intro h
    rw [covB_iff]
    constructor
    · have h1 : hasB q m q = true := hasB_iff.2 ⟨fun _ h => h, fun i hi => dis_iff.1 hd i hi⟩
      exact (hasB_iff.1 (h q (mem_letTo.2 ⟨hq, h1⟩))).1
    · have hx : ∀ i, ((two k - 1) ^^^ m).testBit i = (decide (i < k) ^^ m.testBit i) := fun i => by rw [Nat.testBit_xor, bit_ones]
      have hlt : (two k - 1) ^^^ m < two k := lt_two_of_bits fun i hi => by rw [hx, bit_small _hm hi, decide_eq_false (by omega)]; rfl
      have h1 : hasB q m ((two k - 1) ^^^ m) = true := by
        refine hasB_iff.2 ⟨fun i hi => ?_, fun i hi => ?_⟩
        · rw [hx]
          have h3 : i < k := by
            by_cases h4 : i < k
            · exact h4
            · rw [bit_small hq (by omega)] at hi; cases hi
          have h5 : m.testBit i = false := by
            cases h6 : m.testBit i with
            | false => rfl
            | true => rw [dis_iff.1 hd i h6] at hi; cases hi
          rw [h5, decide_eq_true h3]; rfl
        · rw [hx, hi]
          have h3 : i < k := by
            by_cases h4 : i < k
            · exact h4
            · rw [bit_small _hm (by omega)] at hi; cases hi
          rw [decide_eq_true h3]; rfl
      intro i hi
      have h2 := (hasB_iff.1 (h _ (mem_letTo.2 ⟨hlt, h1⟩))).2 i hi
      have h3 : i < k := by
        by_cases h4 : i < k
        · exact h4
        · rw [bit_small hn (by omega)] at hi; cases hi
      rw [hx, decide_eq_true h3] at h2
      cases h6 : m.testBit i with
      | true => rfl
      | false => rw [h6] at h2; cases h2
  · intro h x hx
    rw [covB_iff] at h
    have h1 := hasB_iff.1 (mem_letTo.1 hx).2
    exact hasB_iff.2 ⟨fun i hi => h1.1 i (h.1 i hi), fun i hi => h1.2 i (h.2 i hi)⟩

/-- how many of the first k bits are set -/
def ones (x : Nat) : Nat → Nat
  | 0 => 0
  | k + 1 => ones x k + x / two k % 2
theorem ones_le (x : Nat) : ∀ k, ones x k ≤ k
  | 0 => Nat.le_refl _
  | k + 1 => by have := ones_le x k; have := Nat.mod_lt (x / two k) (show 2 > 0 by omega); simp only [ones]; omega
def cntOk (k p n : Nat) : Bool := !(p &&& n == 0) || ((letTo p n (two k)).length * two (ones (p ||| n) 8) == two k)
def cntAll (k : Nat) : Bool := (List.range (two k)).all fun p => (List.range (two k)).all fun n => cntOk k p n
theorem cnt_all : (List.range 7).all cntAll = true := by decide +kernel
theorem cnt {k p n : Nat} (hk : k ≤ 6) (hp : p < two k) (hn : n < two k) (hd : p &&& n = 0) : (letTo p n (two k)).length * two (ones (p ||| n) 8) = two k := by
  have h1 := List.all_eq_true.1 cnt_all k (by simp; omega)
  have h2 := List.all_eq_true.1 h1 p (by simpa using hp)
  have h3 := List.all_eq_true.1 h2 n (by simpa using hn)
  simpa [cntOk, hd] using h3
end Go.Proofs.Ytfdfnamkkepbiaa
