/-
  Bits: what a cube's two masks say of a letter.
-/
import Derived.Test.YtebdkmfgfjanoaaCA
import Derived.Test.YtebdkmfgfjanoaaCD
namespace Go.Proofs.Ytebdkmfgfjanoaa

theorem sub_iff {x p : Nat} : x &&& p = p ↔ ∀ i, p.testBit i = true → x.testBit i = true := by
  constructor
  · intro h i hi
    have := congrArg (Nat.testBit · i) h
    simp only [Nat.testBit_and] at this
    rw [hi] at this
    simpa using this
  · intro h
    refine Nat.eq_of_testBit_eq fun i => ?_
    rw [Nat.testBit_and]
    cases hp : p.testBit i with
    | false => simp
    | true => simp [h i hp]
theorem dis_iff {x n : Nat} : x &&& n = 0 ↔ ∀ i, n.testBit i = true → x.testBit i = false := by
  constructor
  · intro h i hi
    have := congrArg (Nat.testBit · i) h
    simp only [Nat.testBit_and, Nat.zero_testBit] at this
    rw [hi] at this
    simpa using this
  · intro h
    refine Nat.eq_of_testBit_eq fun i => ?_
    rw [Nat.testBit_and, Nat.zero_testBit]
    cases hp : n.testBit i with
    | false => simp
    | true => simp [h i hp]
theorem hasB_iff {p n x : Nat} : hasB p n x = true ↔ (∀ i, p.testBit i = true → x.testBit i = true) ∧ ∀ i, n.testBit i = true → x.testBit i = false := by
  simp only [hasB, Bool.and_eq_true, beq_iff_eq, sub_iff, dis_iff]
theorem covB_iff {p n q m : Nat} : covB p n q m = true ↔ (∀ i, p.testBit i = true → q.testBit i = true) ∧ ∀ i, n.testBit i = true → m.testBit i = true := by
  simp only [covB, Bool.and_eq_true, beq_iff_eq]
  rw [Nat.and_comm p q, Nat.and_comm n m, sub_iff, sub_iff]
theorem hasB_or {p n q m x : Nat} : hasB (p ||| q) (n ||| m) x = (hasB p n x && hasB q m x) := by
  rw [Bool.eq_iff_iff, Bool.and_eq_true, hasB_iff, hasB_iff, hasB_iff]
  simp only [Nat.testBit_or, Bool.or_eq_true]
  constructor
  · rintro ⟨h1, h2⟩
    exact ⟨⟨fun i hi => h1 i (.inl hi), fun i hi => h2 i (.inl hi)⟩, fun i hi => h1 i (.inr hi), fun i hi => h2 i (.inr hi)⟩
  · rintro ⟨⟨h1, h2⟩, h3, h4⟩
    exact ⟨fun i hi => hi.elim (h1 i) (h3 i), fun i hi => hi.elim (h2 i) (h4 i)⟩
theorem covB_or_left {p n q m : Nat} : covB p n (p ||| q) (n ||| m) = true := by
  rw [covB_iff]; simp only [Nat.testBit_or]; exact ⟨fun i h => by simp [h], fun i h => by simp [h]⟩
theorem covB_or_right {p n q m : Nat} : covB q m (p ||| q) (n ||| m) = true := by
  rw [covB_iff]; simp only [Nat.testBit_or]; exact ⟨fun i h => by simp [h], fun i h => by simp [h]⟩
/-- a letter of a cube: no variable has both values -/
theorem hasB_disj {p n x : Nat} (h : hasB p n x = true) : p &&& n = 0 := by
  obtain ⟨h1, h2⟩ := hasB_iff.1 h
  rw [dis_iff]
  intro i hi
  cases hp : p.testBit i with
  | false => rfl
  | true => have := h1 i hp; rw [h2 i hi] at this; cases this
end Go.Proofs.Ytebdkmfgfjanoaa
/-
  sentinelref02.Format: the text of a cube, as the reference writes it.
-/
namespace Go.Proofs.Ytebdkmfgfjanoaa
open Go.RowKit

theorem and_two {p j : Nat} : p &&& two j = 0 ↔ p.testBit j = false := by
  rw [dis_iff]
  simp only [two, Nat.testBit_two_pow, decide_eq_true_eq]
  exact ⟨fun h => h j rfl, fun h i e => e ▸ h⟩
theorem chk_zero {p n k : Nat} (hk : k ≤ 6) (h : chk p n k = 0) : p < two k ∧ n < two k ∧ p &&& n = 0 := by
  rw [chk_in hk] at h
  have h1 := two_le_or (k := k) (p := p) (n := n)
  by_cases h2 : two k ≤ p ||| n
  · rw [if_pos h2] at h; cases h
  · rw [if_neg h2] at h
    by_cases h3 : p &&& n = 0
    · exact ⟨by omega, by omega, h3⟩
    · rw [if_pos h3] at h; cases h
theorem small_bit {p k i : Nat} (h : p < two k) (hi : k ≤ i) : p &&& two i = 0 :=
  and_two.2 (Nat.testBit_lt_two_pow (Nat.lt_of_lt_of_le h (Nat.pow_le_pow_right (n := 2) (by omega) hi)))
theorem litTo_stop {p n k : Nat} (hp : p < two k) (hn : n < two k) : ∀ d, litTo p n (k + d) = litTo p n k
  | 0 => rfl
  | d + 1 => by
    have ih := litTo_stop hp hn d
    rw [← Nat.add_assoc, litTo, ih]
    split
    · simp [litAt, small_bit hp (Nat.le_add_right k d), small_bit hn (Nat.le_add_right k d)]
    · simp
theorem lits_valid {p n k : Nat} (hk : k ≤ 6) (h : chk p n k = 0) : lits p n = litTo p n k := by
  obtain ⟨h1, h2, _⟩ := chk_zero hk h
  have := litTo_stop h1 h2 (8 - k)
  rwa [show k + (8 - k) = 8 by omega] at this
theorem bit_test (p j : Nat) : (((p : Int) / 2 ^ j).tmod 2 == 1) = decide (p &&& two j ≠ 0) := by
  have h1 : ((p : Int) / 2 ^ j) = ((p / 2 ^ j : Nat) : Int) := by simp
  rw [h1, Int.tmod_eq_emod_of_nonneg (Int.natCast_nonneg _)]
  have h2 : ((((p / 2 ^ j : Nat) : Int) % 2 == 1)) = decide (p / 2 ^ j % 2 = 1) := by
    rw [Bool.eq_iff_iff]; simp; omega
  rw [h2, ← Nat.testBit_eq_decide_div_mod_eq]
  have h3 := and_two (p := p) (j := j)
  cases hb : p.testBit j with
  | false => rw [hb] at h3; simp [h3.2 rfl]
  | true => rw [hb] at h3; simp; exact fun h => by have := h3.1 h; cases this
/-- string of one new byte -/
theorem conv1 (z : Int) (W : World) : (convert 24 9 (.slice (some ⟨W.heap.size, 0, none⟩) 1 1)).run Try.prog (W.alloc (.cells #[.int .u8 z] 5)) = .ok (.string ⟨#[UInt8.ofNat z.toNat]⟩) (W.alloc (.cells #[.int .u8 z] 5)) := by
  have h := run_convert_bytes_arg (P := Try.prog) (W.alloc (.cells #[.int .u8 z] 5)) 24 5 Try.underlying24 Try.underlying5 W.heap.size 0 1 1 [z] rfl
    (fun i hi => by
      obtain rfl : i = 0 := by omega
      simp [go_sem]) 9 Try.underlying9
  rw [h]
  rfl

end Go.Proofs.Ytebdkmfgfjanoaa
/-
  Letters and Format (the program's and the reference's) for every cube, in one contract each.
-/
namespace Go.Proofs.Ytebdkmfgfjanoaa
open Go.RowKit

/-- the letters and the text of a cube; nothing for an invalid one -/
def letU (p n : Nat) (v : Int) : List Nat := if chk p n v = 0 then letTo p n (two v.toNat) else []
def txtU (p n : Nat) (v : Int) : List UInt8 := if chk p n v = 0 then fmtText p n else []
theorem letU_len (p n : Nat) (v : Int) : (letU p n v).length ≤ 64 := by
  unfold letU
  by_cases h : chk p n v = 0
  · rw [if_pos h]
    have h1 : ¬ (v < 0 ∨ 6 < v) := fun h' => by rw [chk_out h'] at h; cases h
    have := letTo_len p n (two v.toNat)
    have := two_le6 (k := v.toNat) (by omega)
    omega
  · rw [if_neg h]; simp

theorem Rd.later {W : World} {size n : Nat} {A : Option Addr} {xs : List Value} (h : Rd W size A n xs) (x : Later W) : Rd x.1 size A n xs := h.below x.2
end Go.Proofs.Ytebdkmfgfjanoaa
/-
  Plain laws: the literals of a cube, bit by bit.
-/
namespace Go.Proofs.Ytebdkmfgfjanoaa

theorem litTo_succ {p n k : Nat} (h : k < 8) : litTo p n (k + 1) = litTo p n k ++ litAt p n ⟨k, h⟩ := by simp [litTo, h]
theorem litsText_append (l m : List Litl) : litsText (l ++ m) = litsText l ++ litsText m := by simp [litsText]
theorem bit_two {k i : Nat} : (two k).testBit i = decide (k = i) := by simp [two, Nat.testBit_two_pow]
theorem mod_two_bit {p k i : Nat} : (p % two k).testBit i = (decide (i < k) && p.testBit i) := by simp [two, Nat.testBit_mod_two_pow]
theorem mod_succ_zero {p k : Nat} (h : p &&& two k = 0) : p % two (k + 1) = p % two k := by
  have hb := and_two.1 h
  refine Nat.eq_of_testBit_eq fun i => ?_
  rw [mod_two_bit, mod_two_bit]
  rcases Nat.lt_trichotomy i k with h1 | rfl | h1
  · rw [decide_eq_true (by omega : i < k + 1), decide_eq_true h1]
  · rw [hb]; simp
  · rw [decide_eq_false (by omega : ¬ i < k + 1), decide_eq_false (by omega : ¬ i < k)]
theorem mod_succ_one {p k : Nat} (h : ¬ p &&& two k = 0) : p % two (k + 1) = p % two k ||| two k := by
  have hb : p.testBit k = true := by
    cases hx : p.testBit k with
    | true => rfl
    | false => exact absurd (and_two.2 hx) h
  refine Nat.eq_of_testBit_eq fun i => ?_
  rw [Nat.testBit_or, mod_two_bit, mod_two_bit, bit_two]
  rcases Nat.lt_trichotomy i k with h1 | rfl | h1
  · rw [decide_eq_true (by omega : i < k + 1), decide_eq_true h1, decide_eq_false (by omega : ¬ k = i), Bool.or_false]
  · rw [hb]; simp
  · rw [decide_eq_false (by omega : ¬ i < k + 1), decide_eq_false (by omega : ¬ i < k), decide_eq_false (by omega : ¬ k = i)]; rfl
theorem ofNat_ne33 {k : Nat} (h : k < 6) : ¬ UInt8.ofNat (97 + k) = 33 := by
  intro e
  have := congrArg UInt8.toNat e
  simp only [UInt8.toNat_ofNat'] at this
  rw [Nat.mod_eq_of_lt (by omega)] at this
  simp at this
  omega
theorem ofNat_val {k : Nat} (h : k < 6) : (UInt8.ofNat (97 + k)).toNat = 97 + k := by
  simp only [UInt8.toNat_ofNat']
  exact Nat.mod_eq_of_lt (by omega)
/-- reading a positive literal -/
theorem litTo_same {p n q m : Nat} : ∀ k : Nat, (∀ i, i < k → p.testBit i = q.testBit i ∧ n.testBit i = m.testBit i) → litTo p n k = litTo q m k
  | 0, _ => rfl
  | k + 1, h => by
    have hs : ∀ {x y : Nat}, x.testBit k = y.testBit k → (x &&& two k = 0 ↔ y &&& two k = 0) := fun e => by rw [and_two, and_two, e]
    have hk := h k (by omega)
    have h1 := hs hk.1
    have h2 := hs hk.2
    have ih := litTo_same k fun i hi => h i (by omega)
    simp only [litTo, ih, litAt, h1, h2]
theorem bit_small {p k i : Nat} (h : p < two k) (hi : k ≤ i) : p.testBit i = false := and_two.1 (small_bit h hi)
theorem lt_two_of_bits {p k : Nat} (h : ∀ i, k ≤ i → p.testBit i = false) : p < two k := by
  have : p % two k = p := by
    refine Nat.eq_of_testBit_eq fun i => ?_
    rw [mod_two_bit]
    by_cases hi : i < k
    · simp [hi]
    · rw [h i (by omega)]; simp
  have h2 := Nat.mod_lt p (two_pos k)
  omega
theorem or_lt {p k a : Nat} (h : p < two a) (hk : a ≤ k) : p ||| two k < two (k + 1) := by
  refine lt_two_of_bits fun i hi => ?_
  rw [Nat.testBit_or, bit_small h (by omega), bit_two, decide_eq_false (by omega)]; rfl
theorem lt_lift {p k a : Nat} (h : p < two a) (hk : a ≤ k) : p < two k := lt_two_of_bits fun i hi => bit_small h (by omega)
theorem or_dis {p n k a : Nat} (hn : n < two a) (hk : a ≤ k) (hd : p &&& n = 0) : (p ||| two k) &&& n = 0 := by
  rw [dis_iff] at hd ⊢
  intro i hi
  rw [Nat.testBit_or, hd i hi, bit_two]
  have : i ≠ k := fun e => by rw [e, bit_small hn hk] at hi; cases hi
  simp; omega
theorem ofNat_back {c : UInt8} (h : 97 ≤ c.toNat) : UInt8.ofNat (97 + (c.toNat - 97)) = c := by
  rw [show 97 + (c.toNat - 97) = c.toNat by omega]; simp
theorem lit_pos {p n k a : Nat} (hp : p < two a) (hn : n < two a) (ha : a ≤ k) (hk : k < 8) : litsText (litTo (p ||| two k) n (k + 1)) = litsText (litTo p n a) ++ [UInt8.ofNat (97 + k)] := by
  have h1 : litTo (p ||| two k) n k = litTo p n a := by
    rw [litTo_same (q := p) (m := n) k fun i hi => ⟨by rw [Nat.testBit_or, bit_two, decide_eq_false (by omega), Bool.or_false], rfl⟩]
    have := litTo_stop hp hn (k - a)
    rwa [show a + (k - a) = k by omega] at this
  have h2 : ¬ (p ||| two k) &&& two k = 0 := by rw [and_two, Nat.testBit_or, bit_two]; simp
  rw [litTo_succ hk, litsText_append, h1]
  simp [litAt, h2, small_bit hn ha, litsText, litText]
theorem lit_neg {p n k a : Nat} (hp : p < two a) (hn : n < two a) (ha : a ≤ k) (hk : k < 8) : litsText (litTo p (n ||| two k) (k + 1)) = litsText (litTo p n a) ++ [33, UInt8.ofNat (97 + k)] := by
  have h1 : litTo p (n ||| two k) k = litTo p n a := by
    rw [litTo_same (q := p) (m := n) k fun i hi => ⟨rfl, by rw [Nat.testBit_or, bit_two, decide_eq_false (by omega), Bool.or_false]⟩]
    have := litTo_stop hp hn (k - a)
    rwa [show a + (k - a) = k by omega] at this
  have h2 : ¬ (n ||| two k) &&& two k = 0 := by rw [and_two, Nat.testBit_or, bit_two]; simp
  rw [litTo_succ hk, litsText_append, h1]
  simp [litAt, h2, small_bit hp ha, litsText, litText]
theorem chk_of {p n k : Nat} (hk : k ≤ 6) (hp : p < two k) (hn : n < two k) (hd : p &&& n = 0) : chk p n k = 0 := by
  rw [chk_in hk, if_neg (by rw [two_le_or]; omega), if_neg (by simpa using hd)]

end Go.Proofs.Ytebdkmfgfjanoaa
