/-
  Plain laws for CubePrimes: the prime cubes cover exactly the letters of the list; none covers another; they ascend; no literal can be left out.
-/
import Derived.Test.YtfdfnamkkepbiaaCoverMath
namespace Go.Proofs.Ytfdfnamkkepbiaa

theorem covB_trans {a b c d e f : Nat} (h1 : covB a b c d = true) (h2 : covB c d e f = true) : covB a b e f = true := by
  rw [covB_iff] at *
  exact ⟨fun i h => h2.1 i (h1.1 i h), fun i h => h2.2 i (h1.2 i h)⟩
theorem sub_le {a b : Nat} (h : ∀ i, a.testBit i = true → b.testBit i = true) : a ≤ b := by
  have : a &&& b = a := by
    refine Nat.eq_of_testBit_eq fun i => ?_
    rw [Nat.testBit_and]
    cases ha : a.testBit i with
    | false => rfl
    | true => rw [h i ha]; rfl
  rw [← this]; exact Nat.and_le_right
theorem cov_lt {a b p q : Nat} (h : covB a b p q = true) (hne : (a, b) ≠ (p, q)) : a + b < p + q := by
  rw [covB_iff] at h
  have h1 := sub_le h.1
  have h2 := sub_le h.2
  by_cases e1 : a = p
  · by_cases e2 : b = q
    · exact absurd (by rw [e1, e2]) hne
    · omega
  · omega
theorem mem_primes {l : List Nat} {k : Nat} (hk : k ≤ 6) {c : Nat × Nat} : c ∈ primes l k ↔ c ∈ allC l k ∧ lone (allC l k) c = true := by
  rw [← lone_all hk, List.mem_filter]
/-- above every cube that lies inside there is a prime one -/
theorem prime_above {l : List Nat} {k : Nat} (hk : k ≤ 6) : ∀ (m : Nat) (c : Nat × Nat), c.1 + c.2 ≤ m → c ∈ allC l k → ∃ d ∈ primes l k, covB d.1 d.2 c.1 c.2 = true
  | m, c, hm, hc => by
    cases hl : lone (allC l k) c with
    | true => exact ⟨c, (mem_primes hk).2 ⟨hc, hl⟩, by rw [covB_iff]; exact ⟨fun _ h => h, fun _ h => h⟩⟩
    | false =>
      rw [lone, Bool.not_eq_false', List.any_eq_true] at hl
      obtain ⟨d, hd, hx⟩ := hl
      simp only [Bool.and_eq_true, Bool.not_eq_true', decide_eq_false_iff_not] at hx
      have hlt := cov_lt (a := d.1) (b := d.2) (p := c.1) (q := c.2) hx.2 hx.1
      cases m with
      | zero => omega
      | succ m =>
        obtain ⟨e, he, hcov⟩ := prime_above hk m d (by omega) hd
        exact ⟨e, he, covB_trans hcov hx.2⟩
/-- the cube of one letter -/
theorem letter_cube {l : List Nat} {k x : Nat} (hx : x < two k) (hl : x ∈ l) : (x, (two k - 1) ^^^ x) ∈ allC l k := by
  have hb : ∀ i, ((two k - 1) ^^^ x).testBit i = (decide (i < k) ^^ x.testBit i) := fun i => by rw [Nat.testBit_xor, bit_ones]
  refine mem_allTo.2 ⟨hx, lt_two_of_bits fun i hi => ?_, ?_, ?_⟩
  · simp only
    rw [hb, bit_small hx hi, decide_eq_false (by omega)]; rfl
  · simp only
    rw [dis_iff]
    intro i hi
    rw [hb] at hi
    cases h : x.testBit i with
    | false => rfl
    | true =>
      have hik : i < k := Classical.byContradiction fun h' => by rw [bit_small hx (by omega)] at h; cases h
      rw [h, decide_eq_true hik] at hi; cases hi
  · simp only
    rw [ins_iff]
    intro y hy hh
    have h1 := hasB_iff.1 hh
    have : y = x := by
      refine Nat.eq_of_testBit_eq fun i => ?_
      cases hxi : x.testBit i with
      | true => exact h1.1 i hxi
      | false =>
        by_cases hik : i < k
        · exact h1.2 i (by rw [hb, hxi, decide_eq_true hik]; rfl)
        · exact bit_small hy (by omega)
    rw [this]; exact hl
theorem primes_cover {l : List Nat} {k x : Nat} (hk : k ≤ 6) (hx : x < two k) : ((primes l k).any fun c => hasB c.1 c.2 x) = decide (x ∈ l) := by
  rw [Bool.eq_iff_iff, List.any_eq_true, decide_eq_true_eq]
  constructor
  · rintro ⟨c, hc, hh⟩
    have := (mem_allTo.1 ((mem_primes hk).1 hc).1).2.2.2
    exact ins_iff.1 this x hx hh
  · intro hl
    obtain ⟨d, hd, hcov⟩ := prime_above hk _ (x, (two k - 1) ^^^ x) (Nat.le_refl _) (letter_cube hx hl)
    refine ⟨d, hd, ?_⟩
    rw [covB_iff] at hcov
    refine hasB_iff.2 ⟨fun i hi => hcov.1 i hi, fun i hi => ?_⟩
    have := hcov.2 i hi
    simp only [Nat.testBit_xor, bit_ones] at this
    cases hxi : x.testBit i with
    | false => rfl
    | true =>
      have hik : i < k := Classical.byContradiction fun h' => by rw [bit_small hx (by omega)] at hxi; cases hxi
      rw [hxi, decide_eq_true hik] at this; cases this
theorem primes_apart {l : List Nat} {k : Nat} (hk : k ≤ 6) {c d : Nat × Nat} (hc : c ∈ primes l k) (hd : d ∈ primes l k) (hne : d ≠ c) : covB d.1 d.2 c.1 c.2 = false := by
  have h := ((mem_primes hk).1 hc).2
  rw [lone, Bool.not_eq_true', List.any_eq_false] at h
  have := h d ((mem_primes hk).1 hd).1
  cases hcv : covB d.1 d.2 c.1 c.2 with
  | false => rfl
  | true => exact absurd (by simp [hne, hcv]) this
theorem primes_nodup {l : List Nat} {k : Nat} (hk : k ≤ 6) : (primes l k).Nodup := by
  rw [← lone_all hk]; exact List.Pairwise.filter _ (allTo_nodup l k _)
theorem primes_ok {l : List Nat} {k : Nat} (hk : k ≤ 6) {c : Nat × Nat} (hc : c ∈ primes l k) : c.1 < two k ∧ c.2 < two k ∧ c.1 &&& c.2 = 0 ∧ insL l k c.1 c.2 = true := mem_allTo.1 ((mem_primes hk).1 hc).1
/-- they ascend -/
theorem primes_asc (l : List Nat) (k : Nat) : (primes l k).Pairwise fun a b => a.1 < b.1 ∨ a.1 = b.1 ∧ a.2 < b.2 := by
  have row : ∀ p j, (rowTo l k p j).Pairwise fun a b => a.1 < b.1 ∨ a.1 = b.1 ∧ a.2 < b.2 := fun p j => by
    unfold rowTo
    refine List.Pairwise.map _ (fun a b h => .inr ⟨rfl, h⟩) (List.Pairwise.filter _ List.pairwise_lt_range)
  have first : ∀ i c, c ∈ primesTo l k i → c.1 < i := by
    intro i
    induction i with
    | zero => intro c h; cases h
    | succ i ih =>
      intro c h
      rcases List.mem_append.1 h with h | h
      · have := ih c h; omega
      · unfold rowTo at h; obtain ⟨q, _, rfl⟩ := List.mem_map.1 h; simp
  have key : ∀ i, (primesTo l k i).Pairwise fun a b => a.1 < b.1 ∨ a.1 = b.1 ∧ a.2 < b.2 := by
    intro i
    induction i with
    | zero => exact List.Pairwise.nil
    | succ i ih =>
      simp only [primesTo]
      rw [List.pairwise_append]
      refine ⟨ih, row i _, fun a ha b hb => ?_⟩
      unfold rowTo at hb; obtain ⟨q, _, rfl⟩ := List.mem_map.1 hb
      exact .inl (first i a ha)
  exact key _
/-- leaving a literal out adds a letter that is not in the list -/
theorem primes_max {l : List Nat} {k j : Nat} (hk : k ≤ 6) {c : Nat × Nat} (hc : c ∈ primes l k) (hj : j < 8) (hne : ¬ (clr c.1 j = c.1 ∧ clr c.2 j = c.2)) : ((List.range (two k)).any fun x => hasB (clr c.1 j) (clr c.2 j) x && !decide (x ∈ l)) = true := by
  obtain ⟨h1, h2, h3, _⟩ := primes_ok hk hc
  have h64 := two_le6 hk
  have hall := ((mem_primes hk).1 hc).2
  rw [lone_prime (p := c.1) (q := c.2) hk ((mem_primes hk).1 hc).1, List.all_eq_true] at hall
  have hlit : ∃ b, ((⟨j, hj⟩, b) : Litl) ∈ lits c.1 c.2 := by
    refine Classical.byContradiction fun hno => hne ⟨?_, ?_⟩
    · refine Nat.eq_of_testBit_eq fun i => ?_
      rw [clr_bit (by omega) hj]
      by_cases e : i = j
      · subst e
        cases h : c.1.testBit i with
        | false => rfl
        | true => exact absurd ⟨true, mem_lits.2 (.inl ⟨rfl, h⟩)⟩ hno
      · simp [e]
    · refine Nat.eq_of_testBit_eq fun i => ?_
      rw [clr_bit (by omega) hj]
      by_cases e : i = j
      · subst e
        cases h : c.2.testBit i with
        | false => rfl
        | true => exact absurd ⟨false, mem_lits.2 (.inr ⟨rfl, h⟩)⟩ hno
      · simp [e]
  obtain ⟨b, hb⟩ := hlit
  have hins := hall _ hb
  simp only [Bool.not_eq_true'] at hins
  refine Classical.byContradiction fun hno => ?_
  have : insL l k (clr c.1 j) (clr c.2 j) = true := by
    rw [ins_iff]
    intro x hx hh
    refine Classical.byContradiction fun hxl => hno ?_
    rw [List.any_eq_true]
    exact ⟨x, List.mem_range.2 hx, by simp [hh, hxl]⟩
  rw [this] at hins; cases hins
end Go.Proofs.Ytfdfnamkkepbiaa
