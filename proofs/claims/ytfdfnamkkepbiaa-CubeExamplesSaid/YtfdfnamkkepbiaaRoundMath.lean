/-
  Plain laws: reading the text of a cube gives the cube, and writing what was read gives the text.
-/
import Derived.Test.YtfdfnamkkepbiaaUses
import Derived.Test.YtfdfnamkkepbiaaParse
namespace Go.Proofs.Ytfdfnamkkepbiaa

theorem litTo_succ {p n k : Nat} (h : k < 8) : litTo p n (k + 1) = litTo p n k ++ litAt p n ⟨k, h⟩ := by simp [litTo, h]
theorem litsText_append (l m : List Litl) : litsText (l ++ m) = litsText l ++ litsText m := by simp [litsText]
theorem bit_two {k i : Nat} : (two k).testBit i = decide (k = i) := by simp [two, Nat.testBit_two_pow]
theorem mod_two_bit {p k i : Nat} : (p % two k).testBit i = (decide (i < k) && p.testBit i) := by simp [two, Nat.testBit_mod_two_pow]
theorem mod_succ_zero {p k : Nat} (h : p &&& two k = 0) : p % two (k + 1) = p % two k := by
  have hb := and_two.1 h
  refine Nat.eq_of_testBit_eq fun i => ?_
  rw [mod_two_bit, mod_two_bit]
  rcases Nat.lt_trichotomy i k with h1 | rfl | h1
  · rw [decide_eq_true (by omega : i < k + 1), decide_eq_true h1]
  · rw [hb]; simp
  · rw [decide_eq_false (by omega : ¬ i < k + 1), decide_eq_false (by omega : ¬ i < k)]
theorem mod_succ_one {p k : Nat} (h : ¬ p &&& two k = 0) : p % two (k + 1) = p % two k ||| two k := by
  have hb : p.testBit k = true := by
    cases hx : p.testBit k with
    | true => rfl
    | false => exact absurd (and_two.2 hx) h
  refine Nat.eq_of_testBit_eq fun i => ?_
  rw [Nat.testBit_or, mod_two_bit, mod_two_bit, bit_two]
  rcases Nat.lt_trichotomy i k with h1 | rfl | h1
  · rw [decide_eq_true (by omega : i < k + 1), decide_eq_true h1, decide_eq_false (by omega : ¬ k = i), Bool.or_false]
  · rw [hb]; simp
  · rw [decide_eq_false (by omega : ¬ i < k + 1), decide_eq_false (by omega : ¬ i < k), decide_eq_false (by omega : ¬ k = i)]; rfl
theorem ofNat_ne33 {k : Nat} (h : k < 6) : ¬ UInt8.ofNat (97 + k) = 33 := by
  intro e
  have := congrArg UInt8.toNat e
  simp only [UInt8.toNat_ofNat'] at this
  rw [Nat.mod_eq_of_lt (by omega)] at this
  simp at this
  omega
theorem ofNat_val {k : Nat} (h : k < 6) : (UInt8.ofNat (97 + k)).toNat = 97 + k := by
  simp only [UInt8.toNat_ofNat']
  exact Nat.mod_eq_of_lt (by omega)
/-- reading a positive literal -/
theorem pGo_pos {k : Nat} (h : k < 6) {la : Int} (hl : la < k) (r : List UInt8) (p n : Nat) : pGo (UInt8.ofNat (97 + k) :: r) la p n = pGo r k (p ||| two k) n := by
  rw [pGo.eq_def]
  simp only [if_neg (ofNat_ne33 h), ofNat_val h]
  rw [if_pos ⟨by omega, by omega, by omega⟩]
  rw [show ((97 + k : Nat) : Int) - 97 = (k : Int) by omega, show 97 + k - 97 = k by omega]
/-- reading a negative one -/
theorem pGo_neg {k : Nat} (h : k < 6) {la : Int} (hl : la < k) (r : List UInt8) (p n : Nat) : pGo (33 :: UInt8.ofNat (97 + k) :: r) la p n = pGo r k p (n ||| two k) := by
  rw [pGo.eq_def]
  simp only [if_true, ofNat_val h]
  rw [if_pos ⟨by omega, by omega, by omega⟩]
  rw [show ((97 + k : Nat) : Int) - 97 = (k : Int) by omega, show 97 + k - 97 = k by omega]

theorem pGo_text {p n : Nat} (hd : p &&& n = 0) : ∀ k : Nat, k ≤ 6 → ∃ la : Int, -1 ≤ la ∧ la < (k : Int) ∧ ∀ r, pGo (litsText (litTo p n k) ++ r) (-1) 0 0 = pGo r la (p % two k) (n % two k)
  | 0, _ => ⟨-1, by omega, by omega, fun r => by simp [litTo, litsText, two, Nat.mod_one]⟩
  | k + 1, hk => by
    obtain ⟨la, h1, h2, h3⟩ := pGo_text hd k (by omega)
    have hk8 : k < 8 := by omega
    by_cases hp : p &&& two k = 0
    · by_cases hn : n &&& two k = 0
      · refine ⟨la, h1, by omega, fun r => ?_⟩
        rw [litTo_succ hk8, litsText_append, List.append_assoc, h3, mod_succ_zero hp, mod_succ_zero hn]
        simp [litAt, hp, hn, litsText]
      · refine ⟨k, by omega, by omega, fun r => ?_⟩
        rw [litTo_succ hk8, litsText_append, List.append_assoc, h3, mod_succ_zero hp, mod_succ_one hn]
        have e : litsText (litAt p n ⟨k, hk8⟩) ++ r = 33 :: UInt8.ofNat (97 + k) :: r := by simp [litAt, hp, hn, litsText, litText]
        rw [e, pGo_neg (by omega) h2]
    · have hn : n &&& two k = 0 := by
        rw [and_two]
        have h4 := dis_iff.1 (by rw [Nat.and_comm]; exact hd : n &&& p = 0) k
        refine h4 ?_
        cases hx : p.testBit k with
        | true => rfl
        | false => exact absurd (and_two.2 hx) hp
      refine ⟨k, by omega, by omega, fun r => ?_⟩
      rw [litTo_succ hk8, litsText_append, List.append_assoc, h3, mod_succ_one hp, mod_succ_zero hn]
      have e : litsText (litAt p n ⟨k, hk8⟩) ++ r = UInt8.ofNat (97 + k) :: r := by simp [litAt, hp, hn, litsText, litText]
      rw [e, pGo_pos (by omega) h2]

theorem parse_format {p n : Nat} {v : Int} (h : chk p n v = 0) : parseV (fmtText p n) v = (p, n, 0) := by
  have h1 : ¬ (v < 0 ∨ 6 < v) := fun h' => by rw [chk_out h'] at h; cases h
  obtain ⟨k, rfl⟩ := Int.eq_ofNat_of_zero_le (show 0 ≤ v by omega)
  have hk : k ≤ 6 := by omega
  obtain ⟨hp, hn, hd⟩ := chk_zero hk h
  obtain ⟨la, hl1, hl2, hg⟩ := pGo_text hd k hk
  have hg := hg []
  rw [List.append_nil, Nat.mod_eq_of_lt hp, Nat.mod_eq_of_lt hn] at hg
  have hlen : (litsText (litTo p n k)).length ≤ 32 := by
    have := litsText_len (litTo p n k); have := litTo_len p n k; omega
  rw [fmtText, lits_valid hk h]
  by_cases he : litsText (litTo p n k) = []
  · rw [if_pos he]
    rw [he] at hg
    simp only [pGo, Option.some.injEq, Prod.mk.injEq] at hg
    obtain ⟨rfl, rfl, _⟩ := hg
    rw [parseV, if_neg h1, if_neg (by simp), if_pos rfl]
  · rw [if_neg he]
    have hs : litsText (litTo p n k) ≠ [42] := by
      intro e
      rw [e] at hg
      simp [pGo] at hg
    rw [parseV, if_neg h1, if_neg (by omega), if_neg hs, if_neg he, hg]
    simp only [pGo]
    rw [if_neg (by omega)]


theorem litTo_same {p n q m : Nat} : ∀ k : Nat, (∀ i, i < k → p.testBit i = q.testBit i ∧ n.testBit i = m.testBit i) → litTo p n k = litTo q m k
  | 0, _ => rfl
  | k + 1, h => by
    have hs : ∀ {x y : Nat}, x.testBit k = y.testBit k → (x &&& two k = 0 ↔ y &&& two k = 0) := fun e => by rw [and_two, and_two, e]
    have hk := h k (by omega)
    have h1 := hs hk.1
    have h2 := hs hk.2
    have ih := litTo_same k fun i hi => h i (by omega)
    simp only [litTo, ih, litAt, h1, h2]
theorem bit_small {p k i : Nat} (h : p < two k) (hi : k ≤ i) : p.testBit i = false := and_two.1 (small_bit h hi)
theorem lt_two_of_bits {p k : Nat} (h : ∀ i, k ≤ i → p.testBit i = false) : p < two k := by
  have : p % two k = p := by
    refine Nat.eq_of_testBit_eq fun i => ?_
    rw [mod_two_bit]
    by_cases hi : i < k
    · simp [hi]
    · rw [h i (by omega)]; simp
  have h2 := Nat.mod_lt p (two_pos k)
  omega
theorem or_lt {p k a : Nat} (h : p < two a) (hk : a ≤ k) : p ||| two k < two (k + 1) := by
  refine lt_two_of_bits fun i hi => ?_
  rw [Nat.testBit_or, bit_small h (by omega), bit_two, decide_eq_false (by omega)]; rfl
theorem lt_lift {p k a : Nat} (h : p < two a) (hk : a ≤ k) : p < two k := lt_two_of_bits fun i hi => bit_small h (by omega)
theorem or_dis {p n k a : Nat} (hn : n < two a) (hk : a ≤ k) (hd : p &&& n = 0) : (p ||| two k) &&& n = 0 := by
  rw [dis_iff] at hd ⊢
  intro i hi
  rw [Nat.testBit_or, hd i hi, bit_two]
  have : i ≠ k := fun e => by rw [e, bit_small hn hk] at hi; cases hi
  simp; omega
theorem ofNat_back {c : UInt8} (h : 97 ≤ c.toNat) : UInt8.ofNat (97 + (c.toNat - 97)) = c := by
  rw [show 97 + (c.toNat - 97) = c.toNat by omega]; simp
theorem lit_pos {p n k a : Nat} (hp : p < two a) (hn : n < two a) (ha : a ≤ k) (hk : k < 8) : litsText (litTo (p ||| two k) n (k + 1)) = litsText (litTo p n a) ++ [UInt8.ofNat (97 + k)] := by
  have h1 : litTo (p ||| two k) n k = litTo p n a := by
    rw [litTo_same (q := p) (m := n) k fun i hi => ⟨by rw [Nat.testBit_or, bit_two, decide_eq_false (by omega), Bool.or_false], rfl⟩]
    have := litTo_stop hp hn (k - a)
    rwa [show a + (k - a) = k by omega] at this
  have h2 : ¬ (p ||| two k) &&& two k = 0 := by rw [and_two, Nat.testBit_or, bit_two]; simp
  rw [litTo_succ hk, litsText_append, h1]
  simp [litAt, h2, small_bit hn ha, litsText, litText]
theorem lit_neg {p n k a : Nat} (hp : p < two a) (hn : n < two a) (ha : a ≤ k) (hk : k < 8) : litsText (litTo p (n ||| two k) (k + 1)) = litsText (litTo p n a) ++ [33, UInt8.ofNat (97 + k)] := by
  have h1 : litTo p (n ||| two k) k = litTo p n a := by
    rw [litTo_same (q := p) (m := n) k fun i hi => ⟨rfl, by rw [Nat.testBit_or, bit_two, decide_eq_false (by omega), Bool.or_false]⟩]
    have := litTo_stop hp hn (k - a)
    rwa [show a + (k - a) = k by omega] at this
  have h2 : ¬ (n ||| two k) &&& two k = 0 := by rw [and_two, Nat.testBit_or, bit_two]; simp
  rw [litTo_succ hk, litsText_append, h1]
  simp [litAt, h2, small_bit hp ha, litsText, litText]

theorem pGo_inv : ∀ (m : Nat) (l : List UInt8), l.length ≤ m → ∀ (la : Int) (p n P N : Nat) (L : Int) (a : Nat), pGo l la p n = some (P, N, L) → (a : Int) = la + 1 → a ≤ 6 → p < two a → n < two a → p &&& n = 0 →
    ∃ A : Nat, (A : Int) = L + 1 ∧ a ≤ A ∧ A ≤ 6 ∧ P < two A ∧ N < two A ∧ P &&& N = 0 ∧ litsText (litTo P N A) = litsText (litTo p n a) ++ l
  | m, [], _, la, p, n, P, N, L, a, h, ha, h6, hp, hn, hd => by
    simp only [pGo, Option.some.injEq, Prod.mk.injEq] at h
    obtain ⟨rfl, rfl, rfl⟩ := h
    exact ⟨a, ha, Nat.le_refl _, h6, hp, hn, hd, by simp⟩
  | 0, c :: r, hm, _, _, _, _, _, _, _, _, _, _, _, _, _ => by simp at hm
  | m + 1, c :: r, hm, la, p, n, P, N, L, a, h, ha, h6, hp, hn, hd => by
    rw [pGo.eq_def] at h
    simp only at h
    by_cases hc : c = 33
    · subst hc
      rw [if_pos rfl] at h
      cases r with
      | nil => cases h
      | cons d r' =>
        simp only at h
        by_cases hg : 97 ≤ d.toNat ∧ d.toNat < 103 ∧ la < (d.toNat : Int) - 97
        · rw [if_pos hg] at h
          obtain ⟨g1, g2, g3⟩ := hg
          have hak : a ≤ d.toNat - 97 := by omega
          obtain ⟨A, q1, q2, q3, q4, q5, q6, q7⟩ := pGo_inv m r' (by simp at hm; omega) _ _ _ _ _ _ (d.toNat - 97 + 1) h (by omega) (by omega) (lt_lift hp (by omega)) (or_lt hn hak) (by rw [Nat.and_comm]; exact or_dis hp hak (by rw [Nat.and_comm]; exact hd))
          refine ⟨A, q1, by omega, q3, q4, q5, q6, ?_⟩
          rw [q7, lit_neg hp hn hak (by omega), ofNat_back g1]; simp
        · rw [if_neg hg] at h; cases h
    · rw [if_neg hc] at h
      by_cases hg : 97 ≤ c.toNat ∧ c.toNat < 103 ∧ la < (c.toNat : Int) - 97
      · rw [if_pos hg] at h
        obtain ⟨g1, g2, g3⟩ := hg
        have hak : a ≤ c.toNat - 97 := by omega
        obtain ⟨A, q1, q2, q3, q4, q5, q6, q7⟩ := pGo_inv m r (by simp at hm; omega) _ _ _ _ _ _ (c.toNat - 97 + 1) h (by omega) (by omega) (or_lt hp hak) (lt_lift hn (by omega)) (or_dis hn hak hd)
        refine ⟨A, q1, by omega, q3, q4, q5, q6, ?_⟩
        rw [q7, lit_pos hp hn hak (by omega), ofNat_back g1]; simp
      · rw [if_neg hg] at h; cases h

theorem chk_of {p n k : Nat} (hk : k ≤ 6) (hp : p < two k) (hn : n < two k) (hd : p &&& n = 0) : chk p n k = 0 := by
  rw [chk_in hk, if_neg (by rw [two_le_or]; omega), if_neg (by simpa using hd)]

/-- what was read: a valid cube whose text is the text -/
theorem format_parse {l : List UInt8} {v : Int} (h : (parseV l v).2.2 = 0) : chk (parseV l v).1 (parseV l v).2.1 v = 0 ∧ fmtText (parseV l v).1 (parseV l v).2.1 = l ∧ (parseV l v).1 < 256 ∧ (parseV l v).2.1 < 256 := by
  unfold parseV at h ⊢
  by_cases h1 : v < 0 ∨ 6 < v
  · rw [if_pos h1] at h; cases h
  rw [if_neg h1] at h ⊢
  obtain ⟨k, rfl⟩ := Int.eq_ofNat_of_zero_le (show 0 ≤ v by omega)
  have hk : k ≤ 6 := by omega
  by_cases h2 : 4096 < l.length
  · rw [if_pos h2] at h; cases h
  rw [if_neg h2] at h ⊢
  by_cases h3 : l = [42]
  · rw [if_pos h3]
    refine ⟨chk_of hk (two_pos k) (two_pos k) rfl, ?_, by show 0 < 256; omega, by show 0 < 256; omega⟩
    rw [h3]; decide
  rw [if_neg h3] at h ⊢
  by_cases h4 : l = []
  · rw [if_pos h4] at h; cases h
  rw [if_neg h4] at h ⊢
  cases hg : pGo l (-1) 0 0 with
  | none => rw [hg] at h; cases h
  | some x =>
    obtain ⟨P, N, L⟩ := x
    rw [hg] at h
    simp only at h ⊢
    by_cases h5 : (k : Int) ≤ L
    · rw [if_pos h5] at h; cases h
    rw [if_neg h5]
    obtain ⟨A, q1, q2, q3, q4, q5, q6, q7⟩ := pGo_inv l.length l (Nat.le_refl _) _ _ _ _ _ _ 0 hg (by omega) (by omega) (two_pos 0) (two_pos 0) rfl
    have hP := lt_lift q4 (show A ≤ k by omega)
    have hN := lt_lift q5 (show A ≤ k by omega)
    have hz : chk P N k = 0 := chk_of hk hP hN q6
    have h64 := two_le6 hk
    refine ⟨hz, ?_, by show P < 256; omega, by show N < 256; omega⟩
    show fmtText P N = l
    have e : litsText (lits P N) = l := by
      rw [lits_valid hk hz]
      have := litTo_stop q4 q5 (k - A)
      rw [show A + (k - A) = k by omega] at this
      rw [this, q7]; simp [litTo, litsText]
    rw [fmtText, e, if_neg h4]
theorem parse_zero {l : List UInt8} {v : Int} (h : (parseV l v).2.2 ≠ 0) : (parseV l v).1 = 0 ∧ (parseV l v).2.1 = 0 := by
  unfold parseV at h ⊢
  split
  · simp
  · split
    · simp
    · split
      · simp
      · split
        · simp
        · rename_i h1 h2 h3 h4
          rw [if_neg h1, if_neg h2, if_neg h3, if_neg h4] at h
          cases hg : pGo l (-1) 0 0 with
          | none => simp
          | some x =>
            obtain ⟨P, N, L⟩ := x
            rw [hg] at h
            simp only at h ⊢
            by_cases h5 : v ≤ L
            · rw [if_pos h5]; simp
            · rw [if_neg h5] at h; exact absurd rfl h
end Go.Proofs.Ytfdfnamkkepbiaa
