/-
  Plain laws for Cover: the reference's way (all cubes inside, those that no other one covers) and the program's (no literal can be left out) give the same list.
-/
import Derived.Test.YtfdfnamkkepbiaaContMath
namespace Go.Proofs.Ytfdfnamkkepbiaa

theorem okTo_spec {k : Nat} {l : List Nat} (h : okTo k l l.length = true) : (∀ x ∈ l, x < two k) ∧ l.Pairwise (· < ·) := by
  rw [okTo, List.all_eq_true] at h
  have h1 : ∀ i x, l[i]? = some x → x < two k ∧ ∀ y, 0 < i → l[i - 1]? = some y → y < x := by
    intro i x hx
    have hi := (List.getElem?_eq_some_iff.1 hx).1
    have := h i (List.mem_range.2 hi)
    unfold okAt at this
    rw [hx] at this
    simp only [Bool.and_eq_true, decide_eq_true_eq, Bool.or_eq_true, beq_iff_eq] at this
    refine ⟨this.1, fun y hi0 hy => ?_⟩
    rcases this.2 with h0 | h0
    · omega
    · rw [hy] at h0; simpa using h0
  refine ⟨fun x hx => ?_, ?_⟩
  · obtain ⟨i, hi, rfl⟩ := List.getElem_of_mem hx
    exact (h1 i _ (List.getElem?_eq_getElem hi)).1
  · rw [List.pairwise_iff_getElem]
    intro i j hi hj hij
    induction j with
    | zero => omega
    | succ j ih =>
      have hs := (h1 (j + 1) _ (List.getElem?_eq_getElem hj)).2 l[j] (by omega) (by simp)
      by_cases e : i = j
      · subst e; exact hs
      · exact Nat.lt_trans (ih (by omega) (by omega)) hs
theorem sorted_range : ∀ (m : Nat) (l : List Nat), (∀ x ∈ l, x < m) → l.Pairwise (· < ·) → (List.range m).filter (fun x => decide (x ∈ l)) = l
  | 0, l, h, _ => by
    cases l with
    | nil => rfl
    | cons x l => exact absurd (h x (List.mem_cons_self ..)) (by omega)
  | m + 1, l, h, hp => by
    rw [List.range_succ, List.filter_append]
    by_cases hm : m ∈ l
    · obtain ⟨a, b, rfl⟩ := List.append_of_mem hm
      have hb : b = [] := by
        cases b with
        | nil => rfl
        | cons y b =>
          have h1 : m < y := by
            have := (List.pairwise_append.1 hp).2.1
            exact (List.pairwise_cons.1 this).1 y (List.mem_cons_self ..)
          have := h y (by simp)
          omega
      subst hb
      have hpa := (List.pairwise_append.1 hp).1
      have hlt : ∀ x ∈ a, x < m := fun x hx => (List.pairwise_append.1 hp).2.2 x hx m (by simp)
      have e : (List.range m).filter (fun x => decide (x ∈ a ++ [m])) = (List.range m).filter (fun x => decide (x ∈ a)) := by
        refine List.filter_congr fun x hx => ?_
        have : x < m := List.mem_range.1 hx
        simp; omega
      rw [e, sorted_range m a hlt hpa]
      simp
    · have hlt : ∀ x ∈ l, x < m := fun x hx => by
        have := h x hx
        have : x ≠ m := fun e => hm (e ▸ hx)
        omega
      rw [sorted_range m l hlt hp]
      simp [hm]
/-- counting the cube's letters in the list tells whether all of them are there -/
theorem count_inside {k p q : Nat} {l : List Nat} (h : okTo k l l.length = true) : decide ((l.filter (hasB p q ·)).length = (letTo p q (two k)).length) = insL l k p q := by
  obtain ⟨h1, h2⟩ := okTo_spec h
  have e : l.filter (hasB p q ·) = (letTo p q (two k)).filter (fun x => decide (x ∈ l)) := by
    conv => lhs; rw [← sorted_range (two k) l h1 h2]
    unfold letTo
    rw [List.filter_filter, List.filter_filter]
    exact List.filter_congr fun x _ => Bool.and_comm _ _
  rw [e, Bool.eq_iff_iff, decide_eq_true_eq, List.length_filter_eq_length_iff]
  unfold insL insTo letTo
  rw [List.all_eq_true]
  constructor
  · intro h x hx
    by_cases hb : hasB p q x = true
    · have := h x (List.mem_filter.2 ⟨hx, hb⟩)
      simp only [decide_eq_true_eq] at this
      simp [this]
    · simp [hb]
  · intro h x hx
    obtain ⟨hx, hb⟩ := List.mem_filter.1 hx
    have := h x hx
    simpa [hb] using this

/-- the cubes that the reference collects -/
def allRow (l : List Nat) (k p j : Nat) : List (Nat × Nat) := ((List.range j).filter fun q => (p &&& q == 0) && insL l k p q).map fun q => (p, q)
def allTo (l : List Nat) (k : Nat) : Nat → List (Nat × Nat)
  | 0 => []
  | i + 1 => allTo l k i ++ allRow l k i (two k)
def allC (l : List Nat) (k : Nat) : List (Nat × Nat) := allTo l k (two k)
theorem allRow_succ (l : List Nat) (k p j : Nat) : allRow l k p (j + 1) = allRow l k p j ++ if (p &&& j == 0) && insL l k p j then [(p, j)] else [] := by
  simp only [allRow, List.range_succ, List.filter_append, List.filter_cons, List.filter_nil, List.map_append]
  split <;> rfl
theorem allRow_len (l : List Nat) (k p j : Nat) : (allRow l k p j).length ≤ j := by
  have := List.length_filter_le (fun q => (p &&& q == 0) && insL l k p q) (List.range j)
  simpa [allRow] using this
theorem allTo_len (l : List Nat) (k i : Nat) : (allTo l k i).length ≤ i * two k := by
  induction i with
  | zero => simp [allTo]
  | succ i ih =>
    have := allRow_len l k i (two k)
    simp only [allTo, List.length_append, Nat.succ_mul]
    omega
theorem mem_allTo {l : List Nat} {k i : Nat} {c : Nat × Nat} : c ∈ allTo l k i ↔ c.1 < i ∧ c.2 < two k ∧ c.1 &&& c.2 = 0 ∧ insL l k c.1 c.2 = true := by
  induction i with
  | zero => simp [allTo]
  | succ i ih =>
    simp only [allTo, List.mem_append, ih, allRow, List.mem_map, List.mem_filter, List.mem_range, Bool.and_eq_true, beq_iff_eq]
    constructor
    · rintro (h | ⟨q, ⟨h1, h2, h3⟩, rfl⟩)
      · exact ⟨by omega, h.2⟩
      · exact ⟨by simp, h1, h2, h3⟩
    · rintro ⟨h1, h2, h3, h4⟩
      by_cases e : c.1 = i
      · exact .inr ⟨c.2, ⟨h2, by rw [← e]; exact h3, by rw [← e]; exact h4⟩, by rw [← e]⟩
      · exact .inl ⟨by omega, h2, h3, h4⟩
theorem allTo_nodup (l : List Nat) (k : Nat) : ∀ i, (allTo l k i).Nodup
  | 0 => List.nodup_nil
  | i + 1 => by
    simp only [allTo]
    rw [List.nodup_append]
    refine ⟨allTo_nodup l k i, ?_, ?_⟩
    · unfold allRow
      refine List.Pairwise.map _ (fun a b h e => h (by injection e)) (List.Pairwise.filter _ List.nodup_range)
    · intro a ha b hb e
      subst e
      have h1 := (mem_allTo.1 ha).1
      unfold allRow at hb
      obtain ⟨q, _, rfl⟩ := List.mem_map.1 hb
      simp at h1
/-- no other cube of the list covers this one -/
def lone (L : List (Nat × Nat)) (c : Nat × Nat) : Bool := !L.any fun d => !(decide (d = c)) && covB d.1 d.2 c.1 c.2
theorem ins_iff {l : List Nat} {k p q : Nat} : insL l k p q = true ↔ ∀ x, x < two k → hasB p q x = true → x ∈ l := by
  unfold insL insTo
  rw [List.all_eq_true]
  constructor
  · intro h x hx hb
    have := h x (List.mem_range.2 hx)
    simpa [hb] using this
  · intro h x hx
    by_cases hb : hasB p q x = true
    · simp [h x (List.mem_range.1 hx) hb]
    · simp [hb]
theorem clr_bit {p i j : Nat} (hp : p < 256) (hi : i < 8) : (clr p i).testBit j = (p.testBit j && decide (j ≠ i)) := by
  unfold clr
  have h2 : two i < 256 := Nat.pow_lt_pow_right (a := 2) (m := i) (n := 8) (by omega) hi
  have hb : (255 - two i).testBit j = (decide (j < 8) && !(two i).testBit j) := by
    have h := Nat.testBit_two_pow_sub_succ (n := 8) h2 j
    rwa [show 2 ^ 8 - (two i + 1) = 255 - two i by omega] at h
  rw [Nat.testBit_and, hb, bit_two]
  by_cases hj : j < 8
  · simp only [hj, decide_true, Bool.true_and]
    by_cases e : i = j
    · simp [e]
    · have e' : j ≠ i := fun h => e h.symm
      simp [e, e']
  · have hp2 : p.testBit j = false := bit_small (k := 8) (by simpa [two] using hp) (by omega)
    simp [hp2]
theorem mem_lits {p q : Nat} {x : Litl} : x ∈ lits p q ↔ (x.2 = true ∧ p.testBit x.1.val = true) ∨ (x.2 = false ∧ q.testBit x.1.val = true) := by
  have key : ∀ k, k ≤ 8 → (x ∈ litTo p q k ↔ x.1.val < k ∧ ((x.2 = true ∧ p.testBit x.1.val = true) ∨ (x.2 = false ∧ q.testBit x.1.val = true))) := by
    intro k
    induction k with
    | zero => intro _; simp [litTo]
    | succ k ih =>
      intro hk
      rw [litTo_succ (by omega), List.mem_append, ih (by omega)]
      obtain ⟨⟨i, hi⟩, b⟩ := x
      have hp : p &&& two k = 0 ↔ p.testBit k = false := and_two
      have hq : q &&& two k = 0 ↔ q.testBit k = false := and_two
      simp only [litAt, List.mem_append]
      constructor
      · rintro (⟨h1, h2⟩ | h | h)
        · exact ⟨by omega, h2⟩
        · split at h
          · simp at h
          · rename_i h0
            simp only [List.mem_singleton, Prod.mk.injEq, Fin.mk.injEq] at h
            obtain ⟨rfl, rfl⟩ := h
            exact ⟨by simp, .inl ⟨rfl, by simpa [hp] using h0⟩⟩
        · split at h
          · simp at h
          · rename_i h0
            simp only [List.mem_singleton, Prod.mk.injEq, Fin.mk.injEq] at h
            obtain ⟨rfl, rfl⟩ := h
            exact ⟨by simp, .inr ⟨rfl, by simpa [hq] using h0⟩⟩
      · rintro ⟨h1, h2⟩
        by_cases e : i = k
        · subst e
          rcases h2 with ⟨rfl, h2⟩ | ⟨rfl, h2⟩
          · refine .inr (.inl ?_)
            rw [if_neg (by rw [hp]; intro e; rw [e] at h2; cases h2)]; simp
          · refine .inr (.inr ?_)
            rw [if_neg (by rw [hq]; intro e; rw [e] at h2; cases h2)]; simp
        · exact .inl ⟨Nat.lt_of_le_of_ne (Nat.le_of_lt_succ h1) e, h2⟩
  have := key 8 (Nat.le_refl _)
  unfold lits
  rw [this]
  exact ⟨fun h => h.2, fun h => ⟨x.1.2, h⟩⟩
/-- a cube with fewer literals has more letters -/
theorem ins_mono {l : List Nat} {k p q p' q' : Nat} (hc : covB p q p' q' = true) (h : insL l k p q = true) : insL l k p' q' = true := by
  rw [ins_iff] at h ⊢
  intro x hx hb
  rw [covB_iff] at hc
  have h1 := hasB_iff.1 hb
  exact h x hx (hasB_iff.2 ⟨fun i hi => h1.1 i (hc.1 i hi), fun i hi => h1.2 i (hc.2 i hi)⟩)
theorem clr_cov {p q i : Nat} (hp : p < 256) (hq : q < 256) (hi : i < 8) : covB (clr p i) (clr q i) p q = true := by
  rw [covB_iff]
  exact ⟨fun j hj => by rw [clr_bit hp hi] at hj; simp at hj; exact hj.1, fun j hj => by rw [clr_bit hq hi] at hj; simp at hj; exact hj.1⟩
theorem lone_prime {l : List Nat} {k p q : Nat} (hk : k ≤ 6) (hc : (p, q) ∈ allC l k) : lone (allC l k) (p, q) = (lits p q).all fun x => !insL l k (clr p x.1.val) (clr q x.1.val) := by
  obtain ⟨h1, h2, h3, h4⟩ := mem_allTo.1 hc
  simp only at h1 h2 h3 h4
  have h64 := two_le6 hk
  have hp : p < 256 := by omega
  have hq : q < 256 := by omega
  rw [Bool.eq_iff_iff, lone, Bool.not_eq_true', List.any_eq_false, List.all_eq_true]
  constructor
  · intro h x hx
    rw [Bool.not_eq_true']
    cases hi : insL l k (clr p x.1.val) (clr q x.1.val) with
    | false => rfl
    | true =>
      exfalso
      have hx8 : x.1.val < 8 := x.1.2
      have hcp : clr p x.1.val < two k := Nat.lt_of_le_of_lt Nat.and_le_left h1
      have hcq : clr q x.1.val < two k := Nat.lt_of_le_of_lt Nat.and_le_left h2
      have hd : clr p x.1.val &&& clr q x.1.val = 0 := by
        rw [dis_iff]
        intro j hj
        rw [clr_bit hq hx8] at hj
        rw [clr_bit hp hx8]
        simp only [Bool.and_eq_true] at hj
        rw [dis_iff.1 h3 j hj.1]; rfl
      have := h (clr p x.1.val, clr q x.1.val) (mem_allTo.2 ⟨hcp, hcq, hd, hi⟩)
      apply this
      rw [Bool.and_eq_true, clr_cov hp hq hx8, Bool.not_eq_true']
      refine ⟨decide_eq_false fun e => ?_, rfl⟩
      injection e with e1 e2
      rcases mem_lits.1 hx with ⟨_, hb⟩ | ⟨_, hb⟩
      · have := clr_bit (j := x.1.val) hp hx8
        rw [e1, hb] at this; simp at this
      · have := clr_bit (j := x.1.val) hq hx8
        rw [e2, hb] at this; simp at this
  · rintro h ⟨a, b⟩ hab hcov
    rw [Bool.and_eq_true, Bool.not_eq_true', decide_eq_false_iff_not] at hcov
    obtain ⟨hne, hcov⟩ := hcov
    simp only at hcov
    obtain ⟨_, _, _, hins⟩ := mem_allTo.1 hab
    simp only at hins
    have hcov' := covB_iff.1 hcov
    -- some literal of (p, q) is none of (a, b)
    have hlit : ∃ x : Litl, x ∈ lits p q ∧ (x.2 = true → a.testBit x.1.val = false) ∧ (x.2 = false → b.testBit x.1.val = false) := by
      refine Classical.byContradiction fun hno => hne ?_
      have hpa : a = p := by
        refine Nat.eq_of_testBit_eq fun j => ?_
        cases hpj : p.testBit j with
        | true =>
          cases haj : a.testBit j with
          | true => rfl
          | false =>
            have hj8 : j < 8 := Classical.byContradiction fun h8 => by
              rw [bit_small (k := 8) (by simpa [two] using hp) (by omega)] at hpj; cases hpj
            exact (hno ⟨(⟨j, hj8⟩, true), mem_lits.2 (.inl ⟨rfl, hpj⟩), fun _ => haj, fun h => by cases h⟩).elim
        | false =>
          cases haj : a.testBit j with
          | true => rw [hcov'.1 j haj] at hpj; cases hpj
          | false => rfl
      have hqb : b = q := by
        refine Nat.eq_of_testBit_eq fun j => ?_
        cases hqj : q.testBit j with
        | true =>
          cases hbj : b.testBit j with
          | true => rfl
          | false =>
            have hj8 : j < 8 := Classical.byContradiction fun h8 => by
              rw [bit_small (k := 8) (by simpa [two] using hq) (by omega)] at hqj; cases hqj
            exact (hno ⟨(⟨j, hj8⟩, false), mem_lits.2 (.inr ⟨rfl, hqj⟩), fun h => (by cases h), fun _ => hbj⟩).elim
        | false =>
          cases hbj : b.testBit j with
          | true => rw [hcov'.2 j hbj] at hqj; cases hqj
          | false => rfl
      rw [hpa, hqb]
    obtain ⟨x, hx, hxa, hxb⟩ := hlit
    have hx8 : x.1.val < 8 := x.1.2
    have := h x hx
    rw [Bool.not_eq_true'] at this
    have hc2 : covB a b (clr p x.1.val) (clr q x.1.val) = true := by
      rw [covB_iff]
      constructor
      · intro j hj
        rw [clr_bit hp hx8, hcov'.1 j hj]
        simp only [Bool.true_and, decide_eq_true_eq]
        rintro rfl
        rcases mem_lits.1 hx with ⟨ht, _⟩ | ⟨_, hb⟩
        · rw [hxa ht] at hj; cases hj
        · have h7 := hcov'.1 _ hj
          rw [dis_iff.1 h3 _ hb] at h7; cases h7
      · intro j hj
        rw [clr_bit hq hx8, hcov'.2 j hj]
        simp only [Bool.true_and, decide_eq_true_eq]
        rintro rfl
        rcases mem_lits.1 hx with ⟨_, hb⟩ | ⟨ht, _⟩
        · have h7 := hcov'.2 _ hj
          rw [dis_iff.1 h3 _ h7] at hb; cases hb
        · rw [hxb ht] at hj; cases hj
    rw [ins_mono hc2 hins] at this
    cases this
theorem lone_all {l : List Nat} {k : Nat} (hk : k ≤ 6) : (allC l k).filter (lone (allC l k)) = primes l k := by
  have h : (allC l k).filter (lone (allC l k)) = (allC l k).filter fun c => (lits c.1 c.2).all fun x => !insL l k (clr c.1 x.1.val) (clr c.2 x.1.val) :=
    List.filter_congr fun c hc => lone_prime hk hc
  rw [h]
  unfold allC primes
  have key : ∀ i, (allTo l k i).filter (fun c => (lits c.1 c.2).all fun x => !insL l k (clr c.1 x.1.val) (clr c.2 x.1.val)) = primesTo l k i := by
    intro i
    induction i with
    | zero => rfl
    | succ i ih =>
      simp only [allTo, primesTo, List.filter_append, ih]
      congr 1
      unfold allRow rowTo
      rw [List.filter_map, List.filter_filter]
      congr 1
      refine List.filter_congr fun q _ => ?_
      simp only [primeB, Function.comp]
      cases (i &&& q == 0) <;> cases insL l k i q <;> simp
  exact key _
end Go.Proofs.Ytfdfnamkkepbiaa
