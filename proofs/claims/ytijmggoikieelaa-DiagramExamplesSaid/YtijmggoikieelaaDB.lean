/-
  Decision diagrams as lists of nodes: plain law.
-/
import Derived.Test.YtijmggoikieelaaEA
namespace Go.Proofs.Ytijmggoikieelaa
namespace Dg
/-- a node: a leaf with a value, or a test of a variable -/
inductive Nd
  | leaf (c : Int)
  | test (k lo hi : Nat)
  deriving DecidableEq
/-- the low k bits of x, the others of y -/
def mix (k x y : Nat) : Nat := x + y / 2 ^ k * 2 ^ k
def evF (N : List Nd) (y : Nat) : Nat → Nat → Int
  | 0, _ => 0
  | F + 1, r => match N[r]? with
    | some (.leaf c) => c
    | some (.test k lo hi) => evF N y F (if y.testBit k then hi else lo)
    | none => 0
def ev (N : List Nd) (r y : Nat) : Int := evF N y (r + 1) r
def lev (m : Nat) (N : List Nd) (r : Nat) : Nat := match N[r]? with
  | some (.test k _ _) => k
  | _ => m
structure Ok (m : Nat) (N : List Nd) : Prop where
  nodup : N.Nodup
  low : ∀ i k lo hi, N[i]? = some (.test k lo hi) → k < m ∧ lo < i ∧ hi < i ∧ lo ≠ hi ∧ k < lev m N lo ∧ k < lev m N hi
variable {m : Nat} {N : List Nd}
theorem evF_fuel (h : Ok m N) (y : Nat) : ∀ F r, r < F → ∀ G, r < G → evF N y F r = evF N y G r
  | 0, r, hr, _, _ => absurd hr (Nat.not_lt_zero _)
  | F + 1, r, hr, 0, hg => absurd hg (Nat.not_lt_zero _)
  | F + 1, r, hr, G + 1, hg => by
    simp only [evF]
    cases hn : N[r]? with
    | none => rfl
    | some n =>
      cases n with
      | leaf c => rfl
      | test k lo hi =>
        obtain ⟨_, h1, h2, _⟩ := h.low r k lo hi hn
        simp only
        split
        · exact evF_fuel h y F hi (by omega) G (by omega)
        · exact evF_fuel h y F lo (by omega) G (by omega)
theorem ev_leaf {r : Nat} {c : Int} (hn : N[r]? = some (.leaf c)) (y : Nat) : ev N r y = c := by
  simp only [ev, evF, hn]
theorem ev_test (h : Ok m N) {r k lo hi : Nat} (hn : N[r]? = some (.test k lo hi)) (y : Nat) : ev N r y = ev N (if y.testBit k then hi else lo) y := by
  obtain ⟨_, h1, h2, _⟩ := h.low r k lo hi hn
  simp only [ev, evF, hn]
  split
  · exact evF_fuel h y _ _ h2 _ (Nat.lt_succ_self _)
  · exact evF_fuel h y _ _ h1 _ (Nat.lt_succ_self _)
theorem get_app {M : List Nd} {i : Nat} {n : Nd} (h : N[i]? = some n) : (N ++ M)[i]? = some n := by
  rw [List.getElem?_append_left (List.getElem?_eq_some_iff.1 h).1]; exact h
theorem lev_app {M : List Nd} {i : Nat} (h : i < N.length) : lev m (N ++ M) i = lev m N i := by
  unfold lev; rw [List.getElem?_append_left h]
theorem evF_app (h : Ok m N) (M : List Nd) (y : Nat) : ∀ F r, r < N.length → evF (N ++ M) y F r = evF N y F r
  | 0, _, _ => rfl
  | F + 1, r, hr => by
    simp only [evF, List.getElem?_append_left hr]
    cases hn : N[r]? with
    | none => rfl
    | some n =>
      cases n with
      | leaf c => rfl
      | test k lo hi =>
        obtain ⟨_, h1, h2, _⟩ := h.low r k lo hi hn
        simp only
        split
        · exact evF_app h M y F hi (by omega)
        · exact evF_app h M y F lo (by omega)
theorem ev_app (h : Ok m N) (M : List Nd) {r : Nat} (hr : r < N.length) (y : Nat) : ev (N ++ M) r y = ev N r y := evF_app h M y _ r hr
/-- the value depends on the bits from the level on, below m -/
theorem ev_dep (h : Ok m N) {y y' : Nat} : ∀ (r : Nat), r < N.length → (∀ j, lev m N r ≤ j → j < m → y.testBit j = y'.testBit j) → ev N r y = ev N r y' := by
  intro r
  induction r using Nat.strongRecOn with
  | ind r ih =>
    intro hr hb
    obtain ⟨n, hn⟩ : ∃ n, N[r]? = some n := ⟨N[r], List.getElem?_eq_getElem hr⟩
    cases n with
    | leaf c => rw [ev_leaf hn, ev_leaf hn]
    | test k lo hi =>
      obtain ⟨h0, h1, h2, h3, h4, h5⟩ := h.low r k lo hi hn
      have hl : lev m N r = k := by unfold lev; rw [hn]
      rw [hl] at hb
      rw [ev_test h hn, ev_test h hn, hb k (Nat.le_refl _) h0]
      split
      · exact ih hi h2 (by omega) fun j h6 h7 => hb j (by omega) h7
      · exact ih lo h1 (by omega) fun j h6 h7 => hb j (by omega) h7
/-- a bit is set or cleared -/
def setb (y k : Nat) (b : Bool) : Nat := if y.testBit k = b then y else y ^^^ 2 ^ k
theorem setb_bit (y k j : Nat) (b : Bool) : (setb y k b).testBit j = if j = k then b else y.testBit j := by
  unfold setb
  split
  · rename_i h
    split
    · rename_i h2; rw [h2]; exact h
    · rfl
  · rename_i h
    rw [Nat.testBit_xor, Nat.testBit_two_pow]
    by_cases h2 : j = k
    · subst h2
      rw [if_pos rfl, decide_eq_true rfl]
      cases hb : y.testBit j <;> cases b <;> simp_all
    · rw [if_neg h2, decide_eq_false (fun e => h2 e.symm)]; simp
theorem lev_le (h : Ok m N) {r : Nat} : lev m N r ≤ m := by
  unfold lev
  cases hn : N[r]? with
  | none => exact Nat.le_refl _
  | some n =>
    cases n with
    | leaf c => exact Nat.le_refl _
    | test k lo hi => exact Nat.le_of_lt (h.low r k lo hi hn).1
theorem idx_inj (h : N.Nodup) {r s : Nat} {n : Nd} (hr : N[r]? = some n) (hs : N[s]? = some n) : r = s := by
  obtain ⟨h1, e1⟩ := List.getElem?_eq_some_iff.1 hr
  obtain ⟨h2, e2⟩ := List.getElem?_eq_some_iff.1 hs
  exact (List.getElem_inj h).1 (e1.trans e2.symm)
/-- two references with the same values are equal -/
theorem canon (h : Ok m N) : ∀ (n r s : Nat), r < n → s < n → r < N.length → s < N.length → (∀ y, ev N r y = ev N s y) → r = s := by
  intro n
  induction n with
  | zero => intro r s hn; exact absurd hn (Nat.not_lt_zero _)
  | succ n ih =>
    -- one of them tests a variable on which the other does not depend
    have key : ∀ r s k lo hi, r < n + 1 → r < N.length → s < N.length → N[r]? = some (.test k lo hi) → k < lev m N s → (∀ y, ev N r y = ev N s y) → False := by
      intro r s k lo hi hn hr hs hrn hk he
      obtain ⟨h0, h1, h2, h3, h4, h5⟩ := h.low r k lo hi hrn
      apply h3
      refine ih lo hi (by omega) (by omega) (by omega) (by omega) fun y => ?_
      have e1 : ev N lo y = ev N s y := by
        rw [ev_dep h lo (by omega) (y' := setb y k false) (fun j h6 _ => by rw [setb_bit, if_neg (by omega)]),
          ev_dep h s hs (y := y) (y' := setb y k false) (fun j h6 _ => by rw [setb_bit, if_neg (by omega)]), ← he, ev_test h hrn, setb_bit, if_pos rfl]
        rfl
      have e2 : ev N hi y = ev N s y := by
        rw [ev_dep h hi (by omega) (y' := setb y k true) (fun j h6 _ => by rw [setb_bit, if_neg (by omega)]),
          ev_dep h s hs (y := y) (y' := setb y k true) (fun j h6 _ => by rw [setb_bit, if_neg (by omega)]), ← he, ev_test h hrn, setb_bit, if_pos rfl]
        rfl
      rw [e1, e2]
    intro r s hn hn2 hr hs he
    obtain ⟨a, ha⟩ : ∃ n, N[r]? = some n := ⟨N[r], List.getElem?_eq_getElem hr⟩
    obtain ⟨b, hb⟩ : ∃ n, N[s]? = some n := ⟨N[s], List.getElem?_eq_getElem hs⟩
    cases a with
    | leaf c =>
      cases b with
      | leaf d =>
        have := he 0
        rw [ev_leaf ha, ev_leaf hb] at this
        subst this
        exact idx_inj h.nodup ha hb
      | test k lo hi =>
        exact (key s r k lo hi (by omega) hs hr hb (by have := (h.low s k lo hi hb).1; unfold lev; rw [ha]; exact this) fun y => (he y).symm).elim
    | test k lo hi =>
      cases b with
      | leaf d => exact (key r s k lo hi (by omega) hr hs ha (by have := (h.low r k lo hi ha).1; unfold lev; rw [hb]; exact this) he).elim
      | test k' lo' hi' =>
        have hl1 : lev m N r = k := by unfold lev; rw [ha]
        have hl2 : lev m N s = k' := by unfold lev; rw [hb]
        rcases Nat.lt_trichotomy k k' with hk | hk | hk
        · exact (key r s k lo hi (by omega) hr hs ha (by omega) he).elim
        · subst hk
          obtain ⟨h0, h1, h2, h3, h4, h5⟩ := h.low r k lo hi ha
          obtain ⟨g0, g1, g2, g3, g4, g5⟩ := h.low s k lo' hi' hb
          have e1 : lo = lo' := ih lo lo' (by omega) (by omega) (by omega) (by omega) fun y => by
            rw [ev_dep h lo (by omega) (y' := setb y k false) (fun j h6 _ => by rw [setb_bit, if_neg (by omega)]),
              ev_dep h lo' (by omega) (y := y) (y' := setb y k false) (fun j h6 _ => by rw [setb_bit, if_neg (by omega)])]
            have := he (setb y k false)
            rw [ev_test h ha, ev_test h hb, setb_bit, if_pos rfl] at this
            exact this
          have e2 : hi = hi' := ih hi hi' (by omega) (by omega) (by omega) (by omega) fun y => by
            rw [ev_dep h hi (by omega) (y' := setb y k true) (fun j h6 _ => by rw [setb_bit, if_neg (by omega)]),
              ev_dep h hi' (by omega) (y := y) (y' := setb y k true) (fun j h6 _ => by rw [setb_bit, if_neg (by omega)])]
            have := he (setb y k true)
            rw [ev_test h ha, ev_test h hb, setb_bit, if_pos rfl] at this
            exact this
          subst e1 e2
          exact idx_inj h.nodup ha hb
        · exact (key s r k' lo' hi' (by omega) hs hr hb (by omega) fun y => (he y).symm).elim
theorem ev_mod (h : Ok m N) {r : Nat} (hr : r < N.length) (y : Nat) : ev N r (y % 2 ^ m) = ev N r y :=
  ev_dep h r hr fun j _ hj => by rw [Nat.testBit_mod_two_pow, decide_eq_true hj, Bool.true_and]
theorem canon' (h : Ok m N) {r s : Nat} (hr : r < N.length) (hs : s < N.length) (he : ∀ y, y < 2 ^ m → ev N r y = ev N s y) : r = s :=
  canon h (r + s + 1) r s (by omega) (by omega) hr hs fun y => by
    rw [← ev_mod h hr, ← ev_mod h hs]
    exact he _ (Nat.mod_lt _ (Nat.two_pow_pos m))
theorem mix_zero (y : Nat) : mix 0 0 y = y := by simp [mix]
theorem bit_div (y k : Nat) : y / 2 ^ k = 2 * (y / 2 ^ (k + 1)) + (if y.testBit k then 1 else 0) := by
  have h1 : y / 2 ^ (k + 1) = y / 2 ^ k / 2 := by rw [Nat.pow_succ, Nat.div_div_eq_div_mul]
  have h2 : y.testBit k = decide (y / 2 ^ k % 2 = 1) := by rw [Nat.testBit_eq_decide_div_mod_eq]
  rw [h1, h2]
  by_cases h : y / 2 ^ k % 2 = 1
  · rw [decide_eq_true h, if_pos rfl]; omega
  · rw [decide_eq_false h, if_neg (by decide)]; omega
theorem mix_split (k x y : Nat) : mix k x y = if y.testBit k then mix (k + 1) (x + 2 ^ k) y else mix (k + 1) x y := by
  have h := bit_div y k
  unfold mix
  generalize y / 2 ^ (k + 1) = q at h ⊢
  rw [h, Nat.pow_succ]
  generalize 2 ^ k = p
  have : q * (p * 2) = 2 * q * p := by rw [Nat.mul_comm p 2, ← Nat.mul_assoc, Nat.mul_comm q 2]
  split
  · rw [Nat.add_mul, Nat.one_mul]; omega
  · rw [Nat.add_zero]; omega
theorem mix_top {k x y : Nat} (h : y < 2 ^ k) : mix k x y = x := by
  unfold mix; rw [Nat.div_eq_of_lt h]; simp
/-- the number of a node: its own, if it is there, else the next one -/
def add (N : List Nd) (n : Nd) : Nat × List Nd := if n ∈ N then (N.idxOf n, N) else (N.length, N ++ [n])
theorem add_at (N : List Nd) (n : Nd) : (add N n).2[(add N n).1]? = some n := by
  unfold add
  split
  · rename_i h
    have h1 := List.idxOf_lt_length_of_mem h
    rw [List.getElem?_eq_getElem h1, List.getElem_idxOf h1]
  · simp
theorem add_ext (N : List Nd) (n : Nd) : (add N n).2 = N ∨ ((add N n).2 = N ++ [n] ∧ (add N n).1 = N.length ∧ n ∉ N) := by
  unfold add
  split
  · exact .inl rfl
  · rename_i h; exact .inr ⟨rfl, rfl, h⟩
theorem Ok.snoc (h : Ok m N) {n : Nd} (hn : n ∉ N) (hl : ∀ k lo hi, n = .test k lo hi → k < m ∧ lo < N.length ∧ hi < N.length ∧ lo ≠ hi ∧ k < lev m N lo ∧ k < lev m N hi) : Ok m (N ++ [n]) where
  nodup := by
    rw [List.nodup_append]
    refine ⟨h.nodup, by simp, fun a ha b hb => ?_⟩
    rw [List.mem_singleton.1 hb]
    exact fun e => hn (e ▸ ha)
  low := fun i k lo hi hi' => by
    by_cases hlt : i < N.length
    · rw [List.getElem?_append_left hlt] at hi'
      obtain ⟨h0, h1, h2, h3, h4, h5⟩ := h.low i k lo hi hi'
      rw [lev_app (by omega), lev_app (by omega)]
      exact ⟨h0, h1, h2, h3, h4, h5⟩
    · rw [List.getElem?_append_right (by omega)] at hi'
      have hz : i - N.length = 0 := by
        have := (List.getElem?_eq_some_iff.1 hi').1
        simp at this; omega
      rw [hz] at hi'
      simp at hi'
      obtain ⟨h0, h1, h2, h3, h4, h5⟩ := hl k lo hi hi'
      rw [lev_app h1, lev_app h2]
      exact ⟨h0, by omega, by omega, h3, h4, h5⟩
theorem add_ok (h : Ok m N) {n : Nd} (hl : ∀ k lo hi, n = .test k lo hi → k < m ∧ lo < N.length ∧ hi < N.length ∧ lo ≠ hi ∧ k < lev m N lo ∧ k < lev m N hi) : Ok m (add N n).2 := by
  rcases add_ext N n with e | ⟨e, _, hn⟩
  · rw [e]; exact h
  · rw [e]; exact h.snoc hn hl
/-- the diagram of a function below a path -/
def bld (f : Nat → Int) : Nat → Nat → Nat → List Nd → Nat × List Nd
  | 0, _, x, N => add N (.leaf (f x))
  | d + 1, k, x, N =>
    if (bld f d (k + 1) x N).1 = (bld f d (k + 1) (x + 2 ^ k) (bld f d (k + 1) x N).2).1 then ((bld f d (k + 1) x N).1, (bld f d (k + 1) (x + 2 ^ k) (bld f d (k + 1) x N).2).2)
    else add (bld f d (k + 1) (x + 2 ^ k) (bld f d (k + 1) x N).2).2 (.test k (bld f d (k + 1) x N).1 (bld f d (k + 1) (x + 2 ^ k) (bld f d (k + 1) x N).2).1)
structure Bl (m : Nat) (f : Nat → Int) (k x : Nat) (N : List Nd) (r : Nat) (N' : List Nd) : Prop where
  ext : ∃ M, N' = N ++ M
  ok : Ok m N'
  lt : r < N'.length
  le : k ≤ lev m N' r
  val : ∀ y, y < 2 ^ m → ev N' r y = f (mix k x y)
  new : ∀ i, N.length ≤ i → i < N'.length → ∃ k' x', k ≤ k' ∧ k' ≤ m ∧ x' < 2 ^ k' ∧ x' % 2 ^ k = x ∧ ∀ y, y < 2 ^ m → ev N' i y = f (mix k' x' y)
  all : ∀ k' x', k ≤ k' → k' ≤ m → x' < 2 ^ k' → x' % 2 ^ k = x → ∃ i, i < N'.length ∧ ∀ y, y < 2 ^ m → ev N' i y = f (mix k' x' y)
theorem mod_split {x' k x : Nat} (h : x' % 2 ^ k = x) : x' % 2 ^ (k + 1) = x ∨ x' % 2 ^ (k + 1) = x + 2 ^ k := by
  rw [Nat.pow_succ, Nat.mod_mul, h]
  rcases Nat.mod_two_eq_zero_or_one (x' / 2 ^ k) with h | h <;> rw [h] <;> simp
theorem mod_back {x' k x : Nat} (hx : x < 2 ^ k) (h : x' % 2 ^ (k + 1) = x ∨ x' % 2 ^ (k + 1) = x + 2 ^ k) : x' % 2 ^ k = x := by
  have : x' % 2 ^ k = x' % 2 ^ (k + 1) % 2 ^ k := by rw [Nat.mod_mod_of_dvd]; exact ⟨2, Nat.pow_succ ..⟩
  rw [this]
  rcases h with h | h <;> rw [h]
  · exact Nat.mod_eq_of_lt hx
  · rw [Nat.add_mod_right]; exact Nat.mod_eq_of_lt hx
theorem bld_ok (f : Nat → Int) : ∀ (d k x : Nat) (N : List Nd), d + k = m → x < 2 ^ k → Ok m N → Bl m f k x N (bld f d k x N).1 (bld f d k x N).2
  | 0, k, x, N, hk, hx, h => by
    obtain rfl : k = m := by omega
    have ha := add_at N (.leaf (f x))
    have hlt := (List.getElem?_eq_some_iff.1 ha).1
    have hv : ∀ y, y < 2 ^ k → ev (add N (.leaf (f x))).2 (add N (.leaf (f x))).1 y = f (mix k x y) := fun y hy => by
      rw [ev_leaf ha, mix_top hy]
    have hok : Ok k (add N (.leaf (f x))).2 := add_ok h fun _ _ _ e => by cases e
    have hext := add_ext N (.leaf (f x))
    refine ⟨?_, hok, hlt, ?_, hv, fun i h1 h2 => ?_, fun k' x' h1 h2 h3 h4 => ?_⟩
    · rcases hext with e | ⟨e, _⟩
      · exact ⟨[], by rw [List.append_nil]; exact e⟩
      · exact ⟨_, e⟩
    · show k ≤ lev k (add N (.leaf (f x))).2 (add N (.leaf (f x))).1
      unfold lev; rw [ha]; exact Nat.le_refl _
    · rcases hext with e | ⟨e, e2, _⟩
      · have h2 : i < (add N (.leaf (f x))).2.length := h2
        rw [e] at h2; omega
      · have h2' : i < (add N (.leaf (f x))).2.length := h2
        rw [e] at h2'; simp at h2'
        obtain rfl : i = (add N (.leaf (f x))).1 := by omega
        exact ⟨k, x, Nat.le_refl _, Nat.le_refl _, hx, Nat.mod_eq_of_lt hx, hv⟩
    · obtain rfl : k' = k := by omega
      rw [Nat.mod_eq_of_lt h3] at h4
      subst h4
      exact ⟨_, hlt, hv⟩
  | d + 1, k, x, N, hk, hx, h => by
    have hx2 : x + 2 ^ k < 2 ^ (k + 1) := by rw [Nat.pow_succ]; omega
    have hx1 : x < 2 ^ (k + 1) := by omega
    have h1 := bld_ok f d (k + 1) x N (by omega) hx1 h
    rw [bld]
    generalize bld f d (k + 1) x N = p at h1 ⊢
    obtain ⟨lo, N1⟩ := p
    have h2 := bld_ok f d (k + 1) (x + 2 ^ k) N1 (by omega) hx2 h1.ok
    simp only at h2 ⊢
    generalize bld f d (k + 1) (x + 2 ^ k) N1 = q at h2 ⊢
    obtain ⟨hi, N2⟩ := q
    simp only at h1 h2 ⊢
    obtain ⟨M1, e1⟩ := h1.ext
    obtain ⟨M2, e2⟩ := h2.ext
    have hlo : lo < N2.length := by rw [e2, List.length_append]; have := h1.lt; omega
    have hN1 : N1.length ≤ N2.length := by rw [e2, List.length_append]; omega
    have hN0 : N.length ≤ N1.length := by rw [e1, List.length_append]; omega
    have hev : ∀ i, i < N1.length → ∀ y, ev N2 i y = ev N1 i y := fun i hi y => by rw [e2]; exact ev_app h1.ok M2 hi y
    have hll : lev m N2 lo = lev m N1 lo := by rw [e2]; exact lev_app h1.lt
    have hvlo : ∀ y, y < 2 ^ m → ev N2 lo y = f (mix (k + 1) x y) := fun y hy => by rw [hev lo h1.lt]; exact h1.val y hy
    have hnew : ∀ i, N.length ≤ i → i < N2.length → ∃ k' x', k ≤ k' ∧ k' ≤ m ∧ x' < 2 ^ k' ∧ x' % 2 ^ k = x ∧ ∀ y, y < 2 ^ m → ev N2 i y = f (mix k' x' y) := fun i g1 g2 => by
      by_cases g3 : i < N1.length
      · obtain ⟨k', x', a1, a2, a3, a4, a5⟩ := h1.new i g1 g3
        exact ⟨k', x', by omega, a2, a3, mod_back hx (.inl a4), fun y hy => by rw [hev i g3]; exact a5 y hy⟩
      · obtain ⟨k', x', a1, a2, a3, a4, a5⟩ := h2.new i (by omega) g2
        exact ⟨k', x', by omega, a2, a3, mod_back hx (.inr a4), a5⟩
    have hall : ∀ k' x', k + 1 ≤ k' → k' ≤ m → x' < 2 ^ k' → x' % 2 ^ k = x → ∃ i, i < N2.length ∧ ∀ y, y < 2 ^ m → ev N2 i y = f (mix k' x' y) := fun k' x' g1 g2 g3 g4 => by
      rcases mod_split g4 with g5 | g5
      · obtain ⟨i, a1, a2⟩ := h1.all k' x' g1 g2 g3 g5
        exact ⟨i, by omega, fun y hy => by rw [hev i a1]; exact a2 y hy⟩
      · exact h2.all k' x' g1 g2 g3 g5
    by_cases hlh : lo = hi
    · rw [if_pos hlh]
      have hv : ∀ y, y < 2 ^ m → ev N2 lo y = f (mix k x y) := fun y hy => by
        rw [mix_split]
        split
        · rw [hlh]; exact h2.val y hy
        · exact hvlo y hy
      refine ⟨⟨M1 ++ M2, by rw [e2, e1, List.append_assoc]⟩, h2.ok, hlo, ?_, hv, hnew, fun k' x' g1 g2 g3 g4 => ?_⟩
      · show k ≤ lev m N2 lo
        have := h1.le; omega
      · by_cases g5 : k' = k
        · subst g5
          rw [Nat.mod_eq_of_lt g3] at g4
          subst g4
          exact ⟨lo, hlo, hv⟩
        · exact hall k' x' (by omega) g2 g3 g4
    · rw [if_neg hlh]
      have hn : ∀ k' lo' hi', Nd.test k lo hi = .test k' lo' hi' → k' < m ∧ lo' < N2.length ∧ hi' < N2.length ∧ lo' ≠ hi' ∧ k' < lev m N2 lo' ∧ k' < lev m N2 hi' := fun k' lo' hi' e => by
        cases e
        have := h1.le
        have := h2.le
        exact ⟨by omega, hlo, h2.lt, hlh, by omega, by omega⟩
      have ha := add_at N2 (.test k lo hi)
      have hlt := (List.getElem?_eq_some_iff.1 ha).1
      have hok : Ok m (add N2 (.test k lo hi)).2 := add_ok h2.ok hn
      have hext := add_ext N2 (.test k lo hi)
      generalize add N2 (.test k lo hi) = s at ha hlt hok hext ⊢
      obtain ⟨r, N3⟩ := s
      simp only at ha hlt hok hext ⊢
      obtain ⟨M3, e3⟩ : ∃ M, N3 = N2 ++ M := by
        rcases hext with e | ⟨e, _⟩
        · exact ⟨[], by rw [List.append_nil]; exact e⟩
        · exact ⟨_, e⟩
      have hN2 : N2.length ≤ N3.length := by rw [e3, List.length_append]; omega
      have hev3 : ∀ i, i < N2.length → ∀ y, ev N3 i y = ev N2 i y := fun i hi y => by rw [e3]; exact ev_app h2.ok M3 hi y
      have hv : ∀ y, y < 2 ^ m → ev N3 r y = f (mix k x y) := fun y hy => by
        rw [ev_test hok ha, mix_split]
        split
        · rw [hev3 hi h2.lt]; exact h2.val y hy
        · rw [hev3 lo hlo]; exact hvlo y hy
      refine ⟨⟨M1 ++ M2 ++ M3, by rw [e3, e2, e1]; simp [List.append_assoc]⟩, hok, hlt, ?_, hv, fun i g1 g2 => ?_, fun k' x' g1 g2 g3 g4 => ?_⟩
      · show k ≤ lev m N3 r
        unfold lev; rw [ha]; exact Nat.le_refl _
      · by_cases g3 : i < N2.length
        · obtain ⟨k', x', a1, a2, a3, a4, a5⟩ := hnew i g1 g3
          exact ⟨k', x', a1, a2, a3, a4, fun y hy => by rw [hev3 i g3]; exact a5 y hy⟩
        · have hir : i = r := by
            rcases hext with e | ⟨e, e4, _⟩
            · subst e; exact absurd g2 g3
            · subst e; simp at g2; omega
          subst hir
          exact ⟨k, x, Nat.le_refl _, by omega, hx, Nat.mod_eq_of_lt hx, hv⟩
      · by_cases g5 : k' = k
        · subst g5
          rw [Nat.mod_eq_of_lt g3] at g4
          subst g4
          exact ⟨r, hlt, hv⟩
        · obtain ⟨i, a1, a2⟩ := hall k' x' (by omega) g2 g3 g4
          exact ⟨i, by omega, fun y hy => by rw [hev3 i a1]; exact a2 y hy⟩
theorem nodup_len {α : Type} [DecidableEq α] : ∀ {l l' : List α}, l.Nodup → (∀ a, a ∈ l → a ∈ l') → l.length ≤ l'.length
  | [], _, _, _ => Nat.zero_le _
  | a :: l, l', h, hs => by
    have ha := hs a (List.mem_cons_self ..)
    rw [List.nodup_cons] at h
    have h1 := nodup_len (l' := l'.erase a) h.2 fun b hb => by
      have : b ≠ a := fun e => h.1 (e ▸ hb)
      exact (List.mem_erase_of_ne this).2 (hs b (List.mem_cons_of_mem _ hb))
    rw [List.length_erase_of_mem ha] at h1
    have := List.length_pos_of_mem ha
    simp only [List.length_cons]; omega
theorem nodup_len_eq {α : Type} [DecidableEq α] {l l' : List α} (h : l.Nodup) (h' : l'.Nodup) (hs : ∀ a, a ∈ l ↔ a ∈ l') : l.length = l'.length :=
  Nat.le_antisymm (nodup_len h fun a => (hs a).1) (nodup_len h' fun a => (hs a).2)
/-! the reference's list of functions -/
def fixT (m : Nat) (t : List Int) (k x : Nat) : List Int := (List.range (2 ^ m)).map fun y => t.getD (mix k x y) 0
def dd (out : List (List Int)) (t : List Int) : List (List Int) := if t ∈ out then out else out ++ [t]
def ddX (m : Nat) (t : List Int) (k : Nat) (out : List (List Int)) (x : Nat) : List (List Int) := ((List.range x).map (fixT m t k)).foldl dd out
def ddK (m : Nat) (t : List Int) (out : List (List Int)) (k : Nat) : List (List Int) := (List.range k).foldl (fun out k => ddX m t k out (2 ^ k)) out
def ddT (m : Nat) (out : List (List Int)) (tabs : List (List Int)) : List (List Int) := tabs.foldl (fun out t => ddK m t out (m + 1)) out
theorem dd_nodup {out : List (List Int)} {t : List Int} (h : out.Nodup) : (dd out t).Nodup := by
  unfold dd
  split
  · exact h
  · rename_i hn
    rw [List.nodup_append]
    refine ⟨h, by simp, fun a ha b hb => ?_⟩
    rw [List.mem_singleton.1 hb]
    exact fun e => hn (e ▸ ha)
theorem dd_mem {out : List (List Int)} {t z : List Int} : z ∈ dd out t ↔ z ∈ out ∨ z = t := by
  unfold dd
  split
  · rename_i h; exact ⟨.inl, fun h' => h'.elim id fun e => e ▸ h⟩
  · simp
theorem foldl_dd_nodup : ∀ (l : List (List Int)) {out : List (List Int)}, out.Nodup → (l.foldl dd out).Nodup
  | [], _, h => h
  | _ :: l, _, h => foldl_dd_nodup l (dd_nodup h)
theorem foldl_dd_mem {z : List Int} : ∀ (l : List (List Int)) {out : List (List Int)}, z ∈ l.foldl dd out ↔ z ∈ out ∨ z ∈ l
  | [], out => by simp
  | t :: l, out => by rw [List.foldl_cons, foldl_dd_mem l, dd_mem, List.mem_cons, or_assoc]
theorem ddX_succ (m : Nat) (t : List Int) (k : Nat) (out : List (List Int)) (x : Nat) : ddX m t k out (x + 1) = dd (ddX m t k out x) (fixT m t k x) := by
  simp [ddX, List.range_succ]
theorem ddK_succ (m : Nat) (t : List Int) (out : List (List Int)) (k : Nat) : ddK m t out (k + 1) = ddX m t k (ddK m t out k) (2 ^ k) := by
  simp [ddK, List.range_succ]
theorem ddT_snoc (m : Nat) (out : List (List Int)) (tabs : List (List Int)) (t : List Int) : ddT m out (tabs ++ [t]) = ddK m t (ddT m out tabs) (m + 1) := by
  simp [ddT]
theorem ddX_nodup {t : List Int} {k x : Nat} {out : List (List Int)} (h : out.Nodup) : (ddX m t k out x).Nodup := foldl_dd_nodup _ h
theorem ddX_mem {t z : List Int} {k x : Nat} {out : List (List Int)} : z ∈ ddX m t k out x ↔ z ∈ out ∨ ∃ x', x' < x ∧ z = fixT m t k x' := by
  unfold ddX
  rw [foldl_dd_mem, List.mem_map]
  constructor
  · rintro (h | ⟨a, h1, h2⟩)
    · exact .inl h
    · exact .inr ⟨a, List.mem_range.1 h1, h2.symm⟩
  · rintro (h | ⟨a, h1, h2⟩)
    · exact .inl h
    · exact .inr ⟨a, List.mem_range.2 h1, h2.symm⟩
theorem ddK_nodup {t : List Int} {out : List (List Int)} (h : out.Nodup) : ∀ k, (ddK m t out k).Nodup
  | 0 => h
  | k + 1 => by rw [ddK_succ]; exact ddX_nodup (ddK_nodup h k)
theorem ddK_mem {t z : List Int} {out : List (List Int)} : ∀ k, z ∈ ddK m t out k ↔ z ∈ out ∨ ∃ k' x, k' < k ∧ x < 2 ^ k' ∧ z = fixT m t k' x
  | 0 => by simp [ddK]
  | k + 1 => by
    rw [ddK_succ, ddX_mem, ddK_mem k]
    constructor
    · rintro ((h | ⟨k', x, h1, h2, h3⟩) | ⟨x, h1, h2⟩)
      · exact .inl h
      · exact .inr ⟨k', x, by omega, h2, h3⟩
      · exact .inr ⟨k, x, by omega, h1, h2⟩
    · rintro (h | ⟨k', x, h1, h2, h3⟩)
      · exact .inl (.inl h)
      · by_cases e : k' = k
        · subst e; exact .inr ⟨x, h2, h3⟩
        · exact .inl (.inr ⟨k', x, by omega, h2, h3⟩)
theorem ddT_nodup : ∀ (tabs : List (List Int)) {out : List (List Int)}, out.Nodup → (ddT m out tabs).Nodup
  | [], _, h => h
  | _ :: l, _, h => ddT_nodup l (ddK_nodup h _)
theorem ddT_mem {z : List Int} : ∀ (tabs : List (List Int)) {out : List (List Int)}, z ∈ ddT m out tabs ↔ z ∈ out ∨ ∃ t k x, t ∈ tabs ∧ k ≤ m ∧ x < 2 ^ k ∧ z = fixT m t k x
  | [], out => by simp [ddT]
  | t :: l, out => by
    show z ∈ ddT m (ddK m t out (m + 1)) l ↔ _
    rw [ddT_mem l, ddK_mem]
    constructor
    · rintro ((h | ⟨k, x, h1, h2, h3⟩) | ⟨t', k, x, h1, h2, h3, h4⟩)
      · exact .inl h
      · exact .inr ⟨t, k, x, List.mem_cons_self .., by omega, h2, h3⟩
      · exact .inr ⟨t', k, x, List.mem_cons_of_mem _ h1, h2, h3, h4⟩
    · rintro (h | ⟨t', k, x, h1, h2, h3, h4⟩)
      · exact .inl (.inl h)
      · rcases List.mem_cons.1 h1 with rfl | h1
        · exact .inl (.inr ⟨k, x, by omega, h3, h4⟩)
        · exact .inr ⟨t', k, x, h1, h2, h3, h4⟩
/-! a store and its tables -/
structure Inv (m : Nat) (N : List Nd) (tabs : List (List Int)) : Prop where
  ok : Ok m N
  each : ∀ i, i < N.length → ∃ t k x, t ∈ tabs ∧ k ≤ m ∧ x < 2 ^ k ∧ ∀ y, y < 2 ^ m → ev N i y = t.getD (mix k x y) 0
  all : ∀ t k x, t ∈ tabs → k ≤ m → x < 2 ^ k → ∃ i, i < N.length ∧ ∀ y, y < 2 ^ m → ev N i y = t.getD (mix k x y) 0
def tabOf (m : Nat) (N : List Nd) (i : Nat) : List Int := (List.range (2 ^ m)).map (ev N i)
theorem tabOf_fix {t : List Int} {k x i : Nat} : tabOf m N i = fixT m t k x ↔ ∀ y, y < 2 ^ m → ev N i y = t.getD (mix k x y) 0 := by
  unfold tabOf fixT
  constructor
  · intro h y hy
    have := congrArg (fun l => l[y]?) h
    simpa [hy] using this
  · intro h
    exact List.map_congr_left fun y hy => h y (List.mem_range.1 hy)
theorem tabOf_inj (h : Ok m N) {i j : Nat} (hi : i < N.length) (hj : j < N.length) (e : tabOf m N i = tabOf m N j) : i = j := by
  refine canon' h hi hj fun y hy => ?_
  have := congrArg (fun l => l[y]?) e
  simpa [tabOf, hy] using this
theorem nodup_tabs (h : Ok m N) : ((List.range N.length).map (tabOf m N)).Nodup := by
  have key : ∀ l : List Nat, l.Nodup → (∀ i ∈ l, i < N.length) → (l.map (tabOf m N)).Nodup := by
    intro l
    induction l with
    | nil => intro _ _; exact List.nodup_nil
    | cons a l ih =>
      intro hn hl
      rw [List.nodup_cons] at hn
      rw [List.map_cons, List.nodup_cons]
      refine ⟨fun hm => ?_, ih hn.2 fun i hi => hl i (List.mem_cons_of_mem _ hi)⟩
      obtain ⟨b, hb, e⟩ := List.mem_map.1 hm
      have := tabOf_inj h (hl b (List.mem_cons_of_mem _ hb)) (hl a (List.mem_cons_self ..)) e
      exact hn.1 (this ▸ hb)
  exact key _ List.nodup_range fun i hi => List.mem_range.1 hi
theorem Inv.count {tabs : List (List Int)} (h : Inv m N tabs) : N.length = (ddT m [] tabs).length := by
  have := nodup_len_eq (nodup_tabs h.ok) (ddT_nodup (m := m) tabs List.nodup_nil) fun z => by
    rw [ddT_mem, List.mem_map]
    constructor
    · rintro ⟨i, hi, rfl⟩
      obtain ⟨t, k, x, h1, h2, h3, h4⟩ := h.each i (List.mem_range.1 hi)
      exact .inr ⟨t, k, x, h1, h2, h3, tabOf_fix.2 h4⟩
    · rintro (h' | ⟨t, k, x, h1, h2, h3, rfl⟩)
      · cases h'
      · obtain ⟨i, hi, h4⟩ := h.all t k x h1 h2 h3
        exact ⟨i, List.mem_range.2 hi, tabOf_fix.2 h4⟩
  simpa using this
theorem Inv.nil : Inv m [] [] := ⟨⟨List.nodup_nil, fun i k lo hi h => by simp at h⟩, fun i h => absurd h (Nat.not_lt_zero _), fun t k x h => by cases h⟩
/-- what the building of a table leaves -/
theorem Inv.insert {tabs : List (List Int)} (h : Inv m N tabs) (t : List Int) {r : Nat} {N' : List Nd} (hb : bld (fun y => t.getD y 0) m 0 0 N = (r, N')) :
    Inv m N' (tabs ++ [t]) ∧ r < N'.length ∧ (∀ y, y < 2 ^ m → ev N' r y = t.getD y 0) ∧ (∃ M, N' = N ++ M) ∧ (t ∈ tabs → N' = N) := by
  have hB := bld_ok (m := m) (fun y => t.getD y 0) m 0 0 N (by omega) (by decide) h.ok
  rw [hb] at hB
  simp only at hB
  obtain ⟨M, hM⟩ := hB.ext
  have hev : ∀ i, i < N.length → ∀ y, ev N' i y = ev N i y := fun i hi y => by rw [hM]; exact ev_app h.ok M hi y
  have hl : N.length ≤ N'.length := by rw [hM, List.length_append]; omega
  have hI : Inv m N' (tabs ++ [t]) := by
    refine ⟨hB.ok, fun i hi => ?_, fun t' k x h1 h2 h3 => ?_⟩
    · by_cases hlt : i < N.length
      · obtain ⟨t', k, x, h1, h2, h3, h4⟩ := h.each i hlt
        exact ⟨t', k, x, List.mem_append_left _ h1, h2, h3, fun y hy => by rw [hev i hlt]; exact h4 y hy⟩
      · obtain ⟨k, x, _, h2, h3, _, h5⟩ := hB.new i (by omega) hi
        exact ⟨t, k, x, List.mem_append_right _ (List.mem_singleton.2 rfl), h2, h3, h5⟩
    · rcases List.mem_append.1 h1 with h1 | h1
      · obtain ⟨i, h4, h5⟩ := h.all t' k x h1 h2 h3
        exact ⟨i, by omega, fun y hy => by rw [hev i h4]; exact h5 y hy⟩
      · rw [List.mem_singleton.1 h1]
        exact hB.all k x (Nat.zero_le _) h2 h3 (by rw [Nat.pow_zero, Nat.mod_one])
  refine ⟨hI, hB.lt, fun y hy => by rw [hB.val y hy, mix_zero], ⟨M, hM⟩, fun ht => ?_⟩
  have e1 := h.count
  have e2 := hI.count
  have e3 : (ddT m [] (tabs ++ [t])).length = (ddT m [] tabs).length := nodup_len_eq (ddT_nodup _ List.nodup_nil) (ddT_nodup _ List.nodup_nil) fun z => by
    rw [ddT_mem, ddT_mem]
    constructor
    · rintro (h' | ⟨t', k, x, h1, h2, h3, h4⟩)
      · exact .inl h'
      · rcases List.mem_append.1 h1 with h1 | h1
        · exact .inr ⟨t', k, x, h1, h2, h3, h4⟩
        · rw [List.mem_singleton.1 h1] at h4
          exact .inr ⟨t, k, x, ht, h2, h3, h4⟩
    · rintro (h' | ⟨t', k, x, h1, h2, h3, h4⟩)
      · exact .inl h'
      · exact .inr ⟨t', k, x, List.mem_append_left _ h1, h2, h3, h4⟩
  have e4 : M.length = 0 := by
    have := congrArg List.length hM
    rw [List.length_append] at this
    omega
  rw [hM, List.length_eq_zero_iff.1 e4, List.append_nil]
end Dg
end Go.Proofs.Ytijmggoikieelaa
/-
  The size of a diagram; bounds; what a store's references denote: plain law.
-/
namespace Go.Proofs.Ytijmggoikieelaa
namespace Dg
variable {m : Nat} {N : List Nd}
theorem mix_bit {k x y j : Nat} (hx : x < 2 ^ k) : (mix k x y).testBit j = if j < k then x.testBit j else y.testBit j := by
  unfold mix
  rw [Nat.add_comm, Nat.mul_comm, Nat.testBit_two_pow_mul_add _ hx]
  split
  · rfl
  · rename_i h
    rw [Nat.testBit_div_two_pow, Nat.sub_add_cancel (by omega)]
/-- what is reached from a node -/
inductive Rch (N : List Nd) (r : Nat) : Nat → Prop
  | refl : Rch N r r
  | lo {i k lo hi : Nat} : Rch N r i → N[i]? = some (.test k lo hi) → Rch N r lo
  | hi {i k lo hi : Nat} : Rch N r i → N[i]? = some (.test k lo hi) → Rch N r hi
theorem Rch.lt (h : Ok m N) {r i : Nat} (hr : r < N.length) (h' : Rch N r i) : i < N.length := by
  induction h' with
  | refl => exact hr
  | lo _ e ih => have := (h.low _ _ _ _ e).2.1; omega
  | hi _ e ih => have := (h.low _ _ _ _ e).2.2.1; omega
theorem lev_test {r k lo hi : Nat} (e : N[r]? = some (.test k lo hi)) : lev m N r = k := by unfold lev; rw [e]
theorem two_lt {a k j : Nat} (ha : a < 2 ^ k) (h : k ≤ j) : a < 2 ^ j := Nat.lt_of_lt_of_le ha (Nat.pow_le_pow_right (by decide) h)
/-- each node that is reached is a cofactor -/
theorem Rch.cof (h : Ok m N) {r i : Nat} (hr : r < N.length) (h' : Rch N r i) : ∃ k x, k ≤ lev m N i ∧ x < 2 ^ k ∧ ∀ y, ev N i y = ev N r (mix k x y) := by
  induction h' with
  | refl => exact ⟨0, 0, Nat.zero_le _, by decide, fun y => by rw [mix_zero]⟩
  | @lo i k lo hi hi' e ih =>
    obtain ⟨k', x, h1, h2, h3⟩ := ih
    obtain ⟨g0, g1, g2, g3, g4, g5⟩ := h.low _ _ _ _ e
    rw [lev_test e] at h1
    have hil := Rch.lt h hr hi'
    refine ⟨k + 1, x, by omega, two_lt h2 (by omega), fun y => ?_⟩
    have e1 : mix (k + 1) x y = mix k' x (mix (k + 1) 0 y) := by
      apply Nat.eq_of_testBit_eq
      intro j
      rw [mix_bit (two_lt h2 (by omega)), mix_bit h2, mix_bit (Nat.two_pow_pos _)]
      by_cases hj : j < k'
      · rw [if_pos (by omega), if_pos hj]
      · rw [if_neg hj]
        by_cases hj2 : j < k + 1
        · rw [if_pos hj2, if_pos hj2, Nat.zero_testBit, Nat.testBit_lt_two_pow (two_lt h2 (by omega))]
        · rw [if_neg hj2, if_neg hj2]
    have hbit : (mix (k + 1) 0 y).testBit k = false := by rw [mix_bit (Nat.two_pow_pos _), if_pos (by omega), Nat.zero_testBit]
    rw [e1, ← h3, ev_test h e, hbit]
    simp only [Bool.false_eq_true, if_false]
    exact ev_dep h lo (by omega) fun j h6 _ => by rw [mix_bit (Nat.two_pow_pos _), if_neg (by omega)]
  | @hi i k lo hi hi' e ih =>
    obtain ⟨k', x, h1, h2, h3⟩ := ih
    obtain ⟨g0, g1, g2, g3, g4, g5⟩ := h.low _ _ _ _ e
    rw [lev_test e] at h1
    have hil := Rch.lt h hr hi'
    have hxk := two_lt h2 h1
    have h2k : 2 ^ k < 2 ^ (k + 1) := Nat.pow_lt_pow_right (by decide) (by omega)
    have hlt : x + 2 ^ k < 2 ^ (k + 1) := by rw [Nat.pow_succ]; omega
    refine ⟨k + 1, x + 2 ^ k, by omega, hlt, fun y => ?_⟩
    have hb : ∀ j, j < k + 1 → (x + 2 ^ k).testBit j = if j = k then true else x.testBit j := fun j hj => by
      have := Nat.testBit_two_pow_mul_add 1 hxk j
      rw [Nat.mul_one, Nat.add_comm] at this
      rw [this]
      by_cases e2 : j = k
      · subst e2; simp
      · rw [if_pos (by omega), if_neg e2]
    have hb2 : ∀ j, (2 ^ k).testBit j = decide (k = j) := fun j => Nat.testBit_two_pow
    have e1 : mix (k + 1) (x + 2 ^ k) y = mix k' x (mix (k + 1) (2 ^ k) y) := by
      apply Nat.eq_of_testBit_eq
      intro j
      rw [mix_bit hlt, mix_bit h2, mix_bit h2k]
      by_cases hj : j < k'
      · rw [if_pos (by omega), if_pos hj, hb j (by omega), if_neg (by omega)]
      · rw [if_neg hj]
        by_cases hj2 : j < k + 1
        · rw [if_pos hj2, if_pos hj2, hb j hj2, hb2]
          by_cases e2 : j = k
          · subst e2; simp
          · rw [if_neg e2, decide_eq_false (fun e => e2 e.symm), Nat.testBit_lt_two_pow (two_lt h2 (by omega))]
        · rw [if_neg hj2, if_neg hj2]
    have hbit : (mix (k + 1) (2 ^ k) y).testBit k = true := by rw [mix_bit h2k, if_pos (by omega), hb2, decide_eq_true rfl]
    rw [e1, ← h3, ev_test h e, hbit]
    simp only [if_true]
    exact ev_dep h hi (by omega) fun j h6 _ => by rw [mix_bit h2k, if_neg (by omega)]
/-- each cofactor is reached -/
theorem cof_rch (h : Ok m N) {r : Nat} (hr : r < N.length) : ∀ (k x : Nat), k ≤ m → x < 2 ^ k → ∃ i, Rch N r i ∧ k ≤ lev m N i ∧ ∀ y, ev N i y = ev N r (mix k x y)
  | 0, x, _, hx => by
    obtain rfl : x = 0 := by simpa using hx
    exact ⟨r, .refl, Nat.zero_le _, fun y => by rw [mix_zero]⟩
  | k + 1, x, hk, hx => by
    have hm := Nat.mod_lt x (Nat.two_pow_pos k)
    obtain ⟨i, h1, h2, h3⟩ := cof_rch h hr k (x % 2 ^ k) (by omega) hm
    have hil := Rch.lt h hr h1
    have e1 : ∀ y, mix (k + 1) x y = mix k (x % 2 ^ k) (mix (k + 1) x y) := fun y => by
      apply Nat.eq_of_testBit_eq
      intro j
      rw [mix_bit hm, mix_bit hx]
      by_cases hj : j < k
      · rw [if_pos (by omega), if_pos hj, Nat.testBit_mod_two_pow, decide_eq_true hj, Bool.true_and]
      · rw [if_neg hj]
    by_cases hl : lev m N i = k
    · cases hn : N[i]? with
      | none => rw [List.getElem?_eq_none_iff] at hn; omega
      | some n =>
        cases n with
        | leaf c => unfold lev at hl; rw [hn] at hl; simp at hl; omega
        | test k' lo hi =>
          rw [lev_test hn] at hl
          subst hl
          obtain ⟨g0, g1, g2, g3, g4, g5⟩ := h.low _ _ _ _ hn
          by_cases hb : x.testBit k' = true
          · refine ⟨hi, .hi h1 hn, by omega, fun y => ?_⟩
            have hbit : (mix (k' + 1) x y).testBit k' = true := by rw [mix_bit hx, if_pos (by omega), hb]
            rw [e1, ← h3, ev_test h hn, hbit]
            simp only [if_true]
            exact ev_dep h hi (by omega) fun j h6 _ => by rw [mix_bit hx, if_neg (by omega)]
          · refine ⟨lo, .lo h1 hn, by omega, fun y => ?_⟩
            have hbit : ¬ (mix (k' + 1) x y).testBit k' = true := by rw [mix_bit hx, if_pos (by omega)]; exact hb
            rw [e1, ← h3, ev_test h hn, if_neg hbit]
            exact ev_dep h lo (by omega) fun j h6 _ => by rw [mix_bit hx, if_neg (by omega)]
    · refine ⟨i, h1, by omega, fun y => ?_⟩
      rw [e1, ← h3]
      exact ev_dep h i hil fun j h6 _ => by rw [mix_bit hx, if_neg (by omega)]
theorem tabOf_len {i : Nat} : (tabOf m N i).length = 2 ^ m := by simp [tabOf]
theorem tabOf_get {i y : Nat} (hy : y < 2 ^ m) : (tabOf m N i).getD y 0 = ev N i y := by simp [tabOf, hy]
theorem mix_lt {k x y : Nat} (hx : x < 2 ^ k) (hk : k ≤ m) (hy : y < 2 ^ m) : mix k x y < 2 ^ m := by
  apply Nat.lt_pow_two_of_testBit
  intro j hj
  rw [mix_bit hx]
  split
  · exact Nat.testBit_lt_two_pow (two_lt hx (by omega))
  · exact Nat.testBit_lt_two_pow (two_lt hy hj)
/-- the number of nodes that are reached is the number of cofactors -/
theorem size_eq (h : Ok m N) {r : Nat} (hr : r < N.length) {seen : List Nat} (hn : seen.Nodup) (hs : ∀ i, i ∈ seen ↔ Rch N r i) : seen.length = (ddT m [] [tabOf m N r]).length := by
  have key : ∀ l : List Nat, l.Nodup → (∀ i ∈ l, i < N.length) → (l.map (tabOf m N)).Nodup := by
    intro l
    induction l with
    | nil => intro _ _; exact List.nodup_nil
    | cons a l ih =>
      intro hn hl
      rw [List.nodup_cons] at hn
      rw [List.map_cons, List.nodup_cons]
      refine ⟨fun hm => ?_, ih hn.2 fun i hi => hl i (List.mem_cons_of_mem _ hi)⟩
      obtain ⟨b, hb, e⟩ := List.mem_map.1 hm
      have := tabOf_inj h (hl b (List.mem_cons_of_mem _ hb)) (hl a (List.mem_cons_self ..)) e
      exact hn.1 (this ▸ hb)
  have hlt : ∀ i ∈ seen, i < N.length := fun i hi => Rch.lt h hr ((hs i).1 hi)
  have := nodup_len_eq (key seen hn hlt) (ddT_nodup (m := m) [tabOf m N r] List.nodup_nil) fun z => by
    rw [ddT_mem, List.mem_map]
    constructor
    · rintro ⟨i, hi, rfl⟩
      obtain ⟨k, x, h1, h2, h3⟩ := Rch.cof h hr ((hs i).1 hi)
      have hkm := Nat.le_trans h1 (lev_le h)
      exact .inr ⟨_, k, x, List.mem_singleton.2 rfl, hkm, h2, tabOf_fix.2 fun y hy => by rw [tabOf_get (mix_lt h2 hkm hy)]; exact h3 y⟩
    · rintro (h' | ⟨t, k, x, h1, h2, h3, rfl⟩)
      · cases h'
      · obtain rfl := List.mem_singleton.1 h1
        obtain ⟨i, g1, _, g2⟩ := cof_rch h hr k x h2 h3
        exact ⟨i, (hs i).2 g1, tabOf_fix.2 fun y hy => by rw [tabOf_get (mix_lt h3 h2 hy)]; exact g2 y⟩
  simpa using this
/-! bounds -/
theorem ddX_len {t : List Int} {k : Nat} {out : List (List Int)} : ∀ x, (ddX m t k out x).length ≤ out.length + x
  | 0 => by simp [ddX]
  | x + 1 => by
    rw [ddX_succ]
    have := ddX_len (t := t) (k := k) (out := out) x
    unfold dd
    split
    · omega
    · simp; omega
theorem ddK_len {t : List Int} {out : List (List Int)} : ∀ k, (ddK m t out k).length + 1 ≤ out.length + 2 ^ k
  | 0 => by simp [ddK]
  | k + 1 => by
    rw [ddK_succ]
    have h1 := ddK_len (t := t) (out := out) k
    have h2 := ddX_len (m := m) (t := t) (k := k) (out := ddK m t out k) (2 ^ k)
    rw [Nat.pow_succ]
    omega
theorem ddT_len : ∀ (tabs : List (List Int)) {out : List (List Int)}, (ddT m out tabs).length ≤ out.length + tabs.length * 2 ^ (m + 1)
  | [], out => by simp [ddT]
  | t :: l, out => by
    show (ddT m (ddK m t out (m + 1)) l).length ≤ _
    have h1 := ddT_len l (out := ddK m t out (m + 1))
    have h2 := ddK_len (m := m) (t := t) (out := out) (m + 1)
    rw [List.length_cons, Nat.add_mul, Nat.one_mul]
    omega
theorem Inv.len {G : List (List Int)} (h : Inv m N G) : N.length ≤ G.length * 2 ^ (m + 1) := by
  rw [h.count]
  have := ddT_len (m := m) G (out := [])
  simpa using this
/-- only the values at letters count -/
theorem bld_congr {f g : Nat → Int} (d : Nat) : ∀ (k x : Nat) (N : List Nd), k + d = m → x < 2 ^ k → (∀ y, y < 2 ^ m → f y = g y) → bld f d k x N = bld g d k x N := by
  induction d with
  | zero =>
    intro k x N hk hx he
    obtain rfl : k = m := by omega
    rw [bld, bld, he x hx]
  | succ d ih =>
    intro k x N hk hx he
    have hx2 : x + 2 ^ k < 2 ^ (k + 1) := by rw [Nat.pow_succ]; omega
    rw [bld, bld, ih (k + 1) x N (by omega) (by omega) he, ih (k + 1) (x + 2 ^ k) _ (by omega) hx2 he]
/-! a store: its nodes, the tables of its functions, its references -/
structure SI (m : Nat) (N : List Nd) (G : List (List Int)) (kn : List Nat) : Prop where
  inv : Inv m N G
  len : ∀ t ∈ G, t.length = 2 ^ m
  ref : ∀ i ∈ kn, i < N.length ∧ tabOf m N i ∈ G
theorem tabOf_app (h : Ok m N) (M : List Nd) {i : Nat} (hi : i < N.length) : tabOf m (N ++ M) i = tabOf m N i := by
  unfold tabOf
  exact List.map_congr_left fun y _ => ev_app h M hi y
theorem tabOf_eq {t : List Int} (hl : t.length = 2 ^ m) {i : Nat} (h : ∀ y, y < 2 ^ m → ev N i y = t.getD y 0) : tabOf m N i = t := by
  apply List.ext_getElem?
  intro y
  by_cases hy : y < 2 ^ m
  · have h1 := h y hy
    have h2 : y < t.length := by omega
    simp only [tabOf, List.getElem?_map, List.getElem?_range hy, Option.map_some, List.getElem?_eq_getElem h2]
    rw [h1]
    simp [h2]
  · rw [List.getElem?_eq_none (by rw [tabOf_len]; omega), List.getElem?_eq_none (by omega)]
/-- the known references, one more -/
def kadd (kn : List Nat) (r : Nat) : List Nat := if r ∈ kn then kn else kn ++ [r]
theorem kadd_mem {kn : List Nat} {r i : Nat} : i ∈ kadd kn r ↔ i ∈ kn ∨ i = r := by
  unfold kadd
  split
  · rename_i h; exact ⟨.inl, fun h' => h'.elim id fun e => e ▸ h⟩
  · simp
theorem SI.put {G : List (List Int)} {kn : List Nat} (h : SI m N G kn) {t : List Int} (hl : t.length = 2 ^ m) {f : Nat → Int} (hf : ∀ y, y < 2 ^ m → f y = t.getD y 0) {r : Nat} {N' : List Nd} (hb : bld f m 0 0 N = (r, N')) :
    SI m N' (G ++ [t]) (kadd kn r) ∧ r < N'.length ∧ tabOf m N' r = t ∧ (∃ M, N' = N ++ M) ∧ (t ∈ G → N' = N) ∧ N'.length = (ddT m [] (G ++ [t])).length ∧ ∀ i, i < N.length → tabOf m N' i = tabOf m N i := by
  rw [bld_congr (m := m) (g := fun y => t.getD y 0) m 0 0 N (by omega) (by decide) hf] at hb
  obtain ⟨h1, h2, h3, ⟨M, h4⟩, h5⟩ := h.inv.insert t hb
  have h6 : ∀ i, i < N.length → tabOf m N' i = tabOf m N i := fun i hi => by rw [h4]; exact tabOf_app h.inv.ok M hi
  have h7 : tabOf m N' r = t := tabOf_eq hl h3
  refine ⟨⟨h1, fun u hu => ?_, fun i hi => ?_⟩, h2, h7, ⟨M, h4⟩, h5, h1.count, h6⟩
  · rcases List.mem_append.1 hu with hu | hu
    · exact h.len u hu
    · rw [List.mem_singleton.1 hu]; exact hl
  · rcases kadd_mem.1 hi with hi | rfl
    · obtain ⟨g1, g2⟩ := h.ref i hi
      rw [h6 i g1]
      refine ⟨?_, List.mem_append_left _ g2⟩
      have := congrArg List.length h4
      rw [List.length_append] at this
      omega
    · exact ⟨h2, by rw [h7]; simp⟩
theorem Inv.sub {G : List (List Int)} {t : List Int} (h : Inv m N (G ++ [t])) (ht : t ∈ G) : Inv m N G := ⟨h.ok, fun i hi => by
  obtain ⟨u, k, x, h1, h2⟩ := h.each i hi
  refine ⟨u, k, x, ?_, h2⟩
  rcases List.mem_append.1 h1 with h1 | h1
  · exact h1
  · rw [List.mem_singleton.1 h1]; exact ht, fun u k x hu => h.all u k x (List.mem_append_left _ hu)⟩
theorem SI.same {G : List (List Int)} {kn : List Nat} {t : List Int} (h : SI m N (G ++ [t]) kn) (ht : t ∈ G) : SI m N G kn := ⟨h.inv.sub ht, fun u hu => h.len u (List.mem_append_left _ hu), fun i hi => by
  obtain ⟨h1, h2⟩ := h.ref i hi
  refine ⟨h1, ?_⟩
  rcases List.mem_append.1 h2 with h2 | h2
  · exact h2
  · rw [List.mem_singleton.1 h2]; exact ht⟩
theorem SI.eq {G : List (List Int)} {kn : List Nat} (h : SI m N G kn) {i j : Nat} (hi : i ∈ kn) (hj : j ∈ kn) : i = j ↔ tabOf m N i = tabOf m N j :=
  ⟨fun e => by rw [e], tabOf_inj h.inv.ok (h.ref i hi).1 (h.ref j hj).1⟩
/-! the search that counts the nodes -/
structure Bfs (N : List Nd) (r : Nat) (seen queue : List Nat) : Prop where
  nd : seen.Nodup
  sr : ∀ i ∈ seen, Rch N r i
  qr : ∀ i ∈ queue, Rch N r i
  rt : r ∈ seen ∨ r ∈ queue
  cl : ∀ i ∈ seen, ∀ k lo hi, N[i]? = some (.test k lo hi) → (lo ∈ seen ∨ lo ∈ queue) ∧ (hi ∈ seen ∨ hi ∈ queue)
theorem Bfs.start (r : Nat) : Bfs N r [] [r] := ⟨List.nodup_nil, fun i h => (by cases h), fun i h => by rw [List.mem_singleton.1 h]; exact .refl, .inr (List.mem_singleton.2 rfl), fun i h => (by cases h)⟩
theorem Bfs.skip {r q : Nat} {seen qs : List Nat} (h : Bfs N r seen (q :: qs)) (hq : q ∈ seen) : Bfs N r seen qs := by
  have key : ∀ i, (i ∈ seen ∨ i ∈ q :: qs) → i ∈ seen ∨ i ∈ qs := fun i hi => by
    rcases hi with hi | hi
    · exact .inl hi
    · rcases List.mem_cons.1 hi with rfl | hi
      · exact .inl hq
      · exact .inr hi
  exact ⟨h.nd, h.sr, fun i hi => h.qr i (List.mem_cons_of_mem _ hi), key _ h.rt, fun i hi k lo hi' e => ⟨key _ (h.cl i hi k lo hi' e).1, key _ (h.cl i hi k lo hi' e).2⟩⟩
theorem Bfs.leaf {r q : Nat} {c : Int} {seen qs : List Nat} (h : Bfs N r seen (q :: qs)) (hq : q ∉ seen) (hn : N[q]? = some (.leaf c)) : Bfs N r (seen ++ [q]) qs := by
  have key : ∀ i, (i ∈ seen ∨ i ∈ q :: qs) → i ∈ seen ++ [q] ∨ i ∈ qs := fun i hi => by
    rcases hi with hi | hi
    · exact .inl (List.mem_append_left _ hi)
    · rcases List.mem_cons.1 hi with rfl | hi
      · exact .inl (by simp)
      · exact .inr hi
  refine ⟨?_, fun i hi => ?_, fun i hi => h.qr i (List.mem_cons_of_mem _ hi), key _ h.rt, fun i hi k lo hi' e => ?_⟩
  · rw [List.nodup_append]
    exact ⟨h.nd, by simp, fun a ha b hb => by rw [List.mem_singleton.1 hb]; exact fun e => hq (e ▸ ha)⟩
  · rcases List.mem_append.1 hi with hi | hi
    · exact h.sr i hi
    · rw [List.mem_singleton.1 hi]; exact h.qr q (List.mem_cons_self ..)
  · rcases List.mem_append.1 hi with hi | hi
    · exact ⟨key _ (h.cl i hi k lo hi' e).1, key _ (h.cl i hi k lo hi' e).2⟩
    · rw [List.mem_singleton.1 hi, hn] at e; cases e
theorem Bfs.test {r q k0 lo0 hi0 : Nat} {seen qs : List Nat} (h : Bfs N r seen (q :: qs)) (hq : q ∉ seen) (hn : N[q]? = some (.test k0 lo0 hi0)) : Bfs N r (seen ++ [q]) (qs ++ [lo0, hi0]) := by
  have hqr := h.qr q (List.mem_cons_self ..)
  have key : ∀ i, (i ∈ seen ∨ i ∈ q :: qs) → i ∈ seen ++ [q] ∨ i ∈ qs ++ [lo0, hi0] := fun i hi => by
    rcases hi with hi | hi
    · exact .inl (List.mem_append_left _ hi)
    · rcases List.mem_cons.1 hi with rfl | hi
      · exact .inl (by simp)
      · exact .inr (List.mem_append_left _ hi)
  refine ⟨?_, fun i hi => ?_, fun i hi => ?_, key _ h.rt, fun i hi k lo hi' e => ?_⟩
  · rw [List.nodup_append]
    exact ⟨h.nd, by simp, fun a ha b hb => by rw [List.mem_singleton.1 hb]; exact fun e => hq (e ▸ ha)⟩
  · rcases List.mem_append.1 hi with hi | hi
    · exact h.sr i hi
    · rw [List.mem_singleton.1 hi]; exact hqr
  · rcases List.mem_append.1 hi with hi | hi
    · exact h.qr i (List.mem_cons_of_mem _ hi)
    · rcases List.mem_cons.1 hi with rfl | hi
      · exact .lo hqr hn
      · rw [List.mem_singleton.1 hi]; exact .hi hqr hn
  · rcases List.mem_append.1 hi with hi | hi
    · exact ⟨key _ (h.cl i hi k lo hi' e).1, key _ (h.cl i hi k lo hi' e).2⟩
    · rw [List.mem_singleton.1 hi, hn] at e; cases e
      exact ⟨.inr (by simp), .inr (by simp)⟩
theorem Bfs.size (h0 : Ok m N) {r : Nat} (hr : r < N.length) {seen : List Nat} (h : Bfs N r seen []) : seen.length = (ddT m [] [tabOf m N r]).length := by
  refine size_eq h0 hr h.nd fun i => ⟨h.sr i, fun hi => ?_⟩
  have hx : ∀ i, (i ∈ seen ∨ i ∈ ([] : List Nat)) → i ∈ seen := fun i hi => hi.elim id fun h => (by cases h)
  induction hi with
  | refl => exact hx _ h.rt
  | lo _ e ih => exact hx _ (h.cl _ ih _ _ _ e).1
  | hi _ e ih => exact hx _ (h.cl _ ih _ _ _ e).2
theorem Bfs.lt (h0 : Ok m N) {r : Nat} (hr : r < N.length) {seen queue : List Nat} (h : Bfs N r seen queue) : seen.length ≤ N.length ∧ ∀ i ∈ queue, i < N.length := by
  refine ⟨?_, fun i hi => Rch.lt h0 hr (h.qr i hi)⟩
  have := nodup_len (l' := List.range N.length) h.nd fun i hi => List.mem_range.2 (Rch.lt h0 hr (h.sr i hi))
  simpa using this
end Dg
end Go.Proofs.Ytijmggoikieelaa
