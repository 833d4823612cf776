/-
  Plain laws of matching: the relation of a piece, the tables of a list of pieces, factors, derivatives, reversal. No program in sight.
-/
import Derived.Test.YtebdkmfgfjanoaaRxSub
namespace Go.Proofs.Ytebdkmfgfjanoaa

abbrev Tab := Nat → Nat → Bool
def someB (lo hi : Nat) (f : Nat → Bool) : Bool := (List.range (hi + 1 - lo)).any fun d => f (lo + d)
theorem someB_iff {lo hi : Nat} {f : Nat → Bool} : someB lo hi f = true ↔ ∃ k, lo ≤ k ∧ k ≤ hi ∧ f k = true := by
  unfold someB
  rw [List.any_eq_true]
  constructor
  · rintro ⟨d, hd, h⟩
    have := List.mem_range.1 hd
    exact ⟨lo + d, by omega, by omega, h⟩
  · rintro ⟨k, h1, h2, h⟩
    exact ⟨k - lo, List.mem_range.2 (by omega), by rwa [show lo + (k - lo) = k by omega]⟩
theorem someB_congr {lo hi : Nat} {f g : Nat → Bool} (h : ∀ k, lo ≤ k → k ≤ hi → f k = g k) : someB lo hi f = someB lo hi g := by
  rw [Bool.eq_iff_iff, someB_iff, someB_iff]
  exact ⟨fun ⟨k, h1, h2, h3⟩ => ⟨k, h1, h2, by rw [← h k h1 h2]; exact h3⟩, fun ⟨k, h1, h2, h3⟩ => ⟨k, h1, h2, by rw [h k h1 h2]; exact h3⟩⟩
theorem someB_none {lo hi : Nat} {f : Nat → Bool} (h : hi < lo) : someB lo hi f = false := by
  cases hb : someB lo hi f with
  | false => rfl
  | true => obtain ⟨k, h1, h2, _⟩ := someB_iff.1 hb; omega
theorem someB_head {lo hi : Nat} {f : Nat → Bool} (h : lo ≤ hi) : someB lo hi f = (f lo || someB (lo + 1) hi f) := by
  rw [Bool.eq_iff_iff, Bool.or_eq_true, someB_iff, someB_iff]
  constructor
  · rintro ⟨k, h1, h2, h3⟩
    by_cases hk : k = lo
    · subst hk; exact .inl h3
    · exact .inr ⟨k, by omega, h2, h3⟩
  · rintro (h3 | ⟨k, h1, h2, h3⟩)
    · exact ⟨lo, Nat.le_refl _, h, h3⟩
    · exact ⟨k, by omega, h2, h3⟩
/-- the closure of a relation, to the right end j -/
def stB (a : Tab) (j : Nat) : Nat → Nat → Bool
  | 0, i => i == j
  | f + 1, i => i == j || someB (i + 1) j fun k => a i k && stB a j f k
def starB (a : Tab) (i j : Nat) : Bool := stB a j (j - i) i
theorem stB_fuel (a : Tab) (j : Nat) : ∀ f i, j - i ≤ f → stB a j f i = starB a i j
  | 0, i, h => by unfold starB; rw [show j - i = 0 by omega]
  | f + 1, i, h => by
    unfold starB
    cases hd : j - i with
    | zero => 
      show (i == j || someB (i + 1) j fun k => a i k && stB a j f k) = (i == j)
      rw [someB_none (by omega), Bool.or_false]
    | succ g =>
      show (i == j || someB (i + 1) j fun k => a i k && stB a j f k) = (i == j || someB (i + 1) j fun k => a i k && stB a j g k)
      rw [someB_congr fun k h1 h2 => by rw [stB_fuel a j f k (by omega), ← stB_fuel a j g k (by omega)]]
  termination_by f => f
theorem starB_eq (a : Tab) (i j : Nat) : starB a i j = (i == j || someB (i + 1) j fun k => a i k && starB a k j) := by
  rw [← stB_fuel a j (j - i + 1) i (by omega)]
  show (i == j || someB (i + 1) j fun k => a i k && stB a j (j - i) k) = _
  rw [someB_congr fun k h1 h2 => by rw [stB_fuel a j (j - i) k (by omega)]]
/-- what a piece matches, given what its children match -/
def rel (w : List Nat) (op pos neg : Nat) (a b : Tab) (i j : Nat) : Bool :=
  decide (i ≤ j) && (decide (j ≤ w.length) && (
    if op = 2 then i == j
    else if op = 3 then j == i + 1 && hasB pos neg (w.getD i 0)
    else if op = 4 then someB i j fun k => a i k && b k j
    else if op = 5 then a i j || b i j
    else if op = 6 then a i j && b i j
    else if op = 7 then !a i j
    else if op = 8 then starB a i j
    else if op = 9 then i == j && someB i w.length fun k => a i k
    else if op = 10 then i == j && someB 0 i fun k => a k i
    else false))
theorem rel_in {w : List Nat} {op pos neg : Nat} {a b : Tab} {i j : Nat} (h : rel w op pos neg a b i j = true) : i ≤ j ∧ j ≤ w.length := by
  unfold rel at h
  simp only [Bool.and_eq_true, decide_eq_true_eq] at h
  exact ⟨h.1, h.2.1⟩
theorem rel_out {w : List Nat} {op pos neg : Nat} {a b : Tab} {i j : Nat} (h : ¬ (i ≤ j ∧ j ≤ w.length)) : rel w op pos neg a b i j = false := by
  cases hb : rel w op pos neg a b i j with
  | false => rfl
  | true => exact absurd (rel_in hb) h
/-- equal children where it matters -/
theorem starB_congr {a a' : Tab} {i j : Nat} (h : ∀ x y, i ≤ x → x ≤ y → y ≤ j → a x y = a' x y) : starB a i j = starB a' i j := by
  have key : ∀ f i', i ≤ i' → j - i' ≤ f → starB a i' j = starB a' i' j := by
    intro f
    induction f with
    | zero =>
      intro i' h1 h2
      rw [starB_eq, starB_eq a', someB_none (by omega), someB_none (by omega)]
    | succ f ih =>
      intro i' h1 h2
      rw [starB_eq, starB_eq a', someB_congr fun k h3 h4 => by rw [h i' k h1 (by omega) h4, ih k (by omega) (by omega)]]
  exact key _ i (Nat.le_refl _) (Nat.le_refl _)
theorem rel_congr {w : List Nat} {op pos neg : Nat} {a b a' b' : Tab} (ha : ∀ i j, i ≤ j → j ≤ w.length → a i j = a' i j) (hb : ∀ i j, i ≤ j → j ≤ w.length → b i j = b' i j) (i j : Nat) : rel w op pos neg a b i j = rel w op pos neg a' b' i j := by
  by_cases h : i ≤ j ∧ j ≤ w.length
  · obtain ⟨h1, h2⟩ := h
    unfold rel
    rw [ha i j h1 h2, hb i j h1 h2, someB_congr (lo := i) (hi := j) (f := fun k => a i k && b k j) (g := fun k => a' i k && b' k j) (fun k h3 h4 => by rw [ha i k h3 (by omega), hb k j h4 h2]), starB_congr (a := a) (a' := a') (fun x y h3 h4 h5 => ha x y h4 (by omega)),
      someB_congr (lo := i) (hi := w.length) (f := fun k => a i k) (g := fun k => a' i k) (fun k h3 h4 => ha i k h3 h4), someB_congr (lo := 0) (hi := i) (f := fun k => a k i) (g := fun k => a' k i) (fun k h3 h4 => ha k i h4 (by omega))]
  · rw [rel_out h, rel_out h]
def noT : Tab := fun _ _ => false
/-- what an expression matches -/
def mt (w : List Nat) : T → Tab
  | .none => rel w 1 0 0 noT noT
  | .empty => rel w 2 0 0 noT noT
  | .letter p n => rel w 3 p n noT noT
  | .un op a => rel w op 0 0 (mt w a) noT
  | .bin op a b => rel w op 0 0 (mt w a) (mt w b)
theorem mt_in {w : List Nat} {t : T} {i j : Nat} (h : mt w t i j = true) : i ≤ j ∧ j ≤ w.length := by cases t <;> exact rel_in h
theorem mt_out {w : List Nat} {t : T} {i j : Nat} (h : ¬ (i ≤ j ∧ j ≤ w.length)) : mt w t i j = false := by
  cases hb : mt w t i j with
  | false => rfl
  | true => exact absurd (mt_in hb) h
/-- the table of a piece, given those of the earlier ones -/
def tabAt (acc : List Tab) (i : Int) : Tab := (acc[i.toNat]?).getD noT
def tabOf (w : List Nat) (acc : List Tab) (p : Pc) : Tab := rel w p.op p.pos p.neg (tabAt acc p.a) (tabAt acc p.b)
def tabsR (w : List Nat) : List Pc → List Tab → List Tab
  | [], acc => acc
  | p :: ps, acc => tabsR w ps (acc ++ [tabOf w acc p])
theorem tabsR_len (w : List Nat) : ∀ (L : List Pc) (acc : List Tab), (tabsR w L acc).length = acc.length + L.length
  | [], acc => rfl
  | p :: ps, acc => by
    show (tabsR w ps (acc ++ [tabOf w acc p])).length = _
    rw [tabsR_len w ps]; simp; omega
theorem tabsR_append (w : List Nat) : ∀ (L M : List Pc) (acc : List Tab), tabsR w (L ++ M) acc = tabsR w M (tabsR w L acc)
  | [], _, _ => rfl
  | p :: ps, M, acc => tabsR_append w ps M _
theorem tabsR_keep (w : List Nat) : ∀ (L : List Pc) (acc : List Tab), ∃ more, tabsR w L acc = acc ++ more
  | [], acc => ⟨[], by simp [tabsR]⟩
  | p :: ps, acc => by
    obtain ⟨more, h⟩ := tabsR_keep w ps (acc ++ [tabOf w acc p])
    exact ⟨tabOf w acc p :: more, by show tabsR w ps _ = _; rw [h]; simp⟩
def tabsT (w : List Nat) : T → List Tab
  | .un op a => tabsT w a ++ [mt w (.un op a)]
  | .bin op a b => tabsT w a ++ (tabsT w b ++ [mt w (.bin op a b)])
  | t => [mt w t]
theorem tabsT_len (w : List Nat) : ∀ t, (tabsT w t).length = t.size
  | .none => rfl
  | .empty => rfl
  | .letter _ _ => rfl
  | .un _ a => by simp [tabsT, T.size, tabsT_len w a]
  | .bin _ a b => by simp [tabsT, T.size, tabsT_len w a, tabsT_len w b]; omega
theorem tabsT_last (w : List Nat) (t : T) : (tabsT w t)[t.size - 1]? = some (mt w t) := by
  cases t with
  | un op a => simp [tabsT, T.size, tabsT_len]
  | bin op a b =>
    have h1 := tabsT_len w a
    have h2 := tabsT_len w b
    simp only [tabsT, T.size]
    rw [List.getElem?_append_right (by omega), List.getElem?_append_right (by omega)]
    simp [h1, h2]
  | _ => rfl
theorem tabAt_end (w : List Nat) (acc : List Tab) (t : T) (rest : List Tab) {n : Int} (hn : n = ((acc.length + t.size : Nat) : Int) - 1) : tabAt (acc ++ (tabsT w t ++ rest)) n = mt w t := by
  have hp := T.size_pos t
  have hl := tabsT_len w t
  unfold tabAt
  rw [show n.toNat = acc.length + (t.size - 1) by omega, List.getElem?_append_right (by omega), List.getElem?_append_left (by omega), show acc.length + (t.size - 1) - acc.length = t.size - 1 by omega, tabsT_last]
  rfl
theorem rel_noA {w : List Nat} {op pos neg : Nat} {a b a' b' : Tab} (h : kids op = 0) : rel w op pos neg a b = rel w op pos neg a' b' := by
  have := kids_zero.1 h
  funext i j
  unfold rel
  simp only [show op ≠ 4 by omega, show op ≠ 5 by omega, show op ≠ 6 by omega, show op ≠ 7 by omega, show op ≠ 8 by omega, show op ≠ 9 by omega, show op ≠ 10 by omega, if_false]
theorem rel_noB {w : List Nat} {op pos neg : Nat} {a b b' : Tab} (h : kids op ≤ 1) : rel w op pos neg a b = rel w op pos neg a b' := by
  have h2 : ¬ (op = 4 ∨ op = 5 ∨ op = 6) := fun e => by have := kids_two.2 e; omega
  funext i j
  unfold rel
  simp only [show op ≠ 4 by omega, show op ≠ 5 by omega, show op ≠ 6 by omega, if_false]
theorem tabsR_tree {v : Int} (w : List Nat) : ∀ (t : T) (acc : List Tab), t.wf v → tabsR w (t.flat acc.length) acc = acc ++ tabsT w t
  | .none, acc, _ => by
    show acc ++ [rel w 1 0 0 _ _] = acc ++ [rel w 1 0 0 _ _]
    rw [rel_noA (by decide)]
  | .empty, acc, _ => by
    show acc ++ [rel w 2 0 0 _ _] = acc ++ [rel w 2 0 0 _ _]
    rw [rel_noA (by decide)]
  | .letter p n, acc, _ => by
    show acc ++ [rel w 3 p n _ _] = acc ++ [rel w 3 p n _ _]
    rw [rel_noA (by decide)]
  | .un op a, acc, h => by
    show tabsR w (a.flat acc.length ++ [T.root acc.length (.un op a)]) acc = acc ++ (tabsT w a ++ [mt w (.un op a)])
    rw [tabsR_append, tabsR_tree w a acc h.2]
    show (acc ++ tabsT w a) ++ [rel w op 0 0 (tabAt (acc ++ tabsT w a) (((acc.length + a.size : Nat) : Int) - 1)) (tabAt (acc ++ tabsT w a) 0)] = _
    have := tabAt_end w acc a [] (n := ((acc.length + a.size : Nat) : Int) - 1) rfl
    rw [List.append_nil] at this
    rw [this, rel_noB (b' := noT) (by rw [h.1]; omega), List.append_assoc]
    rfl
  | .bin op a b, acc, h => by
    show tabsR w (a.flat acc.length ++ (b.flat (acc.length + a.size) ++ [T.root acc.length (.bin op a b)])) acc = acc ++ (tabsT w a ++ (tabsT w b ++ [mt w (.bin op a b)]))
    have hl : (acc ++ tabsT w a).length = acc.length + a.size := by rw [List.length_append, tabsT_len]
    rw [tabsR_append, tabsR_tree w a acc h.2.1, tabsR_append, ← hl, tabsR_tree w b _ h.2.2]
    show ((acc ++ tabsT w a) ++ tabsT w b) ++ [rel w op 0 0 (tabAt ((acc ++ tabsT w a) ++ tabsT w b) (((acc.length + a.size : Nat) : Int) - 1)) (tabAt ((acc ++ tabsT w a) ++ tabsT w b) (((acc.length + a.size + b.size : Nat) : Int) - 1))] = _
    have h1 := tabAt_end w acc a (tabsT w b) (n := ((acc.length + a.size : Nat) : Int) - 1) rfl
    have h2 := tabAt_end w (acc ++ tabsT w a) b [] (n := ((acc.length + a.size + b.size : Nat) : Int) - 1) (by rw [hl])
    rw [List.append_nil] at h2
    rw [h2, List.append_assoc acc, h1, List.append_assoc, List.append_assoc]
    rfl
/-- the table of a prefix's last piece is that of its block -/
theorem tabsR_take (w : List Nat) (L : List Pc) (m : Nat) (hm : m ≤ L.length) : tabsR w (L.take m) [] = (tabsR w L []).take m := by
  have h := tabsR_append w (L.take m) (L.drop m) []
  rw [List.take_append_drop] at h
  obtain ⟨more, hk⟩ := tabsR_keep w (L.drop m) (tabsR w (L.take m) [])
  have hl := tabsR_len w (L.take m) []
  rw [List.length_take, List.length_nil] at hl
  have he : tabsR w L [] = tabsR w (L.take m) [] ++ more := h.trans hk
  rw [he, List.take_append_of_le_length (by omega)]
  exact (List.take_of_length_le (by omega)).symm
end Go.Proofs.Ytebdkmfgfjanoaa
/-
  Plain laws of matching: factors, derivatives, reversal. No program in sight.
-/
namespace Go.Proofs.Ytebdkmfgfjanoaa

theorem rel_eq {w : List Nat} {op pos neg : Nat} {a b : Tab} {i j : Nat} (h1 : i ≤ j) (h2 : j ≤ w.length) : rel w op pos neg a b i j = (
    if op = 2 then i == j
    else if op = 3 then j == i + 1 && hasB pos neg (w.getD i 0)
    else if op = 4 then someB i j fun k => a i k && b k j
    else if op = 5 then a i j || b i j
    else if op = 6 then a i j && b i j
    else if op = 7 then !a i j
    else if op = 8 then starB a i j
    else if op = 9 then i == j && someB i w.length fun k => a i k
    else if op = 10 then i == j && someB 0 i fun k => a k i
    else false) := by
  unfold rel
  rw [decide_eq_true h1, decide_eq_true h2, Bool.true_and, Bool.true_and]
theorem someB_shift {lo hi s : Nat} {f : Nat → Bool} : someB (s + lo) (s + hi) f = someB lo hi fun k => f (s + k) := by
  rw [Bool.eq_iff_iff, someB_iff, someB_iff]
  constructor
  · rintro ⟨k, h1, h2, h3⟩
    exact ⟨k - s, by omega, by omega, by rw [show s + (k - s) = k by omega]; exact h3⟩
  · rintro ⟨k, h1, h2, h3⟩
    exact ⟨s + k, by omega, by omega, h3⟩
theorem starB_shift {a a' : Tab} {s : Nat} {j : Nat} (h : ∀ x y, x ≤ y → y ≤ j → a' x y = a (s + x) (s + y)) : ∀ f i, j - i ≤ f → i ≤ j → starB a' i j = starB a (s + i) (s + j)
  | 0, i, hf, hi => by
    obtain rfl : i = j := by omega
    rw [starB_eq, starB_eq a]
    simp
  | f + 1, i, hf, hi => by
    rw [starB_eq, starB_eq a, show s + i + 1 = s + (i + 1) by omega, someB_shift]
    have e : (s + i == s + j) = (i == j) := by rw [Bool.eq_iff_iff]; simp
    rw [e, someB_congr fun k h1 h2 => ?_]
    rw [h i k (by omega) h2, starB_shift h f k (by omega) h2]
/-- a factor is matched as where it lies -/
theorem mt_shift {w : List Nat} {s m : Nat} (hm : s + m ≤ w.length) : ∀ t : T, t.plain = true → ∀ i j, i ≤ j → j ≤ m → mt ((w.drop s).take m) t i j = mt w t (s + i) (s + j) := by
  have hl : ((w.drop s).take m).length = m := by rw [List.length_take, List.length_drop]; omega
  intro t
  induction t with
  | none =>
    intro _ i j h1 h2
    show rel _ 1 0 0 noT noT i j = rel _ 1 0 0 noT noT _ _
    rw [rel_eq h1 (by omega), rel_eq (by omega) (by omega)]
    rfl
  | empty =>
    intro _ i j h1 h2
    show rel _ 2 0 0 noT noT i j = rel _ 2 0 0 noT noT _ _
    rw [rel_eq h1 (by omega), rel_eq (by omega) (by omega), if_pos rfl, if_pos rfl, Bool.eq_iff_iff]
    simp
  | letter p n =>
    intro _ i j h1 h2
    show rel _ 3 p n noT noT i j = rel _ 3 p n noT noT _ _
    rw [rel_eq h1 (by omega), rel_eq (by omega) (by omega), if_neg (by decide), if_pos rfl, if_neg (by decide), if_pos rfl]
    by_cases hj : j = i + 1
    · have e : ((w.drop s).take m).getD i 0 = w.getD (s + i) 0 := by
        rw [List.getD_eq_getElem?_getD, List.getD_eq_getElem?_getD, List.getElem?_take, if_pos (by omega), List.getElem?_drop]
      rw [e, beq_iff_eq.2 hj, beq_iff_eq.2 (show s + j = s + i + 1 by omega)] <;> rfl
    · rw [beq_eq_false_iff_ne.2 hj, beq_eq_false_iff_ne.2 (show s + j ≠ s + i + 1 by omega)] <;> rfl
  | un op a ih =>
    intro hp i j h1 h2
    simp only [T.plain, Bool.and_eq_true, Bool.not_eq_true', isLook] at hp
    have ih := ih hp.2
    have hop : op ≠ 9 ∧ op ≠ 10 := by
      have := hp.1
      simp at this
      exact this
    show rel _ op 0 0 (mt _ a) noT i j = rel _ op 0 0 (mt w a) noT _ _
    rw [rel_eq h1 (by omega), rel_eq (by omega) (by omega)]
    simp only [hop.1, hop.2, if_false]
    rw [ih i j h1 h2, starB_shift (a := mt w a) (s := s) (j := j) (fun x y h3 h4 => ih x y h3 (by omega)) (j - i) i (Nat.le_refl _) h1, someB_shift, someB_congr (lo := i) (hi := j) (f := fun k => mt ((w.drop s).take m) a i k && noT k j) (g := fun k => mt w a (s + i) (s + k) && noT (s + k) (s + j)) (fun k h3 h4 => by rw [ih i k h3 (by omega)]; rfl)]
    have e2 : (i == j) = (s + i == s + j) := by rw [Bool.eq_iff_iff]; simp
    rw [← e2]
    by_cases h3 : op = 3
    · subst h3
      by_cases hj : j = i + 1
      · have e : ((w.drop s).take m).getD i 0 = w.getD (s + i) 0 := by
          rw [List.getD_eq_getElem?_getD, List.getD_eq_getElem?_getD, List.getElem?_take, if_pos (by omega), List.getElem?_drop]
        rw [e, beq_iff_eq.2 hj, beq_iff_eq.2 (show s + j = s + i + 1 by omega)] <;> rfl
      · rw [beq_eq_false_iff_ne.2 hj, beq_eq_false_iff_ne.2 (show s + j ≠ s + i + 1 by omega)] <;> rfl
    · simp only [h3, if_false]
      rfl
  | bin op a b iha ihb =>
    intro hp i j h1 h2
    simp only [T.plain, Bool.and_eq_true, Bool.not_eq_true', isLook] at hp
    have iha := iha hp.2.1
    have ihb := ihb hp.2.2
    have hop : op ≠ 9 ∧ op ≠ 10 := by
      have := hp.1
      simp at this
      exact this
    show rel _ op 0 0 (mt _ a) (mt _ b) i j = rel _ op 0 0 (mt w a) (mt w b) _ _
    rw [rel_eq h1 (by omega), rel_eq (by omega) (by omega)]
    simp only [hop.1, hop.2, if_false]
    rw [iha i j h1 h2, ihb i j h1 h2, starB_shift (a := mt w a) (s := s) (j := j) (fun x y h3 h4 => iha x y h3 (by omega)) (j - i) i (Nat.le_refl _) h1, someB_shift, someB_congr (lo := i) (hi := j) (f := fun k => mt ((w.drop s).take m) a i k && mt ((w.drop s).take m) b k j) (g := fun k => mt w a (s + i) (s + k) && mt w b (s + k) (s + j)) (fun k h3 h4 => by rw [iha i k h3 (by omega), ihb k j h4 h2])]
    have e2 : (i == j) = (s + i == s + j) := by rw [Bool.eq_iff_iff]; simp
    rw [← e2]
    by_cases h3 : op = 3
    · subst h3
      by_cases hj : j = i + 1
      · have e : ((w.drop s).take m).getD i 0 = w.getD (s + i) 0 := by
          rw [List.getD_eq_getElem?_getD, List.getD_eq_getElem?_getD, List.getElem?_take, if_pos (by omega), List.getElem?_drop]
        rw [e, beq_iff_eq.2 hj, beq_iff_eq.2 (show s + j = s + i + 1 by omega)] <;> rfl
      · rw [beq_eq_false_iff_ne.2 hj, beq_eq_false_iff_ne.2 (show s + j ≠ s + i + 1 by omega)] <;> rfl
    · simp only [h3, if_false]
theorem mt_null {w : List Nat} {t : T} (hp : t.plain = true) {i : Nat} (hi : i ≤ w.length) : mt w t i i = mt [] t 0 0 := by
  have := mt_shift (w := w) (s := i) (m := 0) (by omega) t hp 0 0 (Nat.le_refl _) (Nat.le_refl _)
  rw [List.take_zero] at this
  exact this.symm
theorem mt_tail {x : Nat} {w : List Nat} {t : T} (hp : t.plain = true) {i j : Nat} (hi : i ≤ j) (hj : j ≤ w.length) : mt (x :: w) t (i + 1) (j + 1) = mt w t i j := by
  have := mt_shift (w := x :: w) (s := 1) (m := w.length) (by simp; omega) t hp i j hi hj
  rw [List.drop_succ_cons, List.drop_zero, List.take_of_length_le (Nat.le_refl _)] at this
  rw [this, Nat.add_comm 1 i, Nat.add_comm 1 j]
/-! derivatives -/
def der (x : Nat) : T → T
  | .letter p n => if hasB p n x then .empty else .none
  | .un op a => if op = 7 then .un 7 (der x a) else if op = 8 then .bin 4 (der x a) (.un 8 a) else .none
  | .bin op a b => if op = 4 then (if mt [] a 0 0 then .bin 5 (.bin 4 (der x a) b) (der x b) else .bin 4 (der x a) b) else .bin op (der x a) (der x b)
  | _ => .none
theorem sq_le (a b : Nat) : a * (a + 2) + b * (b + 2) + b + 2 ≤ (a + b + 1) * (a + b + 1 + 2) := by
  have h : (a + b + 1) * (a + b + 1 + 2) = a * (a + 2) + b * (b + 2) + 2 * (a * b) + 2 * a + 2 * b + 3 := by
    simp only [Nat.add_mul, Nat.mul_add, Nat.mul_comm b a]
    omega
  omega
theorem der_size (x : Nat) : ∀ t : T, (der x t).size ≤ t.size * (t.size + 2)
  | .none => (by decide : 1 ≤ 1 * (1 + 2))
  | .empty => (by decide : 1 ≤ 1 * (1 + 2))
  | .letter p n => by
    show (if hasB p n x then T.empty else .none).size ≤ 1 * (1 + 2)
    split <;> decide
  | .un op a => by
    have h := der_size x a
    have hs := sq_le a.size 0
    show (if op = 7 then T.un 7 (der x a) else if op = 8 then .bin 4 (der x a) (.un 8 a) else .none).size ≤ (a.size + 1) * (a.size + 1 + 2)
    have hb : a.size * (a.size + 2) + a.size + 2 ≤ (a.size + 1) * (a.size + 1 + 2) := by
      have : (a.size + 1) * (a.size + 1 + 2) = a.size * (a.size + 2) + 2 * a.size + 3 := by simp only [Nat.add_mul, Nat.mul_add]; omega
      omega
    split
    · show (der x a).size + 1 ≤ _; omega
    · split
      · show (der x a).size + (a.size + 1) + 1 ≤ _; omega
      · show 1 ≤ _; omega
  | .bin op a b => by
    have h := der_size x a
    have h2 := der_size x b
    have hs := sq_le a.size b.size
    show (if op = 4 then (if mt [] a 0 0 then T.bin 5 (.bin 4 (der x a) b) (der x b) else .bin 4 (der x a) b) else .bin op (der x a) (der x b)).size ≤ (a.size + b.size + 1) * (a.size + b.size + 1 + 2)
    split
    · split
      · show (der x a).size + b.size + 1 + (der x b).size + 1 ≤ _; omega
      · show (der x a).size + b.size + 1 ≤ _; omega
    · show (der x a).size + (der x b).size + 1 ≤ _; omega
theorem der_ok {v : Int} (x : Nat) : ∀ t : T, t.wf v → t.plain = true → (der x t).wf v ∧ (der x t).plain = true
  | .none, _, _ => ⟨trivial, rfl⟩
  | .empty, _, _ => ⟨trivial, rfl⟩
  | .letter p n, _, _ => by
    show (if hasB p n x then T.empty else .none).wf v ∧ (if hasB p n x then T.empty else .none).plain = true
    split <;> exact ⟨trivial, rfl⟩
  | .un op a, h, hp => by
    simp only [T.plain, Bool.and_eq_true] at hp
    have ih := der_ok x a h.2 hp.2
    show (if op = 7 then T.un 7 (der x a) else if op = 8 then .bin 4 (der x a) (.un 8 a) else .none).wf v ∧ (if op = 7 then T.un 7 (der x a) else if op = 8 then .bin 4 (der x a) (.un 8 a) else .none).plain = true
    split
    · exact ⟨⟨rfl, ih.1⟩, by simp [T.plain, isLook, ih.2]⟩
    · split
      · exact ⟨⟨rfl, ih.1, rfl, h.2⟩, by simp [T.plain, isLook, ih.2, hp.2]⟩
      · exact ⟨trivial, rfl⟩
  | .bin op a b, h, hp => by
    simp only [T.plain, Bool.and_eq_true] at hp
    have ih := der_ok x a h.2.1 hp.2.1
    have ih2 := der_ok x b h.2.2 hp.2.2
    show (if op = 4 then (if mt [] a 0 0 then T.bin 5 (.bin 4 (der x a) b) (der x b) else .bin 4 (der x a) b) else .bin op (der x a) (der x b)).wf v ∧ (if op = 4 then (if mt [] a 0 0 then T.bin 5 (.bin 4 (der x a) b) (der x b) else .bin 4 (der x a) b) else .bin op (der x a) (der x b)).plain = true
    split
    · split
      · exact ⟨⟨rfl, ⟨rfl, ih.1, h.2.2⟩, ih2.1⟩, by simp [T.plain, isLook, ih.2, ih2.2, hp.2.2]⟩
      · exact ⟨⟨rfl, ih.1, h.2.2⟩, by simp [T.plain, isLook, ih.2, hp.2.2]⟩
    · exact ⟨⟨h.1, ih.1, ih2.1⟩, by simp [T.plain, ih.2, ih2.2]; simpa using hp.1⟩
theorem someB_succ {j : Nat} {f : Nat → Bool} : someB 1 (j + 1) f = someB 0 j fun k => f (k + 1) := by
  have := someB_shift (lo := 0) (hi := j) (s := 1) (f := f)
  rw [Nat.add_comm 1 j, Nat.add_zero] at this
  rw [this]
  exact someB_congr fun k _ _ => by rw [Nat.add_comm]
/-- the derivative matches the rest -/
theorem mt_der {v : Int} {x : Nat} {w : List Nat} : ∀ t : T, t.wf v → t.plain = true → ∀ j, j ≤ w.length → mt (x :: w) t 0 (j + 1) = mt w (der x t) 0 j
  | .none, _, _, j, hj => by
    show rel _ 1 0 0 noT noT _ _ = rel _ 1 0 0 noT noT _ _
    rw [rel_eq (Nat.zero_le _) (by simp; omega), rel_eq (Nat.zero_le _) hj]
    rfl
  | .empty, _, _, j, hj => by
    show rel _ 2 0 0 noT noT _ _ = rel _ 1 0 0 noT noT _ _
    rw [rel_eq (Nat.zero_le _) (by simp; omega), rel_eq (Nat.zero_le _) hj]
    rfl
  | .letter p n, _, _, j, hj => by
    show rel _ 3 p n noT noT _ _ = mt w (if hasB p n x then .empty else .none) _ _
    rw [rel_eq (Nat.zero_le _) (by simp; omega), if_neg (by decide), if_pos rfl]
    cases hb : hasB p n x with
    | true =>
      rw [if_pos rfl]
      show _ = rel _ 2 0 0 noT noT _ _
      rw [rel_eq (Nat.zero_le _) hj, if_pos rfl]
      simp only [List.getD_cons_zero, hb, Bool.and_true]
      rw [Bool.eq_iff_iff]
      simp
      omega
    | false =>
      rw [if_neg (by decide)]
      show _ = rel _ 1 0 0 noT noT _ _
      rw [rel_eq (Nat.zero_le _) hj]
      simp [hb]
  | .un op a, h, hp, j, hj => by
    have hp' := hp
    simp only [T.plain, Bool.and_eq_true, Bool.not_eq_true', isLook] at hp
    have h78 : op = 7 ∨ op = 8 := by
      have h1 := kids_one.1 h.1
      have h2 := hp.1
      simp at h2
      omega
    have ih := mt_der (x := x) (w := w) a h.2 hp.2
    rcases h78 with rfl | rfl
    · show rel _ 7 0 0 (mt _ a) noT _ _ = rel _ 7 0 0 (mt w (der x a)) noT _ _
      rw [rel_eq (Nat.zero_le _) (by simp; omega), rel_eq (Nat.zero_le _) hj]
      show (!mt (x :: w) a 0 (j + 1)) = !mt w (der x a) 0 j
      rw [ih j hj]
    · show rel _ 8 0 0 (mt _ a) noT _ _ = rel _ 4 0 0 (mt w (der x a)) (mt w (.un 8 a)) _ _
      rw [rel_eq (Nat.zero_le _) (by simp; omega), rel_eq (Nat.zero_le _) hj]
      show starB (mt (x :: w) a) 0 (j + 1) = someB 0 j fun k => mt w (der x a) 0 k && mt w (.un 8 a) k j
      rw [starB_eq, Nat.zero_add, someB_succ]
      have h0 : (0 == j + 1) = false := by simp
      rw [h0, Bool.false_or]
      refine someB_congr fun k h1 h2 => ?_
      rw [ih k (by omega)]
      congr 1
      have h3 := mt_tail (x := x) (w := w) (t := .un 8 a) hp' h2 hj
      rw [← h3]
      show _ = rel _ 8 0 0 (mt _ a) noT _ _
      rw [rel_eq (by omega) (by simp; omega)]
      rfl
  | .bin op a b, h, hp, j, hj => by
    simp only [T.plain, Bool.and_eq_true] at hp
    have iha := mt_der (x := x) (w := w) a h.2.1 hp.2.1
    have ihb := mt_der (x := x) (w := w) b h.2.2 hp.2.2
    have hk := kids_two.1 h.1
    rcases hk with rfl | rfl | rfl
    · show rel _ 4 0 0 (mt _ a) (mt _ b) _ _ = mt w (if mt [] a 0 0 then .bin 5 (.bin 4 (der x a) b) (der x b) else .bin 4 (der x a) b) _ _
      rw [rel_eq (Nat.zero_le _) (by simp; omega)]
      have hl : (someB 0 (j + 1) fun k => mt (x :: w) a 0 k && mt (x :: w) b k (j + 1)) = ((mt [] a 0 0 && mt w (der x b) 0 j) || someB 0 j fun k => mt w (der x a) 0 k && mt w b k j) := by
        rw [someB_head (Nat.zero_le _), Nat.zero_add, someB_succ, mt_null hp.2.1 (Nat.zero_le _), ihb j hj]
        congr 1
        refine someB_congr fun k h1 h2 => ?_
        rw [iha k (by omega), mt_tail hp.2.2 h2 hj]
      have hc : mt w (.bin 4 (der x a) b) 0 j = someB 0 j fun k => mt w (der x a) 0 k && mt w b k j := by
        show rel _ 4 0 0 _ _ _ _ = _
        rw [rel_eq (Nat.zero_le _) hj]
        rfl
      show (someB 0 (j + 1) fun k => mt (x :: w) a 0 k && mt (x :: w) b k (j + 1)) = _
      rw [hl]
      cases hn : mt [] a 0 0 with
      | true =>
        rw [if_pos rfl]
        show _ = rel _ 5 0 0 (mt w (.bin 4 (der x a) b)) (mt w (der x b)) _ _
        rw [rel_eq (Nat.zero_le _) hj]
        show _ = (mt w (.bin 4 (der x a) b) 0 j || mt w (der x b) 0 j)
        rw [hc, Bool.true_and, Bool.or_comm]
      | false =>
        rw [if_neg (by decide), hc, Bool.false_and, Bool.false_or]
    · show rel _ 5 0 0 (mt _ a) (mt _ b) _ _ = rel _ 5 0 0 _ _ _ _
      rw [rel_eq (Nat.zero_le _) (by simp; omega), rel_eq (Nat.zero_le _) hj]
      show (_ || _) = (_ || _)
      rw [iha j hj, ihb j hj]
    · show rel _ 6 0 0 (mt _ a) (mt _ b) _ _ = rel _ 6 0 0 _ _ _ _
      rw [rel_eq (Nat.zero_le _) (by simp; omega), rel_eq (Nat.zero_le _) hj]
      show (_ && _) = (_ && _)
      rw [iha j hj, ihb j hj]
end Go.Proofs.Ytebdkmfgfjanoaa
