/-
  The reference's reader: what its parts answer. No program in sight.
-/
import Derived.Test.YtebdkmfgfjanoaaRB
import Derived.Test.YtebdkmfgfjanoaaRD
namespace Go.Proofs.Ytebdkmfgfjanoaa

/-- how a call of expr or inner ends: the index a, the place k', the error e', the pieces L' -/
structure ROk (s : List UInt8) (k : Nat) (L : List Pc) (res : PR T) (a : Int) (k' : Nat) (e' : Int) (L' : List Pc) : Prop where
  le : k ≤ k'
  hi : k' ≤ s.length
  len : L'.length + k ≤ L.length + k'
  res : match res with
    | .ok t q => a = ((L.length + t.size : Nat) : Int) - 1 ∧ e' = 0 ∧ s.drop k' = q ∧ L' = L ++ t.flat L.length
    | .err e => e' = e ∧ e ≠ 0
/-- how eat ends -/
def EatP (b : UInt8) (s : List UInt8) (k : Nat) (e : Int) (k' : Nat) (e' : Int) : Prop :=
  if e ≠ 0 then k' = k ∧ e' = e else match s.drop k with
    | [] => k' = k ∧ e' = 3
    | c :: _ => if c = b then k' = k + 1 ∧ e' = 0 else k' = k ∧ e' = 2
theorem EatP.le {b : UInt8} {s : List UInt8} {k k' : Nat} {e e' : Int} (h : EatP b s k e k' e') (hk : k ≤ s.length) : k ≤ k' ∧ k' ≤ s.length := by
  unfold EatP at h
  split at h
  · omega
  · cases hd : s.drop k with
    | nil => rw [hd] at h; simp only at h; omega
    | cons c q =>
      rw [hd] at h
      have := congrArg List.length hd
      simp only [List.length_drop, List.length_cons] at this
      simp only at h
      split at h <;> omega
/-- a closing byte behind a tree that lies there -/
theorem eat_take {s : List UInt8} {k1 k2 : Nat} {e2 : Int} {q : List UInt8} (t : T) (hq : s.drop k1 = q) (he : EatP 41 s k1 0 k2 e2) :
    match pTake 41 t q with
    | .ok t' r => t' = t ∧ e2 = 0 ∧ s.drop k2 = r
    | .err e => e2 = e ∧ e ≠ 0 := by
  unfold EatP at he
  rw [if_neg (by simp), hq] at he
  cases q with
  | nil => exact ⟨he.2, by decide⟩
  | cons c q =>
    simp only at he
    by_cases h : c = 41
    · rw [if_pos h] at he
      have : pTake 41 t (c :: q) = .ok t q := if_pos h
      rw [this]
      refine ⟨rfl, he.2, ?_⟩
      rw [he.1, ← List.drop_drop, hq]; rfl
    · rw [if_neg h] at he
      have : pTake 41 t (c :: q) = .err 2 := if_neg h
      rw [this]
      exact ⟨he.2, by decide⟩
theorem un_ok {s : List UInt8} {k k1 k2 op : Nat} {a e1 e2 : Int} {L L1 : List Pc} {res : PR T} (h : ROk s k L res a k1 e1 L1) (hs : L1.length + 1 + k ≤ L.length + k1) (he : EatP 41 s k1 e1 k2 e2) :
    ROk s k L (thenUn op res) (L1.length : Nat) k2 e2 (L1 ++ [⟨op, 0, 0, a, 0⟩]) := by
  obtain ⟨h1, h2, h3, h4⟩ := h
  have hl := he.le h2
  refine ⟨by omega, hl.2, by simp; omega, ?_⟩
  cases res with
  | err e =>
    simp only at h4
    unfold EatP at he
    rw [if_pos (by omega)] at he
    exact ⟨by omega, h4.2⟩
  | ok t q =>
    simp only at h4
    obtain ⟨ha, h0, hq, hL⟩ := h4
    rw [h0] at he
    have h5 := eat_take (.un op t) hq he
    show match pTake 41 (.un op t) q with | .ok t q => _ | .err e => _
    cases hp : pTake 41 (.un op t) q with
    | err e => rw [hp] at h5; exact h5
    | ok t' r =>
      rw [hp] at h5
      simp only at h5
      obtain ⟨rfl, h6, h7⟩ := h5
      refine ⟨?_, h6, h7, ?_⟩
      · rw [hL]; simp [T.flat_len, T.size]; omega
      · rw [hL, ha]; simp [T.flat, T.root]
theorem bin_ok {s : List UInt8} {k k1 k2 k3 op : Nat} {a b e2 e3 : Int} {L L1 L2 : List Pc} {t : T} {d : UInt8} {q : List UInt8} {res : PR T} (h : ROk s k L (.ok t (d :: q)) a k1 0 L1) (h2 : ROk s (k1 + 1) L1 res b k2 e2 L2) (he : EatP 41 s k2 e2 k3 e3) :
    ROk s k L (thenBin op t res) (L2.length : Nat) k3 e3 (L2 ++ [⟨op, 0, 0, a, b⟩]) := by
  obtain ⟨g1, g2, g3, ga, _, gq, gL⟩ := h
  obtain ⟨h1, h2, h3, h4⟩ := h2
  have hl := he.le h2
  refine ⟨by omega, hl.2, by simp; omega, ?_⟩
  cases res with
  | err e =>
    simp only at h4
    unfold EatP at he
    rw [if_pos (by omega)] at he
    exact ⟨by omega, h4.2⟩
  | ok u r =>
    simp only at h4
    obtain ⟨hb, h0, hq, hL⟩ := h4
    rw [h0] at he
    have h5 := eat_take (.bin op t u) hq he
    show match pTake 41 (.bin op t u) r with | .ok t q => _ | .err e => _
    cases hp : pTake 41 (.bin op t u) r with
    | err e => rw [hp] at h5; exact h5
    | ok t' r' =>
      rw [hp] at h5
      simp only at h5
      obtain ⟨rfl, h6, h7⟩ := h5
      have hfa := T.flat_len L.length t
      have hll : L1.length = L.length + t.size := by rw [gL]; simp [hfa]
      refine ⟨?_, h6, h7, ?_⟩
      · rw [hL, List.length_append, T.flat_len, hll]; simp only [T.size]; omega
      · rw [hL, ga, hb, hll, gL]; simp [T.flat, T.root]
/-- one more byte is behind -/
theorem ROk.from1 {s : List UInt8} {k k' : Nat} {a e' : Int} {L L' : List Pc} {res : PR T} (h : ROk s (k + 1) L res a k' e' L') : ROk s k L res a k' e' L' ∧ L'.length + 1 + k ≤ L.length + k' :=
  ⟨⟨by have := h.le; omega, h.hi, by have := h.len; omega, h.res⟩, by have := h.len; omega⟩
theorem ROk.step {s : List UInt8} {k k' : Nat} {a : Int} {L L' : List Pc} {t : T} {d : UInt8} {q : List UInt8} (h : ROk s k L (.ok t (d :: q)) a k' 0 L') : ROk s k L (.ok t q) a (k' + 1) 0 L' ∧ L'.length + 1 + k ≤ L.length + (k' + 1) ∧ s[k']? = some d ∧ k' < s.length ∧ s.drop (k' + 1) = q := by
  obtain ⟨h1, h2, h3, h4, h5, h6, h7⟩ := h
  have e1 : s[k']? = some d := by
    have := congrArg (fun l => l[0]?) h6
    simpa [List.getElem?_drop] using this
  have e2 : s.drop (k' + 1) = q := by rw [← List.drop_drop, h6]; rfl
  have e3 := (List.getElem?_eq_some_iff.1 e1).1
  exact ⟨⟨by omega, by omega, by omega, h4, rfl, e2, h7⟩, by omega, e1, e3, e2⟩
end Go.Proofs.Ytebdkmfgfjanoaa
