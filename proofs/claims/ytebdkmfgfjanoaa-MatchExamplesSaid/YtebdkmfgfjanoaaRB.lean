/-
  Reading a text: what the parser of expressions answers. No program in sight.
-/
import Derived.Test.YtebdkmfgfjanoaaRX
import Derived.Lib.Bytealg
namespace Go.Proofs.Ytebdkmfgfjanoaa

/-- a result and what is left, or an error -/
inductive PR (α : Type) where
  | ok (a : α) (r : List UInt8)
  | err (e : Int)
/-- the names from number k on -/
def nm (k : Nat) : List UInt8 := [97, 98, 99, 100, 101, 102].drop k
/-- the rest of a cube in brackets: names from k on may follow, p and n are read -/
def pLet : Nat → Nat → Nat → Nat → List UInt8 → PR (Nat × Nat)
  | 0, _, _, _, _ => .err 0
  | _ + 1, _, _, _, [] => .err 3
  | f + 1, k, p, n, c :: r =>
    if c = 93 ∧ p ||| n ≠ 0 then .ok (p, n) r
    else if c = 33 ∧ k < 6 then (match r with
      | [] => .err 3
      | d :: r' => if d ∈ nm k then pLet f (d.toNat - 96) p (n ||| two (d.toNat - 97)) r' else .err 2)
    else if c ∈ nm k then pLet f (c.toNat - 96) (p ||| two (c.toNat - 97)) n r else .err 2
/-- a closing byte -/
def pTake (b : UInt8) (t : T) : List UInt8 → PR T
  | [] => .err 3
  | c :: r => if c = b then .ok t r else .err 2
def pLetter (f : Nat) : List UInt8 → PR T
  | [] => .err 3
  | c :: r => if c = 42 then pTake 93 (.letter 0 0) r
    else match pLet f 0 0 0 (c :: r) with
      | .ok (p, n) r' => .ok (.letter p n) r'
      | .err e => .err e
def preOp (c : UInt8) : Nat := if c = 126 then 7 else if c = 62 then 9 else if c = 60 then 10 else 0
def midOp (c : UInt8) : Nat := if c = 46 then 4 else if c = 124 then 5 else if c = 38 then 6 else 0
mutual
def pExpr : Nat → List UInt8 → PR T
  | 0, _ => .err 0
  | _ + 1, [] => .err 3
  | f + 1, c :: r =>
    if c = 48 then .ok .none r else if c = 49 then .ok .empty r else if c = 91 then pLetter (f + 1) r else if c = 40 then pGroup f r else .err 2
def pGroup : Nat → List UInt8 → PR T
  | _, [] => .err 3
  | 0, _ => .err 0
  | f + 1, c :: r =>
    if preOp c ≠ 0 then (match pExpr f r with
      | .ok a r2 => pTake 41 (.un (preOp c) a) r2
      | .err e => .err e)
    else match pExpr f (c :: r) with
      | .ok a r2 => (match r2 with
        | [] => .err 3
        | d :: r3 => if d = 42 then pTake 41 (.un 8 a) r3
          else if midOp d ≠ 0 then (match pExpr f r3 with
            | .ok b r4 => pTake 41 (.bin (midOp d) a b) r4
            | .err e => .err e)
          else .err 2)
      | .err e => .err e
end
theorem nm_iff {k : Nat} {c : UInt8} : c ∈ nm k ↔ 97 + k ≤ c.toNat ∧ c.toNat ≤ 102 := by
  have key : ∀ k : Nat, k < 7 → ∀ c : Fin 256, (UInt8.ofNat c.val ∈ nm k ↔ 97 + k ≤ c.val ∧ c.val ≤ 102) := by decide +kernel
  by_cases hk : k < 7
  · have := key k hk ⟨c.toNat, c.toNat_lt⟩
    simpa using this
  · have : nm k = [] := by simp [nm]; omega
    rw [this]; simp; omega
theorem nm_index {k : Nat} {c : UInt8} (h : c ∈ nm k) : Lib.indexByte (nm k) c = ((c.toNat - 97 - k : Nat) : Int) := by
  have key : ∀ k : Nat, k < 7 → ∀ c : Fin 256, UInt8.ofNat c.val ∈ nm k → Lib.indexByte (nm k) (UInt8.ofNat c.val) = ((c.val - 97 - k : Nat) : Int) := by decide +kernel
  by_cases hk : k < 7
  · have := key k hk ⟨c.toNat, c.toNat_lt⟩
    simpa using this (by simpa using h)
  · have : nm k = [] := by simp [nm]; omega
    rw [this] at h; cases h
theorem nm_drop (k j : Nat) : (nm k).drop j = nm (k + j) := by simp [nm, List.drop_drop]
theorem nm_len (k : Nat) : (nm k).length = 6 - k := by simp [nm]
theorem nm_nil {k : Nat} : nm k = [] ↔ 6 ≤ k := by
  rw [← List.length_eq_zero_iff, nm_len]; omega
end Go.Proofs.Ytebdkmfgfjanoaa
/-
  What the parser answers is no longer than what it reads.
-/
namespace Go.Proofs.Ytebdkmfgfjanoaa

theorem pTake_len {b : UInt8} {t u : T} {s r : List UInt8} (h : pTake b t s = .ok u r) : u = t ∧ s = b :: r := by
  cases s with
  | nil => cases h
  | cons c s =>
    simp only [pTake] at h
    split at h
    · rename_i e; cases h; exact ⟨rfl, by rw [e]⟩
    · cases h
theorem pLet_len : ∀ (f k p n : Nat) (s : List UInt8) (x : Nat × Nat) (r : List UInt8), pLet f k p n s = .ok x r → r.length + 1 ≤ s.length
  | 0, _, _, _, _, _, _, h => by cases h
  | f + 1, _, _, _, [], _, _, h => by cases h
  | f + 1, k, p, n, c :: s, x, r, h => by
    unfold pLet at h
    split at h
    · cases h; simp
    · split at h
      · split at h
        · cases h
        · split at h
          · have := pLet_len f _ _ _ _ _ _ h; simp; omega
          · cases h
      · split at h
        · have := pLet_len f _ _ _ _ _ _ h; simp; omega
        · cases h
theorem pLetter_len {f : Nat} {s r : List UInt8} {t : T} (h : pLetter f s = .ok t r) : t.size + r.length ≤ s.length := by
  cases s with
  | nil => cases h
  | cons c s =>
    simp only [pLetter] at h
    split at h
    · obtain ⟨rfl, rfl⟩ := pTake_len h; simp [T.size]; omega
    · split at h
      · rename_i x r' hl
        cases h
        have := pLet_len _ _ _ _ _ _ _ hl
        simp [T.size] at *; omega
      · cases h
theorem pBoth_len : ∀ f : Nat, (∀ (s : List UInt8) (t : T) (r : List UInt8), pExpr f s = .ok t r → t.size + r.length ≤ s.length) ∧ (∀ (s : List UInt8) (t : T) (r : List UInt8), pGroup f s = .ok t r → t.size + r.length ≤ s.length)
  | 0 => by
    refine ⟨fun s t r h => ?_, fun s t r h => ?_⟩
    · unfold pExpr at h; cases h
    · cases s <;> (unfold pGroup at h; cases h)
  | f + 1 => by
    have ih := pBoth_len f
    refine ⟨fun s t r h => ?_, fun s t r h => ?_⟩
    · cases s with
      | nil => unfold pExpr at h; cases h
      | cons c s =>
        unfold pExpr at h
        split at h
        · cases h; simp [T.size]; omega
        · split at h
          · cases h; simp [T.size]; omega
          · split at h
            · have := pLetter_len h; simp; omega
            · split at h
              · have := ih.2 _ _ _ h; simp; omega
              · cases h
    · cases s with
      | nil => unfold pGroup at h; cases h
      | cons c s =>
        unfold pGroup at h
        split at h
        · split at h
          · rename_i a r2 he
            have h1 := ih.1 _ _ _ he
            obtain ⟨rfl, rfl⟩ := pTake_len h
            simp [T.size] at *; omega
          · cases h
        · split at h
          · rename_i a r2 he
            have h1 := ih.1 _ _ _ he
            split at h
            · cases h
            · split at h
              · obtain ⟨rfl, rfl⟩ := pTake_len h
                simp [T.size] at *; omega
              · split at h
                · split at h
                  · rename_i b r4 hb
                    have h2 := ih.1 _ _ _ hb
                    obtain ⟨rfl, rfl⟩ := pTake_len h
                    simp [T.size] at *; omega
                  · cases h
                · cases h
          · cases h
end Go.Proofs.Ytebdkmfgfjanoaa
/-
  The parser of expressions and the texts: what is read is a valid tree whose text was read; a text is read as its tree; errors; prefixes. No program in sight.
-/
namespace Go.Proofs.Ytebdkmfgfjanoaa

theorem pLet_ok : ∀ (f k p n : Nat) (s : List UInt8) (x : Nat × Nat) (r : List UInt8), pLet f k p n s = .ok x r → k ≤ 6 → p < two k → n < two k → p &&& n = 0 →
    ∃ k' u, k' ≤ 6 ∧ x.1 < two k' ∧ x.2 < two k' ∧ x.1 &&& x.2 = 0 ∧ x.1 ||| x.2 ≠ 0 ∧ s = u ++ 93 :: r ∧ litsText (litTo p n k) ++ u = litsText (litTo x.1 x.2 k')
  | 0, _, _, _, _, _, _, h => by cases h
  | f + 1, _, _, _, [], _, _, h => by cases h
  | f + 1, k, p, n, c :: s, x, r, h => by
    intro hk hp hn hd
    unfold pLet at h
    split at h
    · rename_i hc
      cases h
      exact ⟨k, [], hk, hp, hn, hd, hc.2, by rw [hc.1]; rfl, by simp⟩
    · split at h
      · rename_i hc
        obtain ⟨rfl, _⟩ := hc
        split at h
        · cases h
        · rename_i d r'
          split at h
          · rename_i hd2
            have hb := nm_iff.1 hd2
            have e1 : d.toNat - 96 = d.toNat - 97 + 1 := by omega
            have hkj : k ≤ d.toNat - 97 := by omega
            rw [e1] at h
            obtain ⟨k', u, h1, h2, h3, h4, h5, h6, h7⟩ := pLet_ok f _ _ _ _ _ _ h (by omega) (lt_lift hp (by omega)) (or_lt hn hkj) (by
              rw [Nat.and_comm]; exact or_dis hp hkj (by rw [Nat.and_comm]; exact hd))
            refine ⟨k', 33 :: d :: u, h1, h2, h3, h4, h5, by rw [h6]; rfl, ?_⟩
            rw [← h7, lit_neg hp hn hkj (by omega), ofNat_back (by omega)]
            simp
          · cases h
      · split at h
        · rename_i hd2
          have hb := nm_iff.1 hd2
          have e1 : c.toNat - 96 = c.toNat - 97 + 1 := by omega
          have hkj : k ≤ c.toNat - 97 := by omega
          rw [e1] at h
          obtain ⟨k', u, h1, h2, h3, h4, h5, h6, h7⟩ := pLet_ok f _ _ _ _ _ _ h (by omega) (or_lt hp hkj) (lt_lift hn (by omega)) (or_dis hn hkj hd)
          refine ⟨k', c :: u, h1, h2, h3, h4, h5, by rw [h6]; rfl, ?_⟩
          rw [← h7, lit_pos hp hn hkj (by omega), ofNat_back (by omega)]
          simp
        · cases h
theorem lits_upto {p n k : Nat} (hp : p < two k) (hn : n < two k) (hk : k ≤ 8) : litTo p n k = lits p n := by
  have := litTo_stop hp hn (8 - k)
  rw [show k + (8 - k) = 8 by omega] at this
  exact this.symm
theorem litsText_ne {p n : Nat} (h : p ||| n ≠ 0) (hp : p < 256) (hn : n < 256) : litsText (lits p n) ≠ [] := by
  intro e
  have h1 : ∀ k, k ≤ 8 → litsText (litTo p n k) = [] := fun k hk => by
    obtain ⟨t, ht⟩ := litTo_prefix p n k 8 hk
    rw [lits, ← ht, litsText_append] at e
    exact (List.append_eq_nil_iff.1 e).1
  have h2 : ∀ k, k < 8 → p &&& two k = 0 ∧ n &&& two k = 0 := fun k hk => by
    have := h1 (k + 1) (by omega)
    rw [litTo_succ hk, litsText_append] at this
    have := (List.append_eq_nil_iff.1 this).2
    unfold litAt at this
    by_cases ha : p &&& two k = 0
    · refine ⟨ha, ?_⟩
      by_cases hb : n &&& two k = 0
      · exact hb
      · rw [if_pos ha, if_neg hb] at this; simp [litsText, litText] at this
    · rw [if_neg ha] at this; simp [litsText, litText] at this
  have h3 : ∀ x : Nat, x < 256 → (∀ k, k < 8 → x &&& two k = 0) → x = 0 := fun x hx hk => by
    refine Nat.eq_of_testBit_eq fun i => ?_
    rw [Nat.zero_testBit]
    by_cases hi : i < 8
    · exact and_two.1 (hk i hi)
    · exact bit_small (k := 8) hx (by omega)
  rw [h3 p hp fun k hk => (h2 k hk).1, h3 n hn fun k hk => (h2 k hk).2] at h
  exact h rfl
theorem two8 : two 8 = 256 := rfl
theorem two6 : two 6 = 64 := rfl
theorem pLetter_ok {f : Nat} {s r : List UInt8} {t : T} (h : pLetter f s = .ok t r) : t.wf 6 ∧ 91 :: s = t.text ++ r := by
  cases s with
  | nil => cases h
  | cons c s =>
    simp only [pLetter] at h
    split at h
    · rename_i hc
      obtain ⟨rfl, rfl⟩ := pTake_len h
      subst hc
      refine ⟨?_, rfl⟩
      show chk 0 0 6 = 0
      decide
    · split at h
      · rename_i p n r' hl
        cases h
        obtain ⟨k', u, h1, h2, h3, h4, h5, h6, h7⟩ := pLet_ok _ _ _ _ _ _ _ hl (by omega) (by decide) (by decide) (by decide)
        simp only at h2 h3 h4 h5 h7
        have hu : u = litsText (lits p n) := by
          rw [← lits_upto h2 h3 (by omega), ← h7]; rfl
        have l6 : two k' ≤ two 6 := Nat.pow_le_pow_right (by omega) h1
        rw [two6] at l6
        refine ⟨chk_of (k := 6) (by omega) (by rw [two6]; omega) (by rw [two6]; omega) h4, ?_⟩
        rw [h6, hu]
        have : fmtText p n = litsText (lits p n) := if_neg (litsText_ne h5 (by omega) (by omega))
        simp [T.text, this]
      · cases h
theorem preOp_iff {c : UInt8} (h : preOp c ≠ 0) : kids (preOp c) = 1 ∧ opB (preOp c) = [40, c] ∧ opM (preOp c) = [] ∧ opA (preOp c) = [41] := by
  unfold preOp at *
  split
  · rename_i e; subst e; decide
  · split
    · rename_i e; subst e; decide
    · split
      · rename_i e; subst e; decide
      · rename_i h1 h2 h3; rw [if_neg h1, if_neg h2, if_neg h3] at h; exact absurd rfl h
theorem midOp_iff {c : UInt8} (h : midOp c ≠ 0) : kids (midOp c) = 2 ∧ opB (midOp c) = [40] ∧ opM (midOp c) = [c] ∧ opA (midOp c) = [41] := by
  unfold midOp at *
  split
  · rename_i e; subst e; decide
  · split
    · rename_i e; subst e; decide
    · split
      · rename_i e; subst e; decide
      · rename_i h1 h2 h3; rw [if_neg h1, if_neg h2, if_neg h3] at h; exact absurd rfl h
theorem pBoth_ok : ∀ f : Nat, (∀ (s : List UInt8) (t : T) (r : List UInt8), pExpr f s = .ok t r → t.wf 6 ∧ s = t.text ++ r) ∧ (∀ (s : List UInt8) (t : T) (r : List UInt8), pGroup f s = .ok t r → t.wf 6 ∧ 40 :: s = t.text ++ r)
  | 0 => by
    refine ⟨fun s t r h => ?_, fun s t r h => ?_⟩
    · unfold pExpr at h; cases h
    · cases s <;> (unfold pGroup at h; cases h)
  | f + 1 => by
    have ih := pBoth_ok f
    refine ⟨fun s t r h => ?_, fun s t r h => ?_⟩
    · cases s with
      | nil => unfold pExpr at h; cases h
      | cons c s =>
        unfold pExpr at h
        split at h
        · rename_i e; cases h; subst e; exact ⟨trivial, rfl⟩
        · split at h
          · rename_i e; cases h; subst e; exact ⟨trivial, rfl⟩
          · split at h
            · rename_i e; subst e; exact pLetter_ok h
            · split at h
              · rename_i e; subst e; exact ih.2 _ _ _ h
              · cases h
    · cases s with
      | nil => unfold pGroup at h; cases h
      | cons c s =>
        unfold pGroup at h
        split at h
        · rename_i hpre
          split at h
          · rename_i a r2 he
            obtain ⟨h1, h2⟩ := ih.1 _ _ _ he
            obtain ⟨rfl, rfl⟩ := pTake_len h
            obtain ⟨k1, k2, k3, k4⟩ := preOp_iff hpre
            refine ⟨⟨k1, h1⟩, ?_⟩
            simp [T.text, k2, k3, k4, h2]
          · cases h
        · split at h
          · rename_i a r2 he
            obtain ⟨h1, h2⟩ := ih.1 _ _ _ he
            split at h
            · cases h
            · rename_i d r3
              split at h
              · rename_i e
                subst e
                obtain ⟨rfl, rfl⟩ := pTake_len h
                refine ⟨⟨rfl, h1⟩, ?_⟩
                rw [h2]
                simp [T.text, opB, opM, opA]
              · split at h
                · rename_i hm
                  split at h
                  · rename_i b r4 hb
                    obtain ⟨h3, h4⟩ := ih.1 _ _ _ hb
                    obtain ⟨rfl, rfl⟩ := pTake_len h
                    obtain ⟨k1, k2, k3, k4⟩ := midOp_iff hm
                    refine ⟨⟨k1, h1, h3⟩, ?_⟩
                    rw [h2, h4]
                    simp [T.text, k2, k3, k4]
                  · cases h
                · cases h
          · cases h
theorem pExpr_ok {f : Nat} {s r : List UInt8} {t : T} (h : pExpr f s = .ok t r) : t.wf 6 ∧ s = t.text ++ r := (pBoth_ok f).1 s t r h

/-! errors -/
theorem pTake_err {b : UInt8} {t : T} {s : List UInt8} {e : Int} (h : pTake b t s = .err e) : e = 2 ∨ e = 3 := by
  cases s with
  | nil => cases h; exact .inr rfl
  | cons c s => simp only [pTake] at h; split at h <;> cases h; exact .inl rfl
theorem pLet_err : ∀ (f k p n : Nat) (s : List UInt8) (e : Int), s.length < f → pLet f k p n s = .err e → e = 2 ∨ e = 3
  | 0, _, _, _, _, _, hf, _ => absurd hf (Nat.not_lt_zero _)
  | f + 1, _, _, _, [], _, _, h => by cases h; exact .inr rfl
  | f + 1, k, p, n, c :: s, e, hf, h => by
    simp only [List.length_cons] at hf
    unfold pLet at h
    split at h
    · cases h
    · split at h
      · split at h
        · cases h; exact .inr rfl
        · split at h
          · exact pLet_err f _ _ _ _ e (by simp at hf; omega) h
          · cases h; exact .inl rfl
      · split at h
        · exact pLet_err f _ _ _ _ e (by omega) h
        · cases h; exact .inl rfl
theorem pLetter_err {f : Nat} {s : List UInt8} {e : Int} (hf : s.length < f) (h : pLetter f s = .err e) : e = 2 ∨ e = 3 := by
  cases s with
  | nil => cases h; exact .inr rfl
  | cons c s =>
    simp only [pLetter] at h
    split at h
    · exact pTake_err h
    · split at h
      · cases h
      · rename_i e' hl
        cases h
        exact pLet_err _ _ _ _ _ _ hf hl
theorem pBoth_err : ∀ f : Nat, (∀ (s : List UInt8) (e : Int), 2 * s.length < f → pExpr f s = .err e → e = 2 ∨ e = 3) ∧ (∀ (s : List UInt8) (e : Int), 2 * s.length + 1 < f → pGroup f s = .err e → e = 2 ∨ e = 3)
  | 0 => ⟨fun _ _ h => absurd h (Nat.not_lt_zero _), fun _ _ h => absurd h (Nat.not_lt_zero _)⟩
  | f + 1 => by
    have ih := pBoth_err f
    refine ⟨fun s e hf h => ?_, fun s e hf h => ?_⟩
    · cases s with
      | nil => unfold pExpr at h; cases h; exact .inr rfl
      | cons c s =>
        simp only [List.length_cons] at hf
        unfold pExpr at h
        split at h
        · cases h
        · split at h
          · cases h
          · split at h
            · exact pLetter_err (by omega) h
            · split at h
              · exact ih.2 _ _ (by omega) h
              · cases h; exact .inl rfl
    · cases s with
      | nil => unfold pGroup at h; cases h; exact .inr rfl
      | cons c s =>
        simp only [List.length_cons] at hf
        unfold pGroup at h
        split at h
        · split at h
          · exact pTake_err h
          · rename_i e' he
            cases h
            exact ih.1 _ _ (by omega) he
        · split at h
          · rename_i a r2 he
            have hl := (pBoth_len f).1 _ _ _ he
            have hp := T.size_pos a
            simp only [List.length_cons] at hl
            split at h
            · cases h; exact .inr rfl
            · simp only [List.length_cons] at hl
              split at h
              · exact pTake_err h
              · split at h
                · split at h
                  · exact pTake_err h
                  · rename_i e' hb
                    cases h
                    exact ih.1 _ _ (by omega) hb
                · cases h; exact .inl rfl
          · rename_i e' he
            cases h
            exact ih.1 _ _ (by simp; omega) he
theorem pExpr_err {f : Nat} {s : List UInt8} {e : Int} (hf : 2 * s.length < f) (h : pExpr f s = .err e) : e = 2 ∨ e = 3 := (pBoth_err f).1 s e hf h

/-! what follows does not matter, nor more fuel -/
/-- y says more than x: the same tree with z behind what is left, the same wrong byte -/
def PExt {α : Type} (z : List UInt8) (x y : PR α) : Prop := (∀ t r, x = .ok t r → y = .ok t (r ++ z)) ∧ (x = .err 2 → y = .err 2)
theorem pTake_ext (z : List UInt8) (b : UInt8) (t : T) (s : List UInt8) : PExt z (pTake b t s) (pTake b t (s ++ z)) := by
  cases s with
  | nil => exact ⟨fun _ _ h => (by cases h), fun h => (by cases h)⟩
  | cons c s =>
    simp only [pTake, List.cons_append]
    split
    · exact ⟨fun _ _ h => (by cases h; rfl), fun h => (by cases h)⟩
    · exact ⟨fun _ _ h => (by cases h), fun _ => rfl⟩
theorem PExt.same {α : Type} {z : List UInt8} {e : Int} : PExt (α := α) z (.err e) (.err e) := ⟨fun _ _ h => (by cases h), fun h => h⟩
theorem PExt.other {α : Type} {z : List UInt8} {e : Int} {y : PR α} (he : e ≠ 2) : PExt z (.err e) y := ⟨fun _ _ h => (by cases h), fun h => (by cases h; exact absurd rfl he)⟩
theorem PExt.bind {α β : Type} {z : List UInt8} {x y : PR α} {g g' : α → List UInt8 → PR β} :
    PExt z x y → (∀ t r, PExt z (g t r) (g' t (r ++ z))) → PExt z (match x with | .ok t r => g t r | .err e => .err e) (match y with | .ok t r => g' t r | .err e => .err e) := by
  intro h hg
  cases x with
  | ok t r =>
    have := h.1 t r rfl
    subst this
    exact hg t r
  | err e =>
    by_cases he : e = 2
    · subst he
      have := h.2 rfl
      subst this
      exact .same
    · exact .other he
theorem pLet_ext (z : List UInt8) : ∀ (f f' k p n : Nat) (s : List UInt8), f ≤ f' → PExt z (pLet f k p n s) (pLet f' k p n (s ++ z))
  | 0, _, _, _, _, _, _ => .other (by decide)
  | f + 1, 0, _, _, _, _, h => by omega
  | f + 1, f' + 1, _, _, _, [], _ => .other (by decide)
  | f + 1, f' + 1, k, p, n, c :: s, h => by
    rw [List.cons_append]
    unfold pLet
    split
    · exact ⟨fun _ _ h => (by cases h; rfl), fun h => (by cases h)⟩
    · split
      · cases s with
        | nil => exact .other (by decide)
        | cons d r =>
          simp only [List.cons_append]
          split
          · exact pLet_ext z f f' _ _ _ _ (by omega)
          · exact .same
      · split
        · exact pLet_ext z f f' _ _ _ _ (by omega)
        · exact .same
theorem pLetter_ext (z : List UInt8) {f f' : Nat} (s : List UInt8) (h : f ≤ f') : PExt z (pLetter f s) (pLetter f' (s ++ z)) := by
  cases s with
  | nil => exact .other (by decide)
  | cons c s =>
    simp only [pLetter, List.cons_append]
    split
    · exact pTake_ext z _ _ _
    · have hx : PExt z (pLet f 0 0 0 (c :: s)) (pLet f' 0 0 0 (c :: (s ++ z))) := pLet_ext z f f' 0 0 0 (c :: s) h
      generalize pLet f 0 0 0 (c :: s) = x at hx ⊢
      generalize pLet f' 0 0 0 (c :: (s ++ z)) = y at hx ⊢
      cases x with
      | ok t r =>
        have := hx.1 t r rfl
        subst this
        exact ⟨fun _ _ h => (by cases h; rfl), fun h => (by cases h)⟩
      | err e =>
        by_cases he : e = 2
        · subst he
          have := hx.2 rfl
          subst this
          exact .same
        · exact .other he
theorem pBoth_ext (z : List UInt8) : ∀ f f' : Nat, f ≤ f' → (∀ s : List UInt8, PExt z (pExpr f s) (pExpr f' (s ++ z))) ∧ (∀ s : List UInt8, PExt z (pGroup f s) (pGroup f' (s ++ z)))
  | 0, _, _ => by
    refine ⟨fun s => ?_, fun s => ?_⟩
    · have : pExpr 0 s = .err 0 := by unfold pExpr; rfl
      rw [this]; exact .other (by decide)
    · cases s with
      | nil => have : pGroup 0 [] = .err 3 := by unfold pGroup; rfl
               rw [this]; exact .other (by decide)
      | cons c s => have : pGroup 0 (c :: s) = .err 0 := by unfold pGroup; rfl
                    rw [this]; exact .other (by decide)
  | f + 1, 0, h => by omega
  | f + 1, f' + 1, h => by
    have ih := pBoth_ext z f f' (by omega)
    refine ⟨fun s => ?_, fun s => ?_⟩
    · cases s with
      | nil => have : pExpr (f + 1) [] = .err 3 := by unfold pExpr; rfl
               rw [this]; exact .other (by decide)
      | cons c s =>
        rw [List.cons_append]
        unfold pExpr
        split
        · exact ⟨fun _ _ h => (by cases h; rfl), fun h => (by cases h)⟩
        · split
          · exact ⟨fun _ _ h => (by cases h; rfl), fun h => (by cases h)⟩
          · split
            · exact pLetter_ext z s (by omega)
            · split
              · exact ih.2 s
              · exact .same
    · cases s with
      | nil => have : pGroup (f + 1) [] = .err 3 := by unfold pGroup; rfl
               rw [this]; exact .other (by decide)
      | cons c s =>
        rw [List.cons_append]
        unfold pGroup
        split
        · have hx : PExt z (pExpr f s) (pExpr f' (s ++ z)) := ih.1 s
          generalize pExpr f s = x at hx ⊢
          generalize pExpr f' (s ++ z) = y at hx ⊢
          cases x with
          | ok t r =>
            have := hx.1 t r rfl
            subst this
            exact pTake_ext z _ _ _
          | err e =>
            by_cases he : e = 2
            · subst he
              have := hx.2 rfl
              subst this
              exact .same
            · exact .other he
        · have hx : PExt z (pExpr f (c :: s)) (pExpr f' (c :: (s ++ z))) := ih.1 (c :: s)
          generalize pExpr f (c :: s) = x at hx ⊢
          generalize pExpr f' (c :: (s ++ z)) = y at hx ⊢
          cases x with
          | ok t r =>
            have := hx.1 t r rfl
            subst this
            cases r with
            | nil => exact .other (by decide)
            | cons d r3 =>
              simp only [List.cons_append]
              split
              · exact pTake_ext z _ _ _
              · split
                · have hx : PExt z (pExpr f r3) (pExpr f' (r3 ++ z)) := ih.1 r3
                  generalize pExpr f r3 = x at hx ⊢
                  generalize pExpr f' (r3 ++ z) = y at hx ⊢
                  cases x with
                  | ok t r =>
                    have := hx.1 t r rfl
                    subst this
                    exact pTake_ext z _ _ _
                  | err e =>
                    by_cases he : e = 2
                    · subst he
                      have := hx.2 rfl
                      subst this
                      exact .same
                    · exact .other he
                · exact .same
          | err e =>
            by_cases he : e = 2
            · subst he
              have := hx.2 rfl
              subst this
              exact .same
            · exact .other he
theorem pExpr_ext (z : List UInt8) {f f' : Nat} (h : f ≤ f') (s : List UInt8) : PExt z (pExpr f s) (pExpr f' (s ++ z)) := (pBoth_ext z f f' h).1 s
end Go.Proofs.Ytebdkmfgfjanoaa
/-
  The text of a tree is read as the tree. No program in sight.
-/
namespace Go.Proofs.Ytebdkmfgfjanoaa

theorem ofNat_ne {k : Nat} (h : k < 6) (c : UInt8) (hc : c.toNat < 97 := by decide) : ¬ UInt8.ofNat (97 + k) = c := by
  intro e
  have := congrArg UInt8.toNat e
  rw [ofNat_val h] at this
  omega
theorem pLet_lp {f k j P N : Nat} {q : List UInt8} (hk : k ≤ j) (hj : j < 6) : pLet (f + 1) k P N (UInt8.ofNat (97 + j) :: q) = pLet f (j + 1) (P ||| two j) N q := by
  have h93 : ¬ UInt8.ofNat (97 + j) = 93 := ofNat_ne hj 93
  have h33 : ¬ UInt8.ofNat (97 + j) = 33 := ofNat_ne hj 33
  have hm : UInt8.ofNat (97 + j) ∈ nm k := nm_iff.2 (by rw [ofNat_val hj]; omega)
  have e1 : (UInt8.ofNat (97 + j)).toNat - 96 = j + 1 := by rw [ofNat_val hj]; omega
  have e2 : (UInt8.ofNat (97 + j)).toNat - 97 = j := by rw [ofNat_val hj]; omega
  rw [pLet.eq_def]
  simp only [e1, e2]
  rw [if_neg fun h => h93 h.1, if_neg fun h => h33 h.1, if_pos hm]
theorem pLet_ln {f k j P N : Nat} {q : List UInt8} (hk : k ≤ j) (hj : j < 6) : pLet (f + 1) k P N (33 :: UInt8.ofNat (97 + j) :: q) = pLet f (j + 1) P (N ||| two j) q := by
  have hm : UInt8.ofNat (97 + j) ∈ nm k := nm_iff.2 (by rw [ofNat_val hj]; omega)
  have e1 : (UInt8.ofNat (97 + j)).toNat - 96 = j + 1 := by rw [ofNat_val hj]; omega
  have e2 : (UInt8.ofNat (97 + j)).toNat - 97 = j := by rw [ofNat_val hj]; omega
  rw [pLet.eq_def]
  simp only [e1, e2]
  rw [if_neg (by simp), if_pos ⟨trivial, by omega⟩, if_pos hm]
theorem pLet_text {p n : Nat} (hd : p &&& n = 0) : ∀ j : Nat, j ≤ 6 → ∀ (f : Nat) (q : List UInt8), (litTo p n j).length ≤ f → ∃ f' k, f' + (litTo p n j).length = f ∧ k ≤ j ∧ pLet f 0 0 0 (litsText (litTo p n j) ++ q) = pLet f' k (p % two j) (n % two j) q
  | 0, _, f, q, _ => ⟨f, 0, by simp [litTo], Nat.le_refl _, by simp [litTo, litsText, two, Nat.mod_one]⟩
  | j + 1, hj, f, q, hf => by
    have hj8 : j < 8 := by omega
    rw [litTo_succ hj8] at hf ⊢
    rw [List.length_append] at hf ⊢
    have hlen : ∀ x : Litl, ([x] : List Litl).length = 1 := fun _ => rfl
    by_cases hp : p &&& two j = 0
    · by_cases hn : n &&& two j = 0
      · obtain ⟨f', k, h1, h2, h3⟩ := pLet_text hd j (by omega) f q (by omega)
        have e : litAt p n ⟨j, hj8⟩ = [] := by simp [litAt, hp, hn]
        refine ⟨f', k, by rw [e]; simpa using h1, by omega, ?_⟩
        rw [e, List.append_nil, mod_succ_zero hp, mod_succ_zero hn, h3]
      · have e : litAt p n ⟨j, hj8⟩ = [(⟨j, hj8⟩, false)] := by simp [litAt, hp, hn]
        rw [e, hlen] at hf
        obtain ⟨f', k, h1, h2, h3⟩ := pLet_text hd j (by omega) f (33 :: UInt8.ofNat (97 + j) :: q) (by omega)
        obtain ⟨g, rfl⟩ : ∃ g, f' = g + 1 := ⟨f' - 1, by omega⟩
        refine ⟨g, j + 1, by rw [e, hlen]; omega, Nat.le_refl _, ?_⟩
        rw [pLet_ln h2 (by omega)] at h3
        rw [e, litsText_append, mod_succ_zero hp, mod_succ_one hn, ← h3]
        simp [litsText, litText]
    · have hn : n &&& two j = 0 := by
        rw [and_two]
        have h4 := dis_iff.1 (by rw [Nat.and_comm]; exact hd : n &&& p = 0) j
        refine h4 ?_
        cases hx : p.testBit j with
        | true => rfl
        | false => exact absurd (and_two.2 hx) hp
      have e : litAt p n ⟨j, hj8⟩ = [(⟨j, hj8⟩, true)] := by simp [litAt, hp, hn]
      rw [e, hlen] at hf
      obtain ⟨f', k, h1, h2, h3⟩ := pLet_text hd j (by omega) f (UInt8.ofNat (97 + j) :: q) (by omega)
      obtain ⟨g, rfl⟩ : ∃ g, f' = g + 1 := ⟨f' - 1, by omega⟩
      refine ⟨g, j + 1, by rw [e, hlen]; omega, Nat.le_refl _, ?_⟩
      rw [pLet_lp h2 (by omega)] at h3
      rw [e, litsText_append, mod_succ_one hp, mod_succ_zero hn, ← h3]
      simp [litsText, litText]
theorem litsText_ge : ∀ l : List Litl, l.length ≤ (litsText l).length
  | [] => Nat.le_refl _
  | x :: l => by
    have := litsText_ge l
    have h1 : 1 ≤ (litText x).length := by unfold litText; split <;> simp
    simp only [litsText, List.flatMap_cons, List.length_append, List.length_cons] at *
    omega
theorem chk6 {p n : Nat} (h : chk p n 6 = 0) : p < 64 ∧ n < 64 ∧ p &&& n = 0 := wf_letter h
theorem pLetter_text {p n f : Nat} {r : List UInt8} (h : chk p n 6 = 0) (hf : (fmtText p n).length < f) : pLetter f (fmtText p n ++ 93 :: r) = .ok (.letter p n) r := by
  obtain ⟨hp, hn, hd⟩ := chk6 h
  by_cases h0 : p ||| n = 0
  · have hp0 : p = 0 := by have := (Nat.left_le_or : p ≤ p ||| n); omega
    have hn0 : n = 0 := by have := (Nat.right_le_or : n ≤ p ||| n); omega
    subst hp0 hn0
    rfl
  · have hne := litsText_ne h0 (by omega) (by omega)
    have hft : fmtText p n = litsText (lits p n) := if_neg hne
    have hl6 : litTo p n 6 = lits p n := lits_upto (by rw [two6]; omega) (by rw [two6]; omega) (by omega)
    rw [hft] at hf ⊢
    have hge := litsText_ge (lits p n)
    obtain ⟨f', k, h1, h2, h3⟩ := pLet_text hd 6 (Nat.le_refl _) f (93 :: r) (by rw [hl6]; omega)
    rw [hl6] at h1 h3
    obtain ⟨g, rfl⟩ : ∃ g, f' = g + 1 := ⟨f' - 1, by omega⟩
    have e1 : p % two 6 = p := Nat.mod_eq_of_lt (by rw [two6]; omega)
    have e2 : n % two 6 = n := Nat.mod_eq_of_lt (by rw [two6]; omega)
    have h4 : pLet (g + 1) k p n (93 :: r) = .ok (p, n) r := by
      rw [pLet.eq_def]; exact if_pos ⟨rfl, h0⟩
    rw [e1, e2, h4] at h3
    obtain ⟨c, s, hc⟩ : ∃ c s, litsText (lits p n) = c :: s := by
      cases hq : litsText (lits p n) with
      | nil => exact absurd hq hne
      | cons c s => exact ⟨c, s, rfl⟩
    rw [hc] at h3 ⊢
    rw [List.cons_append] at h3 ⊢
    by_cases h42 : c = 42
    · subst h42
      obtain ⟨f0, rfl⟩ : ∃ f0, f = f0 + 1 := ⟨f - 1, by omega⟩
      rw [pLet.eq_def] at h3
      simp only at h3
      rw [if_neg (by simp), if_neg (by simp), if_neg (by decide)] at h3
      cases h3
    · simp only [pLetter, if_neg h42, h3]
theorem text_head (t : T) (h : t.wf 6) : ∃ c s, t.text = c :: s ∧ preOp c = 0 := by
  cases t with
  | none => exact ⟨_, _, rfl, rfl⟩
  | empty => exact ⟨_, _, rfl, rfl⟩
  | letter p n => exact ⟨_, _, rfl, rfl⟩
  | un op a =>
    have : op = 7 ∨ op = 8 ∨ op = 9 ∨ op = 10 := kids_one.1 h.1
    rcases this with rfl | rfl | rfl | rfl <;> exact ⟨_, _, rfl, rfl⟩
  | bin op a b =>
    have : op = 4 ∨ op = 5 ∨ op = 6 := kids_two.1 h.1
    rcases this with rfl | rfl | rfl <;> exact ⟨_, _, rfl, rfl⟩
theorem pGroup_un {f op : Nat} {c : UInt8} {a : T} {r s : List UInt8} (hc : preOp c = op) (ho : op ≠ 0) (h : pExpr f s = .ok a (41 :: r)) : pGroup (f + 1) (c :: s) = .ok (.un op a) r := by
  subst hc
  simp only [pGroup]
  rw [if_pos ho, h]
  rfl
theorem pGroup_star {f : Nat} {c : UInt8} {a : T} {r s : List UInt8} (hc : preOp c = 0) (h : pExpr f (c :: s) = .ok a (42 :: 41 :: r)) : pGroup (f + 1) (c :: s) = .ok (.un 8 a) r := by
  simp only [pGroup]
  rw [if_neg (by omega), h]
  rfl
theorem pGroup_bin {f op : Nat} {c d : UInt8} {a b : T} {r s q : List UInt8} (hc : preOp c = 0) (hd : midOp d = op) (ho : op ≠ 0) (h42 : d ≠ 42) (h : pExpr f (c :: s) = .ok a (d :: q)) (h' : pExpr f q = .ok b (41 :: r)) : pGroup (f + 1) (c :: s) = .ok (.bin op a b) r := by
  subst hd
  simp only [pGroup]
  rw [if_neg (by omega), h]
  simp only
  rw [if_neg h42, if_pos ho, h']
  rfl
theorem pExpr_group {f : Nat} {s : List UInt8} : pExpr (f + 1) (40 :: s) = pGroup f s := by
  simp only [pExpr]; rfl
theorem pExpr_text : ∀ (t : T), t.wf 6 → ∀ (f : Nat) (r : List UInt8), 2 * t.text.length ≤ f → pExpr f (t.text ++ r) = .ok t r
  | .none, _, f, r, hf => by
    obtain ⟨g, rfl⟩ : ∃ g, f = g + 1 := ⟨f - 1, by simp [T.text] at hf; omega⟩
    simp only [T.text, List.cons_append, List.nil_append, pExpr]; rfl
  | .empty, _, f, r, hf => by
    obtain ⟨g, rfl⟩ : ∃ g, f = g + 1 := ⟨f - 1, by simp [T.text] at hf; omega⟩
    simp only [T.text, List.cons_append, List.nil_append, pExpr]; rfl
  | .letter p n, h, f, r, hf => by
    simp only [T.text, List.length_cons, List.length_append, List.length_nil] at hf
    obtain ⟨g, rfl⟩ : ∃ g, f = g + 1 := ⟨f - 1, by omega⟩
    have := pLetter_text (f := g + 1) (r := r) h (by omega)
    simp only [T.text, List.cons_append, List.append_assoc, List.nil_append, pExpr]
    rw [if_neg (by decide), if_neg (by decide), if_pos trivial]
    exact this
  | .un op a, h, f, r, hf => by
    have hop : op = 7 ∨ op = 8 ∨ op = 9 ∨ op = 10 := kids_one.1 h.1
    have ih := pExpr_text a h.2
    obtain ⟨c, s, hc, hpre⟩ := text_head a h.2
    obtain ⟨g, rfl⟩ : ∃ g, f = g + 1 + 1 := ⟨f - 2, by
      have : 0 < (T.un op a).text.length := by
        rcases hop with rfl | rfl | rfl | rfl <;> simp [T.text, opB]
      omega⟩
    rcases hop with rfl | rfl | rfl | rfl
    · simp only [T.text, opB, opM, opA, ↓reduceIte, List.length_append, List.length_cons, List.length_nil] at hf
      have h1 := ih g (41 :: r) (by simp at hf; omega)
      have : (T.un 7 a).text ++ r = 40 :: 126 :: (a.text ++ 41 :: r) := by simp [T.text, opB, opM, opA]
      rw [this, pExpr_group, pGroup_un rfl (by decide) h1]; rfl
    · simp only [T.text, opB, opM, opA, ↓reduceIte, List.length_append, List.length_cons, List.length_nil] at hf
      have h1 := ih g (42 :: 41 :: r) (by simp at hf; omega)
      have : (T.un 8 a).text ++ r = 40 :: (a.text ++ 42 :: 41 :: r) := by simp [T.text, opB, opM, opA]
      rw [this, pExpr_group]
      rw [hc] at h1 ⊢
      rw [List.cons_append] at h1 ⊢
      exact pGroup_star hpre h1
    · simp only [T.text, opB, opM, opA, ↓reduceIte, List.length_append, List.length_cons, List.length_nil] at hf
      have h1 := ih g (41 :: r) (by simp at hf; omega)
      have : (T.un 9 a).text ++ r = 40 :: 62 :: (a.text ++ 41 :: r) := by simp [T.text, opB, opM, opA]
      rw [this, pExpr_group, pGroup_un rfl (by decide) h1]; rfl
    · simp only [T.text, opB, opM, opA, ↓reduceIte, List.length_append, List.length_cons, List.length_nil] at hf
      have h1 := ih g (41 :: r) (by simp at hf; omega)
      have : (T.un 10 a).text ++ r = 40 :: 60 :: (a.text ++ 41 :: r) := by simp [T.text, opB, opM, opA]
      rw [this, pExpr_group, pGroup_un rfl (by decide) h1]; rfl
  | .bin op a b, h, f, r, hf => by
    have hop : op = 4 ∨ op = 5 ∨ op = 6 := kids_two.1 h.1
    have iha := pExpr_text a h.2.1
    have ihb := pExpr_text b h.2.2
    obtain ⟨c, s, hc, hpre⟩ := text_head a h.2.1
    obtain ⟨d, hd, ho, h42, e⟩ : ∃ d : UInt8, midOp d = op ∧ op ≠ 0 ∧ d ≠ 42 ∧ (T.bin op a b).text ++ r = 40 :: (a.text ++ d :: (b.text ++ 41 :: r)) := by
      rcases hop with rfl | rfl | rfl
      · exact ⟨46, rfl, by decide, by decide, by simp [T.text, opB, opM, opA]⟩
      · exact ⟨124, rfl, by decide, by decide, by simp [T.text, opB, opM, opA]⟩
      · exact ⟨38, rfl, by decide, by decide, by simp [T.text, opB, opM, opA]⟩
    have hlen := congrArg List.length e
    simp only [List.length_append, List.length_cons] at hlen
    obtain ⟨g, rfl⟩ : ∃ g, f = g + 1 + 1 := ⟨f - 2, by omega⟩
    have h1 := iha g (d :: (b.text ++ 41 :: r)) (by omega)
    have h2 := ihb g (41 :: r) (by omega)
    rw [e, pExpr_group]
    rw [hc] at h1 ⊢
    rw [List.cons_append] at h1 ⊢
    exact pGroup_bin hpre hd ho h42 h1 h2
theorem chk_up {p n : Nat} {v : Int} (h : chk p n v = 0) : chk p n 6 = 0 := by
  obtain ⟨h1, h2, h3⟩ := wf_letter h
  exact chk_of (k := 6) (by omega) (by rw [two6]; omega) (by rw [two6]; omega) h3
theorem wf_up {v : Int} : ∀ t : T, t.wf v → t.wf 6
  | .none, _ => trivial
  | .empty, _ => trivial
  | .letter _ _, h => chk_up h
  | .un _ a, h => ⟨h.1, wf_up a h.2⟩
  | .bin _ a b, h => ⟨h.1, wf_up a h.2.1, wf_up b h.2.2⟩
end Go.Proofs.Ytebdkmfgfjanoaa
