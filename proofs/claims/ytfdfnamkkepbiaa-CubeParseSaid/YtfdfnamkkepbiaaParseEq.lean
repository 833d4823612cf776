/-
  The reference's reading of a cube's text agrees with the program's.
-/
import Derived.Test.YtfdfnamkkepbiaaRefParse
namespace Go.Proofs.Ytfdfnamkkepbiaa

/-! the two readings agree -/
def scanOk (p n : Nat) : Bool := !(p &&& n == 0) || (rsc (fmtText p n) (fmtText p n).length == (p, n, false))
theorem scan_all : ((List.range 64).all fun p => (List.range 64).all fun n => scanOk p n) = true := by decide +kernel
theorem scan_format {p n : Nat} (h : chk p n 6 = 0) : rsc (fmtText p n) (fmtText p n).length = (p, n, false) := by
  obtain ⟨h1, h2, h3⟩ := chk_zero (k := 6) (by omega) h
  have a1 := List.all_eq_true.1 scan_all p (by simpa [two] using h1)
  have a2 := List.all_eq_true.1 a1 n (by simpa [two] using h2)
  simpa [scanOk, h3] using a2
theorem six_in {x y : Nat × Nat × Int} : (if (6 : Int) < 0 ∨ (6 : Int) < 6 then x else y) = y := if_neg (by omega)
theorem parse_six {l : List UInt8} {v : Int} (h1 : ¬ (v < 0 ∨ 6 < v)) (h4 : ¬ 4096 < l.length) :
    ((parseV l 6).2.2 = 0 ∧ (parseV l v = parseV l 6 ∨ parseV l v = (0, 0, 7))) ∨ ((parseV l 6).2.2 ≠ 0 ∧ parseV l v = (0, 0, 2)) := by
  unfold parseV
  rw [six_in, if_neg h1, if_neg h4, if_neg h4]
  by_cases h42 : l = [42]
  · rw [if_pos h42, if_pos h42]; exact .inl ⟨rfl, .inl rfl⟩
  · rw [if_neg h42, if_neg h42]
    by_cases h0 : l = []
    · rw [if_pos h0, if_pos h0]; exact .inr ⟨by decide, rfl⟩
    · rw [if_neg h0, if_neg h0]
      cases hp : pGo l (-1) 0 0 with
      | none => exact .inr ⟨by decide, rfl⟩
      | some x =>
        obtain ⟨P, N, la⟩ := x
        obtain ⟨A, hA, _, hA6, _⟩ := pGo_inv _ l (Nat.le_refl _) (-1) 0 0 P N la 0 hp (by omega) (by omega) (two_pos 0) (two_pos 0) (by rfl)
        simp only
        rw [if_neg (by omega)]
        by_cases hla : v ≤ la
        · rw [if_pos hla]; exact .inl ⟨rfl, .inr rfl⟩
        · rw [if_neg hla]; exact .inl ⟨rfl, .inl rfl⟩
theorem rparse_eq (l : List UInt8) (v : Int) : rparseV l v = parseV l v := by
  by_cases h : v < 0 ∨ 6 < v
  · rw [rparseV, parseV, if_pos h, if_pos h]
  · by_cases h4 : 4096 < l.length
    · rw [rparseV, parseV, if_neg h, if_neg h, if_pos h4, if_pos h4]
    · rw [rparseV, if_neg h, if_neg h4]
      rcases hs : rsc l l.length with ⟨p, n, nt⟩
      simp only
      rcases parse_six h h4 with ⟨h6, h7⟩ | ⟨h6, h7⟩
      · have hf := format_parse (l := l) (v := 6) h6
        have hsc := scan_format hf.1
        rw [hf.2.1, hs] at hsc
        injection hsc with e1 e2
        injection e2 with e2 e3
        rw [← e1, ← e2] at hf
        rw [if_neg (by simp [hf.1, hf.2.1])]
        have hx : parseV l 6 = (p, n, 0) := by
          rcases hq : parseV l 6 with ⟨a, b, c⟩
          rw [hq] at e1 e2 h6
          simp only at e1 e2 h6
          rw [e1, e2, h6]
        rcases h7 with h7 | h7
        · have hv := (format_parse (l := l) (v := v) (by rw [h7]; exact h6)).1
          rw [h7, hx] at hv
          rw [if_neg (by simp [hv]), h7, hx]
        · rw [if_pos, h7]
          intro hc
          have := parse_format hc
          rw [hf.2.1, h7] at this
          injection this with _ this
          injection this with _ this
          cases this
      · rw [if_pos, h7]
        refine Classical.byContradiction fun hbad => ?_
        have hbad' : chk p n 6 = 0 ∧ fmtText p n = l := ⟨Classical.byContradiction fun h => hbad (.inl h), Classical.byContradiction fun h => hbad (.inr h)⟩
        have hpf := parse_format hbad'.1
        rw [hbad'.2] at hpf
        exact h6 (by rw [hpf])
end Go.Proofs.Ytfdfnamkkepbiaa
