/-
  What a step does to the two stores: plain law.
-/
import Derived.Test.YtijmggoikieelaaDgPick
namespace Go.Proofs.Ytijmggoikieelaa
open Go.RowKit

/-- a function's adding, as both stores see it -/
structure StepD (s : Rn) (t : Tb) (e : Int) (a : Int) (N2 : List Dg.Nd) (kn2 : List Nat) : Prop where
  err : e = addE s.m s.cp (s.MT.map Tb.xs) t.xs
  ok : e = 0 → ∃ i : Nat, a = i ∧ ∀ A c Am cm Ar cr At ct, Good { s with N := N2, kn := kn2, A := A, c := c, MT := addT s.m s.cp s.MT t, Am := Am, cm := cm, R := s.R ++ [i], Ar := Ar, cr := cr, TT := s.TT ++ [t], At := At, ct := ct, T := t.res :: s.T }
  bad : e ≠ 0 → N2 = s.N ∧ kn2 = s.kn ∧ addT s.m s.cp s.MT t = s.MT
theorem step_add {s : Rn} (hG : Good s) {t : Tb} (ht : t.xs.length = two s.m) (hi : ∀ z ∈ t.xs, inI z) {f : Nat → Int} (hf : ∀ y, y < 2 ^ s.m → f y = t.xs.getD y 0) :
    StepD s t (insD f s.m s.cp s.N s.kn).2.1 (insD f s.m s.cp s.N s.kn).1 (insD f s.m s.cp s.N s.kn).2.2.1 (insD f s.m s.cp s.N s.kn).2.2.2 := by
  obtain ⟨h1, h2, h3, h4, h5, h6, h7⟩ := hG.si.put ht hf (r := (Dg.bld f s.m 0 0 s.N).1) (N' := (Dg.bld f s.m 0 0 s.N).2) rfl
  have hD : insD f s.m s.cp s.N s.kn = if s.cp < (Dg.bld f s.m 0 0 s.N).2.length then (0, 10, s.N, s.kn) else ((((Dg.bld f s.m 0 0 s.N).1 : Nat) : Int), 0, (Dg.bld f s.m 0 0 s.N).2, Dg.kadd s.kn (Dg.bld f s.m 0 0 s.N).1) := rfl
  rw [hD]
  clear hD
  generalize hq : Dg.bld f s.m 0 0 s.N = q at h1 h2 h3 h4 h5 h6 h7 ⊢
  obtain ⟨r, N'⟩ := q
  simp only at h1 h2 h3 h4 h5 h6 h7 ⊢
  by_cases hlt : s.cp < N'.length
  · rw [if_pos hlt]
    have hin : ¬ t.xs ∈ s.MT.map Tb.xs := fun h => by
      have := h5 h
      have := hG.nc
      subst N'
      omega
    have hlt2 : s.cp < (Dg.ddT s.m [] (s.MT.map Tb.xs ++ [t.xs])).length := by rw [← h6]; exact hlt
    refine ⟨?_, fun h => absurd h (show ¬ (10 : Int) = 0 by decide), fun _ => ⟨rfl, rfl, ?_⟩⟩
    · unfold addE; rw [if_neg hin, if_pos hlt2]
    · unfold addT; rw [if_neg hin, if_pos hlt2]
  · rw [if_neg hlt]
    have hlt2 : ¬ s.cp < (Dg.ddT s.m [] (s.MT.map Tb.xs ++ [t.xs])).length := by rw [← h6]; exact hlt
    have hE : addE s.m s.cp (s.MT.map Tb.xs) t.xs = 0 := by
      unfold addE
      by_cases h : t.xs ∈ s.MT.map Tb.xs
      · rw [if_pos h]
      · rw [if_neg h, if_neg hlt2]
    refine ⟨hE.symm, fun _ => ⟨r, rfl, fun A c Am cm Ar cr At ct => ?_⟩, fun h => absurd rfl h⟩
    have hMT : (∀ u, u ∈ addT s.m s.cp s.MT t → u ∈ s.MT ∨ u = t) ∧ (∀ x, x ∈ (addT s.m s.cp s.MT t).map Tb.xs ↔ x ∈ s.MT.map Tb.xs ∨ x = t.xs) ∧ (addT s.m s.cp s.MT t).length ≤ s.MT.length + 1 ∧ Dg.SI s.m N' ((addT s.m s.cp s.MT t).map Tb.xs) (Dg.kadd s.kn r) := by
      unfold addT
      by_cases hin : t.xs ∈ s.MT.map Tb.xs
      · rw [if_pos hin]
        exact ⟨fun u h => .inl h, fun x => ⟨.inl, fun h => h.elim id fun e => e ▸ hin⟩, by omega, h1.same hin⟩
      · rw [if_neg hin, if_neg hlt2]
        refine ⟨fun u h => ?_, fun x => by simp, by simp, by rw [List.map_append]; exact h1⟩
        rcases List.mem_append.1 h with h | h
        · exact .inl h
        · exact .inr (List.mem_singleton.1 h)
    obtain ⟨g1, g2, g3, g4⟩ := hMT
    refine ⟨hG.m6, hG.cp1, hG.cp2, g4, by simp only; omega, by simp [hG.rl], fun i a u hi' hu => ?_, fun i hi' => ?_, fun u hu => ?_, fun u hu => ?_, fun u hu => ?_, fun u hu => ?_, ?_⟩
    · simp only at hi' hu ⊢
      by_cases hil : i < s.R.length
      · rw [List.getElem?_append_left hil] at hi'
        rw [List.getElem?_append_left (by rw [← hG.rl]; exact hil)] at hu
        obtain ⟨k1, k2, k3⟩ := hG.rt i a u hi' hu
        exact ⟨Dg.kadd_mem.2 (.inl k1), by rw [h7 a (hG.si.ref a k1).1]; exact k2, (g2 _).2 (.inl k3)⟩
      · rw [List.getElem?_append_right (by omega)] at hi'
        rw [List.getElem?_append_right (by rw [← hG.rl]; omega)] at hu
        have hz : i - s.R.length = 0 := by
          have := (List.getElem?_eq_some_iff.1 hi').1
          simp at this; omega
        have hz2 : i - s.TT.length = 0 := by rw [← hG.rl]; exact hz
        rw [hz] at hi'
        rw [hz2] at hu
        simp at hi' hu
        subst hi' hu
        exact ⟨Dg.kadd_mem.2 (.inr rfl), h3, (g2 _).2 (.inr rfl)⟩
    · simp only at hi' ⊢
      rcases Dg.kadd_mem.1 hi' with h | rfl
      · exact List.mem_append_left _ (hG.kr i h)
      · simp
    · rcases List.mem_append.1 hu with hu | hu
      · exact List.mem_cons_of_mem _ (hG.tm u hu)
      · rw [List.mem_singleton.1 hu]; exact List.mem_cons_self ..
    · rcases g1 u hu with hu | rfl
      · exact List.mem_append_left _ (hG.mt u hu)
      · simp
    · rcases List.mem_append.1 hu with hu | hu
      · exact hG.tl u hu
      · rw [List.mem_singleton.1 hu]; exact ht
    · rcases List.mem_append.1 hu with hu | hu
      · exact hG.ii u hu
      · rw [List.mem_singleton.1 hu]; exact hi
    · have := hG.ml
      simp only [List.length_append, List.length_singleton]
      omega
end Go.Proofs.Ytijmggoikieelaa
