/-
  A law's argument that is a slice of steps, opened.
-/
import Derived.Test.YtijmggoikieelaaCC
import Derived.Test.YtijmggoikieelaaDgRun
import Derived.Deep.Slices
namespace Go.Proofs.Ytijmggoikieelaa
open Go.ChangeShapes Go.WideShapes Go.ChangeAt Go.RowKit Go.Joins
section
variable {H : Type} {enc : TypeId × Value → H} {w : World} {spare : Nat → Bool} {held : Bool} {base : Nat}
theorem step_cells : Try.prog.cellsOf 33 = 9 := by kernel_rfl
theorem u8_cell : Try.prog.cellsOf 5 = 1 := by kernel_rfl
theorem int_cell : Try.prog.cellsOf 3 = 1 := by kernel_rfl
theorem sl_cell : Try.prog.cellsOf 29 = 1 := by kernel_rfl
theorem cub_cell : Try.prog.cellsOf 31 = 2 := by kernel_rfl
set_option maxRecDepth 100000 in
/-- a slice of integers within a value -/
theorem open_tab {fuel : Nat} {v : Value} {x : DataW H × List MemPlace} (h : DataW.trod enc Try.prog w base spare held fuel 29 [v] = some x) : ∃ t : Tb, v = .slice t.A t.xs.length t.c ∧ Rd w 1 t.A t.xs.length (t.xs.map iv) ∧ (∀ z ∈ t.xs, inI z) ∧ t.xs.length ≤ 9223372036854775807 := by
  rcases open_ints Try.underlying29 Try.underlying3 int_cell h with ⟨hcs, hx⟩ | ⟨a, len', cap', zs, hcs, _, hl, hm, hz, hx, hcell, hwz⟩
  · simp at hcs
    subst hcs
    exact ⟨⟨none, 0, []⟩, rfl, Rd.nil, fun _ h => (by cases h), by simp⟩
  · simp at hcs
    subst hcs
    have hlen : len' ≤ zs.length := by rw [hz]; split <;> omega
    have hlt : (zs.take len').length = len' := by simp; omega
    refine ⟨⟨some a, cap', zs.take len'⟩, by simp only [hlt], ⟨by simp, fun hn => ⟨a, rfl, ?_, fun j u hu => ?_⟩⟩, fun z hz' => wf_i64 (hwz z (List.mem_of_mem_take hz')), ?_⟩
    · simp only [hlt] at hn
      have := hcell 0 (by omega)
      have := World.block_lt_of_cell? _ _ this
      rwa [add_block] at this
    · simp only [List.getElem?_map] at hu
      have hj : j < len' := by
        cases hq : (zs.take len')[j]? with
        | none => rw [hq] at hu; cases hu
        | some q => have := (List.getElem?_eq_some_iff.1 hq).1; simp at this; omega
      have hc := hcell j (by omega)
      have hj2 : j < zs.length := by omega
      rw [List.getElem?_take_of_lt hj, List.getElem?_eq_getElem hj2] at hu
      have hg : zs.getD j 0 = zs[j] := by simp [hj2]
      rw [hg] at hc
      simp only [Option.map_some, Option.some.injEq] at hu
      rw [hc, ← hu]; rfl
    · simp only [hlt]; unfold maxLen at hm; omega
set_option maxRecDepth 100000 in
theorem open_stp {fuel : Nat} {cs : List Value} {x : DataW H × List MemPlace} (hl : cs.length = 9) (h : DataW.trod enc Try.prog w base spare held fuel 33 cs = some x) : ∃ s : Stp, cs = stV s ∧ s.ok ∧ Rd w 1 s.T.A s.T.xs.length (s.T.xs.map iv) ∧ s.T.xs.length ≤ 9223372036854775807 := by
  obtain ⟨xs, k, hk, hxy, _, hxl, hf⟩ := DataW.trod_struct Try.underlying33 h
  match cs, hl with
  | [v0, v1, v2, v3, v4, v5, v6, v7, v8], _ =>
    match xs, hxl with
    | [y0, y1, y2, y3, y4, y5, y6, y7], _ =>
      have q0 : DataW.trod enc Try.prog w base spare held k 5 (([v0, v1, v2, v3, v4, v5, v6, v7, v8].drop 0).take (Try.prog.cellsOf 5)) = some y0 := hf 0 _ rfl
      rw [u8_cell] at q0
      have q1 : DataW.trod enc Try.prog w base spare held k 5 (([v0, v1, v2, v3, v4, v5, v6, v7, v8].drop 1).take (Try.prog.cellsOf 5)) = some y1 := hf 1 _ rfl
      rw [u8_cell] at q1
      have q2 : DataW.trod enc Try.prog w base spare held k 5 (([v0, v1, v2, v3, v4, v5, v6, v7, v8].drop 2).take (Try.prog.cellsOf 5)) = some y2 := hf 2 _ rfl
      rw [u8_cell] at q2
      have q3 : DataW.trod enc Try.prog w base spare held k 3 (([v0, v1, v2, v3, v4, v5, v6, v7, v8].drop 3).take (Try.prog.cellsOf 3)) = some y3 := hf 3 _ rfl
      rw [int_cell] at q3
      have q4 : DataW.trod enc Try.prog w base spare held k 3 (([v0, v1, v2, v3, v4, v5, v6, v7, v8].drop 4).take (Try.prog.cellsOf 3)) = some y4 := hf 4 _ rfl
      rw [int_cell] at q4
      have q5 : DataW.trod enc Try.prog w base spare held k 3 (([v0, v1, v2, v3, v4, v5, v6, v7, v8].drop 5).take (Try.prog.cellsOf 3)) = some y5 := hf 5 _ rfl
      rw [int_cell] at q5
      have q6 : DataW.trod enc Try.prog w base spare held k 29 (([v0, v1, v2, v3, v4, v5, v6, v7, v8].drop 6).take (Try.prog.cellsOf 29)) = some y6 := hf 6 _ rfl
      rw [sl_cell] at q6
      have q7 : DataW.trod enc Try.prog w base spare held k 31 (([v0, v1, v2, v3, v4, v5, v6, v7, v8].drop 7).take (Try.prog.cellsOf 31)) = some y7 := hf 7 _ rfl
      rw [cub_cell] at q7
      obtain ⟨a0, e0, _, w0⟩ := DataW.trod_int Try.underlying5 q0
      obtain ⟨a1, e1, _, w1⟩ := DataW.trod_int Try.underlying5 q1
      obtain ⟨a2, e2, _, w2⟩ := DataW.trod_int Try.underlying5 q2
      obtain ⟨a3, e3, _, w3⟩ := DataW.trod_int Try.underlying3 q3
      obtain ⟨a4, e4, _, w4⟩ := DataW.trod_int Try.underlying3 q4
      obtain ⟨a5, e5, _, w5⟩ := DataW.trod_int Try.underlying3 q5
      obtain ⟨t, e6, hr, hin, hln⟩ := open_tab q6
      obtain ⟨xs7, k7, hk7, hxy7, _, hxl7, hf7⟩ := DataW.trod_struct Try.underlying31 q7
      match xs7, hxl7 with
      | [z0, z1], _ =>
        have p0 : DataW.trod enc Try.prog w base spare held k7 5 (([v7, v8].drop 0).take (Try.prog.cellsOf 5)) = some z0 := hf7 0 _ rfl
        rw [u8_cell] at p0
        have p1 : DataW.trod enc Try.prog w base spare held k7 5 (([v7, v8].drop 1).take (Try.prog.cellsOf 5)) = some z1 := hf7 1 _ rfl
        rw [u8_cell] at p1
        obtain ⟨a7, e7, _, w7⟩ := DataW.trod_int Try.underlying5 p0
        obtain ⟨a8, e8, _, w8⟩ := DataW.trod_int Try.underlying5 p1
        simp at e0 e1 e2 e3 e4 e5 e6 e7 e8
        subst e0 e1 e2 e3 e4 e5 e6 e7 e8
        obtain ⟨a0, rfl, h0⟩ := wf_u8 w0
        obtain ⟨a1, rfl, h1⟩ := wf_u8 w1
        obtain ⟨a2, rfl, h2⟩ := wf_u8 w2
        obtain ⟨a7, rfl, h7⟩ := wf_u8 w7
        obtain ⟨a8, rfl, h8⟩ := wf_u8 w8
        exact ⟨⟨a0, a1, a2, a3, a4, a5, t, a7, a8⟩, rfl, ⟨h0, h1, h2, wf_i64 w3, wf_i64 w4, wf_i64 w5, hin, h7, h8⟩, hr, hln⟩
set_option maxRecDepth 100000 in
theorem open_steps {r : Reach} {b0 : Nat} {v : Value} {d : DataW H} {p : List MemPlace} (hv : Value.okWide Try.prog w r b0 22 v) (h : DataW.Trod enc Try.prog w base spare held 22 v d p) :
    ∃ (A : Option Addr) (n c : Nat) (L : List Stp), v = .slice A n c ∧ Rd w 9 A n (stC L) ∧ (∀ s ∈ L, s.ok ∧ Rd w 1 s.T.A s.T.xs.length (s.T.xs.map iv) ∧ s.T.xs.length ≤ 9223372036854775807) ∧ n ≤ 9223372036854775807 ∧ n ≤ c := by
  obtain ⟨a0, len, cap, rfl⟩ := okWide_slice Try.underlying22 hv
  obtain ⟨fuel, hf⟩ := h
  rcases Deep.open_slice Try.underlying22 hf with ⟨hcs, hx⟩ | ⟨a, len', cap', m, n, D, Pl, hcs, _, hl, hm, hmm, _, hx⟩
  · simp [Value.cells] at hcs
    obtain ⟨rfl, rfl, rfl⟩ := hcs
    exact ⟨none, 0, 0, [], rfl, Rd.nil, fun _ h => (by cases h), by omega, by omega⟩
  · simp [Value.cells] at hcs
    obtain ⟨rfl, rfl, rfl⟩ := hcs
    have hlm : len ≤ m := by rw [hmm]; split <;> omega
    have each : ∀ i, i < len → ∃ s : Stp, (s.ok ∧ Rd w 1 s.T.A s.T.xs.length (s.T.xs.map iv) ∧ s.T.xs.length ≤ 9223372036854775807) ∧ ∀ j u, (stV s)[j]? = some u → w.cell? (a.add (i * 9 + j)) = some u := fun i hi => by
      obtain ⟨cs', h1, h2⟩ := hx i (by omega)
      rw [step_cells] at h1
      obtain ⟨_, hlen, hcell⟩ := World.cells?_some h1
      obtain ⟨s, rfl, hs⟩ := open_stp hlen h2
      refine ⟨s, hs, fun j u hj => ?_⟩
      have hjl := (List.getElem?_eq_some_iff.1 hj).1
      have := hcell j (by simp [stV] at hjl; omega)
      rw [adr_add] at this
      rw [this, hj]
    have build : ∀ k, k ≤ len → ∃ L : List Stp, L.length = k ∧ (∀ s ∈ L, s.ok ∧ Rd w 1 s.T.A s.T.xs.length (s.T.xs.map iv) ∧ s.T.xs.length ≤ 9223372036854775807) ∧ ∀ j u, (stC L)[j]? = some u → w.cell? (a.add j) = some u := fun k => by
      induction k with
      | zero => exact fun _ => ⟨[], rfl, fun _ h => (by cases h), fun j u h => by simp [stC] at h⟩
      | succ k ih =>
        intro hk
        obtain ⟨L, h1, h2, h3⟩ := ih (by omega)
        obtain ⟨s, hs, hc⟩ := each k (by omega)
        refine ⟨L ++ [s], by simp [h1], fun q hq => ?_, fun j u hj => ?_⟩
        · rcases List.mem_append.1 hq with hq | hq
          · exact h2 q hq
          · obtain rfl := List.mem_singleton.1 hq; exact hs
        · have hap : stC (L ++ [s]) = stC L ++ stV s := by simp [stC]
          rw [hap] at hj
          have hll := stC_len L
          by_cases hlt : j < (stC L).length
          · rw [List.getElem?_append_left hlt] at hj
            exact h3 j u hj
          · rw [List.getElem?_append_right (by omega)] at hj
            have := hc (j - (stC L).length) u hj
            rw [hll, h1, show k * 9 + (j - k * 9) = j by omega] at this
            exact this
    obtain ⟨L, h1, h2, h3⟩ := build len (Nat.le_refl _)
    refine ⟨some a, len, cap, L, rfl, ⟨by rw [stC_len, h1], fun hn => ⟨a, rfl, ?_, h3⟩⟩, h2, ?_, hl⟩
    · obtain ⟨s, _, hc⟩ := each 0 hn
      have := World.block_lt_of_cell? _ _ (hc 0 _ rfl)
      rwa [add_block] at this
    · unfold maxLen at hm; omega
end
end Go.Proofs.Ytijmggoikieelaa
