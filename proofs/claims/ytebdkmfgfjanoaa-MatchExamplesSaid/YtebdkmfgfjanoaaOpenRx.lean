/-
  A law's argument of type api.Regex, opened.
-/
import Derived.Test.YtebdkmfgfjanoaaCC
import Derived.Test.YtebdkmfgfjanoaaRxBlk
import Derived.Deep.Slices
namespace Go.Proofs.Ytebdkmfgfjanoaa
open Go.ChangeShapes Go.WideShapes Go.ChangeAt Go.RowKit Go.Joins
section
variable {H : Type} {enc : TypeId × Value → H} {w : World} {spare : Nat → Bool} {held : Bool} {base : Nat}
theorem piece_cells : Try.prog.cellsOf 55 = 5 := by kernel_rfl
theorem u8_cell : Try.prog.cellsOf 5 = 1 := by kernel_rfl
theorem int_cell : Try.prog.cellsOf 3 = 1 := by kernel_rfl
set_option maxRecDepth 100000 in
theorem open_piece {fuel : Nat} {cs : List Value} {x : DataW H × List MemPlace} (hl : cs.length = 5) (h : DataW.trod enc Try.prog w base spare held fuel 55 cs = some x) : ∃ p : Pc, cs = pcV p ∧ p.ok := by
  obtain ⟨xs, k, hk, hxy, _, hxl, hf⟩ := DataW.trod_struct Try.underlying55 h
  match cs, hl with
  | [v0, v1, v2, v3, v4], _ =>
    match xs, hxl with
    | [y0, y1, y2, y3, y4], _ =>
      have q0 : DataW.trod enc Try.prog w base spare held k 5 (([v0, v1, v2, v3, v4].drop 0).take (Try.prog.cellsOf 5)) = some y0 := hf 0 _ rfl
      rw [u8_cell] at q0
      have q1 : DataW.trod enc Try.prog w base spare held k 5 (([v0, v1, v2, v3, v4].drop 1).take (Try.prog.cellsOf 5)) = some y1 := hf 1 _ rfl
      rw [u8_cell] at q1
      have q2 : DataW.trod enc Try.prog w base spare held k 5 (([v0, v1, v2, v3, v4].drop 2).take (Try.prog.cellsOf 5)) = some y2 := hf 2 _ rfl
      rw [u8_cell] at q2
      have q3 : DataW.trod enc Try.prog w base spare held k 3 (([v0, v1, v2, v3, v4].drop 3).take (Try.prog.cellsOf 3)) = some y3 := hf 3 _ rfl
      rw [int_cell] at q3
      have q4 : DataW.trod enc Try.prog w base spare held k 3 (([v0, v1, v2, v3, v4].drop 4).take (Try.prog.cellsOf 3)) = some y4 := hf 4 _ rfl
      rw [int_cell] at q4
      obtain ⟨a0, e0, _, w0⟩ := DataW.trod_int Try.underlying5 q0
      obtain ⟨a1, e1, _, w1⟩ := DataW.trod_int Try.underlying5 q1
      obtain ⟨a2, e2, _, w2⟩ := DataW.trod_int Try.underlying5 q2
      obtain ⟨a3, e3, _, w3⟩ := DataW.trod_int Try.underlying3 q3
      obtain ⟨a4, e4, _, w4⟩ := DataW.trod_int Try.underlying3 q4
      simp at e0 e1 e2 e3 e4
      subst e0 e1 e2 e3 e4
      obtain ⟨a0, rfl, h0⟩ := wf_u8 w0
      obtain ⟨a1, rfl, h1⟩ := wf_u8 w1
      obtain ⟨a2, rfl, h2⟩ := wf_u8 w2
      exact ⟨⟨a0, a1, a2, a3, a4⟩, rfl, h0, h1, h2, wf_i64 w3, wf_i64 w4⟩
set_option maxRecDepth 100000 in
theorem open_regex {r : Reach} {b0 : Nat} {v : Value} {d : DataW H} {p : List MemPlace} (hv : Value.okWide Try.prog w r b0 23 v) (h : DataW.Trod enc Try.prog w base spare held 23 v d p) :
    ∃ (A : Option Addr) (n c : Nat) (L : List Pc), v = .slice A n c ∧ Rd w 5 A n (rxCells L) ∧ (∀ p ∈ L, p.ok) ∧ n ≤ 9223372036854775807 ∧ n ≤ c := by
  obtain ⟨a0, len, cap, rfl⟩ := okWide_slice Try.underlying23 hv
  obtain ⟨fuel, hf⟩ := h
  rcases Deep.open_slice Try.underlying23 hf with ⟨hcs, hx⟩ | ⟨a, len', cap', m, n, D, Pl, hcs, _, hl, hm, hmm, _, hx⟩
  · simp [Value.cells] at hcs
    obtain ⟨rfl, rfl, rfl⟩ := hcs
    exact ⟨none, 0, 0, [], rfl, Rd.nil, fun _ h => (by cases h), by omega, by omega⟩
  · simp [Value.cells] at hcs
    obtain ⟨rfl, rfl, rfl⟩ := hcs
    have hlm : len ≤ m := by rw [hmm]; split <;> omega
    have each : ∀ i, i < len → ∃ p : Pc, p.ok ∧ ∀ j u, (pcV p)[j]? = some u → w.cell? (a.add (i * 5 + j)) = some u := fun i hi => by
      obtain ⟨cs', h1, h2⟩ := hx i (by omega)
      rw [piece_cells] at h1
      obtain ⟨_, hlen, hcell⟩ := World.cells?_some h1
      obtain ⟨p, rfl, hp⟩ := open_piece hlen h2
      refine ⟨p, hp, fun j u hj => ?_⟩
      have hjl := (List.getElem?_eq_some_iff.1 hj).1
      have := hcell j (by rw [pcV_len] at hjl; omega)
      rw [adr_add] at this
      rw [this, hj]
    have build : ∀ k, k ≤ len → ∃ L : List Pc, L.length = k ∧ (∀ p ∈ L, p.ok) ∧ ∀ j u, (rxCells L)[j]? = some u → w.cell? (a.add j) = some u := fun k => by
      induction k with
      | zero => exact fun _ => ⟨[], rfl, fun _ h => (by cases h), fun j u h => by simp [rxCells] at h⟩
      | succ k ih =>
        intro hk
        obtain ⟨L, h1, h2, h3⟩ := ih (by omega)
        obtain ⟨p, hp, hc⟩ := each k (by omega)
        refine ⟨L ++ [p], by simp [h1], fun q hq => ?_, fun j u hj => ?_⟩
        · rcases List.mem_append.1 hq with hq | hq
          · exact h2 q hq
          · obtain rfl := List.mem_singleton.1 hq; exact hp
        · rw [rxCells_append] at hj
          have hll := rxCells_len L
          by_cases hlt : j < (rxCells L).length
          · rw [List.getElem?_append_left hlt] at hj
            exact h3 j u hj
          · rw [List.getElem?_append_right (by omega)] at hj
            have := hc (j - (rxCells L).length) u (by simpa [rxCells] using hj)
            rw [hll, h1, show k * 5 + (j - k * 5) = j by omega] at this
            exact this
    obtain ⟨L, h1, h2, h3⟩ := build len (Nat.le_refl _)
    refine ⟨some a, len, cap, L, rfl, ⟨by rw [rxCells_len, h1], fun hn => ⟨a, rfl, ?_, h3⟩⟩, h2, ?_, hl⟩
    · obtain ⟨p, _, hc⟩ := each 0 hn
      have := World.block_lt_of_cell? _ _ (hc 0 _ rfl)
      rwa [add_block] at this
    · unfold maxLen at hm; omega
end
end Go.Proofs.Ytebdkmfgfjanoaa
