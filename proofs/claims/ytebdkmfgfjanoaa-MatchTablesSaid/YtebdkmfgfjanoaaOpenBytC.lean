/-
  A law's argument that is a slice of bytes, opened, with its capacity.
-/
import Derived.Test.YtebdkmfgfjanoaaCC
namespace Go.Proofs.Ytebdkmfgfjanoaa
open Go.ChangeShapes Go.WideShapes Go.ChangeAt Go.RowKit Go.Joins
section
variable {H : Type} {enc : TypeId × Value → H} {w : World} {spare : Nat → Bool} {held : Bool}
set_option maxRecDepth 100000 in
theorem u8_cellsC : Try.prog.cellsOf 5 = 1 := by kernel_rfl
set_option maxRecDepth 100000 in
theorem open_bytesC {r : Reach} {b0 base : Nat} {v : Value} {d : DataW H} {p : List MemPlace} (hv : Value.okWide Try.prog w r b0 24 v) (h : DataW.Trod enc Try.prog w base spare held 24 v d p) :
    ∃ (A : Option Addr) (n c : Nat) (l : List Nat), v = .slice A n c ∧ Rd w 1 A n (l.map vb) ∧ (∀ x ∈ l, x < 256) ∧ n ≤ 9223372036854775807 ∧ n ≤ c := by
  obtain ⟨a0, len, cap, rfl⟩ := okWide_slice Try.underlying24 hv
  obtain ⟨fuel, hf⟩ := h
  rcases open_ints Try.underlying24 Try.underlying5 u8_cellsC hf with ⟨hcs, hx⟩ | ⟨a, len', cap', zs, hcs, _, hl, hm, hz, hx, hcell, hwz⟩
  · simp [Value.cells] at hcs
    obtain ⟨rfl, rfl, rfl⟩ := hcs
    exact ⟨none, 0, 0, [], rfl, Rd.nil, fun _ h => (by cases h), by omega, by omega⟩
  · simp [Value.cells] at hcs
    obtain ⟨rfl, rfl, rfl⟩ := hcs
    have hlen : len ≤ zs.length := by rw [hz]; split <;> omega
    have hnn : ∀ z ∈ zs, ((z.toNat : Nat) : Int) = z ∧ z.toNat < 256 := fun z hz' => by
      obtain ⟨x, rfl, hx⟩ := wf_u8 (hwz z hz')
      exact ⟨by simp, by simpa using hx⟩
    refine ⟨some a, len, cap, (zs.take len).map Int.toNat, rfl, ⟨by simp; omega, fun hn => ⟨a, rfl, ?_, fun j u hu => ?_⟩⟩, fun x hx => ?_, ?_, by omega⟩
    · have := hcell 0 (by omega)
      have := World.block_lt_of_cell? _ _ this
      rwa [add_block] at this
    · simp only [List.map_map, List.getElem?_map] at hu
      have hj : j < len := by
        cases hq : (zs.take len)[j]? with
        | none => rw [hq] at hu; cases hu
        | some q => have := (List.getElem?_eq_some_iff.1 hq).1; simp at this; omega
      have hc := hcell j (by omega)
      have hj2 : j < zs.length := by omega
      rw [List.getElem?_take_of_lt hj, List.getElem?_eq_getElem hj2] at hu
      have hg : zs.getD j 0 = zs[j] := by simp [hj2]
      rw [hg] at hc
      have hq := (hnn _ (List.getElem_mem hj2)).1
      simp only [Option.map_some, Function.comp, Option.some.injEq] at hu
      rw [hc, ← hu]; simp only [vb, hq]
    · obtain ⟨z, hz', rfl⟩ := List.mem_map.1 hx
      exact (hnn z (List.mem_of_mem_take hz')).2
    · unfold maxLen at hm; omega
end
end Go.Proofs.Ytebdkmfgfjanoaa
