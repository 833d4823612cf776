/-
  A law's arguments, opened: cubes, bytes, ints, strings, slices of bytes.
-/
import Derived.Test.YtfdfnamkkepbiaaLaw
import Derived.Test.YtfdfnamkkepbiaaBase
namespace Go.Proofs.Ytfdfnamkkepbiaa
open Go.ChangeShapes Go.WideShapes Go.ChangeAt Go.RowKit Go.Joins
section
variable {H : Type} {enc : TypeId × Value → H} {w : World} {spare : Nat → Bool} {held : Bool}
theorem wf_u8 {z : Int} (h : (Lit.int .u8 z).wf = true) : ∃ a : Nat, z = (a : Int) ∧ a < 256 := by
  have hx : 0 ≤ z ∧ z ≤ 255 := by simpa [Lit.wf, IntKind.min, IntKind.max, IntKind.signed, IntKind.bits] using h
  exact ⟨z.toNat, by omega, by omega⟩
theorem wf_i64 {z : Int} (h : (Lit.int .i64 z).wf = true) : -9223372036854775808 ≤ z ∧ z ≤ 9223372036854775807 := by
  simpa [Lit.wf, IntKind.min, IntKind.max, IntKind.signed, IntKind.bits] using h
set_option maxRecDepth 100000 in
theorem open_byte {r : Reach} {b0 base : Nat} {v : Value} {d : DataW H} {p : List MemPlace} (hv : Value.okWide Try.prog w r b0 5 v) (h : DataW.Trod enc Try.prog w base spare held 5 v d p) : ∃ a : Nat, v = vb a ∧ a < 256 := by
  obtain ⟨z, rfl, _, _, hw⟩ := open_int Try.underlying5 hv h
  obtain ⟨a, rfl, ha⟩ := wf_u8 hw
  exact ⟨a, rfl, ha⟩
set_option maxRecDepth 100000 in
theorem open_i64 {r : Reach} {b0 base : Nat} {v : Value} {d : DataW H} {p : List MemPlace} (hv : Value.okWide Try.prog w r b0 3 v) (h : DataW.Trod enc Try.prog w base spare held 3 v d p) : ∃ z : Int, v = .int .i64 z ∧ -9223372036854775808 ≤ z ∧ z ≤ 9223372036854775807 := by
  obtain ⟨z, rfl, _, _, hw⟩ := open_int Try.underlying3 hv h
  exact ⟨z, rfl, wf_i64 hw⟩
theorem cube_cells : Try.prog.cellsOf 23 = 2 := by kernel_rfl
set_option maxRecDepth 100000 in
theorem open_cube {r : Reach} {b0 base : Nat} {v : Value} {d : DataW H} {p : List MemPlace} (hv : Value.okWide Try.prog w r b0 23 v) (h : DataW.Trod enc Try.prog w base spare held 23 v d p) : ∃ a b : Nat, v = .agg #[vb a, vb b] ∧ a < 256 ∧ b < 256 := by
  obtain ⟨c0, c1, y0, y1, m, rfl, _, _, hy0, hy1⟩ := open_agg2 Try.underlying23 (by kernel_rfl) cube_cells hv h
  obtain ⟨a, e0, _, wa⟩ := DataW.trod_int Try.underlying5 hy0
  obtain ⟨b, e1, _, wb⟩ := DataW.trod_int Try.underlying5 hy1
  simp at e0 e1
  subst e0 e1
  obtain ⟨a, rfl, ha⟩ := wf_u8 wa
  obtain ⟨b, rfl, hb⟩ := wf_u8 wb
  exact ⟨a, b, rfl, ha, hb⟩
end
theorem readable_all {ts : List TypeId} (h : (ts.all fun t => Try.prog.readableRec t && decide (t < Try.prog.types.size)) = true) : ∀ t ∈ ts, Try.prog.readableRec t = true ∧ t < Try.prog.types.size := by
  intro t ht
  have := List.all_eq_true.1 h t ht
  simpa using this
end Go.Proofs.Ytfdfnamkkepbiaa
