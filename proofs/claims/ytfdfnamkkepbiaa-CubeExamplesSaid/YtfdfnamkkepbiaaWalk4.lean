/-
  Slices of a few elements that the text writes out; strings. Nothing here names a function of the program.
-/
import Derived.Test.YtfdfnamkkepbiaaWalk3
namespace Go.Proofs.Ytfdfnamkkepbiaa
open Go.RowKit

theorem bld_full : ∀ (ps : List (Nat × Value)) (zs : List Value) (k : Nat), ps.map (·.1) = List.range' k ps.length → zs.length = k + ps.length → bld zs ps = zs.take k ++ ps.map (·.2)
  | [], zs, k, _, hz => by simp [bld]; rw [List.take_of_length_le (by simp at hz; omega)]
  | (i, v) :: ps, zs, k, h, hz => by
    simp only [List.map_cons, List.length_cons, List.range'_succ, List.cons.injEq] at h hz
    obtain ⟨rfl, h⟩ := h
    unfold bld
    rw [bld_full ps (zs.set i v) (i + 1) h (by simp; omega)]
    have hlt : i < zs.length := by omega
    rw [List.take_add_one, List.take_set_of_le (Nat.le_refl _), List.getElem?_set_self hlt]
    simp

section
variable {P : Program} {ops : Array Oper} {Q : Exit → Act → World → Prop} {rest : List Oper} {o : Oper} {l : Fm} {ds : List Deferred} {w : World}
variable {F : Nat → Prop} {w0 : World} {rs rs' : List Res} {x y : Operand} {t e : TypeId} {d : Nat}
def zerosT (P : Program) (t : TypeId) (n : Nat) : Bool := match P.info? t with | some i => i.size == n && (match i.zero with | some z => z.cells.size == n | none => false) | none => false
theorem zeros_run {n : Nat} (h : zerosT P e n = true) : ∃ z, (zeroValue e).run P w = .ok z w ∧ z.cells.size = n ∧ (sizeOf e).run P w = .ok n w := by
  unfold zerosT at h
  cases hi : P.info? e with
  | none => rw [hi] at h; cases h
  | some i =>
    simp only [hi, Bool.and_eq_true, beq_iff_eq] at h
    cases hz : i.zero with
    | none => rw [hz] at h; cases h.2
    | some z =>
      simp only [hz, beq_iff_eq] at h
      exact ⟨z, by simp [zeroValue, typeInfo, go_sem, hi, hz], h.2, by simp [sizeOf, typeInfo, go_sem, hi, h.1]⟩
/-- a slice of elements of one cell, written out whole -/
theorem S_slice {n : Nat} {parts : Array (Nat × Operand)} (hS : St F w0 rs w) (hd : o.dst = some d) (ho : o.op = .buildSlice t n parts) (ht : P.underlying t = some (.slice e)) (he : zerosT P e 1 = true)
    (hp : parts.toList.map (·.1) = List.range' 0 n) (h1 : one' ((lkp l parts.toList).map (·.2)) = true) (hn : 0 < n ∧ n ≤ 1000)
    (k : ∀ b w', St F w0 (Res.obj b (.cells ((lkp l parts.toList).map (·.2)).toArray e (0, 0)) :: rs) w' → WL P ops Q rest (l.upd d (.slice (some ⟨b, 0, none⟩) n n)) ds w') : SStep P ops Q rest o l ds w := by
  refine S_new (f := fun b => .slice (some ⟨b, 0, none⟩) n n) hS hd ?_ k
  unfold execOp; rw [ho]
  refine run_v ?_
  rw [lkp_eval]
  obtain ⟨z, hz1, hz2, hz3⟩ := zeros_run (w := w) he
  have hl1 : ∀ ps : List (Nat × Operand), (lkp l ps).map (·.1) = ps.map (·.1) := fun ps => by
    induction ps with
    | nil => rfl
    | cons p ps ih => simp [lkp, ih]
  have hlen : (lkp l parts.toList).length = n := by
    have h2 := congrArg List.length (hl1 parts.toList)
    rw [hp] at h2
    simpa using h2
  have hidx : (lkp l parts.toList).map (·.1) = List.range' 0 (lkp l parts.toList).length := by rw [hl1, hp, hlen]
  have hone : ∀ p ∈ lkp l parts.toList, p.2.oneCell' = true := fun p hp' => List.all_eq_true.1 h1 p.2 (List.mem_map_of_mem hp')
  have hzs : ∀ zs : List Value, zs.length = n → Instr.fill (fun i => some (i * 1, 1)) zs.toArray (lkp l parts.toList) = some ((lkp l parts.toList).map (·.2)).toArray := fun zs hz => by
    rw [fill_bld (place := fun i => some (i * 1, 1)) (lkp l parts.toList) zs fun p hp' => ⟨by simp, ?_, hone p hp'⟩]
    · rw [bld_full _ zs 0 hidx (by omega)]; simp
    · have := List.mem_map_of_mem (f := (·.1)) hp'
      rw [hidx] at this
      simp at this
      omega
  have hbig : ¬ (n * 1 > 2 ^ 24) := by omega
  simp only [Instr.buildSlice, Sem.run_bind, run_underlying ht, Result.andThen_ok, hz3, if_neg hbig, Sem.run_pure]
  have h0 : ¬ (n * 1 = 0) := by omega
  simp only [if_neg h0, Sem.run_bind, hz1, Result.andThen_ok, Sem.run_pure]
  rw [← Array.toArray_toList (xs := (Array.range (n * 1)).map fun i => z.cells[i % z.cells.size]!), hzs _ (by simp)]
  rfl
theorem fold_set : ∀ (c : List Value) (k : Nat) (cs : Array Value), k + c.length = cs.size → (c.zipIdx k).foldl (fun (cs : Array Value) (p : Value × Nat) => cs.setIfInBounds (0 + p.2) p.1) cs = (cs.toList.take k ++ c).toArray
  | [], k, cs, h => by simp at h; simp; rw [List.take_of_length_le (by simp; omega)]
  | v :: c, k, cs, h => by
    simp only [List.zipIdx_cons, List.foldl_cons, Nat.zero_add, List.length_cons] at h ⊢
    have := fold_set c (k + 1) (cs.setIfInBounds k v) (by simp; omega)
    simp only [Nat.zero_add] at this
    rw [this]
    have hlt : k < cs.toList.length := by simp; omega
    simp only [Array.toList_setIfInBounds]
    rw [List.take_add_one, List.take_set_of_le (Nat.le_refl _), List.getElem?_set_self hlt]
    simp
/-- a slice of one struct -/
theorem S_slice1 {c : List Value} {parts : Array (Nat × Operand)} (hS : St F w0 rs w) (hd : o.dst = some d) (ho : o.op = .buildSlice t 1 parts) (hp : parts.toList = [(0, x)]) (ht : P.underlying t = some (.slice e))
    (hx : lk l x = some (.agg c.toArray)) (he : zerosT P e c.length = true) (hn : 0 < c.length ∧ c.length ≤ 1000)
    (k : ∀ b w', St F w0 (Res.obj b (.cells c.toArray e (0, 0)) :: rs) w' → WL P ops Q rest (l.upd d (.slice (some ⟨b, 0, none⟩) 1 1)) ds w') : SStep P ops Q rest o l ds w := by
  refine S_new (f := fun b => .slice (some ⟨b, 0, none⟩) 1 1) hS hd ?_ k
  unfold execOp; rw [ho]
  refine run_v ?_
  rw [lkp_eval, hp]
  obtain ⟨z, hz1, hz2, hz3⟩ := zeros_run (w := w) he
  have hl : lkp l [(0, x)] = [(0, .agg c.toArray)] := by simp [lkp, hx]
  rw [hl]
  have hbig : ¬ (1 * c.length > 2 ^ 24) := by omega
  have h0 : ¬ (1 * c.length = 0) := by omega
  have hf : ∀ zs : Array Value, zs.size = c.length → Instr.fill (fun i => some (i * c.length, c.length)) zs [(0, .agg c.toArray)] = some c.toArray := fun zs hz => by
    unfold Instr.fill
    have h3 : ¬ (0 * c.length + c.toArray.size > zs.size) := by simp; omega
    simp only [Value.cells, List.size_toArray, ne_eq, not_true, decide_false, Bool.false_or, decide_eq_true_eq, Nat.zero_mul, Nat.zero_add]
    rw [if_neg (by simp at h3; omega)]
    unfold Instr.fill
    have h4 := fold_set c 0 zs (by omega)
    simp only [List.take_zero, List.nil_append, Nat.zero_add] at h4
    have h5 : c.toArray.zipIdx = (c.zipIdx 0).toArray := by simp
    rw [h5]
    simp only [List.foldl_toArray]
    simp only [h4]
  simp only [Instr.buildSlice, Sem.run_bind, run_underlying ht, Result.andThen_ok, hz3, if_neg hbig, Sem.run_pure, if_neg h0, hz1]
  rw [hf _ (by simp)]
  rfl
end
end Go.Proofs.Ytfdfnamkkepbiaa
