/-
  A slice of one's own whose elements are overwritten. Nothing here names a function of the program.
-/
import Derived.Test.YtfdfnamkkepbiaaWalk5
namespace Go.Proofs.Ytfdfnamkkepbiaa
open Go.RowKit
/-- a slice of one's own, whatever it holds -/
def Res.wrow (e : TypeId) (size : Nat) (v : Value) (n : Nat) : Res where
  fp := v.ownBlock
  ro := false
  holds w := ∃ xs, w.ownsRow 0 e size v n xs
  loc := fun ⟨xs, h⟩ hk => ⟨xs, (Res.row e size v n xs).loc h hk⟩
  lt := fun ⟨xs, h⟩ b hb => (h.lt b hb).2
section
variable {P : Program} {ops : Array Oper} {Q : Exit → Act → World → Prop} {rest : List Oper} {o : Oper} {l : Fm} {ds : List Deferred} {w : World}
variable {F : Nat → Prop} {w0 : World} {rs rs' : List Res} {x y : Operand} {t e e' : TypeId} {size n c : Nat} {A : Option Addr}
theorem Upd.same {r : Res} (h : r ∈ rs) : Upd r r rs rs := by
  induction rs with
  | nil => cases h
  | cons s rs ih =>
    cases h with
    | head => exact .here
    | tail _ h => exact .there (ih h)
theorem St.wrow {v : Value} {xs : List Value} (h : St F w0 rs w) (hu : Upd (Res.row e size v n xs) (Res.wrow e size v n) rs rs') : St F w0 rs' w :=
  h.upd hu rfl (Fr.refl _ _) ⟨xs, h.get hu.mem⟩ fun _ hb => .inl hb
theorem x_idxW {k : IntKind} {i : Int} (hS : St F w0 rs w) (ho : o.op = .indexAddr t x y) (hx : lk l x = some (.slice A n c)) (hy : lk l y = some (.int k i)) (ht : P.underlying t = some (.slice e))
    (hm : Res.wrow e' size (.slice A n c) n ∈ rs) (he : sizeT P e size = true) (hi : 0 ≤ i ∧ i < (n : Int)) : Ex P l ds o w (.pointer (some ((adr A).add (i.toNat * size)))) := by
  obtain ⟨xs, hown⟩ := hS.get hm
  exact x_idx ho hx hy ht (ownsRow_rd hown) he hi
theorem S_storeW {i : Nat} {cs : List Value} (hS : St F w0 rs w) (hd : o.dst = none) (ho : o.op = .store t x y) (hx : lk l x = some (.pointer (some ((adr A).add (i * size))))) (hy : lk l y = some (.agg cs.toArray)) (h1 : one' cs = true)
    (hm : Res.wrow e size (.slice A n c) n ∈ rs) (hlen : cs.length = size) (ht : sizeT P t size = true) (hi : i < n) (k : ∀ w', St F w0 rs w' → WL P ops Q rest l ds w') : SStep P ops Q rest o l ds w := by
  obtain ⟨xs, hown⟩ := hS.get hm
  have hown' := hown
  obtain ⟨hxl, h2⟩ := hown
  rcases h2 with ⟨_, rfl⟩ | ⟨g, cap, cur, hv, _, hh, hnc, hcm, hcs, htk⟩
  · omega
  · have hA : A = some ⟨g, 0, none⟩ := by injection hv
    have hcc : c = cap := by injection hv
    subst hA hcc
    have hadr : (adr (some ⟨g, 0, none⟩)).add (i * size) = ⟨g, i * size, none⟩ := by
      show (⟨g, 0, none⟩ : Addr).add (i * size) = _
      unfold Addr.add; split <;> simp_all
    rw [hadr] at hx
    have hfit : i * size + cs.length ≤ cur.size := by
      rw [hcs, hlen, ← Nat.succ_mul]; exact Nat.mul_le_mul_right _ (by omega)
    have hst := run_storeCells_at P g (i * size) e cs 0 cur w hh (by simpa using hfit) (by simpa [one'] using h1)
    simp only [Nat.add_zero] at hst
    refine S_sk hd (w' := w.setRow g (cur.toList.take (i * size) ++ cs ++ cur.toList.drop (i * size + cs.length)).toArray) ?_ (k _ (hS.upd (Upd.same hm) rfl ⟨rfl, rfl, rfl, by simp [World.setRow], fun j hj hne => heap_setRow_other fun h => hne (by rw [h]; rfl)⟩ ?_ fun _ h => .inl h))
    · unfold execOp; rw [ho]; simp only [lk_eval hx, lk_eval hy]
      refine run_u ?_
      simp only [Instr.storeAt, Instr.sureAddr, storeVar, Sem.run_bind, Sem.run_pure, Result.andThen_ok, sizeOf_run ht, Value.cells, List.size_toArray, hlen, ne_eq, not_true, if_false]
      rw [hlen] at hst
      exact hst
    · refine ⟨(cur.toList.take (i * size) ++ cs ++ cur.toList.drop (i * size + cs.length)).take (n * size), ?_, .inr ⟨g, c, _, rfl, Nat.zero_le _, setRow_heap w g cur _ e _ hh, hnc, hcm, ?_, rfl⟩⟩
      · rw [List.length_take]
        simp only [List.length_append, List.length_take, List.length_drop, Array.length_toList]
        have : n * size ≤ c * size := Nat.mul_le_mul_right _ hnc
        omega
      · simp only [List.size_toArray, List.length_append, List.length_take, List.length_drop, Array.length_toList]
        omega
end
end Go.Proofs.Ytfdfnamkkepbiaa
