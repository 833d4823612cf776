/-
  make of a slice; stores into a slice of one's own whose elements are known; fields of elements. Nothing here names a function of the program.
-/
import Derived.Test.YtfdfnamkkepbiaaWalk6
namespace Go.Proofs.Ytfdfnamkkepbiaa
open Go.RowKit
section
variable {P : Program} {ops : Array Oper} {Q : Exit → Act → World → Prop} {rest : List Oper} {o : Oper} {l : Fm} {ds : List Deferred} {w : World}
variable {F : Nat → Prop} {w0 : World} {rs rs' : List Res} {x y : Operand} {t e e' : TypeId} {size n c d : Nat} {A : Option Addr}
theorem x_fieldAddrEl {fs : Array Field} {f : Field} {i j : Nat} (ho : o.op = .fieldAddr t x i) (ht : P.underlying t = some (.struct fs)) (hf : fs.toList[i]? = some f) (hn : someT P f.type = true)
    (hx : lk l x = some (.pointer (some ((adr A).add j)))) : Ex P l ds o w (.pointer (some ((adr A).add (j + f.offset)))) := by
  unfold Ex execOp; rw [ho]; simp only [lk_eval hx]
  have h2 : fs[i]? = some f := by simpa using hf
  refine run_v ?_
  unfold someT at hn
  cases hi : P.info? f.type with
  | none => rw [hi] at hn; cases hn
  | some k =>
    simp only [hi, bne_iff_ne] at hn
    have hs : (sizeOf f.type).run P w = .ok k.size w := by simp [sizeOf, typeInfo, go_sem, hi]
    simp only [Instr.fieldAt, fieldPlace, Sem.run_bind, run_underlying ht, Result.andThen_ok, h2, Instr.sureAddr, Sem.run_pure, hs, if_neg hn, adr_add]
theorem S_storeRow1 {i : Nat} {v : Value} {xs : List Value} (hS : St F w0 rs w) (hd : o.dst = none) (ho : o.op = .store t x y) (hx : lk l x = some (.pointer (some ((adr A).add i)))) (hy : lk l y = some v) (h1 : v.oneCell' = true)
    (hu : Upd (Res.row e 1 (.slice A n c) n xs) (Res.row e 1 (.slice A n c) n (xs.set i v)) rs rs') (ht : sizeT P t 1 = true) (hi : i < n) (k : ∀ w', St F w0 rs' w' → WL P ops Q rest l ds w') : SStep P ops Q rest o l ds w := by
  have hown : w.ownsRow 0 e 1 (.slice A n c) n xs := hS.get hu.mem
  obtain ⟨hxl, h2⟩ := hown
  rcases h2 with ⟨_, rfl⟩ | ⟨g, cap, cur, hv, _, hh, hnc, hcm, hcs, htk⟩
  · omega
  · have hA : A = some ⟨g, 0, none⟩ := by injection hv
    have hcc : c = cap := by injection hv
    subst hA hcc
    have hadr : (adr (some ⟨g, 0, none⟩)).add i = ⟨g, i, none⟩ := by
      show (⟨g, 0, none⟩ : Addr).add i = _
      unfold Addr.add; split <;> simp_all
    rw [hadr] at hx
    have hfit : i + 1 ≤ cur.size := by omega
    have hst := run_storeCells_at P g i e [v] 0 cur w hh (by simpa using hfit) (by simpa using h1)
    simp only [Nat.add_zero, List.length_cons, List.length_nil, Nat.zero_add] at hst
    have hset : cur.toList.take i ++ [v] ++ cur.toList.drop (i + 1) = cur.toList.set i v := by
      rw [List.set_eq_take_append_cons_drop, if_pos (by simp; omega)]; simp
    rw [hset] at hst
    have hcells : v.cells = #[v] := by cases v <;> first | rfl | (cases h1)
    refine S_sk hd (w' := w.setRow g (cur.toList.set i v).toArray) ?_ (k _ (hS.upd hu rfl ⟨rfl, rfl, rfl, by simp [World.setRow], fun j hj hne => heap_setRow_other fun h => hne (by rw [h]; rfl)⟩ ?_ fun _ h => .inl h))
    · unfold execOp; rw [ho]; simp only [lk_eval hx, lk_eval hy]
      refine run_u ?_
      simp only [Instr.storeAt, Instr.sureAddr, storeVar, Sem.run_bind, Sem.run_pure, Result.andThen_ok, sizeOf_run ht, hcells, List.size_toArray, List.length_cons, List.length_nil, Nat.zero_add, ne_eq, not_true, if_false]
      exact hst
    · refine ⟨by simpa using hxl, .inr ⟨g, c, _, rfl, Nat.zero_le _, setRow_heap w g cur _ e _ hh, hnc, hcm, by simpa using hcs, ?_⟩⟩
      simp only [List.take_set]
      rw [htk]
theorem S_make1 {m : Nat} {i : TypeInfo} {z : Value} (hS : St F w0 rs w) (hd : o.dst = some d) (ho : o.op = .makeSlice t x y) (ht : P.underlying t = some (.slice e)) (hx : lk l x = some (.int .i64 (m : Int))) (hy : lk l y = some (.int .i64 (m : Int)))
    (hi : P.info? e = some i) (hz : i.zero = some z) (h1 : z.oneCell' = true) (hsz : i.size = 1) (hb : i.bytes ≤ 4096) (hm : m ≤ 4294967296)
    (k : ∀ g w', St F w0 (Res.row e 1 (.slice (some ⟨g, 0, none⟩) m m) m (List.replicate m z) :: rs) w' → WL P ops Q rest (l.upd d (.slice (some ⟨g, 0, none⟩) m m)) ds w') : SStep P ops Q rest o l ds w := by
  have hcells : z.cells = #[z] := by cases z <;> first | rfl | (cases h1)
  have hw1 : IntKind.i64.wrap (m : Int) = m := r_i64 (by omega)
  have hprod : i.bytes * m ≤ 17592186044416 := Nat.le_trans (Nat.mul_le_mul hb hm) (by omega)
  have hbig : ¬ ((i.bytes : Int) * (m : Int) > 2 ^ 48) := by
    have : ((i.bytes * m : Nat) : Int) ≤ 17592186044416 := by omega
    rw [Int.natCast_mul] at this
    omega
  have hroom : ¬ (m * i.bytes > roomBytes) := by unfold roomBytes; rw [Nat.mul_comm]; omega
  have hti : (typeInfo e).run P w = .ok i w := by simp [typeInfo, go_sem, hi]
  have hzv : (zeroValue e).run P w = .ok z w := by simp [zeroValue, typeInfo, go_sem, hi, hz]
  have hso : (sizeOf e).run P w = .ok 1 w := by simp [sizeOf, typeInfo, go_sem, hi, hsz]
  have hrep : ((Array.range (m * 1)).map fun j => (#[z] : Array Value)[j % (#[z] : Array Value).size]!) = (List.replicate m z).toArray := by
    apply Array.ext'
    apply List.ext_getElem?
    intro j
    by_cases hj : j < m
    · simp [hj, Nat.mod_one]
    · simp [hj]
  have hrun : (execOp (Act.mk l.arr ds).eval o).run P w = .ok (.value (.slice (some ⟨w.heap.size, 0, none⟩) m m)) (w.alloc (.cells (List.replicate m z).toArray e)) := by
    unfold execOp; rw [ho]; simp only [lk_eval hx, lk_eval hy]
    refine run_v ?_
    have hneg : ¬ ((m : Int) < 0) := by omega
    have hlt : ¬ ((m : Int) > (m : Int)) := by omega
    have hai : (asInt (.int .i64 (m : Int))).run P w = .ok (m : Int) w := rfl
    simp only [Instr.makeSlice, Sem.run_bind, run_underlying ht, Result.andThen_ok, hai, Sem.run_pure, hti, hw1, decide_eq_false hneg, decide_eq_false hbig, decide_eq_false hlt, Bool.or_false, Bool.or_self, Bool.false_eq_true, if_false, Int.toNat_natCast, askRoom, hroom, hso]
    by_cases hm0 : m * 1 = 0
    · have : m = 0 := by omega
      subst this
      have hr0 : ((Array.range (0 * 1)).map fun j => (#[] : Array Value)[j % (#[] : Array Value).size]!) = (List.replicate 0 z).toArray := by simp
      simp only [if_pos, Sem.run_bind, Sem.run_pure, Result.andThen_ok, newRow, hr0]
      rfl
    · simp only [if_neg hm0, Sem.run_bind, Sem.run_pure, Result.andThen_ok, hzv, hcells, hrep, newRow]
      rfl
  refine S_ok hd hrun (k _ _ ?_)
  refine hS.fresh (Fr.alloc w _) ⟨by simp, .inr ⟨w.heap.size, m, _, rfl, Nat.zero_le _, heap_alloc_new w _, Nat.le_refl _, by unfold maxLen; omega, by simp, by simp⟩⟩ fun b hb => by cases hb; exact Nat.le_refl _
end
end Go.Proofs.Ytfdfnamkkepbiaa
