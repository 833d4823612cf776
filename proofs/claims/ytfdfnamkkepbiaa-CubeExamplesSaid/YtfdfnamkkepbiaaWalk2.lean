/-
  More laws of single operations: structs in memory, slices, append, built values. Nothing here names a function of the program.
-/
import Derived.Test.YtfdfnamkkepbiaaWalk
namespace Go.Proofs.Ytfdfnamkkepbiaa
open Go.RowKit

def aggT (P : Program) (t : TypeId) (n : Nat) : Bool := (match P.underlying t with | some (.struct _) => true | some (.array _ _) => true | _ => false) && (match P.info? t with | some i => i.size == n | none => false)
def sizeT (P : Program) (t : TypeId) (n : Nat) : Bool := match P.info? t with | some i => i.size == n | none => false
def infoT (P : Program) (t : TypeId) (n : Nat) : Bool := match P.info? t with | some i => i.size == n && decide (i.bytes ≤ 4096) && (match i.zero with | some z => z.cells.size == n | none => false) | none => false
def someT (P : Program) (t : TypeId) : Bool := match P.info? t with | some i => i.size != 0 | none => false
def adr (A : Option Addr) : Addr := A.getD ⟨0, 0, none⟩
def one' (vs : List Value) : Bool := vs.all Value.oneCell'

section
variable {P : Program} {ops : Array Oper} {Q : Exit → Act → World → Prop} {rest : List Oper} {o : Oper} {l : Fm} {ds : List Deferred} {w : World}
variable {F : Nat → Prop} {w0 : World} {rs rs' : List Res} {x y : Operand} {t e : TypeId} {d : Nat}

theorem adr_add (a : Addr) (i j : Nat) : (a.add i).add j = a.add (i + j) := by
  unfold Addr.add
  by_cases hi : i = 0 <;> by_cases hj : j = 0 <;> simp [hi, hj, Nat.add_assoc]
theorem sizeOf_run {n : Nat} (h : sizeT P t n = true) : (sizeOf t).run P w = .ok n w := by
  unfold sizeT at h
  cases hi : P.info? t with
  | none => rw [hi] at h; cases h
  | some i => rw [hi] at h; simp only [beq_iff_eq] at h; simp [sizeOf, typeInfo, go_sem, hi, h]
theorem run_loadAgg {a : Addr} {cs : List Value} (ht : aggT P t cs.length = true) (hc : ∀ j v, cs[j]? = some v → w.cell? (a.add j) = some v) : (Instr.loadAt t (.pointer (some a))).run P w = .ok (.agg cs.toArray) w := by
  unfold aggT at ht
  simp only [Bool.and_eq_true] at ht
  have h1 : (isAgg t).run P w = .ok true w := by
    cases hu : P.underlying t with
    | none => rw [hu] at ht; cases ht.1
    | some d => cases d <;> first | (rw [hu] at ht; cases ht.1; done) | simp [isAgg, underlying, go_sem, hu]
  have h2 : (sizeOf t).run P w = .ok cs.length w := sizeOf_run ht.2
  simp only [Instr.loadAt, Instr.sureAddr, loadVar, Sem.run_bind, Sem.run_pure, Result.andThen_ok, h1, h2, run_loadCells_list w a cs hc, if_true]
theorem cells_at {b : Nat} {c : Array Value} {ty : TypeId} {fz : Nat × Nat} (hS : St F w0 rs w) (hm : Res.obj b (.cells c ty fz) ∈ rs) : ∀ j v, c.toList[j]? = some v → w.cell? ((⟨b, 0, none⟩ : Addr).add j) = some v := by
  intro j v hv
  have hadd : (⟨b, 0, none⟩ : Addr).add j = ⟨b, j, none⟩ := by unfold Addr.add; split <;> simp_all
  rw [hadd]
  exact hS.cell hm (by rw [nth_eq]; exact hv)
theorem x_loadBox {b : Nat} {c : List Value} {ty : TypeId} {fz : Nat × Nat} (hS : St F w0 rs w) (ho : o.op = .load t x) (hx : lk l x = some (.pointer (some ⟨b, 0, none⟩)))
    (hm : Res.obj b (.cells c.toArray ty fz) ∈ rs) (ht : aggT P t c.length = true) : Ex P l ds o w (.agg c.toArray) := by
  unfold Ex execOp; rw [ho]; simp only [lk_eval hx]
  exact run_v (run_loadAgg ht (cells_at hS hm))
theorem heap_setRow_other {g i : Nat} {c : Array Value} (h : i ≠ g) : (w.setRow g c).heap[i]? = w.heap[i]? := by
  simp only [World.setRow, Array.getElem?_modify]
  rw [if_neg (by omega)]
theorem S_storeBox {b : Nat} {c c' : List Value} {ty : TypeId} (hS : St F w0 rs w) (hd : o.dst = none) (ho : o.op = .store t x y)
    (hx : lk l x = some (.pointer (some ⟨b, 0, none⟩))) (hy : lk l y = some (.agg c'.toArray)) (h1 : one' c' = true)
    (hu : Upd (Res.obj b (.cells c.toArray ty (0, 0))) (Res.obj b (.cells c'.toArray ty (0, 0))) rs rs') (hl : c'.length = c.length) (ht : sizeT P t c'.length = true)
    (k : ∀ w', St F w0 rs' w' → WL P ops Q rest l ds w') : SStep P ops Q rest o l ds w := by
  have hh : w.heap[b]? = some (.cells c.toArray ty (0, 0)) := hS.get hu.mem
  have hst := run_storeCells_from (P := P) b ty c' 0 c.toArray w hh (by simp [hl]) (by simpa [one'] using h1)
  simp only [List.take_zero, List.nil_append] at hst
  refine S_sk hd (w' := w.setRow b c'.toArray) ?_ (k _ ?_)
  · unfold execOp; rw [ho]; simp only [lk_eval hx, lk_eval hy]
    refine run_u ?_
    simp only [Instr.storeAt, Instr.sureAddr, storeVar, Sem.run_bind, Sem.run_pure, Result.andThen_ok, sizeOf_run ht, Value.cells, List.size_toArray, ne_eq, not_true, if_false]
    exact hst
  · refine hS.upd hu rfl ⟨rfl, rfl, rfl, by simp [World.setRow], fun i hi hne => heap_setRow_other fun h => hne (by rw [h]; rfl)⟩ ?_ fun _ h => .inl h
    exact setRow_heap w b c.toArray c'.toArray ty (0, 0) hh

/-! fields and elements -/
theorem x_fieldAddr {fs : Array Field} {f : Field} {i b off : Nat} (ho : o.op = .fieldAddr t x i) (ht : P.underlying t = some (.struct fs)) (hf : fs.toList[i]? = some f) (hn : someT P f.type = true)
    (hx : lk l x = some (.pointer (some ⟨b, off, none⟩))) : Ex P l ds o w (.pointer (some ⟨b, off + f.offset, none⟩)) := by
  unfold Ex execOp; rw [ho]; simp only [lk_eval hx]
  have h2 : fs[i]? = some f := by simpa using hf
  have hadd : (⟨b, off, none⟩ : Addr).add f.offset = ⟨b, off + f.offset, none⟩ := by unfold Addr.add; split <;> simp_all
  refine run_v ?_
  unfold someT at hn
  cases hi : P.info? f.type with
  | none => rw [hi] at hn; cases hn
  | some j =>
    simp only [hi, bne_iff_ne] at hn
    have hs : (sizeOf f.type).run P w = .ok j.size w := by simp [sizeOf, typeInfo, go_sem, hi]
    simp [Instr.fieldAt, fieldPlace, underlying, go_sem, ht, h2, Instr.sureAddr, hs, hn, hadd]
theorem St.rdAt {size n : Nat} {A : Option Addr} {xs : List Value} (hS : St F w0 rs w) (hm : Res.rd size A n xs ∈ rs) : Rd w size A n xs := hS.get hm
theorem St.rowAt {size n c : Nat} {A : Option Addr} {xs : List Value} (hS : St F w0 rs w) (hm : Res.row e size (.slice A n c) n xs ∈ rs) : Rd w size A n xs := ownsRow_rd (hS.get hm)
theorem Rd.form {size n : Nat} {A : Option Addr} {xs : List Value} (h : Rd w size A n xs) (hn : 0 < n) : A = some (adr A) := by
  obtain ⟨ad, rfl, _⟩ := h.2 hn; rfl
theorem x_idx1 {n c : Nat} {A : Option Addr} {xs : List Value} {k : IntKind} {i : Int} (ho : o.op = .indexAddr t x y) (hx : lk l x = some (.slice A n c)) (hy : lk l y = some (.int k i)) (ht : P.underlying t = some (.slice e)) (he : sizeT P e 1 = true)
    (hR : Rd w 1 A n xs) (hi : 0 ≤ i ∧ i < (n : Int)) : Ex P l ds o w (.pointer (some ((adr A).add i.toNat))) := by
  unfold Ex execOp; rw [ho]; simp only [lk_eval hx, lk_eval hy]
  have hA := hR.form (by omega)
  rw [hA]
  refine run_v ?_
  simp [Instr.indexAt, asIntOf, underlying, go_sem, ht, hi, sizeOf_run he, adr]
theorem x_idx {n c size : Nat} {A : Option Addr} {xs : List Value} {k : IntKind} {i : Int} (ho : o.op = .indexAddr t x y) (hx : lk l x = some (.slice A n c)) (hy : lk l y = some (.int k i)) (ht : P.underlying t = some (.slice e)) 
    (hR : Rd w size A n xs) (he : sizeT P e size = true) (hi : 0 ≤ i ∧ i < (n : Int)) : Ex P l ds o w (.pointer (some ((adr A).add (i.toNat * size)))) := by
  unfold Ex execOp; rw [ho]; simp only [lk_eval hx, lk_eval hy]
  have hA := hR.form (by omega)
  rw [hA]
  refine run_v ?_
  simp [Instr.indexAt, asIntOf, underlying, go_sem, ht, hi, sizeOf_run he, adr]
theorem Rd.cellAt {size n j : Nat} {A : Option Addr} {xs : List Value} {v : Value} (h : Rd w size A n xs) (hv : xs[j]? = some v) : w.cell? ((adr A).add j) = some v := by
  have hl : j < xs.length := (List.getElem?_eq_some_iff.1 hv).1
  have hn : 0 < n := by
    rcases Nat.eq_zero_or_pos n with h0 | h0
    · have := h.1; rw [h0] at this; simp at this; rw [this] at hl; simp at hl
    · exact h0
  obtain ⟨ad, rfl, _, hc⟩ := h.2 hn
  exact hc j v hv
theorem x_loadEl {size n j : Nat} {A : Option Addr} {xs : List Value} {v : Value} (ho : o.op = .load t x) (hx : lk l x = some (.pointer (some ((adr A).add j)))) (ht : flatT P t = true) (hR : Rd w size A n xs) (hv : xs[j]? = some v) : Ex P l ds o w v :=
  x_load_at ho hx ht (hR.cellAt hv)
theorem x_loadElAgg {size n j : Nat} {A : Option Addr} {xs cs : List Value} (ho : o.op = .load t x) (hx : lk l x = some (.pointer (some ((adr A).add j)))) (hR : Rd w size A n xs) (hv : (xs.drop j).take cs.length = cs) (ht : aggT P t cs.length = true) : Ex P l ds o w (.agg cs.toArray) := by
  unfold Ex execOp; rw [ho]; simp only [lk_eval hx]
  refine run_v (run_loadAgg ht fun i v hi => ?_)
  rw [adr_add]
  refine hR.cellAt ?_
  rw [← hv] at hi
  have hlt : i < cs.length := by
    have := (List.getElem?_eq_some_iff.1 hi).1
    simp at this; omega
  rw [List.getElem?_take_of_lt hlt, List.getElem?_drop] at hi
  exact hi

/-! append onto a row of one's own -/
theorem S_append {ar : Array Operand} {ts : Array TypeId} {size n m c b : Nat} {v : Value} {xs news : List Value} {ty : TypeId} {fz : Nat × Nat} {rs' : Value → List Res} (hS : St F w0 rs w) (hd : o.dst = some d)
    (ho : o.op = .call { callee := .builtin .append, args := ar, argTypes := ts }) (har : ar.toList = [x, y]) (hts : ts.toList = [t, t]) (ht : P.underlying t = some (.slice e))
    (hx : lk l x = some v) (hy : lk l y = some (.slice (some ⟨b, 0, none⟩) m c)) (hm : Res.obj b (.cells news.toArray ty fz) ∈ rs)
    (hu : ∀ v', Upd (Res.row e size v n xs) (Res.row e size v' (n + m) (xs ++ news)) rs (rs' v')) (hi : infoT P e size = true) (hl : news.length = m * size) (h1 : one' news = true) 
    (hpos : 0 < m ∧ 0 < size) (hn : n + m ≤ 4294967296)
    (k : ∀ g cap w', St F w0 (rs' (.slice (some ⟨g, 0, none⟩) (n + m) cap)) w' → WL P ops Q rest (l.upd d (.slice (some ⟨g, 0, none⟩) (n + m) cap)) ds w') : SStep P ops Q rest o l ds w := by
  obtain rfl : ar = #[x, y] := by cases ar; simp_all
  obtain rfl : ts = #[t, t] := by cases ts; simp_all
  unfold infoT at hi
  cases hq : P.info? e with
  | none => rw [hq] at hi; cases hi
  | some i =>
    rw [hq] at hi
    simp only [Bool.and_eq_true, beq_iff_eq, decide_eq_true_eq] at hi
    obtain ⟨⟨hs1, hs2⟩, hs3⟩ := hi
    have hb : (n + m) * i.bytes ≤ 140737488355328 := Nat.le_trans (Nat.mul_le_mul hn hs2) (by omega)
    cases hz : i.zero with
    | none => rw [hz] at hs3; cases hs3
    | some z =>
      rw [hz] at hs3
      simp only [beq_iff_eq] at hs3
      have hown : w.ownsRow 0 e size v n xs := hS.get (hu v).mem
      obtain ⟨v', w', hr, hown', hgr, _, hblk⟩ := run_append_own_at (P := P) w 0 t o.type e i z size i.bytes ht hq hz hs1 rfl hs3 hpos.2 v n xs hown ⟨b, 0, none⟩ m c news hl (cells_at hS hm) (by simpa [one'] using h1) (by unfold maxLen; omega) hb (Nat.zero_le _)
      obtain ⟨g, cap, rfl, _, _⟩ := hown'.form (by omega)
      have e1 := lk_eval (ds := ds) hx
      have e2 := lk_eval (ds := ds) hy
      refine S_ok hd (w' := w') (v := .slice (some ⟨g, 0, none⟩) (n + m) cap) ?_ (k g cap w' (hS.upd (hu _) rfl ⟨hgr.os, hgr.tape, hgr.output, hgr.size, fun i hi hne => hgr.block i hi fun h => hne h.symm⟩ hown' fun b' hb' => ?_))
      · generalize (Act.mk l.arr ds).eval = ρ at e1 e2 ⊢
        unfold execOp
        simp only [ho, resolve, invoke, builtin, Sem.run_bind, Sem.run_pure, Result.andThen_ok, List.map_toArray, List.map_cons, List.map_nil, e1, e2, hr]
      · cases hb'
        rcases hblk with h | h
        · exact .inl h.symm
        · exact .inr (by cases h; exact Nat.le_refl _)
end
end Go.Proofs.Ytfdfnamkkepbiaa
