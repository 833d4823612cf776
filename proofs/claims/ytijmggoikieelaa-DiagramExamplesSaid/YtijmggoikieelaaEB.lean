/-
  The laws of the walk: operations that turn memory, calls, tests, loops, regions that draw their order. Nothing here names a function of the program.
-/
import Derived.Test.YtijmggoikieelaaEA
import Derived.Deep.LoopGhost
import Derived.StillTail
namespace Go.Proofs.Ytijmggoikieelaa
open Go.RowKit

section
variable {P : Program} {ops : Array Oper} {Q : Exit → Act → World → Prop} {rest : List Oper} {o : Oper} {l : Fm} {ds : List Deferred} {w : World}
variable {F : Nat → Prop} {w0 : World} {rs rs' : List Res} {x y : Operand} {t : TypeId} {d : Nat}

/-! loads and stores of cells in known blocks -/
theorem run_load {v : Value} {a : Addr} (ht : flatT P t = true) (hc : w.cell? a = some v) : (Instr.loadAt t (.pointer (some a))).run P w = .ok v w := by
  simp [Instr.loadAt, Instr.sureAddr, loadVar, go_sem, isAgg_flat ht, hc]
theorem x_load {b off : Nat} {c : Array Value} {ty : TypeId} {fz : Nat × Nat} {v : Value} (hS : St F w0 rs w) (ho : o.op = .load t x) (hx : lk l x = some (.pointer (some ⟨b, off, none⟩))) (ht : flatT P t = true)
    (hm : Res.obj b (.cells c ty fz) ∈ rs) (hv : nth c.toList off = some v) : Ex P l ds o w v := by
  unfold Ex execOp; rw [ho]; simp only [lk_eval hx]
  exact run_v (run_load ht (hS.cell hm hv))
theorem x_load_at {a : Addr} {v : Value} (ho : o.op = .load t x) (hx : lk l x = some (.pointer (some a))) (ht : flatT P t = true) (hc : w.cell? a = some v) : Ex P l ds o w v := by
  unfold Ex execOp; rw [ho]; simp only [lk_eval hx]
  exact run_v (run_load ht hc)
/-- new memory -/
theorem S_new {ob : Obj} {f : Nat → Value} (hS : St F w0 rs w) (hd : o.dst = some d) (he : (execOp (Act.mk l.arr ds).eval o).run P w = .ok (.value (f w.heap.size)) (w.alloc ob))
    (k : ∀ b w', St F w0 (Res.obj b ob :: rs) w' → WL P ops Q rest (l.upd d (f b)) ds w') : SStep P ops Q rest o l ds w := S_ok hd he (k _ _ (hS.new ob))
theorem S_boxA {c : List Value} (hS : St F w0 rs w) (hd : o.dst = some d) (ho : o.op = .box t x) (hx : lk l x = some (.agg c.toArray))
    (k : ∀ b w', St F w0 (Res.obj b (.cells c.toArray t (0, 0)) :: rs) w' → WL P ops Q rest (l.upd d (.pointer (some ⟨b, 0, none⟩))) ds w') : SStep P ops Q rest o l ds w := by
  refine S_new (f := fun b => .pointer (some ⟨b, 0, none⟩)) hS hd ?_ k
  unfold execOp; rw [ho]; simp only [lk_eval hx]
  exact run_v rfl
theorem S_box1 {v : Value} (hS : St F w0 rs w) (hd : o.dst = some d) (ho : o.op = .box t x) (hx : lk l x = some v) (h1 : v.oneCell' = true)
    (k : ∀ b w', St F w0 (Res.obj b (.cells #[v] t (0, 0)) :: rs) w' → WL P ops Q rest (l.upd d (.pointer (some ⟨b, 0, none⟩))) ds w') : SStep P ops Q rest o l ds w := by
  have hcells : v.cells = #[v] := by cases v <;> first | rfl | (cases h1)
  refine S_new (f := fun b => .pointer (some ⟨b, 0, none⟩)) hS hd ?_ k
  unfold execOp; rw [ho]; simp only [lk_eval hx]
  rw [← hcells]
  exact run_v rfl
theorem run_alloc {i : TypeInfo} {z : Value} (ho : o.op = .alloc t) (hi : P.info? t = some i) (hz : i.zero = some z) : (execOp (Act.mk l.arr ds).eval o).run P w = .ok (.value (.pointer (some ⟨w.heap.size, 0, none⟩))) (w.alloc (.cells z.cells t)) := by
  unfold execOp; rw [ho]
  have h1 : (zeroValue t).run P w = .ok z w := by simp [zeroValue, typeInfo, go_sem, hi, hz]
  refine run_v ?_
  show ((zeroValue t) >>= _).run P w = _
  rw [Sem.run_bind, h1]; rfl
theorem S_allocA {i : TypeInfo} {c : List Value} (hS : St F w0 rs w) (hd : o.dst = some d) (ho : o.op = .alloc t) (hi : P.info? t = some i) (hz : i.zero = some (.agg c.toArray))
    (k : ∀ b w', St F w0 (Res.obj b (.cells c.toArray t (0, 0)) :: rs) w' → WL P ops Q rest (l.upd d (.pointer (some ⟨b, 0, none⟩))) ds w') : SStep P ops Q rest o l ds w :=
  S_new (f := fun b => .pointer (some ⟨b, 0, none⟩)) hS hd (run_alloc ho hi hz) k
theorem S_alloc1 {i : TypeInfo} {z : Value} (hS : St F w0 rs w) (hd : o.dst = some d) (ho : o.op = .alloc t) (hi : P.info? t = some i) (hz : i.zero = some z) (h1 : z.oneCell' = true)
    (k : ∀ b w', St F w0 (Res.obj b (.cells #[z] t (0, 0)) :: rs) w' → WL P ops Q rest (l.upd d (.pointer (some ⟨b, 0, none⟩))) ds w') : SStep P ops Q rest o l ds w := by
  have hcells : z.cells = #[z] := by cases z <;> first | rfl | (cases h1)
  exact S_new (f := fun b => .pointer (some ⟨b, 0, none⟩)) hS hd (by rw [← hcells]; exact run_alloc ho hi hz) k
theorem S_store {b off : Nat} {c : List Value} {ty : TypeId} {v : Value} {i : TypeInfo} (hS : St F w0 rs w) (hd : o.dst = none) (ho : o.op = .store t x y)
    (hx : lk l x = some (.pointer (some ⟨b, off, none⟩))) (hy : lk l y = some v) (h1 : v.oneCell' = true) (hi : P.info? t = some i) (hsz : i.size = 1)
    (hu : Upd (Res.obj b (.cells c.toArray ty (0, 0))) (Res.obj b (.cells (c.set off v).toArray ty (0, 0))) rs rs') (hoff : off < c.length)
    (k : ∀ w', St F w0 rs' w' → WL P ops Q rest l ds w') : SStep P ops Q rest o l ds w := by
  have hh : w.heap[b]? = some (.cells c.toArray ty (0, 0)) := hS.get hu.mem
  have hc : w.cell? ⟨b, off, none⟩ = some c[off] := hS.cell hu.mem (by rw [nth_eq]; simp [hoff])
  have hf : w.frozen? ⟨b, off, none⟩ = false := by simp [World.frozen?, hh]
  refine S_sk hd (w' := w.setCell ⟨b, off, none⟩ v) ?_ (k _ (hS.setCell hu))
  unfold execOp; rw [ho]; simp only [lk_eval hx, lk_eval hy]
  have hcells : v.cells = #[v] := by cases v <;> first | rfl | (cases h1)
  have h0 : (⟨b, off, none⟩ : Addr).add 0 = ⟨b, off, none⟩ := rfl
  cases v <;> first | (cases h1; done) | simp [Instr.storeAt, Instr.sureAddr, storeVar, storeCells, sizeOf, typeInfo, go_sem, hi, hsz, Value.cells, h0, hc, hf, store, Sem.run]
theorem S_bin {op : BinOp} {t' : TypeId} {k : IntKind} {m n : Int} (hd : o.dst = some d) (ho : o.op = .binOp op t x y t') (hx : lk l x = some (.int k m)) (hy : lk l y = some (.int k n)) (h : ∃ v, BinS P op k m n v ∧ WL P ops Q rest (l.upd d v) ds w) : SStep P ops Q rest o l ds w := by
  obtain ⟨v, hv, k⟩ := h
  exact S_ex hd (x_bins ho hx hy hv) k

/-! calls -/
def lks (l : Fm) : List Operand → List Value
  | [] => []
  | x :: xs => (lk l x).getD undef :: lks l xs
theorem lks_eval {ar : Array Operand} : ar.map (Act.mk l.arr ds).eval = (lks l ar.toList).toArray := by
  cases ar with
  | mk ar =>
    induction ar with
    | nil => simp [lks]
    | cons x xs ih =>
      have h1 : (Act.mk l.arr ds).eval x = (lk l x).getD undef := by
        cases hx : lk l x with
        | some v => exact lk_eval hx
        | none =>
          cases x with
          | tmp t =>
            simp only [lk, fnth_eq] at hx
            simp only [Act.eval, Fm.arr]
            rw [Array.getD_eq_getD_getElem?, List.getElem?_toArray, hx]
          | _ => cases hx
      simp only [List.map_toArray, List.map_cons] at ih ⊢
      simp only [lks, h1]
      have := congrArg Array.toList ih
      simp at this
      rw [this]
theorem run_call {g : FuncId} {fs cs : Array Value} {f : Operand} {ar : Array Operand} {ts : Array TypeId} (ho : o.op = .call { callee := .value f, args := ar, argTypes := ts }) (hf : lk l f = some (.func (.func g) fs cs)) (hb : enterB P g = true) :
    (execOp (Act.mk l.arr ds).eval o).run P w = .ok (.enter g (fs.toList ++ lks l ar.toList ++ cs.toList).toArray) w := by
  unfold execOp; rw [ho]
  simp only [resolve, lk_eval hf, Deferred.ofValue, lks_eval]
  have := callFunc_run (P := P) (w := w) (f := g) (args := (fs.toList ++ lks l ar.toList ++ cs.toList).toArray) hb
  have he : fs ++ (lks l ar.toList).toArray ++ cs = (fs.toList ++ lks l ar.toList ++ cs.toList).toArray := by
    cases fs; cases cs; simp
  rw [← he] at this ⊢
  exact this
theorem S_call {g : FuncId} {fs cs : Array Value} {f : Operand} {ar : Array Operand} {ts : Array TypeId} {R : Value → World → Prop} (hd : o.dst = some d)
    (ho : o.op = .call { callee := .value f, args := ar, argTypes := ts }) (hf : lk l f = some (.func (.func g) fs cs)) (hb : enterB P g = true) (hc : CallsR P g (fs.toList ++ lks l ar.toList ++ cs.toList).toArray w R)
    (k : ∀ v w', R v w' → WL P ops Q rest (l.upd d v) ds w') : SStep P ops Q rest o l ds w := by
  refine S_of ?_
  unfold Oper.wp
  rw [run_call ho hf hb]
  show Calls P g _ w _
  refine Calls.mono hc ?_
  rintro e w' ⟨v, rfl, hv⟩
  show wpList P ops Q rest _ w'
  rw [hd, put_mk]
  exact (k v w' hv).out
theorem S_call0 {g : FuncId} {fs cs : Array Value} {f : Operand} {ar : Array Operand} {ts : Array TypeId} {R : Value → World → Prop} (hd : o.dst = none)
    (ho : o.op = .call { callee := .value f, args := ar, argTypes := ts }) (hf : lk l f = some (.func (.func g) fs cs)) (hb : enterB P g = true) (hc : CallsR P g (fs.toList ++ lks l ar.toList ++ cs.toList).toArray w R)
    (k : ∀ v w', R v w' → WL P ops Q rest l ds w') : SStep P ops Q rest o l ds w := by
  refine S_of ?_
  unfold Oper.wp
  rw [run_call ho hf hb]
  show Calls P g _ w _
  refine Calls.mono hc ?_
  rintro e w' ⟨v, rfl, hv⟩
  show wpList P ops Q rest _ w'
  rw [hd]
  exact (k v w' hv).out

/-- the next operation is a call of f with these arguments -/
structure SCall (P : Program) (ops : Array Oper) (Q : Exit → Act → World → Prop) (rest : List Oper) (o : Oper) (l : Fm) (ds : List Deferred) (w : World) (f : Operand) (ar : Array Operand) : Prop where
  run : (∃ ts, o.op = .call { callee := .value f, args := ar, argTypes := ts }) → SStep P ops Q rest o l ds w
theorem S_isCall {f : Operand} {ar : Array Operand} {ts : Array TypeId} (ho : o.op = .call { callee := .value f, args := ar, argTypes := ts }) (h : SCall P ops Q rest o l ds w f ar) : SStep P ops Q rest o l ds w := h.run ⟨ts, ho⟩
theorem SC_ {g : FuncId} {fs cs : Array Value} {f : Operand} {ar : Array Operand} {R : Value → World → Prop} (hf : lk l f = some (.func (.func g) fs cs)) (hd : o.dst = some d) (hb : enterB P g = true) (hc : CallsR P g (fs.toList ++ lks l ar.toList ++ cs.toList).toArray w R)
    (k : ∀ v w', R v w' → WL P ops Q rest (l.upd d v) ds w') : SCall P ops Q rest o l ds w f ar := ⟨fun ⟨_, ho⟩ => S_call hd ho hf hb hc k⟩
theorem SC0_ {g : FuncId} {fs cs : Array Value} {f : Operand} {ar : Array Operand} {R : Value → World → Prop} (hf : lk l f = some (.func (.func g) fs cs)) (hd : o.dst = none) (hb : enterB P g = true) (hc : CallsR P g (fs.toList ++ lks l ar.toList ++ cs.toList).toArray w R)
    (k : ∀ v w', R v w' → WL P ops Q rest l ds w') : SCall P ops Q rest o l ds w f ar := ⟨fun ⟨_, ho⟩ => S_call0 hd ho hf hb hc k⟩
theorem W_cond_id {a : Act} {c : Operand} {thn els : Code} (h : (Code.cond c thn els).wp P Q a w) : (Code.cond c thn els).wp P Q a w := h

/-! tests -/
theorem W_cond_t {c : Operand} {thn els : Code} (hc : lk l c = some (.bool true)) (k : thn.wp P Q ⟨l.arr, ds⟩ w) : (Code.cond c thn els).wp P Q ⟨l.arr, ds⟩ w := wp_cond_true (lk_eval hc) k
theorem W_cond_f {c : Operand} {thn els : Code} (hc : lk l c = some (.bool false)) (k : els.wp P Q ⟨l.arr, ds⟩ w) : (Code.cond c thn els).wp P Q ⟨l.arr, ds⟩ w := wp_cond_false (lk_eval hc) k
theorem W_cond {c : Operand} {thn els : Code} {b : Bool} (hc : lk l c = some (.bool b)) (kt : b = true → thn.wp P Q ⟨l.arr, ds⟩ w) (kf : b = false → els.wp P Q ⟨l.arr, ds⟩ w) : (Code.cond c thn els).wp P Q ⟨l.arr, ds⟩ w :=
  wp_cond_split (lk_eval hc) kt kf

/-! regions that draw their order: one walk in the order of the text -/
structure WQ (P : Program) (ops : Array Oper) (C : World → Prop) (K : Act → Prop) (rest : List Oper) (l : Fm) (ds : List Deferred) : Prop where
  out : wpQuiet P ops C K rest ⟨l.arr, ds⟩
structure QStep (P : Program) (ops : Array Oper) (C : World → Prop) (K : Act → Prop) (rest : List Oper) (o : Oper) (l : Fm) (ds : List Deferred) : Prop where
  run : wantF ops l o = true → WQ P ops C K (o :: rest) l ds
structure QNay (P : Program) (ops : Array Oper) (C : World → Prop) (K : Act → Prop) (rest : List Oper) (o : Oper) (l : Fm) (ds : List Deferred) : Prop where
  run : wantF ops l o = false → WQ P ops C K (o :: rest) l ds
theorem W_quiet {id : Nat} {l' : List Oper} (hS : St F w0 rs w) (hm : P.follows .mixedOrders = true) (hB : Region.lexB .any l'.toArray = true)
    (k : WQ P l'.toArray (St F w0 rs) (fun a' => ∀ w', St F w0 rs w' → Q .normal a' w') l' l ds) : (Code.region id l'.toArray true).wp P Q ⟨l.arr, ds⟩ w := by
  refine wp_region_quiet (C := St F w0 rs) hm hB (hS.call (Fr.of ((Below.refl _ _).drew))) ?_
  simpa using k.out
variable {C : World → Prop} {K : Act → Prop}
theorem Q_yes (hw : wantF ops l o = true) (h : QStep P ops C K rest o l ds) : WQ P ops C K (o :: rest) l ds := h.run hw
theorem Q_nay (hw : wantF ops l o = false) (h : QNay P ops C K rest o l ds) : WQ P ops C K (o :: rest) l ds := h.run hw
theorem WQ_nil (h : K ⟨l.arr, ds⟩) : WQ P ops C K [] l ds := ⟨h⟩
theorem Q_ex {v : Value} (hd : o.dst = some d) (he : ∀ w, C w → Ex P l ds o w v) (k : WQ P ops C K rest (l.upd d v) ds) : QStep P ops C K rest o l ds := ⟨fun hw => ⟨by
  unfold wpQuiet
  rw [if_pos (wantF_eq.trans hw)]
  refine ⟨v, fun w hC => ?_, by rw [hd, put_mk]; exact k.out⟩
  unfold Oper.quietAt
  rw [he w hC]
  exact ⟨rfl, rfl⟩⟩⟩
theorem Q_bin {op : BinOp} {t' : TypeId} {k : IntKind} {m n : Int} (hd : o.dst = some d) (ho : o.op = .binOp op t x y t') (hx : lk l x = some (.int k m)) (hy : lk l y = some (.int k n)) (h : ∃ v, BinS P op k m n v ∧ WQ P ops C K rest (l.upd d v) ds) : QStep P ops C K rest o l ds := by
  obtain ⟨v, hv, k⟩ := h
  exact Q_ex hd (fun _ _ => x_bins ho hx hy hv) k
theorem Q_no (hd : o.dst = some d) (k : WQ P ops C K rest (l.upd d undef) ds) : QNay P ops C K rest o l ds := ⟨fun hw => ⟨by
  unfold wpQuiet
  rw [if_neg (by rw [wantF_eq, hw]; exact Bool.false_ne_true), hd, put_mk]
  exact k.out⟩⟩
theorem Q_call {g : FuncId} {fs cs : Array Value} {f : Operand} {ar : Array Operand} {ts : Array TypeId} {v : Value} (hd : o.dst = some d)
    (ho : o.op = .call { callee := .value f, args := ar, argTypes := ts }) (hf : lk l f = some (.func (.func g) fs cs)) (hb : enterB P g = true)
    (hc : ∀ w, C w → CallsR P g (fs.toList ++ lks l ar.toList ++ cs.toList).toArray w fun v' w' => v' = v ∧ C w')
    (k : WQ P ops C K rest (l.upd d v) ds) : QStep P ops C K rest o l ds := ⟨fun hw => ⟨by
  unfold wpQuiet
  rw [if_pos (wantF_eq.trans hw)]
  refine ⟨v, fun w hC => ?_, by rw [hd, put_mk]; exact k.out⟩
  unfold Oper.quietAt
  rw [run_call ho hf hb]
  refine ⟨rfl, Calls.mono (hc w hC) ?_⟩
  rintro e w' ⟨v', rfl, rfl, hC'⟩
  exact ⟨rfl, hC'⟩⟩⟩
structure QCall (P : Program) (ops : Array Oper) (C : World → Prop) (K : Act → Prop) (rest : List Oper) (o : Oper) (l : Fm) (ds : List Deferred) (f : Operand) (ar : Array Operand) : Prop where
  run : (∃ ts, o.op = .call { callee := .value f, args := ar, argTypes := ts }) → QStep P ops C K rest o l ds
theorem Q_isCall {f : Operand} {ar : Array Operand} {ts : Array TypeId} (ho : o.op = .call { callee := .value f, args := ar, argTypes := ts }) (h : QCall P ops C K rest o l ds f ar) : QStep P ops C K rest o l ds := h.run ⟨ts, ho⟩
theorem QC_ {g : FuncId} {fs cs : Array Value} {f : Operand} {ar : Array Operand} {v : Value} (hf : lk l f = some (.func (.func g) fs cs)) (hd : o.dst = some d) (hb : enterB P g = true)
    (hc : ∀ w, C w → CallsR P g (fs.toList ++ lks l ar.toList ++ cs.toList).toArray w fun v' w' => v' = v ∧ C w')
    (k : WQ P ops C K rest (l.upd d v) ds) : QCall P ops C K rest o l ds f ar := ⟨fun ⟨_, ho⟩ => Q_call hd ho hf hb hc k⟩
end

section
variable {P : Program} {F : Nat → Prop} {w0 : World} {rs : List Res} {g : FuncId} {args : Array Value} {v : Value}
theorem QC_below (h : ∀ w, St F w0 rs w → Calls P g args w fun e w' => e = .returned v ∧ Below w.heap.size w w') : ∀ w, St F w0 rs w → CallsR P g args w fun v' w' => v' = v ∧ St F w0 rs w' :=
  fun w hS => Calls.mono (h w hS) fun _ _ ⟨he, hb⟩ => ⟨v, he, rfl, hS.call (Fr.of hb)⟩
theorem QC_same (h : ∀ w, St F w0 rs w → Calls P g args w fun e w' => e = .returned v ∧ w = w') : ∀ w, St F w0 rs w → CallsR P g args w fun v' w' => v' = v ∧ St F w0 rs w' :=
  fun w hS => Calls.mono (h w hS) fun _ _ ⟨he, hb⟩ => ⟨v, he, rfl, hb ▸ hS⟩
theorem QC_drew (h : ∀ w, St F w0 rs w → Calls P g args w fun e w' => e = .returned v ∧ ∃ k, w' = w.drewN k) : ∀ w, St F w0 rs w → CallsR P g args w fun v' w' => v' = v ∧ St F w0 rs w' :=
  fun w hS => Calls.mono (h w hS) fun _ _ ⟨he, k, hb⟩ => ⟨v, he, rfl, hb ▸ hS.call (Fr.drewN w k)⟩
theorem QC (h : ∀ w, St F w0 rs w → CallsR P g args w fun v' w' => v' = v ∧ Fr Nof w w') : ∀ w, St F w0 rs w → CallsR P g args w fun v' w' => v' = v ∧ St F w0 rs w' :=
  fun w hS => (h w hS).mono fun _ _ ⟨he, hb⟩ => ⟨he, hS.call hb⟩
end

/-! loops -/
/-- the frame at the head of a loop: slots that the loop writes (true) are given by y -/
def mask (y : Nat → Value) : Nat → List Bool → List Value → List Value
  | i, true :: bs, _ :: l => y i :: mask y (i + 1) bs l
  | i, false :: bs, v :: l => v :: mask y (i + 1) bs l
  | _, _, l => l
def ov (vs : List (Nat × Value)) (y : Nat → Value) (i : Nat) : Value := match vs with
  | [] => y i
  | (j, v) :: vs => if i = j then v else ov vs y i
/-- what a round hands on -/
def Again {α : Type} (bs : List Bool) (vals : α → List (Nat × Value)) (I : α → World → Prop) (μ : α → Nat) (l : List Value) (ds : List Deferred) (s : α) (a' : Act) (w' : World) : Prop :=
  ∃ s' y', a' = ⟨(Fm.base (mask (ov (vals s') y') 0 bs l)).arr, ds⟩ ∧ I s' w' ∧ μ s' < μ s
theorem W_loop {P : Program} {Q : Exit → Act → World → Prop} {l : List Value} {ds : List Deferred} {w : World} {c : Code} {α : Type} (bs : List Bool) (vals : α → List (Nat × Value)) (I : α → World → Prop) (μ : α → Nat)
    (s0 : α) (hl : mask (ov (vals s0) (fun i => (nth l i).getD undef)) 0 bs l = l) (h0 : I s0 w)
    (round : ∀ s y w, I s w → c.wp P (Exit.then (Again bs vals I μ l ds s) Q) ⟨(Fm.base (mask (ov (vals s) y) 0 bs l)).arr, ds⟩ w) :
    (Code.loop c).wp P Q ⟨(Fm.base l).arr, ds⟩ w := by
  refine wp_loop_ghost (fun n a w => ∃ s y, a = ⟨(Fm.base (mask (ov (vals s) y) 0 bs l)).arr, ds⟩ ∧ I s w ∧ μ s = n) (μ s0) ⟨s0, fun i => (nth l i).getD undef, by rw [hl], h0, rfl⟩ ?_
  rintro n a w ⟨s, y, rfl, hI, rfl⟩
  refine wp_mono (round s y w hI) ?_
  intro e a' w' hq
  cases e with
  | normal =>
    obtain ⟨s', y', ha, hI', hlt⟩ := hq
    exact ⟨μ s', hlt, s', y', ha, hI', rfl⟩
  | exit id => exact hq
  | goto l => exact hq
  | ret => exact hq
  | panic ch => exact hq
  | outgrown => exact hq
/-- the end of a round -/
theorem round_end {Q : Exit → Act → World → Prop} {l : List Value} {l' : Fm} {ds : List Deferred} {w' : World} {α : Type} {bs : List Bool} {vals : α → List (Nat × Value)} {I : α → World → Prop} {μ : α → Nat} {s : α} (s' : α)
    (hl : mask (ov (vals s') (fun i => (fnth l' i).getD undef)) 0 bs l = l'.toList) (hI : I s' w') (hμ : μ s' < μ s) :
    Exit.then (Again bs vals I μ l ds s) Q .normal ⟨l'.arr, ds⟩ w' :=
  ⟨s', fun i => (fnth l' i).getD undef, by rw [hl]; rfl, hI, hμ⟩
end Go.Proofs.Ytijmggoikieelaa
/-
  More laws of single operations: structs in memory, slices, append, built values. Nothing here names a function of the program.
-/
namespace Go.Proofs.Ytijmggoikieelaa
open Go.RowKit

def aggT (P : Program) (t : TypeId) (n : Nat) : Bool := (match P.underlying t with | some (.struct _) => true | some (.array _ _) => true | _ => false) && (match P.info? t with | some i => i.size == n | none => false)
def sizeT (P : Program) (t : TypeId) (n : Nat) : Bool := match P.info? t with | some i => i.size == n | none => false
def infoT (P : Program) (t : TypeId) (n : Nat) : Bool := match P.info? t with | some i => i.size == n && decide (i.bytes ≤ 4096) && (match i.zero with | some z => z.cells.size == n | none => false) | none => false
def someT (P : Program) (t : TypeId) : Bool := match P.info? t with | some i => i.size != 0 | none => false
def adr (A : Option Addr) : Addr := A.getD ⟨0, 0, none⟩
def one' (vs : List Value) : Bool := vs.all Value.oneCell'

section
variable {P : Program} {ops : Array Oper} {Q : Exit → Act → World → Prop} {rest : List Oper} {o : Oper} {l : Fm} {ds : List Deferred} {w : World}
variable {F : Nat → Prop} {w0 : World} {rs rs' : List Res} {x y : Operand} {t e : TypeId} {d : Nat}

theorem adr_add (a : Addr) (i j : Nat) : (a.add i).add j = a.add (i + j) := by
  unfold Addr.add
  by_cases hi : i = 0 <;> by_cases hj : j = 0 <;> simp [hi, hj, Nat.add_assoc]
theorem sizeOf_run {n : Nat} (h : sizeT P t n = true) : (sizeOf t).run P w = .ok n w := by
  unfold sizeT at h
  cases hi : P.info? t with
  | none => rw [hi] at h; cases h
  | some i => rw [hi] at h; simp only [beq_iff_eq] at h; simp [sizeOf, typeInfo, go_sem, hi, h]
theorem run_loadAgg {a : Addr} {cs : List Value} (ht : aggT P t cs.length = true) (hc : ∀ j v, cs[j]? = some v → w.cell? (a.add j) = some v) : (Instr.loadAt t (.pointer (some a))).run P w = .ok (.agg cs.toArray) w := by
  unfold aggT at ht
  simp only [Bool.and_eq_true] at ht
  have h1 : (isAgg t).run P w = .ok true w := by
    cases hu : P.underlying t with
    | none => rw [hu] at ht; cases ht.1
    | some d => cases d <;> first | (rw [hu] at ht; cases ht.1; done) | simp [isAgg, underlying, go_sem, hu]
  have h2 : (sizeOf t).run P w = .ok cs.length w := sizeOf_run ht.2
  simp only [Instr.loadAt, Instr.sureAddr, loadVar, Sem.run_bind, Sem.run_pure, Result.andThen_ok, h1, h2, run_loadCells_list w a cs hc, if_true]
theorem cells_at {b : Nat} {c : Array Value} {ty : TypeId} {fz : Nat × Nat} (hS : St F w0 rs w) (hm : Res.obj b (.cells c ty fz) ∈ rs) : ∀ j v, c.toList[j]? = some v → w.cell? ((⟨b, 0, none⟩ : Addr).add j) = some v := by
  intro j v hv
  have hadd : (⟨b, 0, none⟩ : Addr).add j = ⟨b, j, none⟩ := by unfold Addr.add; split <;> simp_all
  rw [hadd]
  exact hS.cell hm (by rw [nth_eq]; exact hv)
theorem x_loadBox {b : Nat} {c : List Value} {ty : TypeId} {fz : Nat × Nat} (hS : St F w0 rs w) (ho : o.op = .load t x) (hx : lk l x = some (.pointer (some ⟨b, 0, none⟩)))
    (hm : Res.obj b (.cells c.toArray ty fz) ∈ rs) (ht : aggT P t c.length = true) : Ex P l ds o w (.agg c.toArray) := by
  unfold Ex execOp; rw [ho]; simp only [lk_eval hx]
  exact run_v (run_loadAgg ht (cells_at hS hm))
theorem heap_setRow_other {g i : Nat} {c : Array Value} (h : i ≠ g) : (w.setRow g c).heap[i]? = w.heap[i]? := by
  simp only [World.setRow, Array.getElem?_modify]
  rw [if_neg (by omega)]
theorem S_storeBox {b : Nat} {c c' : List Value} {ty : TypeId} (hS : St F w0 rs w) (hd : o.dst = none) (ho : o.op = .store t x y)
    (hx : lk l x = some (.pointer (some ⟨b, 0, none⟩))) (hy : lk l y = some (.agg c'.toArray)) (h1 : one' c' = true)
    (hu : Upd (Res.obj b (.cells c.toArray ty (0, 0))) (Res.obj b (.cells c'.toArray ty (0, 0))) rs rs') (hl : c'.length = c.length) (ht : sizeT P t c'.length = true)
    (k : ∀ w', St F w0 rs' w' → WL P ops Q rest l ds w') : SStep P ops Q rest o l ds w := by
  have hh : w.heap[b]? = some (.cells c.toArray ty (0, 0)) := hS.get hu.mem
  have hst := run_storeCells_from (P := P) b ty c' 0 c.toArray w hh (by simp [hl]) (by simpa [one'] using h1)
  simp only [List.take_zero, List.nil_append] at hst
  refine S_sk hd (w' := w.setRow b c'.toArray) ?_ (k _ ?_)
  · unfold execOp; rw [ho]; simp only [lk_eval hx, lk_eval hy]
    refine run_u ?_
    simp only [Instr.storeAt, Instr.sureAddr, storeVar, Sem.run_bind, Sem.run_pure, Result.andThen_ok, sizeOf_run ht, Value.cells, List.size_toArray, ne_eq, not_true, if_false]
    exact hst
  · refine hS.upd hu rfl ⟨rfl, rfl, rfl, by simp [World.setRow], fun i hi hne => heap_setRow_other fun h => hne (by rw [h]; rfl)⟩ ?_ fun _ h => .inl h
    exact setRow_heap w b c.toArray c'.toArray ty (0, 0) hh

/-! fields and elements -/
theorem x_fieldAddr {fs : Array Field} {f : Field} {i b off : Nat} (ho : o.op = .fieldAddr t x i) (ht : P.underlying t = some (.struct fs)) (hf : fs.toList[i]? = some f) (hn : someT P f.type = true)
    (hx : lk l x = some (.pointer (some ⟨b, off, none⟩))) : Ex P l ds o w (.pointer (some ⟨b, off + f.offset, none⟩)) := by
  unfold Ex execOp; rw [ho]; simp only [lk_eval hx]
  have h2 : fs[i]? = some f := by simpa using hf
  have hadd : (⟨b, off, none⟩ : Addr).add f.offset = ⟨b, off + f.offset, none⟩ := by unfold Addr.add; split <;> simp_all
  refine run_v ?_
  unfold someT at hn
  cases hi : P.info? f.type with
  | none => rw [hi] at hn; cases hn
  | some j =>
    simp only [hi, bne_iff_ne] at hn
    have hs : (sizeOf f.type).run P w = .ok j.size w := by simp [sizeOf, typeInfo, go_sem, hi]
    simp [Instr.fieldAt, fieldPlace, underlying, go_sem, ht, h2, Instr.sureAddr, hs, hn, hadd]
theorem St.rdAt {size n : Nat} {A : Option Addr} {xs : List Value} (hS : St F w0 rs w) (hm : Res.rd size A n xs ∈ rs) : Rd w size A n xs := hS.get hm
theorem St.rowAt {size n c : Nat} {A : Option Addr} {xs : List Value} (hS : St F w0 rs w) (hm : Res.row e size (.slice A n c) n xs ∈ rs) : Rd w size A n xs := ownsRow_rd (hS.get hm)
theorem Rd.form {size n : Nat} {A : Option Addr} {xs : List Value} (h : Rd w size A n xs) (hn : 0 < n) : A = some (adr A) := by
  obtain ⟨ad, rfl, _⟩ := h.2 hn; rfl
theorem x_idx1 {n c : Nat} {A : Option Addr} {xs : List Value} {k : IntKind} {i : Int} (ho : o.op = .indexAddr t x y) (hx : lk l x = some (.slice A n c)) (hy : lk l y = some (.int k i)) (ht : P.underlying t = some (.slice e)) (he : sizeT P e 1 = true)
    (hR : Rd w 1 A n xs) (hi : 0 ≤ i ∧ i < (n : Int)) : Ex P l ds o w (.pointer (some ((adr A).add i.toNat))) := by
  unfold Ex execOp; rw [ho]; simp only [lk_eval hx, lk_eval hy]
  have hA := hR.form (by omega)
  rw [hA]
  refine run_v ?_
  simp [Instr.indexAt, asIntOf, underlying, go_sem, ht, hi, sizeOf_run he, adr]
theorem x_idx {n c size : Nat} {A : Option Addr} {xs : List Value} {k : IntKind} {i : Int} (ho : o.op = .indexAddr t x y) (hx : lk l x = some (.slice A n c)) (hy : lk l y = some (.int k i)) (ht : P.underlying t = some (.slice e)) 
    (hR : Rd w size A n xs) (he : sizeT P e size = true) (hi : 0 ≤ i ∧ i < (n : Int)) : Ex P l ds o w (.pointer (some ((adr A).add (i.toNat * size)))) := by
  unfold Ex execOp; rw [ho]; simp only [lk_eval hx, lk_eval hy]
  have hA := hR.form (by omega)
  rw [hA]
  refine run_v ?_
  simp [Instr.indexAt, asIntOf, underlying, go_sem, ht, hi, sizeOf_run he, adr]
theorem Rd.cellAt {size n j : Nat} {A : Option Addr} {xs : List Value} {v : Value} (h : Rd w size A n xs) (hv : xs[j]? = some v) : w.cell? ((adr A).add j) = some v := by
  have hl : j < xs.length := (List.getElem?_eq_some_iff.1 hv).1
  have hn : 0 < n := by
    rcases Nat.eq_zero_or_pos n with h0 | h0
    · have := h.1; rw [h0] at this; simp at this; rw [this] at hl; simp at hl
    · exact h0
  obtain ⟨ad, rfl, _, hc⟩ := h.2 hn
  exact hc j v hv
theorem x_loadEl {size n j : Nat} {A : Option Addr} {xs : List Value} {v : Value} (ho : o.op = .load t x) (hx : lk l x = some (.pointer (some ((adr A).add j)))) (ht : flatT P t = true) (hR : Rd w size A n xs) (hv : xs[j]? = some v) : Ex P l ds o w v :=
  x_load_at ho hx ht (hR.cellAt hv)
theorem x_loadElAgg {size n j : Nat} {A : Option Addr} {xs cs : List Value} (ho : o.op = .load t x) (hx : lk l x = some (.pointer (some ((adr A).add j)))) (hR : Rd w size A n xs) (hv : (xs.drop j).take cs.length = cs) (ht : aggT P t cs.length = true) : Ex P l ds o w (.agg cs.toArray) := by
  unfold Ex execOp; rw [ho]; simp only [lk_eval hx]
  refine run_v (run_loadAgg ht fun i v hi => ?_)
  rw [adr_add]
  refine hR.cellAt ?_
  rw [← hv] at hi
  have hlt : i < cs.length := by
    have := (List.getElem?_eq_some_iff.1 hi).1
    simp at this; omega
  rw [List.getElem?_take_of_lt hlt, List.getElem?_drop] at hi
  exact hi

/-! append onto a row of one's own -/
theorem S_append {ar : Array Operand} {ts : Array TypeId} {size n m c b : Nat} {v : Value} {xs news : List Value} {ty : TypeId} {fz : Nat × Nat} {rs' : Value → List Res} (hS : St F w0 rs w) (hd : o.dst = some d)
    (ho : o.op = .call { callee := .builtin .append, args := ar, argTypes := ts }) (har : ar.toList = [x, y]) (hts : ts.toList = [t, t]) (ht : P.underlying t = some (.slice e))
    (hx : lk l x = some v) (hy : lk l y = some (.slice (some ⟨b, 0, none⟩) m c)) (hm : Res.obj b (.cells news.toArray ty fz) ∈ rs)
    (hu : ∀ v', Upd (Res.row e size v n xs) (Res.row e size v' (n + m) (xs ++ news)) rs (rs' v')) (hi : infoT P e size = true) (hl : news.length = m * size) (h1 : one' news = true) 
    (hpos : 0 < m ∧ 0 < size) (hn : n + m ≤ 4294967296)
    (k : ∀ g cap w', St F w0 (rs' (.slice (some ⟨g, 0, none⟩) (n + m) cap)) w' → WL P ops Q rest (l.upd d (.slice (some ⟨g, 0, none⟩) (n + m) cap)) ds w') : SStep P ops Q rest o l ds w := by
  obtain rfl : ar = #[x, y] := by cases ar; simp_all
  obtain rfl : ts = #[t, t] := by cases ts; simp_all
  unfold infoT at hi
  cases hq : P.info? e with
  | none => rw [hq] at hi; cases hi
  | some i =>
    rw [hq] at hi
    simp only [Bool.and_eq_true, beq_iff_eq, decide_eq_true_eq] at hi
    obtain ⟨⟨hs1, hs2⟩, hs3⟩ := hi
    have hb : (n + m) * i.bytes ≤ 140737488355328 := Nat.le_trans (Nat.mul_le_mul hn hs2) (by omega)
    cases hz : i.zero with
    | none => rw [hz] at hs3; cases hs3
    | some z =>
      rw [hz] at hs3
      simp only [beq_iff_eq] at hs3
      have hown : w.ownsRow 0 e size v n xs := hS.get (hu v).mem
      obtain ⟨v', w', hr, hown', hgr, _, hblk⟩ := run_append_own_at (P := P) w 0 t o.type e i z size i.bytes ht hq hz hs1 rfl hs3 hpos.2 v n xs hown ⟨b, 0, none⟩ m c news hl (cells_at hS hm) (by simpa [one'] using h1) (by unfold maxLen; omega) hb (Nat.zero_le _)
      obtain ⟨g, cap, rfl, _, _⟩ := hown'.form (by omega)
      have e1 := lk_eval (ds := ds) hx
      have e2 := lk_eval (ds := ds) hy
      refine S_ok hd (w' := w') (v := .slice (some ⟨g, 0, none⟩) (n + m) cap) ?_ (k g cap w' (hS.upd (hu _) rfl ⟨hgr.os, hgr.tape, hgr.output, hgr.size, fun i hi hne => hgr.block i hi fun h => hne h.symm⟩ hown' fun b' hb' => ?_))
      · generalize (Act.mk l.arr ds).eval = ρ at e1 e2 ⊢
        unfold execOp
        simp only [ho, resolve, invoke, builtin, Sem.run_bind, Sem.run_pure, Result.andThen_ok, List.map_toArray, List.map_cons, List.map_nil, e1, e2, hr]
      · cases hb'
        rcases hblk with h | h
        · exact .inl h.symm
        · exact .inr (by cases h; exact Nat.le_refl _)
end
end Go.Proofs.Ytijmggoikieelaa
/-
  The laws at a function's head and end; values that are built; slices of a few elements. Nothing here names a function of the program.
-/
namespace Go.Proofs.Ytijmggoikieelaa
open Go.RowKit

/-! the head -/
theorem enterR {P : Program} {f n : Nat} {fn : Func} {c : Code} {args us : List Value} {w : World} {R : Value → World → Prop} (hf : P.funcs[f]? = some fn) (hb : fn.body = some c) (hn : fn.ntmps = n) (hl : List.replicate (n - args.length) undef = us)
    (h : c.wp P (bodyPost P fn fun e w' => ∃ v, e = .returned v ∧ R v w') ⟨(Fm.base (args ++ us)).arr, []⟩ w) : CallsR P f args.toArray w R := by
  refine calls_of_wp hf hb ?_
  have : args.toArray ++ Array.replicate (fn.ntmps - args.toArray.size) undef = (Fm.base (args ++ us)).arr := by
    rw [← hl, hn]; simp [Fm.arr, Fm.toList]
  rw [this]
  exact h
theorem Calls.toR {P : Program} {f : FuncId} {args : Array Value} {w : World} {v : Value} {Φ : World → Prop} (h : Calls P f args w fun e w' => e = .returned v ∧ Φ w') : CallsR P f args w fun v' w' => v' = v ∧ Φ w' :=
  Calls.mono h fun _ _ ⟨he, hp⟩ => ⟨v, he, rfl, hp⟩
theorem CallsR.plain {P : Program} {f : FuncId} {args : Array Value} {w : World} {v : Value} {Φ : World → Prop} (h : CallsR P f args w fun v' w' => v' = v ∧ Φ w') : Calls P f args w fun e w' => e = .returned v ∧ Φ w' :=
  Calls.mono h fun _ _ ⟨_, he, hv, hp⟩ => ⟨by rw [he, hv], hp⟩

/-! the end -/
def resSem (l : Fm) : ResultVar → Sem Value
  | .tmp t => pure (l.arr.getD t undef)
  | .cell a t => do loadVar t (← asAddr (l.arr.getD a undef))
def Rv (P : Program) (l : Fm) (w : World) (r : ResultVar) (v : Value) : Prop := (resSem l r).run P w = .ok v w
section
variable {P : Program} {l : Fm} {w w0 : World} {F : Nat → Prop} {rs : List Res} {fn : Func} {R : Value → World → Prop}
theorem nth_getD {t : Nat} {v : Value} (h : fnth l t = some v) : l.arr.getD t undef = v := by
  rw [fnth_eq] at h
  rw [Fm.arr, Array.getD_eq_getD_getElem?, List.getElem?_toArray, h]; rfl
theorem Rv.tmp {t : Nat} {v : Value} (h : fnth l t = some v) : Rv P l w (.tmp t) v := by
  unfold Rv resSem; simp only [nth_getD h]; rfl
theorem Rv.box {a b : Nat} {t ty : TypeId} {fz : Nat × Nat} {c : List Value} (hS : St F w0 rs w) (h : fnth l a = some (.pointer (some ⟨b, 0, none⟩))) (hm : Res.obj b (.cells c.toArray ty fz) ∈ rs) (ht : aggT P t c.length = true) : Rv P l w (.cell a t) (.agg c.toArray) := by
  have := run_loadAgg (P := P) (w := w) (a := ⟨b, 0, none⟩) ht (cells_at hS hm)
  unfold Rv resSem; simp only [nth_getD h]
  simpa [Instr.loadAt, Instr.sureAddr, asAddr, go_sem] using this
theorem Rv.one {a b : Nat} {t ty : TypeId} {fz : Nat × Nat} {v : Value} (hS : St F w0 rs w) (h : fnth l a = some (.pointer (some ⟨b, 0, none⟩))) (hm : Res.obj b (.cells #[v] ty fz) ∈ rs) (ht : flatT P t = true) : Rv P l w (.cell a t) v := by
  have := run_load (P := P) (w := w) (a := ⟨b, 0, none⟩) ht (hS.cell hm rfl)
  unfold Rv resSem; simp only [nth_getD h]
  simpa [Instr.loadAt, Instr.sureAddr, asAddr, go_sem] using this
theorem results_eq (fn : Func) : results fn l.arr = (fn.results.mapM (resSem l) >>= fun vs => pure (if h : vs.size = 1 then vs[0] else .tuple vs)) := by
  unfold results
  congr 1
theorem W_ret0 (hr : fn.results = #[]) (h : R (.tuple #[]) w) : bodyPost P fn (fun e w' => ∃ v, e = .returned v ∧ R v w') .ret ⟨l.arr, []⟩ w :=
  bodyPost_ret (by rw [results_eq, hr]; simp [go_sem]) rfl ⟨_, rfl, h⟩
theorem W_end0 (hr : fn.results = #[]) (h : R (.tuple #[]) w) : bodyPost P fn (fun e w' => ∃ v, e = .returned v ∧ R v w') .normal ⟨l.arr, []⟩ w :=
  bodyPost_end (by rw [results_eq, hr]; simp [go_sem]) rfl ⟨_, rfl, h⟩
theorem W_ret1 {r1 : ResultVar} {v1 : Value} (hr : fn.results = #[r1]) (h1 : Rv P l w r1 v1) (h : R v1 w) : bodyPost P fn (fun e w' => ∃ v, e = .returned v ∧ R v w') .ret ⟨l.arr, []⟩ w :=
  bodyPost_ret (v := v1) (by unfold Rv at h1; rw [results_eq, hr]; simp [h1, go_sem]) rfl ⟨_, rfl, h⟩
theorem W_ret2 {r1 r2 : ResultVar} {v1 v2 : Value} (hr : fn.results = #[r1, r2]) (h1 : Rv P l w r1 v1) (h2 : Rv P l w r2 v2) (h : R (.tuple #[v1, v2]) w) : bodyPost P fn (fun e w' => ∃ v, e = .returned v ∧ R v w') .ret ⟨l.arr, []⟩ w :=
  bodyPost_ret (v := .tuple #[v1, v2]) (by unfold Rv at h1 h2; rw [results_eq, hr]; simp [h1, h2, go_sem]) rfl ⟨_, rfl, h⟩
theorem W_ret3 {r1 r2 r3 : ResultVar} {v1 v2 v3 : Value} (hr : fn.results = #[r1, r2, r3]) (h1 : Rv P l w r1 v1) (h2 : Rv P l w r2 v2) (h3 : Rv P l w r3 v3) (h : R (.tuple #[v1, v2, v3]) w) : bodyPost P fn (fun e w' => ∃ v, e = .returned v ∧ R v w') .ret ⟨l.arr, []⟩ w :=
  bodyPost_ret (v := .tuple #[v1, v2, v3]) (by unfold Rv at h1 h2 h3; rw [results_eq, hr]; simp [h1, h2, h3, go_sem]) rfl ⟨_, rfl, h⟩
end

/-! values that are built -/
/-- every field is one cell, in its own place -/
def plainStruct (P : Program) (fs : List Field) : Bool := fs.zipIdx.all fun p => p.1.offset == p.2 && sizeT P p.1.type 1
def bld (zero : List Value) : List (Nat × Value) → List Value
  | [] => zero
  | (i, v) :: ps => bld (zero.set i v) ps
def lkp (l : Fm) : List (Nat × Operand) → List (Nat × Value)
  | [] => []
  | (i, x) :: xs => (i, (lk l x).getD undef) :: lkp l xs
def zeroT (P : Program) (t : TypeId) : Option (Array Value) := match P.info? t with | some i => (match i.zero with | some (.agg c) => some c | _ => none) | none => none
section
variable {P : Program} {o : Oper} {l : Fm} {ds : List Deferred} {w : World} {t : TypeId}
theorem lk_getD {x : Operand} : (Act.mk l.arr ds).eval x = (lk l x).getD undef := by
  cases hx : lk l x with
  | some v => exact lk_eval hx
  | none =>
    cases x with
    | tmp t =>
      simp only [lk, fnth_eq] at hx
      simp only [Act.eval, Fm.arr]
      rw [Array.getD_eq_getD_getElem?, List.getElem?_toArray, hx]
    | _ => cases hx
theorem lkp_eval {parts : Array (Nat × Operand)} : (parts.map fun (i, x) => (i, (Act.mk l.arr ds).eval x)) = (lkp l parts.toList).toArray := by
  cases parts with
  | mk ps =>
    apply Array.ext'
    simp only [Array.toList_map]
    induction ps with
    | nil => simp [lkp]
    | cons p ps ih =>
      simp only [List.map_cons, lkp, lk_getD] at ih ⊢
      rw [ih]
theorem oneCell_cells {v : Value} (h : v.oneCell' = true) : v.cells = #[v] := by cases v <;> first | rfl | (cases h)
theorem fill_bld {place : Nat → Option (Nat × Nat)} : ∀ (ps : List (Nat × Value)) (zero : List Value), (∀ p ∈ ps, place p.1 = some (p.1, 1) ∧ p.1 < zero.length ∧ p.2.oneCell' = true) → Instr.fill place zero.toArray ps = some (bld zero ps).toArray
  | [], zero, _ => rfl
  | (i, v) :: ps, zero, h => by
    have h0 := h (i, v) (List.mem_cons_self ..)
    simp only at h0
    unfold Instr.fill
    simp only [h0.1, oneCell_cells h0.2.2]
    have hlt : ¬ (i + 1 > zero.length) := by have := h0.2.1; omega
    have hz : (#[v] : Array Value).zipIdx = #[(v, 0)] := rfl
    simp only [hz, List.size_toArray, List.length_cons, List.length_nil, Nat.zero_add, ne_eq, not_true, decide_false, Bool.false_or, decide_eq_true_eq, if_neg hlt]
    have hs : Array.foldl (fun cs (x : Value × Nat) => cs.setIfInBounds (i + x.2) x.1) zero.toArray #[(v, 0)] 0 1 = (zero.set i v).toArray := by simp
    rw [hs]
    refine (fill_bld ps (zero.set i v) fun p hp => ?_).trans rfl
    have := h p (List.mem_cons_of_mem _ hp)
    simpa using this
theorem mapM_sizes : ∀ (fs : List Field), (∀ f ∈ fs, sizeT P f.type 1 = true) → (fs.mapM (m := Sem) fun f => do pure (f.offset, ← sizeOf f.type)).run P w = .ok (fs.map fun f => (f.offset, 1)) w
  | [], _ => rfl
  | f :: fs, h => by
    have ih := mapM_sizes fs fun g hg => h g (List.mem_cons_of_mem _ hg)
    simp only [List.mapM_cons, Sem.run_bind, sizeOf_run (h f (List.mem_cons_self ..)), Result.andThen_ok, Sem.run_pure, ih]
    rfl
theorem x_build {fs : Array Field} {zs : List Value} {parts : Array (Nat × Operand)} (ho : o.op = .build t parts) (ht : P.underlying t = some (.struct fs)) (hfs : plainStruct P fs.toList = true) (hz : zeroT P t = some zs.toArray)
    (hp : ((lkp l parts.toList).all fun p => decide (p.1 < zs.length) && decide (p.1 < fs.toList.length) && p.2.oneCell') = true) : Ex P l ds o w (.agg (bld zs (lkp l parts.toList)).toArray) := by
  unfold Ex execOp; rw [ho]
  refine run_v ?_
  rw [lkp_eval]
  unfold zeroT at hz
  cases hi : P.info? t with
  | none => rw [hi] at hz; cases hz
  | some i =>
    simp only [hi] at hz
    cases hzz : i.zero with
    | none => simp only [hzz] at hz; cases hz
    | some z =>
      simp only [hzz] at hz
      cases z with
      | agg c =>
        simp only [Option.some.injEq] at hz
        subst hz
        obtain ⟨c, rfl⟩ : ∃ c : Array Value, c.toList = zs := ⟨zs.toArray, rfl⟩
        simp only [Array.toArray_toList] at hzz ⊢
        unfold plainStruct at hfs
        rw [List.all_eq_true] at hfs
        have hsz : ∀ f ∈ fs.toList, sizeT P f.type 1 = true := fun f hf => by
          obtain ⟨k, hk, rfl⟩ := List.getElem_of_mem hf
          have := hfs (fs.toList[k], k) (by simpa using List.mem_zipIdx_iff_getElem?.2 (by simp [hk]))
          simp only [Bool.and_eq_true] at this
          exact this.2
        have hm : (fs.mapM (m := Sem) fun f => do pure (f.offset, ← sizeOf f.type)).run P w = .ok (fs.toList.map fun f => (f.offset, 1)).toArray w := by
          have h1 := mapM_sizes (P := P) (w := w) fs.toList hsz
          cases fs with
          | mk fl =>
            have h2 : (fl.toArray.mapM (m := Sem) fun f => do pure (f.offset, ← sizeOf f.type)) = ((fl.mapM fun f => do pure (f.offset, ← sizeOf f.type)) >>= fun x => pure x.toArray) := by
              simp
            rw [h2]
            simp only [Sem.run_bind]
            rw [h1]
            rfl
        have hzv : (zeroValue t).run P w = .ok (.agg c) w := by simp [zeroValue, typeInfo, go_sem, hi, hzz]
        have hf := fill_bld (place := fun i => (fs.toList.map fun f => (f.offset, 1)).toArray[i]?) (lkp l parts.toList) c.toList (fun p hp' => by
          have h3 := List.all_eq_true.1 hp p hp'
          simp only [Bool.and_eq_true, decide_eq_true_eq] at h3
          have h4 := hfs (fs.toList[p.1]'h3.1.2, p.1) (List.mem_zipIdx_iff_getElem?.2 (by simp [h3.1.2]))
          simp only [Bool.and_eq_true, beq_iff_eq] at h4
          refine ⟨?_, h3.1.1, h3.2⟩
          have h5 : p.1 < fs.size := by simpa using h3.1.2
          simp [h5]
          simpa using h4.1)
        simp only [Array.toArray_toList] at hf
        simp only [Instr.build, Sem.run_bind, hzv, Result.andThen_ok, run_underlying ht, hm, Value.cells, hf, Sem.run_pure]
      | _ => cases hz
section
variable {fs : Array Field} {zs : List Value} {parts : Array (Nat × Operand)} {x y z : Operand} {i j k : Nat} {u v r : Value}
theorem x_build0 (ho : o.op = .build t parts) (hp : parts.toList = []) (ht : P.underlying t = some (.struct fs)) (hfs : plainStruct P fs.toList = true) (hz : zeroT P t = some zs.toArray) : Ex P l ds o w (.agg zs.toArray) := by
  have := x_build (ds := ds) (l := l) (w := w) ho ht hfs hz (by rw [hp]; rfl)
  rw [hp] at this; exact this
theorem x_build1 (ho : o.op = .build t parts) (hp : parts.toList = [(i, x)]) (ht : P.underlying t = some (.struct fs)) (hfs : plainStruct P fs.toList = true) (hz : zeroT P t = some zs.toArray) (hx : lk l x = some u)
    (hb : (decide (i < zs.length) && decide (i < fs.toList.length) && u.oneCell') = true) : Ex P l ds o w (.agg (zs.set i u).toArray) := by
  have := x_build (ds := ds) (l := l) (w := w) ho ht hfs hz (by rw [hp]; simp only [lkp, hx, Option.getD_some, List.all_cons, List.all_nil, hb, Bool.and_self])
  rw [hp] at this; simpa [lkp, hx, bld] using this
theorem x_build2 (ho : o.op = .build t parts) (hp : parts.toList = [(i, x), (j, y)]) (ht : P.underlying t = some (.struct fs)) (hfs : plainStruct P fs.toList = true) (hz : zeroT P t = some zs.toArray) (hx : lk l x = some u) (hy : lk l y = some v)
    (hb : ((decide (i < zs.length) && decide (i < fs.toList.length) && u.oneCell') && (decide (j < zs.length) && decide (j < fs.toList.length) && v.oneCell')) = true) : Ex P l ds o w (.agg ((zs.set i u).set j v).toArray) := by
  have := x_build (ds := ds) (l := l) (w := w) ho ht hfs hz (by rw [hp]; simp only [lkp, hx, hy, Option.getD_some, List.all_cons, List.all_nil, hb, Bool.and_true])
  rw [hp] at this; simpa [lkp, hx, hy, bld] using this
theorem x_build3 (ho : o.op = .build t parts) (hp : parts.toList = [(i, x), (j, y), (k, z)]) (ht : P.underlying t = some (.struct fs)) (hfs : plainStruct P fs.toList = true) (hz : zeroT P t = some zs.toArray) (hx : lk l x = some u) (hy : lk l y = some v) (hr : lk l z = some r)
    (hb : ((decide (i < zs.length) && decide (i < fs.toList.length) && u.oneCell') && ((decide (j < zs.length) && decide (j < fs.toList.length) && v.oneCell') && (decide (k < zs.length) && decide (k < fs.toList.length) && r.oneCell'))) = true) : Ex P l ds o w (.agg (((zs.set i u).set j v).set k r).toArray) := by
  have := x_build (ds := ds) (l := l) (w := w) ho ht hfs hz (by rw [hp]; simp only [lkp, hx, hy, hr, Option.getD_some, List.all_cons, List.all_nil, hb, Bool.and_true])
  rw [hp] at this; simpa [lkp, hx, hy, hr, bld] using this
end
end
end Go.Proofs.Ytijmggoikieelaa
/-
  Slices of a few elements that the text writes out; strings. Nothing here names a function of the program.
-/
namespace Go.Proofs.Ytijmggoikieelaa
open Go.RowKit

theorem bld_full : ∀ (ps : List (Nat × Value)) (zs : List Value) (k : Nat), ps.map (·.1) = List.range' k ps.length → zs.length = k + ps.length → bld zs ps = zs.take k ++ ps.map (·.2)
  | [], zs, k, _, hz => by simp [bld]; rw [List.take_of_length_le (by simp at hz; omega)]
  | (i, v) :: ps, zs, k, h, hz => by
    simp only [List.map_cons, List.length_cons, List.range'_succ, List.cons.injEq] at h hz
    obtain ⟨rfl, h⟩ := h
    unfold bld
    rw [bld_full ps (zs.set i v) (i + 1) h (by simp; omega)]
    have hlt : i < zs.length := by omega
    rw [List.take_add_one, List.take_set_of_le (Nat.le_refl _), List.getElem?_set_self hlt]
    simp

section
variable {P : Program} {ops : Array Oper} {Q : Exit → Act → World → Prop} {rest : List Oper} {o : Oper} {l : Fm} {ds : List Deferred} {w : World}
variable {F : Nat → Prop} {w0 : World} {rs rs' : List Res} {x y : Operand} {t e : TypeId} {d : Nat}
def zerosT (P : Program) (t : TypeId) (n : Nat) : Bool := match P.info? t with | some i => i.size == n && (match i.zero with | some z => z.cells.size == n | none => false) | none => false
theorem zeros_run {n : Nat} (h : zerosT P e n = true) : ∃ z, (zeroValue e).run P w = .ok z w ∧ z.cells.size = n ∧ (sizeOf e).run P w = .ok n w := by
  unfold zerosT at h
  cases hi : P.info? e with
  | none => rw [hi] at h; cases h
  | some i =>
    simp only [hi, Bool.and_eq_true, beq_iff_eq] at h
    cases hz : i.zero with
    | none => rw [hz] at h; cases h.2
    | some z =>
      simp only [hz, beq_iff_eq] at h
      exact ⟨z, by simp [zeroValue, typeInfo, go_sem, hi, hz], h.2, by simp [sizeOf, typeInfo, go_sem, hi, h.1]⟩
/-- a slice of elements of one cell, written out whole -/
theorem S_slice {n : Nat} {parts : Array (Nat × Operand)} (hS : St F w0 rs w) (hd : o.dst = some d) (ho : o.op = .buildSlice t n parts) (ht : P.underlying t = some (.slice e)) (he : zerosT P e 1 = true)
    (hp : parts.toList.map (·.1) = List.range' 0 n) (h1 : one' ((lkp l parts.toList).map (·.2)) = true) (hn : 0 < n ∧ n ≤ 1000)
    (k : ∀ b w', St F w0 (Res.obj b (.cells ((lkp l parts.toList).map (·.2)).toArray e (0, 0)) :: rs) w' → WL P ops Q rest (l.upd d (.slice (some ⟨b, 0, none⟩) n n)) ds w') : SStep P ops Q rest o l ds w := by
  refine S_new (f := fun b => .slice (some ⟨b, 0, none⟩) n n) hS hd ?_ k
  unfold execOp; rw [ho]
  refine run_v ?_
  rw [lkp_eval]
  obtain ⟨z, hz1, hz2, hz3⟩ := zeros_run (w := w) he
  have hl1 : ∀ ps : List (Nat × Operand), (lkp l ps).map (·.1) = ps.map (·.1) := fun ps => by
    induction ps with
    | nil => rfl
    | cons p ps ih => simp [lkp, ih]
  have hlen : (lkp l parts.toList).length = n := by
    have h2 := congrArg List.length (hl1 parts.toList)
    rw [hp] at h2
    simpa using h2
  have hidx : (lkp l parts.toList).map (·.1) = List.range' 0 (lkp l parts.toList).length := by rw [hl1, hp, hlen]
  have hone : ∀ p ∈ lkp l parts.toList, p.2.oneCell' = true := fun p hp' => List.all_eq_true.1 h1 p.2 (List.mem_map_of_mem hp')
  have hzs : ∀ zs : List Value, zs.length = n → Instr.fill (fun i => some (i * 1, 1)) zs.toArray (lkp l parts.toList) = some ((lkp l parts.toList).map (·.2)).toArray := fun zs hz => by
    rw [fill_bld (place := fun i => some (i * 1, 1)) (lkp l parts.toList) zs fun p hp' => ⟨by simp, ?_, hone p hp'⟩]
    · rw [bld_full _ zs 0 hidx (by omega)]; simp
    · have := List.mem_map_of_mem (f := (·.1)) hp'
      rw [hidx] at this
      simp at this
      omega
  have hbig : ¬ (n * 1 > 2 ^ 24) := by omega
  simp only [Instr.buildSlice, Sem.run_bind, run_underlying ht, Result.andThen_ok, hz3, if_neg hbig, Sem.run_pure]
  have h0 : ¬ (n * 1 = 0) := by omega
  simp only [if_neg h0, Sem.run_bind, hz1, Result.andThen_ok, Sem.run_pure]
  rw [← Array.toArray_toList (xs := (Array.range (n * 1)).map fun i => z.cells[i % z.cells.size]!), hzs _ (by simp)]
  rfl
theorem fold_set : ∀ (c : List Value) (k : Nat) (cs : Array Value), k + c.length = cs.size → (c.zipIdx k).foldl (fun (cs : Array Value) (p : Value × Nat) => cs.setIfInBounds (0 + p.2) p.1) cs = (cs.toList.take k ++ c).toArray
  | [], k, cs, h => by simp at h; simp; rw [List.take_of_length_le (by simp; omega)]
  | v :: c, k, cs, h => by
    simp only [List.zipIdx_cons, List.foldl_cons, Nat.zero_add, List.length_cons] at h ⊢
    have := fold_set c (k + 1) (cs.setIfInBounds k v) (by simp; omega)
    simp only [Nat.zero_add] at this
    rw [this]
    have hlt : k < cs.toList.length := by simp; omega
    simp only [Array.toList_setIfInBounds]
    rw [List.take_add_one, List.take_set_of_le (Nat.le_refl _), List.getElem?_set_self hlt]
    simp
/-- a slice of one struct -/
theorem S_slice1 {c : List Value} {parts : Array (Nat × Operand)} (hS : St F w0 rs w) (hd : o.dst = some d) (ho : o.op = .buildSlice t 1 parts) (hp : parts.toList = [(0, x)]) (ht : P.underlying t = some (.slice e))
    (hx : lk l x = some (.agg c.toArray)) (he : zerosT P e c.length = true) (hn : 0 < c.length ∧ c.length ≤ 1000)
    (k : ∀ b w', St F w0 (Res.obj b (.cells c.toArray e (0, 0)) :: rs) w' → WL P ops Q rest (l.upd d (.slice (some ⟨b, 0, none⟩) 1 1)) ds w') : SStep P ops Q rest o l ds w := by
  refine S_new (f := fun b => .slice (some ⟨b, 0, none⟩) 1 1) hS hd ?_ k
  unfold execOp; rw [ho]
  refine run_v ?_
  rw [lkp_eval, hp]
  obtain ⟨z, hz1, hz2, hz3⟩ := zeros_run (w := w) he
  have hl : lkp l [(0, x)] = [(0, .agg c.toArray)] := by simp [lkp, hx]
  rw [hl]
  have hbig : ¬ (1 * c.length > 2 ^ 24) := by omega
  have h0 : ¬ (1 * c.length = 0) := by omega
  have hf : ∀ zs : Array Value, zs.size = c.length → Instr.fill (fun i => some (i * c.length, c.length)) zs [(0, .agg c.toArray)] = some c.toArray := fun zs hz => by
    unfold Instr.fill
    have h3 : ¬ (0 * c.length + c.toArray.size > zs.size) := by simp; omega
    simp only [Value.cells, List.size_toArray, ne_eq, not_true, decide_false, Bool.false_or, decide_eq_true_eq, Nat.zero_mul, Nat.zero_add]
    rw [if_neg (by simp at h3; omega)]
    unfold Instr.fill
    have h4 := fold_set c 0 zs (by omega)
    simp only [List.take_zero, List.nil_append, Nat.zero_add] at h4
    have h5 : c.toArray.zipIdx = (c.zipIdx 0).toArray := by simp
    rw [h5]
    simp only [List.foldl_toArray]
    simp only [h4]
  simp only [Instr.buildSlice, Sem.run_bind, run_underlying ht, Result.andThen_ok, hz3, if_neg hbig, Sem.run_pure, if_neg h0, hz1]
  rw [hf _ (by simp)]
  rfl
end
end Go.Proofs.Ytijmggoikieelaa
/-
  Regions that draw their order and end in an operation that writes; strings. Nothing here names a function of the program.
-/
namespace Go.Proofs.Ytijmggoikieelaa
open Go.RowKit

section
variable {P : Program} {ops : Array Oper} {Q : Exit → Act → World → Prop} {rest : List Oper} {o : Oper} {l : Fm} {ds : List Deferred} {w : World}
variable {F : Nat → Prop} {w0 : World} {rs rs' : List Res} {x y : Operand} {t t' : TypeId} {d n : Nat}
/-- n operations that leave the world alone, in any order, then the others in theirs -/
structure WT (P : Program) (ops : Array Oper) (Q : Exit → Act → World → Prop) (n : Nat) (rest : List Oper) (l : Fm) (ds : List Deferred) (w : World) : Prop where
  out : wpStill P ops w (fun a' => wpList P ops Q (rest.drop n) a' w) (rest.take n) ⟨l.arr, ds⟩
structure TStep (P : Program) (ops : Array Oper) (Q : Exit → Act → World → Prop) (n : Nat) (rest : List Oper) (o : Oper) (l : Fm) (ds : List Deferred) (w : World) : Prop where
  run : wantF ops l o = true → WT P ops Q (n + 1) (o :: rest) l ds w
structure TNay (P : Program) (ops : Array Oper) (Q : Exit → Act → World → Prop) (n : Nat) (rest : List Oper) (o : Oper) (l : Fm) (ds : List Deferred) (w : World) : Prop where
  run : wantF ops l o = false → WT P ops Q (n + 1) (o :: rest) l ds w
theorem T_yes (hw : wantF ops l o = true) (h : TStep P ops Q n rest o l ds w) : WT P ops Q (n + 1) (o :: rest) l ds w := h.run hw
theorem T_nay (hw : wantF ops l o = false) (h : TNay P ops Q n rest o l ds w) : WT P ops Q (n + 1) (o :: rest) l ds w := h.run hw
theorem T_nil (h : WL P ops Q rest l ds w) : WT P ops Q 0 rest l ds w := ⟨h.out⟩
theorem T_ex {v : Value} (hd : o.dst = some d) (he : Ex P l ds o w v) (k : WT P ops Q n rest (l.upd d v) ds w) : TStep P ops Q n rest o l ds w := ⟨fun hw => ⟨by
  show wpStill P ops w _ (o :: rest.take n) _
  unfold wpStill
  rw [if_pos (wantF_eq.trans hw)]
  unfold Oper.still
  rw [he, Oper.stillUpon_value, hd, put_mk]
  exact k.out⟩⟩
theorem T_bin {op : BinOp} {k : IntKind} {m i : Int} (hd : o.dst = some d) (ho : o.op = .binOp op t x y t') (hx : lk l x = some (.int k m)) (hy : lk l y = some (.int k i)) (h : ∃ v, BinS P op k m i v ∧ WT P ops Q n rest (l.upd d v) ds w) : TStep P ops Q n rest o l ds w := by
  obtain ⟨v, hv, k⟩ := h
  exact T_ex hd (x_bins ho hx hy hv) k
theorem T_no (hd : o.dst = some d) (k : WT P ops Q n rest (l.upd d undef) ds w) : TNay P ops Q n rest o l ds w := ⟨fun hw => ⟨by
  show wpStill P ops w _ (o :: rest.take n) _
  unfold wpStill
  rw [if_neg (by rw [wantF_eq, hw]; exact Bool.false_ne_true), hd, put_mk]
  exact k.out⟩⟩
theorem W_tail {id : Nat} {l' : List Oper} (n : Nat) (hS : St F w0 rs w) (hm : P.follows .mixedOrders = true) (hB : Region.lexTailB .any l'.toArray n = true)
    (k : ∀ w, St F w0 rs w → WT P l'.toArray Q n l' l ds w) : (Code.region id l'.toArray true).wp P Q ⟨l.arr, ds⟩ w :=
  wp_region_still_tail n hm hB (k _ (hS.call (Fr.of ((Below.refl _ _).drew)))).out

/-! strings -/
theorem x_idxStr {L : List UInt8} {k : IntKind} {i : Int} {b : UInt8} (ho : o.op = .index t x y) (ht : P.underlying t = some .string) (hx : lk l x = some (.string ⟨L.toArray⟩)) (hy : lk l y = some (.int k i)) (hi : 0 ≤ i) (hb : L[i.toNat]? = some b) : Ex P l ds o w (.int .u8 (b.toNat : Int)) := by
  unfold Ex execOp; rw [ho]; simp only [lk_eval hx, lk_eval hy]
  refine run_v ?_
  have h1 : (⟨L.toArray⟩ : ByteArray)[i.toNat]? = some b := by
    have hlt := (List.getElem?_eq_some_iff.1 hb).1
    have hlt' : i.toNat < (⟨L.toArray⟩ : ByteArray).size := by simpa [ByteArray.size] using hlt
    rw [getElem?_pos (⟨L.toArray⟩ : ByteArray) i.toNat hlt']
    have := (List.getElem?_eq_some_iff.1 hb).2
    rw [← this]; rfl
  simp only [Instr.index, asIntOf, Sem.run_bind, Sem.run_pure, Result.andThen_ok, run_underlying ht, if_pos hi, h1]
theorem ba_toList (L : List UInt8) : (⟨L.toArray⟩ : ByteArray).toList = L := by rw [ByteArray.toList_eq]
theorem x_str {op : BinOp} {a b : ByteArray} {v : Value} (ho : o.op = .binOp op t x y t') (hx : lk l x = some (.string a)) (hy : lk l y = some (.string b)) (hv : (Op.stringOp op a b).run P w = .ok v w) : Ex P l ds o w v := by
  refine x_bin ho hx hy ?_ ?_
  · cases op <;> rfl
  · cases op <;> exact hv
theorem x_eqS_t {a b : List UInt8} (ho : o.op = .binOp .eql t x y t') (hx : lk l x = some (.string ⟨a.toArray⟩)) (hy : lk l y = some (.string ⟨b.toArray⟩)) (h : a = b) : Ex P l ds o w (.bool true) :=
  x_str ho hx hy (by simp [Op.stringOp, ba_toList, h, go_sem])
theorem x_eqS_f {a b : List UInt8} (ho : o.op = .binOp .eql t x y t') (hx : lk l x = some (.string ⟨a.toArray⟩)) (hy : lk l y = some (.string ⟨b.toArray⟩)) (h : a ≠ b) : Ex P l ds o w (.bool false) :=
  x_str ho hx hy (by simp [Op.stringOp, ba_toList, h, go_sem])
theorem x_neS_t {a b : List UInt8} (ho : o.op = .binOp .neq t x y t') (hx : lk l x = some (.string ⟨a.toArray⟩)) (hy : lk l y = some (.string ⟨b.toArray⟩)) (h : a ≠ b) : Ex P l ds o w (.bool true) :=
  x_str ho hx hy (by simp [Op.stringOp, ba_toList, h, go_sem])
theorem x_neS_f {a b : List UInt8} (ho : o.op = .binOp .neq t x y t') (hx : lk l x = some (.string ⟨a.toArray⟩)) (hy : lk l y = some (.string ⟨b.toArray⟩)) (h : a = b) : Ex P l ds o w (.bool false) :=
  x_str ho hx hy (by simp [Op.stringOp, ba_toList, h, go_sem])
theorem x_cat {a b : List UInt8} (ho : o.op = .binOp .add t x y t') (hx : lk l x = some (.string ⟨a.toArray⟩)) (hy : lk l y = some (.string ⟨b.toArray⟩)) (h : a.length + b.length ≤ 9223372036854775807) : Ex P l ds o w (.string ⟨(a ++ b).toArray⟩) :=
  x_str ho hx hy (by
    have h1 : ¬ (((a.length + b.length : Nat) : Int) > IntKind.i64.max) := by
      have : IntKind.i64.max = 9223372036854775807 := by rfl
      omega
    have h2 : (⟨a.toArray⟩ : ByteArray) ++ ⟨b.toArray⟩ = ⟨(a ++ b).toArray⟩ := by
      apply ByteArray.ext; simp
    simp only [Op.stringOp, ByteArray.size, List.size_toArray, if_neg h1, h2]
    rfl)
theorem x_lenS {L : List UInt8} {ar : Array Operand} {ts : Array TypeId} (ho : o.op = .call { callee := .builtin .len, args := ar, argTypes := ts }) (ha : ar.toList = [x]) (hts : ts.toList = [t])
    (ht : P.underlying t = some .string) (hx : lk l x = some (.string ⟨L.toArray⟩)) : Ex P l ds o w (.int .i64 L.length) := x_lenStr ho ha hts ht hx (by simp [ByteArray.size])
/-- bools against each other -/
theorem run_eqB {a b : Bool} (ht : P.underlying t = some .bool) : (Op.equal t (.bool a) (.bool b)).run P w = .ok (a == b) w := by
  show (Op.equalIn (9999 + 1) t (.bool a) (.bool b)).run P w = _
  unfold Op.equalIn
  simp only [Sem.run_bind, run_underlying ht, Result.andThen_ok, Sem.run_pure]
theorem x_eqB {a b : Bool} (ho : o.op = .binOp .eql t x y t') (ht : P.underlying t = some .bool) (hx : lk l x = some (.bool a)) (hy : lk l y = some (.bool b)) : Ex P l ds o w (.bool (a == b)) :=
  x_bin ho hx hy rfl (by
    show ((Op.equal t (.bool a) (.bool b)) >>= fun x => (pure (Value.bool x) : Sem Value)).run P w = _
    rw [Sem.run_bind, run_eqB ht]; rfl)
theorem x_neB {a b : Bool} (ho : o.op = .binOp .neq t x y t') (ht : P.underlying t = some .bool) (hx : lk l x = some (.bool a)) (hy : lk l y = some (.bool b)) : Ex P l ds o w (.bool (!(a == b))) :=
  x_bin ho hx hy rfl (by
    show ((Op.equal t (.bool a) (.bool b)) >>= fun x => (pure (Value.bool (!x)) : Sem Value)).run P w = _
    rw [Sem.run_bind, run_eqB ht]; rfl)
theorem x_eqB_t {a b : Bool} (ho : o.op = .binOp .eql t x y t') (ht : P.underlying t = some .bool) (hx : lk l x = some (.bool a)) (hy : lk l y = some (.bool b)) (h : a = b) : Ex P l ds o w (.bool true) := by
  have := x_eqB (ds := ds) (w := w) ho ht hx hy; rwa [h, beq_self_eq_true] at this
theorem x_neB_f {a b : Bool} (ho : o.op = .binOp .neq t x y t') (ht : P.underlying t = some .bool) (hx : lk l x = some (.bool a)) (hy : lk l y = some (.bool b)) (h : a = b) : Ex P l ds o w (.bool false) := by
  have := x_neB (ds := ds) (w := w) ho ht hx hy; rwa [h, beq_self_eq_true] at this
theorem St.freshRow {e : TypeId} {size n : Nat} {v : Value} {xs : List Value} {w' : World} (h : St F w0 rs w) (hb : Below w.heap.size w w') (hown : w'.ownsRow w.heap.size e size v n xs) : St F w0 (Res.row e size v n xs :: rs) w' :=
  h.fresh (Fr.of hb) (ownsRow_base hown (Nat.zero_le _)) fun b hb' => (hown.lt b hb').1
theorem St.rowOwn {e : TypeId} {size n : Nat} {v : Value} {xs : List Value} (h : St Nof w0 rs w) (hm : Res.row e size v n xs ∈ rs) : w.ownsRow w0.heap.size e size v n xs := by
  have h1 : w.ownsRow 0 e size v n xs := h.get hm
  refine ⟨h1.1, ?_⟩
  rcases h1.2 with h2 | ⟨g, cap, cur, hv, _, r⟩
  · exact .inl h2
  · refine .inr ⟨g, cap, cur, hv, ?_, r⟩
    rcases h.own _ hm rfl g (by subst hv; rfl) with h3 | h3
    · exact h3.elim
    · exact h3
end
end Go.Proofs.Ytijmggoikieelaa
/-
  A slice of one's own whose elements are overwritten. Nothing here names a function of the program.
-/
namespace Go.Proofs.Ytijmggoikieelaa
open Go.RowKit
/-- a slice of one's own, whatever it holds -/
def Res.wrow (e : TypeId) (size : Nat) (v : Value) (n : Nat) : Res where
  fp := v.ownBlock
  ro := false
  holds w := ∃ xs, w.ownsRow 0 e size v n xs
  loc := fun ⟨xs, h⟩ hk => ⟨xs, (Res.row e size v n xs).loc h hk⟩
  lt := fun ⟨xs, h⟩ b hb => (h.lt b hb).2
section
variable {P : Program} {ops : Array Oper} {Q : Exit → Act → World → Prop} {rest : List Oper} {o : Oper} {l : Fm} {ds : List Deferred} {w : World}
variable {F : Nat → Prop} {w0 : World} {rs rs' : List Res} {x y : Operand} {t e e' : TypeId} {size n c : Nat} {A : Option Addr}
theorem Upd.same {r : Res} (h : r ∈ rs) : Upd r r rs rs := by
  induction rs with
  | nil => cases h
  | cons s rs ih =>
    cases h with
    | head => exact .here
    | tail _ h => exact .there (ih h)
theorem St.wrow {v : Value} {xs : List Value} (h : St F w0 rs w) (hu : Upd (Res.row e size v n xs) (Res.wrow e size v n) rs rs') : St F w0 rs' w :=
  h.upd hu rfl (Fr.refl _ _) ⟨xs, h.get hu.mem⟩ fun _ hb => .inl hb
theorem x_idxW {k : IntKind} {i : Int} (hS : St F w0 rs w) (ho : o.op = .indexAddr t x y) (hx : lk l x = some (.slice A n c)) (hy : lk l y = some (.int k i)) (ht : P.underlying t = some (.slice e))
    (hm : Res.wrow e' size (.slice A n c) n ∈ rs) (he : sizeT P e size = true) (hi : 0 ≤ i ∧ i < (n : Int)) : Ex P l ds o w (.pointer (some ((adr A).add (i.toNat * size)))) := by
  obtain ⟨xs, hown⟩ := hS.get hm
  exact x_idx ho hx hy ht (ownsRow_rd hown) he hi
theorem S_storeW {i : Nat} {cs : List Value} (hS : St F w0 rs w) (hd : o.dst = none) (ho : o.op = .store t x y) (hx : lk l x = some (.pointer (some ((adr A).add (i * size))))) (hy : lk l y = some (.agg cs.toArray)) (h1 : one' cs = true)
    (hm : Res.wrow e size (.slice A n c) n ∈ rs) (hlen : cs.length = size) (ht : sizeT P t size = true) (hi : i < n) (k : ∀ w', St F w0 rs w' → WL P ops Q rest l ds w') : SStep P ops Q rest o l ds w := by
  obtain ⟨xs, hown⟩ := hS.get hm
  have hown' := hown
  obtain ⟨hxl, h2⟩ := hown
  rcases h2 with ⟨_, rfl⟩ | ⟨g, cap, cur, hv, _, hh, hnc, hcm, hcs, htk⟩
  · omega
  · have hA : A = some ⟨g, 0, none⟩ := by injection hv
    have hcc : c = cap := by injection hv
    subst hA hcc
    have hadr : (adr (some ⟨g, 0, none⟩)).add (i * size) = ⟨g, i * size, none⟩ := by
      show (⟨g, 0, none⟩ : Addr).add (i * size) = _
      unfold Addr.add; split <;> simp_all
    rw [hadr] at hx
    have hfit : i * size + cs.length ≤ cur.size := by
      rw [hcs, hlen, ← Nat.succ_mul]; exact Nat.mul_le_mul_right _ (by omega)
    have hst := run_storeCells_at P g (i * size) e cs 0 cur w hh (by simpa using hfit) (by simpa [one'] using h1)
    simp only [Nat.add_zero] at hst
    refine S_sk hd (w' := w.setRow g (cur.toList.take (i * size) ++ cs ++ cur.toList.drop (i * size + cs.length)).toArray) ?_ (k _ (hS.upd (Upd.same hm) rfl ⟨rfl, rfl, rfl, by simp [World.setRow], fun j hj hne => heap_setRow_other fun h => hne (by rw [h]; rfl)⟩ ?_ fun _ h => .inl h))
    · unfold execOp; rw [ho]; simp only [lk_eval hx, lk_eval hy]
      refine run_u ?_
      simp only [Instr.storeAt, Instr.sureAddr, storeVar, Sem.run_bind, Sem.run_pure, Result.andThen_ok, sizeOf_run ht, Value.cells, List.size_toArray, hlen, ne_eq, not_true, if_false]
      rw [hlen] at hst
      exact hst
    · refine ⟨(cur.toList.take (i * size) ++ cs ++ cur.toList.drop (i * size + cs.length)).take (n * size), ?_, .inr ⟨g, c, _, rfl, Nat.zero_le _, setRow_heap w g cur _ e _ hh, hnc, hcm, ?_, rfl⟩⟩
      · rw [List.length_take]
        simp only [List.length_append, List.length_take, List.length_drop, Array.length_toList]
        have : n * size ≤ c * size := Nat.mul_le_mul_right _ hnc
        omega
      · simp only [List.size_toArray, List.length_append, List.length_take, List.length_drop, Array.length_toList]
        omega
end
end Go.Proofs.Ytijmggoikieelaa
/-
  make of a slice; stores into a slice of one's own whose elements are known; fields of elements. Nothing here names a function of the program.
-/
namespace Go.Proofs.Ytijmggoikieelaa
open Go.RowKit
section
variable {P : Program} {ops : Array Oper} {Q : Exit → Act → World → Prop} {rest : List Oper} {o : Oper} {l : Fm} {ds : List Deferred} {w : World}
variable {F : Nat → Prop} {w0 : World} {rs rs' : List Res} {x y : Operand} {t e e' : TypeId} {size n c d : Nat} {A : Option Addr}
theorem x_fieldAddrEl {fs : Array Field} {f : Field} {i j : Nat} (ho : o.op = .fieldAddr t x i) (ht : P.underlying t = some (.struct fs)) (hf : fs.toList[i]? = some f) (hn : someT P f.type = true)
    (hx : lk l x = some (.pointer (some ((adr A).add j)))) : Ex P l ds o w (.pointer (some ((adr A).add (j + f.offset)))) := by
  unfold Ex execOp; rw [ho]; simp only [lk_eval hx]
  have h2 : fs[i]? = some f := by simpa using hf
  refine run_v ?_
  unfold someT at hn
  cases hi : P.info? f.type with
  | none => rw [hi] at hn; cases hn
  | some k =>
    simp only [hi, bne_iff_ne] at hn
    have hs : (sizeOf f.type).run P w = .ok k.size w := by simp [sizeOf, typeInfo, go_sem, hi]
    simp only [Instr.fieldAt, fieldPlace, Sem.run_bind, run_underlying ht, Result.andThen_ok, h2, Instr.sureAddr, Sem.run_pure, hs, if_neg hn, adr_add]
theorem S_storeRow1 {i : Nat} {v : Value} {xs : List Value} (hS : St F w0 rs w) (hd : o.dst = none) (ho : o.op = .store t x y) (hx : lk l x = some (.pointer (some ((adr A).add i)))) (hy : lk l y = some v) (h1 : v.oneCell' = true)
    (hu : Upd (Res.row e 1 (.slice A n c) n xs) (Res.row e 1 (.slice A n c) n (xs.set i v)) rs rs') (ht : sizeT P t 1 = true) (hi : i < n) (k : ∀ w', St F w0 rs' w' → WL P ops Q rest l ds w') : SStep P ops Q rest o l ds w := by
  have hown : w.ownsRow 0 e 1 (.slice A n c) n xs := hS.get hu.mem
  obtain ⟨hxl, h2⟩ := hown
  rcases h2 with ⟨_, rfl⟩ | ⟨g, cap, cur, hv, _, hh, hnc, hcm, hcs, htk⟩
  · omega
  · have hA : A = some ⟨g, 0, none⟩ := by injection hv
    have hcc : c = cap := by injection hv
    subst hA hcc
    have hadr : (adr (some ⟨g, 0, none⟩)).add i = ⟨g, i, none⟩ := by
      show (⟨g, 0, none⟩ : Addr).add i = _
      unfold Addr.add; split <;> simp_all
    rw [hadr] at hx
    have hfit : i + 1 ≤ cur.size := by omega
    have hst := run_storeCells_at P g i e [v] 0 cur w hh (by simpa using hfit) (by simpa using h1)
    simp only [Nat.add_zero, List.length_cons, List.length_nil, Nat.zero_add] at hst
    have hset : cur.toList.take i ++ [v] ++ cur.toList.drop (i + 1) = cur.toList.set i v := by
      rw [List.set_eq_take_append_cons_drop, if_pos (by simp; omega)]; simp
    rw [hset] at hst
    have hcells : v.cells = #[v] := by cases v <;> first | rfl | (cases h1)
    refine S_sk hd (w' := w.setRow g (cur.toList.set i v).toArray) ?_ (k _ (hS.upd hu rfl ⟨rfl, rfl, rfl, by simp [World.setRow], fun j hj hne => heap_setRow_other fun h => hne (by rw [h]; rfl)⟩ ?_ fun _ h => .inl h))
    · unfold execOp; rw [ho]; simp only [lk_eval hx, lk_eval hy]
      refine run_u ?_
      simp only [Instr.storeAt, Instr.sureAddr, storeVar, Sem.run_bind, Sem.run_pure, Result.andThen_ok, sizeOf_run ht, hcells, List.size_toArray, List.length_cons, List.length_nil, Nat.zero_add, ne_eq, not_true, if_false]
      exact hst
    · refine ⟨by simpa using hxl, .inr ⟨g, c, _, rfl, Nat.zero_le _, setRow_heap w g cur _ e _ hh, hnc, hcm, by simpa using hcs, ?_⟩⟩
      simp only [List.take_set]
      rw [htk]
theorem S_make1 {m : Nat} {i : TypeInfo} {z : Value} (hS : St F w0 rs w) (hd : o.dst = some d) (ho : o.op = .makeSlice t x y) (ht : P.underlying t = some (.slice e)) (hx : lk l x = some (.int .i64 (m : Int))) (hy : lk l y = some (.int .i64 (m : Int)))
    (hi : P.info? e = some i) (hz : i.zero = some z) (h1 : z.oneCell' = true) (hsz : i.size = 1) (hb : i.bytes ≤ 4096) (hm : m ≤ 4294967296)
    (k : ∀ g w', St F w0 (Res.row e 1 (.slice (some ⟨g, 0, none⟩) m m) m (List.replicate m z) :: rs) w' → WL P ops Q rest (l.upd d (.slice (some ⟨g, 0, none⟩) m m)) ds w') : SStep P ops Q rest o l ds w := by
  have hcells : z.cells = #[z] := by cases z <;> first | rfl | (cases h1)
  have hw1 : IntKind.i64.wrap (m : Int) = m := r_i64 (by omega)
  have hprod : i.bytes * m ≤ 17592186044416 := Nat.le_trans (Nat.mul_le_mul hb hm) (by omega)
  have hbig : ¬ ((i.bytes : Int) * (m : Int) > 2 ^ 48) := by
    have : ((i.bytes * m : Nat) : Int) ≤ 17592186044416 := by omega
    rw [Int.natCast_mul] at this
    omega
  have hroom : ¬ (m * i.bytes > roomBytes) := by unfold roomBytes; rw [Nat.mul_comm]; omega
  have hti : (typeInfo e).run P w = .ok i w := by simp [typeInfo, go_sem, hi]
  have hzv : (zeroValue e).run P w = .ok z w := by simp [zeroValue, typeInfo, go_sem, hi, hz]
  have hso : (sizeOf e).run P w = .ok 1 w := by simp [sizeOf, typeInfo, go_sem, hi, hsz]
  have hrep : ((Array.range (m * 1)).map fun j => (#[z] : Array Value)[j % (#[z] : Array Value).size]!) = (List.replicate m z).toArray := by
    apply Array.ext'
    apply List.ext_getElem?
    intro j
    by_cases hj : j < m
    · simp [hj, Nat.mod_one]
    · simp [hj]
  have hrun : (execOp (Act.mk l.arr ds).eval o).run P w = .ok (.value (.slice (some ⟨w.heap.size, 0, none⟩) m m)) (w.alloc (.cells (List.replicate m z).toArray e)) := by
    unfold execOp; rw [ho]; simp only [lk_eval hx, lk_eval hy]
    refine run_v ?_
    have hneg : ¬ ((m : Int) < 0) := by omega
    have hlt : ¬ ((m : Int) > (m : Int)) := by omega
    have hai : (asInt (.int .i64 (m : Int))).run P w = .ok (m : Int) w := rfl
    simp only [Instr.makeSlice, Sem.run_bind, run_underlying ht, Result.andThen_ok, hai, Sem.run_pure, hti, hw1, decide_eq_false hneg, decide_eq_false hbig, decide_eq_false hlt, Bool.or_false, Bool.or_self, Bool.false_eq_true, if_false, Int.toNat_natCast, askRoom, hroom, hso]
    by_cases hm0 : m * 1 = 0
    · have : m = 0 := by omega
      subst this
      have hr0 : ((Array.range (0 * 1)).map fun j => (#[] : Array Value)[j % (#[] : Array Value).size]!) = (List.replicate 0 z).toArray := by simp
      simp only [if_pos, Sem.run_bind, Sem.run_pure, Result.andThen_ok, newRow, hr0]
      rfl
    · simp only [if_neg hm0, Sem.run_bind, Sem.run_pure, Result.andThen_ok, hzv, hcells, hrep, newRow]
      rfl
  refine S_ok hd hrun (k _ _ ?_)
  refine hS.fresh (Fr.alloc w _) ⟨by simp, .inr ⟨w.heap.size, m, _, rfl, Nat.zero_le _, heap_alloc_new w _, Nat.le_refl _, by unfold maxLen; omega, by simp, by simp⟩⟩ fun b hb => by cases hb; exact Nat.le_refl _
end
end Go.Proofs.Ytijmggoikieelaa
