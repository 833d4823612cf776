/-
  The laws of the walk: operations that turn memory, calls, tests, loops, regions that draw their order. Nothing here names a function of the program.
-/
import Derived.Test.YtfdfnamkkepbiaaMem
import Derived.Deep.LoopGhost
namespace Go.Proofs.Ytfdfnamkkepbiaa
open Go.RowKit

section
variable {P : Program} {ops : Array Oper} {Q : Exit → Act → World → Prop} {rest : List Oper} {o : Oper} {l : Fm} {ds : List Deferred} {w : World}
variable {F : Nat → Prop} {w0 : World} {rs rs' : List Res} {x y : Operand} {t : TypeId} {d : Nat}

/-! loads and stores of cells in known blocks -/
theorem run_load {v : Value} {a : Addr} (ht : flatT P t = true) (hc : w.cell? a = some v) : (Instr.loadAt t (.pointer (some a))).run P w = .ok v w := by
  simp [Instr.loadAt, Instr.sureAddr, loadVar, go_sem, isAgg_flat ht, hc]
theorem x_load {b off : Nat} {c : Array Value} {ty : TypeId} {fz : Nat × Nat} {v : Value} (hS : St F w0 rs w) (ho : o.op = .load t x) (hx : lk l x = some (.pointer (some ⟨b, off, none⟩))) (ht : flatT P t = true)
    (hm : Res.obj b (.cells c ty fz) ∈ rs) (hv : nth c.toList off = some v) : Ex P l ds o w v := by
  unfold Ex execOp; rw [ho]; simp only [lk_eval hx]
  exact run_v (run_load ht (hS.cell hm hv))
theorem x_load_at {a : Addr} {v : Value} (ho : o.op = .load t x) (hx : lk l x = some (.pointer (some a))) (ht : flatT P t = true) (hc : w.cell? a = some v) : Ex P l ds o w v := by
  unfold Ex execOp; rw [ho]; simp only [lk_eval hx]
  exact run_v (run_load ht hc)
/-- new memory -/
theorem S_new {ob : Obj} {f : Nat → Value} (hS : St F w0 rs w) (hd : o.dst = some d) (he : (execOp (Act.mk l.arr ds).eval o).run P w = .ok (.value (f w.heap.size)) (w.alloc ob))
    (k : ∀ b w', St F w0 (Res.obj b ob :: rs) w' → WL P ops Q rest (l.upd d (f b)) ds w') : SStep P ops Q rest o l ds w := S_ok hd he (k _ _ (hS.new ob))
theorem S_boxA {c : List Value} (hS : St F w0 rs w) (hd : o.dst = some d) (ho : o.op = .box t x) (hx : lk l x = some (.agg c.toArray))
    (k : ∀ b w', St F w0 (Res.obj b (.cells c.toArray t (0, 0)) :: rs) w' → WL P ops Q rest (l.upd d (.pointer (some ⟨b, 0, none⟩))) ds w') : SStep P ops Q rest o l ds w := by
  refine S_new (f := fun b => .pointer (some ⟨b, 0, none⟩)) hS hd ?_ k
  unfold execOp; rw [ho]; simp only [lk_eval hx]
  exact run_v rfl
theorem S_box1 {v : Value} (hS : St F w0 rs w) (hd : o.dst = some d) (ho : o.op = .box t x) (hx : lk l x = some v) (h1 : v.oneCell' = true)
    (k : ∀ b w', St F w0 (Res.obj b (.cells #[v] t (0, 0)) :: rs) w' → WL P ops Q rest (l.upd d (.pointer (some ⟨b, 0, none⟩))) ds w') : SStep P ops Q rest o l ds w := by
  have hcells : v.cells = #[v] := by cases v <;> first | rfl | (cases h1)
  refine S_new (f := fun b => .pointer (some ⟨b, 0, none⟩)) hS hd ?_ k
  unfold execOp; rw [ho]; simp only [lk_eval hx]
  rw [← hcells]
  exact run_v rfl
theorem run_alloc {i : TypeInfo} {z : Value} (ho : o.op = .alloc t) (hi : P.info? t = some i) (hz : i.zero = some z) : (execOp (Act.mk l.arr ds).eval o).run P w = .ok (.value (.pointer (some ⟨w.heap.size, 0, none⟩))) (w.alloc (.cells z.cells t)) := by
  unfold execOp; rw [ho]
  have h1 : (zeroValue t).run P w = .ok z w := by simp [zeroValue, typeInfo, go_sem, hi, hz]
  refine run_v ?_
  show ((zeroValue t) >>= _).run P w = _
  rw [Sem.run_bind, h1]; rfl
theorem S_allocA {i : TypeInfo} {c : List Value} (hS : St F w0 rs w) (hd : o.dst = some d) (ho : o.op = .alloc t) (hi : P.info? t = some i) (hz : i.zero = some (.agg c.toArray))
    (k : ∀ b w', St F w0 (Res.obj b (.cells c.toArray t (0, 0)) :: rs) w' → WL P ops Q rest (l.upd d (.pointer (some ⟨b, 0, none⟩))) ds w') : SStep P ops Q rest o l ds w :=
  S_new (f := fun b => .pointer (some ⟨b, 0, none⟩)) hS hd (run_alloc ho hi hz) k
theorem S_alloc1 {i : TypeInfo} {z : Value} (hS : St F w0 rs w) (hd : o.dst = some d) (ho : o.op = .alloc t) (hi : P.info? t = some i) (hz : i.zero = some z) (h1 : z.oneCell' = true)
    (k : ∀ b w', St F w0 (Res.obj b (.cells #[z] t (0, 0)) :: rs) w' → WL P ops Q rest (l.upd d (.pointer (some ⟨b, 0, none⟩))) ds w') : SStep P ops Q rest o l ds w := by
  have hcells : z.cells = #[z] := by cases z <;> first | rfl | (cases h1)
  exact S_new (f := fun b => .pointer (some ⟨b, 0, none⟩)) hS hd (by rw [← hcells]; exact run_alloc ho hi hz) k
theorem S_store {b off : Nat} {c : List Value} {ty : TypeId} {v : Value} {i : TypeInfo} (hS : St F w0 rs w) (hd : o.dst = none) (ho : o.op = .store t x y)
    (hx : lk l x = some (.pointer (some ⟨b, off, none⟩))) (hy : lk l y = some v) (h1 : v.oneCell' = true) (hi : P.info? t = some i) (hsz : i.size = 1)
    (hu : Upd (Res.obj b (.cells c.toArray ty (0, 0))) (Res.obj b (.cells (c.set off v).toArray ty (0, 0))) rs rs') (hoff : off < c.length)
    (k : ∀ w', St F w0 rs' w' → WL P ops Q rest l ds w') : SStep P ops Q rest o l ds w := by
  have hh : w.heap[b]? = some (.cells c.toArray ty (0, 0)) := hS.get hu.mem
  have hc : w.cell? ⟨b, off, none⟩ = some c[off] := hS.cell hu.mem (by rw [nth_eq]; simp [hoff])
  have hf : w.frozen? ⟨b, off, none⟩ = false := by simp [World.frozen?, hh]
  refine S_sk hd (w' := w.setCell ⟨b, off, none⟩ v) ?_ (k _ (hS.setCell hu))
  unfold execOp; rw [ho]; simp only [lk_eval hx, lk_eval hy]
  have hcells : v.cells = #[v] := by cases v <;> first | rfl | (cases h1)
  have h0 : (⟨b, off, none⟩ : Addr).add 0 = ⟨b, off, none⟩ := rfl
  cases v <;> first | (cases h1; done) | simp [Instr.storeAt, Instr.sureAddr, storeVar, storeCells, sizeOf, typeInfo, go_sem, hi, hsz, Value.cells, h0, hc, hf, store, Sem.run]
theorem S_bin {op : BinOp} {t' : TypeId} {k : IntKind} {m n : Int} (hd : o.dst = some d) (ho : o.op = .binOp op t x y t') (hx : lk l x = some (.int k m)) (hy : lk l y = some (.int k n)) (h : ∃ v, BinS P op k m n v ∧ WL P ops Q rest (l.upd d v) ds w) : SStep P ops Q rest o l ds w := by
  obtain ⟨v, hv, k⟩ := h
  exact S_ex hd (x_bins ho hx hy hv) k

/-! calls -/
def lks (l : Fm) : List Operand → List Value
  | [] => []
  | x :: xs => (lk l x).getD undef :: lks l xs
theorem lks_eval {ar : Array Operand} : ar.map (Act.mk l.arr ds).eval = (lks l ar.toList).toArray := by
  cases ar with
  | mk ar =>
    induction ar with
    | nil => simp [lks]
    | cons x xs ih =>
      have h1 : (Act.mk l.arr ds).eval x = (lk l x).getD undef := by
        cases hx : lk l x with
        | some v => exact lk_eval hx
        | none =>
          cases x with
          | tmp t =>
            simp only [lk, fnth_eq] at hx
            simp only [Act.eval, Fm.arr]
            rw [Array.getD_eq_getD_getElem?, List.getElem?_toArray, hx]
          | _ => cases hx
      simp only [List.map_toArray, List.map_cons] at ih ⊢
      simp only [lks, h1]
      have := congrArg Array.toList ih
      simp at this
      rw [this]
theorem run_call {g : FuncId} {fs cs : Array Value} {f : Operand} {ar : Array Operand} {ts : Array TypeId} (ho : o.op = .call { callee := .value f, args := ar, argTypes := ts }) (hf : lk l f = some (.func (.func g) fs cs)) (hb : enterB P g = true) :
    (execOp (Act.mk l.arr ds).eval o).run P w = .ok (.enter g (fs.toList ++ lks l ar.toList ++ cs.toList).toArray) w := by
  unfold execOp; rw [ho]
  simp only [resolve, lk_eval hf, Deferred.ofValue, lks_eval]
  have := callFunc_run (P := P) (w := w) (f := g) (args := (fs.toList ++ lks l ar.toList ++ cs.toList).toArray) hb
  have he : fs ++ (lks l ar.toList).toArray ++ cs = (fs.toList ++ lks l ar.toList ++ cs.toList).toArray := by
    cases fs; cases cs; simp
  rw [← he] at this ⊢
  exact this
theorem S_call {g : FuncId} {fs cs : Array Value} {f : Operand} {ar : Array Operand} {ts : Array TypeId} {R : Value → World → Prop} (hd : o.dst = some d)
    (ho : o.op = .call { callee := .value f, args := ar, argTypes := ts }) (hf : lk l f = some (.func (.func g) fs cs)) (hb : enterB P g = true) (hc : CallsR P g (fs.toList ++ lks l ar.toList ++ cs.toList).toArray w R)
    (k : ∀ v w', R v w' → WL P ops Q rest (l.upd d v) ds w') : SStep P ops Q rest o l ds w := by
  refine S_of ?_
  unfold Oper.wp
  rw [run_call ho hf hb]
  show Calls P g _ w _
  refine Calls.mono hc ?_
  rintro e w' ⟨v, rfl, hv⟩
  show wpList P ops Q rest _ w'
  rw [hd, put_mk]
  exact (k v w' hv).out
theorem S_call0 {g : FuncId} {fs cs : Array Value} {f : Operand} {ar : Array Operand} {ts : Array TypeId} {R : Value → World → Prop} (hd : o.dst = none)
    (ho : o.op = .call { callee := .value f, args := ar, argTypes := ts }) (hf : lk l f = some (.func (.func g) fs cs)) (hb : enterB P g = true) (hc : CallsR P g (fs.toList ++ lks l ar.toList ++ cs.toList).toArray w R)
    (k : ∀ v w', R v w' → WL P ops Q rest l ds w') : SStep P ops Q rest o l ds w := by
  refine S_of ?_
  unfold Oper.wp
  rw [run_call ho hf hb]
  show Calls P g _ w _
  refine Calls.mono hc ?_
  rintro e w' ⟨v, rfl, hv⟩
  show wpList P ops Q rest _ w'
  rw [hd]
  exact (k v w' hv).out

/-- the next operation is a call of f with these arguments -/
structure SCall (P : Program) (ops : Array Oper) (Q : Exit → Act → World → Prop) (rest : List Oper) (o : Oper) (l : Fm) (ds : List Deferred) (w : World) (f : Operand) (ar : Array Operand) : Prop where
  run : (∃ ts, o.op = .call { callee := .value f, args := ar, argTypes := ts }) → SStep P ops Q rest o l ds w
theorem S_isCall {f : Operand} {ar : Array Operand} {ts : Array TypeId} (ho : o.op = .call { callee := .value f, args := ar, argTypes := ts }) (h : SCall P ops Q rest o l ds w f ar) : SStep P ops Q rest o l ds w := h.run ⟨ts, ho⟩
theorem SC_ {g : FuncId} {fs cs : Array Value} {f : Operand} {ar : Array Operand} {R : Value → World → Prop} (hf : lk l f = some (.func (.func g) fs cs)) (hd : o.dst = some d) (hb : enterB P g = true) (hc : CallsR P g (fs.toList ++ lks l ar.toList ++ cs.toList).toArray w R)
    (k : ∀ v w', R v w' → WL P ops Q rest (l.upd d v) ds w') : SCall P ops Q rest o l ds w f ar := ⟨fun ⟨_, ho⟩ => S_call hd ho hf hb hc k⟩
theorem SC0_ {g : FuncId} {fs cs : Array Value} {f : Operand} {ar : Array Operand} {R : Value → World → Prop} (hf : lk l f = some (.func (.func g) fs cs)) (hd : o.dst = none) (hb : enterB P g = true) (hc : CallsR P g (fs.toList ++ lks l ar.toList ++ cs.toList).toArray w R)
    (k : ∀ v w', R v w' → WL P ops Q rest l ds w') : SCall P ops Q rest o l ds w f ar := ⟨fun ⟨_, ho⟩ => S_call0 hd ho hf hb hc k⟩
theorem W_cond_id {a : Act} {c : Operand} {thn els : Code} (h : (Code.cond c thn els).wp P Q a w) : (Code.cond c thn els).wp P Q a w := h

/-! tests -/
theorem W_cond_t {c : Operand} {thn els : Code} (hc : lk l c = some (.bool true)) (k : thn.wp P Q ⟨l.arr, ds⟩ w) : (Code.cond c thn els).wp P Q ⟨l.arr, ds⟩ w := wp_cond_true (lk_eval hc) k
theorem W_cond_f {c : Operand} {thn els : Code} (hc : lk l c = some (.bool false)) (k : els.wp P Q ⟨l.arr, ds⟩ w) : (Code.cond c thn els).wp P Q ⟨l.arr, ds⟩ w := wp_cond_false (lk_eval hc) k
theorem W_cond {c : Operand} {thn els : Code} {b : Bool} (hc : lk l c = some (.bool b)) (kt : b = true → thn.wp P Q ⟨l.arr, ds⟩ w) (kf : b = false → els.wp P Q ⟨l.arr, ds⟩ w) : (Code.cond c thn els).wp P Q ⟨l.arr, ds⟩ w :=
  wp_cond_split (lk_eval hc) kt kf

/-! regions that draw their order: one walk in the order of the text -/
structure WQ (P : Program) (ops : Array Oper) (C : World → Prop) (K : Act → Prop) (rest : List Oper) (l : Fm) (ds : List Deferred) : Prop where
  out : wpQuiet P ops C K rest ⟨l.arr, ds⟩
structure QStep (P : Program) (ops : Array Oper) (C : World → Prop) (K : Act → Prop) (rest : List Oper) (o : Oper) (l : Fm) (ds : List Deferred) : Prop where
  run : wantF ops l o = true → WQ P ops C K (o :: rest) l ds
structure QNay (P : Program) (ops : Array Oper) (C : World → Prop) (K : Act → Prop) (rest : List Oper) (o : Oper) (l : Fm) (ds : List Deferred) : Prop where
  run : wantF ops l o = false → WQ P ops C K (o :: rest) l ds
theorem W_quiet {id : Nat} {l' : List Oper} (hS : St F w0 rs w) (hm : P.follows .mixedOrders = true) (hB : Region.lexB .any l'.toArray = true)
    (k : WQ P l'.toArray (St F w0 rs) (fun a' => ∀ w', St F w0 rs w' → Q .normal a' w') l' l ds) : (Code.region id l'.toArray true).wp P Q ⟨l.arr, ds⟩ w := by
  refine wp_region_quiet (C := St F w0 rs) hm hB (hS.call (Fr.of ((Below.refl _ _).drew))) ?_
  simpa using k.out
variable {C : World → Prop} {K : Act → Prop}
theorem Q_yes (hw : wantF ops l o = true) (h : QStep P ops C K rest o l ds) : WQ P ops C K (o :: rest) l ds := h.run hw
theorem Q_nay (hw : wantF ops l o = false) (h : QNay P ops C K rest o l ds) : WQ P ops C K (o :: rest) l ds := h.run hw
theorem WQ_nil (h : K ⟨l.arr, ds⟩) : WQ P ops C K [] l ds := ⟨h⟩
theorem Q_ex {v : Value} (hd : o.dst = some d) (he : ∀ w, C w → Ex P l ds o w v) (k : WQ P ops C K rest (l.upd d v) ds) : QStep P ops C K rest o l ds := ⟨fun hw => ⟨by
  unfold wpQuiet
  rw [if_pos (wantF_eq.trans hw)]
  refine ⟨v, fun w hC => ?_, by rw [hd, put_mk]; exact k.out⟩
  unfold Oper.quietAt
  rw [he w hC]
  exact ⟨rfl, rfl⟩⟩⟩
theorem Q_bin {op : BinOp} {t' : TypeId} {k : IntKind} {m n : Int} (hd : o.dst = some d) (ho : o.op = .binOp op t x y t') (hx : lk l x = some (.int k m)) (hy : lk l y = some (.int k n)) (h : ∃ v, BinS P op k m n v ∧ WQ P ops C K rest (l.upd d v) ds) : QStep P ops C K rest o l ds := by
  obtain ⟨v, hv, k⟩ := h
  exact Q_ex hd (fun _ _ => x_bins ho hx hy hv) k
theorem Q_no (hd : o.dst = some d) (k : WQ P ops C K rest (l.upd d undef) ds) : QNay P ops C K rest o l ds := ⟨fun hw => ⟨by
  unfold wpQuiet
  rw [if_neg (by rw [wantF_eq, hw]; exact Bool.false_ne_true), hd, put_mk]
  exact k.out⟩⟩
theorem Q_call {g : FuncId} {fs cs : Array Value} {f : Operand} {ar : Array Operand} {ts : Array TypeId} {v : Value} (hd : o.dst = some d)
    (ho : o.op = .call { callee := .value f, args := ar, argTypes := ts }) (hf : lk l f = some (.func (.func g) fs cs)) (hb : enterB P g = true)
    (hc : ∀ w, C w → CallsR P g (fs.toList ++ lks l ar.toList ++ cs.toList).toArray w fun v' w' => v' = v ∧ C w')
    (k : WQ P ops C K rest (l.upd d v) ds) : QStep P ops C K rest o l ds := ⟨fun hw => ⟨by
  unfold wpQuiet
  rw [if_pos (wantF_eq.trans hw)]
  refine ⟨v, fun w hC => ?_, by rw [hd, put_mk]; exact k.out⟩
  unfold Oper.quietAt
  rw [run_call ho hf hb]
  refine ⟨rfl, Calls.mono (hc w hC) ?_⟩
  rintro e w' ⟨v', rfl, rfl, hC'⟩
  exact ⟨rfl, hC'⟩⟩⟩
structure QCall (P : Program) (ops : Array Oper) (C : World → Prop) (K : Act → Prop) (rest : List Oper) (o : Oper) (l : Fm) (ds : List Deferred) (f : Operand) (ar : Array Operand) : Prop where
  run : (∃ ts, o.op = .call { callee := .value f, args := ar, argTypes := ts }) → QStep P ops C K rest o l ds
theorem Q_isCall {f : Operand} {ar : Array Operand} {ts : Array TypeId} (ho : o.op = .call { callee := .value f, args := ar, argTypes := ts }) (h : QCall P ops C K rest o l ds f ar) : QStep P ops C K rest o l ds := h.run ⟨ts, ho⟩
theorem QC_ {g : FuncId} {fs cs : Array Value} {f : Operand} {ar : Array Operand} {v : Value} (hf : lk l f = some (.func (.func g) fs cs)) (hd : o.dst = some d) (hb : enterB P g = true)
    (hc : ∀ w, C w → CallsR P g (fs.toList ++ lks l ar.toList ++ cs.toList).toArray w fun v' w' => v' = v ∧ C w')
    (k : WQ P ops C K rest (l.upd d v) ds) : QCall P ops C K rest o l ds f ar := ⟨fun ⟨_, ho⟩ => Q_call hd ho hf hb hc k⟩
end

section
variable {P : Program} {F : Nat → Prop} {w0 : World} {rs : List Res} {g : FuncId} {args : Array Value} {v : Value}
theorem QC_below (h : ∀ w, St F w0 rs w → Calls P g args w fun e w' => e = .returned v ∧ Below w.heap.size w w') : ∀ w, St F w0 rs w → CallsR P g args w fun v' w' => v' = v ∧ St F w0 rs w' :=
  fun w hS => Calls.mono (h w hS) fun _ _ ⟨he, hb⟩ => ⟨v, he, rfl, hS.call (Fr.of hb)⟩
theorem QC_same (h : ∀ w, St F w0 rs w → Calls P g args w fun e w' => e = .returned v ∧ w = w') : ∀ w, St F w0 rs w → CallsR P g args w fun v' w' => v' = v ∧ St F w0 rs w' :=
  fun w hS => Calls.mono (h w hS) fun _ _ ⟨he, hb⟩ => ⟨v, he, rfl, hb ▸ hS⟩
theorem QC_drew (h : ∀ w, St F w0 rs w → Calls P g args w fun e w' => e = .returned v ∧ ∃ k, w' = w.drewN k) : ∀ w, St F w0 rs w → CallsR P g args w fun v' w' => v' = v ∧ St F w0 rs w' :=
  fun w hS => Calls.mono (h w hS) fun _ _ ⟨he, k, hb⟩ => ⟨v, he, rfl, hb ▸ hS.call (Fr.drewN w k)⟩
theorem QC (h : ∀ w, St F w0 rs w → CallsR P g args w fun v' w' => v' = v ∧ Fr Nof w w') : ∀ w, St F w0 rs w → CallsR P g args w fun v' w' => v' = v ∧ St F w0 rs w' :=
  fun w hS => (h w hS).mono fun _ _ ⟨he, hb⟩ => ⟨he, hS.call hb⟩
end

/-! loops -/
/-- the frame at the head of a loop: slots that the loop writes (true) are given by y -/
def mask (y : Nat → Value) : Nat → List Bool → List Value → List Value
  | i, true :: bs, _ :: l => y i :: mask y (i + 1) bs l
  | i, false :: bs, v :: l => v :: mask y (i + 1) bs l
  | _, _, l => l
def ov (vs : List (Nat × Value)) (y : Nat → Value) (i : Nat) : Value := match vs with
  | [] => y i
  | (j, v) :: vs => if i = j then v else ov vs y i
/-- what a round hands on -/
def Again {α : Type} (bs : List Bool) (vals : α → List (Nat × Value)) (I : α → World → Prop) (μ : α → Nat) (l : List Value) (ds : List Deferred) (s : α) (a' : Act) (w' : World) : Prop :=
  ∃ s' y', a' = ⟨(Fm.base (mask (ov (vals s') y') 0 bs l)).arr, ds⟩ ∧ I s' w' ∧ μ s' < μ s
theorem W_loop {P : Program} {Q : Exit → Act → World → Prop} {l : List Value} {ds : List Deferred} {w : World} {c : Code} {α : Type} (bs : List Bool) (vals : α → List (Nat × Value)) (I : α → World → Prop) (μ : α → Nat)
    (s0 : α) (hl : mask (ov (vals s0) (fun i => (nth l i).getD undef)) 0 bs l = l) (h0 : I s0 w)
    (round : ∀ s y w, I s w → c.wp P (Exit.then (Again bs vals I μ l ds s) Q) ⟨(Fm.base (mask (ov (vals s) y) 0 bs l)).arr, ds⟩ w) :
    (Code.loop c).wp P Q ⟨(Fm.base l).arr, ds⟩ w := by
  refine wp_loop_ghost (fun n a w => ∃ s y, a = ⟨(Fm.base (mask (ov (vals s) y) 0 bs l)).arr, ds⟩ ∧ I s w ∧ μ s = n) (μ s0) ⟨s0, fun i => (nth l i).getD undef, by rw [hl], h0, rfl⟩ ?_
  rintro n a w ⟨s, y, rfl, hI, rfl⟩
  refine wp_mono (round s y w hI) ?_
  intro e a' w' hq
  cases e with
  | normal =>
    obtain ⟨s', y', ha, hI', hlt⟩ := hq
    exact ⟨μ s', hlt, s', y', ha, hI', rfl⟩
  | exit id => exact hq
  | goto l => exact hq
  | ret => exact hq
  | panic ch => exact hq
  | outgrown => exact hq
/-- the end of a round -/
theorem round_end {Q : Exit → Act → World → Prop} {l : List Value} {l' : Fm} {ds : List Deferred} {w' : World} {α : Type} {bs : List Bool} {vals : α → List (Nat × Value)} {I : α → World → Prop} {μ : α → Nat} {s : α} (s' : α)
    (hl : mask (ov (vals s') (fun i => (fnth l' i).getD undef)) 0 bs l = l'.toList) (hI : I s' w') (hμ : μ s' < μ s) :
    Exit.then (Again bs vals I μ l ds s) Q .normal ⟨l'.arr, ds⟩ w' :=
  ⟨s', fun i => (fnth l' i).getD undef, by rw [hl]; rfl, hI, hμ⟩
end Go.Proofs.Ytfdfnamkkepbiaa
