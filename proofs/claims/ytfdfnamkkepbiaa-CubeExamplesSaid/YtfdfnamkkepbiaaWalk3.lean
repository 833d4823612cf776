/-
  The laws at a function's head and end; values that are built; slices of a few elements. Nothing here names a function of the program.
-/
import Derived.Test.YtfdfnamkkepbiaaWalk2
namespace Go.Proofs.Ytfdfnamkkepbiaa
open Go.RowKit

/-! the head -/
theorem enterR {P : Program} {f n : Nat} {fn : Func} {c : Code} {args us : List Value} {w : World} {R : Value → World → Prop} (hf : P.funcs[f]? = some fn) (hb : fn.body = some c) (hn : fn.ntmps = n) (hl : List.replicate (n - args.length) undef = us)
    (h : c.wp P (bodyPost P fn fun e w' => ∃ v, e = .returned v ∧ R v w') ⟨(Fm.base (args ++ us)).arr, []⟩ w) : CallsR P f args.toArray w R := by
  refine calls_of_wp hf hb ?_
  have : args.toArray ++ Array.replicate (fn.ntmps - args.toArray.size) undef = (Fm.base (args ++ us)).arr := by
    rw [← hl, hn]; simp [Fm.arr, Fm.toList]
  rw [this]
  exact h
theorem Calls.toR {P : Program} {f : FuncId} {args : Array Value} {w : World} {v : Value} {Φ : World → Prop} (h : Calls P f args w fun e w' => e = .returned v ∧ Φ w') : CallsR P f args w fun v' w' => v' = v ∧ Φ w' :=
  Calls.mono h fun _ _ ⟨he, hp⟩ => ⟨v, he, rfl, hp⟩
theorem CallsR.plain {P : Program} {f : FuncId} {args : Array Value} {w : World} {v : Value} {Φ : World → Prop} (h : CallsR P f args w fun v' w' => v' = v ∧ Φ w') : Calls P f args w fun e w' => e = .returned v ∧ Φ w' :=
  Calls.mono h fun _ _ ⟨_, he, hv, hp⟩ => ⟨by rw [he, hv], hp⟩

/-! the end -/
def resSem (l : Fm) : ResultVar → Sem Value
  | .tmp t => pure (l.arr.getD t undef)
  | .cell a t => do loadVar t (← asAddr (l.arr.getD a undef))
def Rv (P : Program) (l : Fm) (w : World) (r : ResultVar) (v : Value) : Prop := (resSem l r).run P w = .ok v w
section
variable {P : Program} {l : Fm} {w w0 : World} {F : Nat → Prop} {rs : List Res} {fn : Func} {R : Value → World → Prop}
theorem nth_getD {t : Nat} {v : Value} (h : fnth l t = some v) : l.arr.getD t undef = v := by
  rw [fnth_eq] at h
  rw [Fm.arr, Array.getD_eq_getD_getElem?, List.getElem?_toArray, h]; rfl
theorem Rv.tmp {t : Nat} {v : Value} (h : fnth l t = some v) : Rv P l w (.tmp t) v := by
  unfold Rv resSem; simp only [nth_getD h]; rfl
theorem Rv.box {a b : Nat} {t ty : TypeId} {fz : Nat × Nat} {c : List Value} (hS : St F w0 rs w) (h : fnth l a = some (.pointer (some ⟨b, 0, none⟩))) (hm : Res.obj b (.cells c.toArray ty fz) ∈ rs) (ht : aggT P t c.length = true) : Rv P l w (.cell a t) (.agg c.toArray) := by
  have := run_loadAgg (P := P) (w := w) (a := ⟨b, 0, none⟩) ht (cells_at hS hm)
  unfold Rv resSem; simp only [nth_getD h]
  simpa [Instr.loadAt, Instr.sureAddr, asAddr, go_sem] using this
theorem Rv.one {a b : Nat} {t ty : TypeId} {fz : Nat × Nat} {v : Value} (hS : St F w0 rs w) (h : fnth l a = some (.pointer (some ⟨b, 0, none⟩))) (hm : Res.obj b (.cells #[v] ty fz) ∈ rs) (ht : flatT P t = true) : Rv P l w (.cell a t) v := by
  have := run_load (P := P) (w := w) (a := ⟨b, 0, none⟩) ht (hS.cell hm rfl)
  unfold Rv resSem; simp only [nth_getD h]
  simpa [Instr.loadAt, Instr.sureAddr, asAddr, go_sem] using this
theorem results_eq (fn : Func) : results fn l.arr = (fn.results.mapM (resSem l) >>= fun vs => pure (if h : vs.size = 1 then vs[0] else .tuple vs)) := by
  unfold results
  congr 1
theorem W_ret0 (hr : fn.results = #[]) (h : R (.tuple #[]) w) : bodyPost P fn (fun e w' => ∃ v, e = .returned v ∧ R v w') .ret ⟨l.arr, []⟩ w :=
  bodyPost_ret (by rw [results_eq, hr]; simp [go_sem]) rfl ⟨_, rfl, h⟩
theorem W_end0 (hr : fn.results = #[]) (h : R (.tuple #[]) w) : bodyPost P fn (fun e w' => ∃ v, e = .returned v ∧ R v w') .normal ⟨l.arr, []⟩ w :=
  bodyPost_end (by rw [results_eq, hr]; simp [go_sem]) rfl ⟨_, rfl, h⟩
theorem W_ret1 {r1 : ResultVar} {v1 : Value} (hr : fn.results = #[r1]) (h1 : Rv P l w r1 v1) (h : R v1 w) : bodyPost P fn (fun e w' => ∃ v, e = .returned v ∧ R v w') .ret ⟨l.arr, []⟩ w :=
  bodyPost_ret (v := v1) (by unfold Rv at h1; rw [results_eq, hr]; simp [h1, go_sem]) rfl ⟨_, rfl, h⟩
theorem W_ret2 {r1 r2 : ResultVar} {v1 v2 : Value} (hr : fn.results = #[r1, r2]) (h1 : Rv P l w r1 v1) (h2 : Rv P l w r2 v2) (h : R (.tuple #[v1, v2]) w) : bodyPost P fn (fun e w' => ∃ v, e = .returned v ∧ R v w') .ret ⟨l.arr, []⟩ w :=
  bodyPost_ret (v := .tuple #[v1, v2]) (by unfold Rv at h1 h2; rw [results_eq, hr]; simp [h1, h2, go_sem]) rfl ⟨_, rfl, h⟩
theorem W_ret3 {r1 r2 r3 : ResultVar} {v1 v2 v3 : Value} (hr : fn.results = #[r1, r2, r3]) (h1 : Rv P l w r1 v1) (h2 : Rv P l w r2 v2) (h3 : Rv P l w r3 v3) (h : R (.tuple #[v1, v2, v3]) w) : bodyPost P fn (fun e w' => ∃ v, e = .returned v ∧ R v w') .ret ⟨l.arr, []⟩ w :=
  bodyPost_ret (v := .tuple #[v1, v2, v3]) (by unfold Rv at h1 h2 h3; rw [results_eq, hr]; simp [h1, h2, h3, go_sem]) rfl ⟨_, rfl, h⟩
end

/-! values that are built -/
/-- every field is one cell, in its own place -/
def plainStruct (P : Program) (fs : List Field) : Bool := fs.zipIdx.all fun p => p.1.offset == p.2 && sizeT P p.1.type 1
def bld (zero : List Value) : List (Nat × Value) → List Value
  | [] => zero
  | (i, v) :: ps => bld (zero.set i v) ps
def lkp (l : Fm) : List (Nat × Operand) → List (Nat × Value)
  | [] => []
  | (i, x) :: xs => (i, (lk l x).getD undef) :: lkp l xs
def zeroT (P : Program) (t : TypeId) : Option (Array Value) := match P.info? t with | some i => (match i.zero with | some (.agg c) => some c | _ => none) | none => none
section
variable {P : Program} {o : Oper} {l : Fm} {ds : List Deferred} {w : World} {t : TypeId}
theorem lk_getD {x : Operand} : (Act.mk l.arr ds).eval x = (lk l x).getD undef := by
  cases hx : lk l x with
  | some v => exact lk_eval hx
  | none =>
    cases x with
    | tmp t =>
      simp only [lk, fnth_eq] at hx
      simp only [Act.eval, Fm.arr]
      rw [Array.getD_eq_getD_getElem?, List.getElem?_toArray, hx]
    | _ => cases hx
theorem lkp_eval {parts : Array (Nat × Operand)} : (parts.map fun (i, x) => (i, (Act.mk l.arr ds).eval x)) = (lkp l parts.toList).toArray := by
  cases parts with
  | mk ps =>
    apply Array.ext'
    simp only [Array.toList_map]
    induction ps with
    | nil => simp [lkp]
    | cons p ps ih =>
      simp only [List.map_cons, lkp, lk_getD] at ih ⊢
      rw [ih]
theorem oneCell_cells {v : Value} (h : v.oneCell' = true) : v.cells = #[v] := by cases v <;> first | rfl | (cases h)
theorem fill_bld {place : Nat → Option (Nat × Nat)} : ∀ (ps : List (Nat × Value)) (zero : List Value), (∀ p ∈ ps, place p.1 = some (p.1, 1) ∧ p.1 < zero.length ∧ p.2.oneCell' = true) → Instr.fill place zero.toArray ps = some (bld zero ps).toArray
  | [], zero, _ => rfl
  | (i, v) :: ps, zero, h => by
    have h0 := h (i, v) (List.mem_cons_self ..)
    simp only at h0
    unfold Instr.fill
    simp only [h0.1, oneCell_cells h0.2.2]
    have hlt : ¬ (i + 1 > zero.length) := by have := h0.2.1; omega
    have hz : (#[v] : Array Value).zipIdx = #[(v, 0)] := rfl
    simp only [hz, List.size_toArray, List.length_cons, List.length_nil, Nat.zero_add, ne_eq, not_true, decide_false, Bool.false_or, decide_eq_true_eq, if_neg hlt]
    have hs : Array.foldl (fun cs (x : Value × Nat) => cs.setIfInBounds (i + x.2) x.1) zero.toArray #[(v, 0)] 0 1 = (zero.set i v).toArray := by simp
    rw [hs]
    refine (fill_bld ps (zero.set i v) fun p hp => ?_).trans rfl
    have := h p (List.mem_cons_of_mem _ hp)
    simpa using this
theorem mapM_sizes : ∀ (fs : List Field), (∀ f ∈ fs, sizeT P f.type 1 = true) → (fs.mapM (m := Sem) fun f => do pure (f.offset, ← sizeOf f.type)).run P w = .ok (fs.map fun f => (f.offset, 1)) w
  | [], _ => rfl
  | f :: fs, h => by
    have ih := mapM_sizes fs fun g hg => h g (List.mem_cons_of_mem _ hg)
    simp only [List.mapM_cons, Sem.run_bind, sizeOf_run (h f (List.mem_cons_self ..)), Result.andThen_ok, Sem.run_pure, ih]
    rfl
theorem x_build {fs : Array Field} {zs : List Value} {parts : Array (Nat × Operand)} (ho : o.op = .build t parts) (ht : P.underlying t = some (.struct fs)) (hfs : plainStruct P fs.toList = true) (hz : zeroT P t = some zs.toArray)
    (hp : ((lkp l parts.toList).all fun p => decide (p.1 < zs.length) && decide (p.1 < fs.toList.length) && p.2.oneCell') = true) : Ex P l ds o w (.agg (bld zs (lkp l parts.toList)).toArray) := by
  unfold Ex execOp; rw [ho]
  refine run_v ?_
  rw [lkp_eval]
  unfold zeroT at hz
  cases hi : P.info? t with
  | none => rw [hi] at hz; cases hz
  | some i =>
    simp only [hi] at hz
    cases hzz : i.zero with
    | none => simp only [hzz] at hz; cases hz
    | some z =>
      simp only [hzz] at hz
      cases z with
      | agg c =>
        simp only [Option.some.injEq] at hz
        subst hz
        obtain ⟨c, rfl⟩ : ∃ c : Array Value, c.toList = zs := ⟨zs.toArray, rfl⟩
        simp only [Array.toArray_toList] at hzz ⊢
        unfold plainStruct at hfs
        rw [List.all_eq_true] at hfs
        have hsz : ∀ f ∈ fs.toList, sizeT P f.type 1 = true := fun f hf => by
          obtain ⟨k, hk, rfl⟩ := List.getElem_of_mem hf
          have := hfs (fs.toList[k], k) (by simpa using List.mem_zipIdx_iff_getElem?.2 (by simp [hk]))
          simp only [Bool.and_eq_true] at this
          exact this.2
        have hm : (fs.mapM (m := Sem) fun f => do pure (f.offset, ← sizeOf f.type)).run P w = .ok (fs.toList.map fun f => (f.offset, 1)).toArray w := by
          have h1 := mapM_sizes (P := P) (w := w) fs.toList hsz
          cases fs with
          | mk fl =>
            have h2 : (fl.toArray.mapM (m := Sem) fun f => do pure (f.offset, ← sizeOf f.type)) = ((fl.mapM fun f => do pure (f.offset, ← sizeOf f.type)) >>= fun x => pure x.toArray) := by
              simp
            rw [h2]
            simp only [Sem.run_bind]
            rw [h1]
            rfl
        have hzv : (zeroValue t).run P w = .ok (.agg c) w := by simp [zeroValue, typeInfo, go_sem, hi, hzz]
        have hf := fill_bld (place := fun i => (fs.toList.map fun f => (f.offset, 1)).toArray[i]?) (lkp l parts.toList) c.toList (fun p hp' => by
          have h3 := List.all_eq_true.1 hp p hp'
          simp only [Bool.and_eq_true, decide_eq_true_eq] at h3
          have h4 := hfs (fs.toList[p.1]'h3.1.2, p.1) (List.mem_zipIdx_iff_getElem?.2 (by simp [h3.1.2]))
          simp only [Bool.and_eq_true, beq_iff_eq] at h4
          refine ⟨?_, h3.1.1, h3.2⟩
          have h5 : p.1 < fs.size := by simpa using h3.1.2
          simp [h5]
          simpa using h4.1)
        simp only [Array.toArray_toList] at hf
        simp only [Instr.build, Sem.run_bind, hzv, Result.andThen_ok, run_underlying ht, hm, Value.cells, hf, Sem.run_pure]
      | _ => cases hz
section
variable {fs : Array Field} {zs : List Value} {parts : Array (Nat × Operand)} {x y z : Operand} {i j k : Nat} {u v r : Value}
theorem x_build0 (ho : o.op = .build t parts) (hp : parts.toList = []) (ht : P.underlying t = some (.struct fs)) (hfs : plainStruct P fs.toList = true) (hz : zeroT P t = some zs.toArray) : Ex P l ds o w (.agg zs.toArray) := by
  have := x_build (ds := ds) (l := l) (w := w) ho ht hfs hz (by rw [hp]; rfl)
  rw [hp] at this; exact this
theorem x_build1 (ho : o.op = .build t parts) (hp : parts.toList = [(i, x)]) (ht : P.underlying t = some (.struct fs)) (hfs : plainStruct P fs.toList = true) (hz : zeroT P t = some zs.toArray) (hx : lk l x = some u)
    (hb : (decide (i < zs.length) && decide (i < fs.toList.length) && u.oneCell') = true) : Ex P l ds o w (.agg (zs.set i u).toArray) := by
  have := x_build (ds := ds) (l := l) (w := w) ho ht hfs hz (by rw [hp]; simp only [lkp, hx, Option.getD_some, List.all_cons, List.all_nil, hb, Bool.and_self])
  rw [hp] at this; simpa [lkp, hx, bld] using this
theorem x_build2 (ho : o.op = .build t parts) (hp : parts.toList = [(i, x), (j, y)]) (ht : P.underlying t = some (.struct fs)) (hfs : plainStruct P fs.toList = true) (hz : zeroT P t = some zs.toArray) (hx : lk l x = some u) (hy : lk l y = some v)
    (hb : ((decide (i < zs.length) && decide (i < fs.toList.length) && u.oneCell') && (decide (j < zs.length) && decide (j < fs.toList.length) && v.oneCell')) = true) : Ex P l ds o w (.agg ((zs.set i u).set j v).toArray) := by
  have := x_build (ds := ds) (l := l) (w := w) ho ht hfs hz (by rw [hp]; simp only [lkp, hx, hy, Option.getD_some, List.all_cons, List.all_nil, hb, Bool.and_true])
  rw [hp] at this; simpa [lkp, hx, hy, bld] using this
theorem x_build3 (ho : o.op = .build t parts) (hp : parts.toList = [(i, x), (j, y), (k, z)]) (ht : P.underlying t = some (.struct fs)) (hfs : plainStruct P fs.toList = true) (hz : zeroT P t = some zs.toArray) (hx : lk l x = some u) (hy : lk l y = some v) (hr : lk l z = some r)
    (hb : ((decide (i < zs.length) && decide (i < fs.toList.length) && u.oneCell') && ((decide (j < zs.length) && decide (j < fs.toList.length) && v.oneCell') && (decide (k < zs.length) && decide (k < fs.toList.length) && r.oneCell'))) = true) : Ex P l ds o w (.agg (((zs.set i u).set j v).set k r).toArray) := by
  have := x_build (ds := ds) (l := l) (w := w) ho ht hfs hz (by rw [hp]; simp only [lkp, hx, hy, hr, Option.getD_some, List.all_cons, List.all_nil, hb, Bool.and_true])
  rw [hp] at this; simpa [lkp, hx, hy, hr, bld] using this
end
end
end Go.Proofs.Ytfdfnamkkepbiaa
