/-
  The walk by small laws: the frame as a list of values, each operation's law by itself. Nothing here names a function of the program.
-/
import Derived.Test.YtfdfnamkkepbiaaBase
namespace Go.Proofs.Ytfdfnamkkepbiaa
open Go.RowKit

/-! The frame. -/
def nth : List Value → Nat → Option Value
  | [], _ => none
  | a :: _, 0 => some a
  | _ :: l, n + 1 => nth l n
theorem nth_eq : ∀ (l : List Value) (n : Nat), nth l n = l[n]?
  | [], _ => by simp [nth]
  | a :: l, 0 => by simp [nth]
  | a :: l, n + 1 => by simp [nth, nth_eq l n]
/-- a frame: what it began with, and what has been put into it since -/
inductive Fm where
  | base (l : List Value)
  | upd (f : Fm) (d : Nat) (v : Value)
def Fm.toList : Fm → List Value
  | .base l => l
  | .upd f d v => f.toList.set d v
def Fm.arr (f : Fm) : Array Value := f.toList.toArray
def fnth : Fm → Nat → Option Value
  | .base l, t => nth l t
  | .upd f d v, t => bif Nat.beq t d then (match fnth f d with | some _ => some v | none => none) else fnth f t
theorem fnth_eq : ∀ (f : Fm) (t : Nat), fnth f t = f.toList[t]?
  | .base l, t => nth_eq l t
  | .upd f d v, t => by
    simp only [fnth, Fm.toList, fnth_eq f]
    by_cases h : t = d
    · subst h
      have hb : Nat.beq t t = true := Nat.beq_refl t
      simp only [hb, cond_true]
      by_cases hl : t < f.toList.length
      · simp [hl]
      · simp [hl]
    · have hb : Nat.beq t d = false := by
        cases hq : Nat.beq t d with
        | false => rfl
        | true => exact absurd (Nat.eq_of_beq_eq_true hq) h
      simp only [hb, cond_false]
      rw [List.getElem?_set_ne (fun e => h e.symm)]
def lk (l : Fm) : Operand → Option Value
  | .tmp t => fnth l t
  | .const v => some v
  | .global g => some (.pointer (some ⟨g, 0, none⟩))
  | .func f => some (.func (.func f) #[] #[])
theorem lk_eval {l : Fm} {ds : List Deferred} {x : Operand} {v : Value} (h : lk l x = some v) : (Act.mk l.arr ds).eval x = v := by
  cases x with
  | tmp t =>
    simp only [lk, fnth_eq] at h
    simp only [Act.eval, Fm.arr]
    rw [Array.getD_eq_getD_getElem?, List.getElem?_toArray, h]; rfl
  | const u => simpa [lk, Act.eval] using h
  | global g => simpa [lk, Act.eval] using h
  | func f => simpa [lk, Act.eval] using h
theorem put_mk {l : Fm} {ds : List Deferred} {d : Nat} {v : Value} : (Act.mk l.arr ds).put (some d) v = Act.mk (l.upd d v).arr ds := by
  simp [Act.put, Fm.arr, Fm.toList]
theorem norm_K {K : Act → World → Prop} {f : Fm} {l' : List Value} {ds : List Deferred} {w : World} (h : f.toList = l') (k : K ⟨(Fm.base l').arr, ds⟩ w) : K ⟨f.arr, ds⟩ w := by
  subst h; exact k

theorem run_v {P : Program} {s : Sem Value} {w w' : World} {v : Value} (h : s.run P w = .ok v w') : (s >>= fun x => (pure (Next.value x) : Sem Next)).run P w = .ok (.value v) w' := by
  rw [Sem.run_bind, h]; rfl
theorem run_u {P : Program} {s : Sem Unit} {w w' : World} (h : s.run P w = .ok () w') : (s >>= fun _ => (pure Next.skip : Sem Next)).run P w = .ok .skip w' := by
  rw [Sem.run_bind, h]; rfl
def nthO : List Oper → Nat → Option Oper
  | [], _ => none
  | a :: _, 0 => some a
  | _ :: l, n + 1 => nthO l n
theorem nthO_eq : ∀ (l : List Oper) (n : Nat), nthO l n = l[n]?
  | [], _ => by simp [nthO]
  | a :: l, 0 => by simp [nthO]
  | a :: l, n + 1 => by simp [nthO, nthO_eq l n]
/-- is the operation wanted (its guard)? -/
def wantF (ops : Array Oper) (l : Fm) (o : Oper) : Bool := match o.guard with
  | none => true
  | some (j, want) => match nthO ops.toList j with
    | none => false
    | some oj => match oj.dst with
      | none => false
      | some d => match fnth l d with
        | some (.bool b) => bif want then b else !b
        | _ => false
theorem wantF_eq {ops : Array Oper} {l : Fm} {o : Oper} : Region.wanted o (yielded ops l.arr) = wantF ops l o := by
  unfold Region.wanted wantF
  cases hg : o.guard with
  | none => rfl
  | some p =>
    obtain ⟨j, want⟩ := p
    simp only [yielded, nthO_eq, Array.getElem?_toList]
    cases hj : ops[j]? with
    | none => rfl
    | some oj =>
      simp only [Option.bind_some]
      cases hd : oj.dst with
      | none => rfl
      | some d =>
        simp only [Option.bind_some, fnth_eq, Fm.arr, List.getElem?_toArray]
        cases hv : l.toList[d]? with
        | none => rfl
        | some v => cases v with
          | bool b => cases b <;> cases want <;> rfl
          | _ => rfl
/-- the operation yields v and leaves the world alone -/
def Ex (P : Program) (l : Fm) (ds : List Deferred) (o : Oper) (w : World) (v : Value) : Prop := (execOp (Act.mk l.arr ds).eval o).run P w = .ok (.value v) w

section
variable {P : Program} {ops : Array Oper} {Q : Exit → Act → World → Prop} {rest : List Oper} {o : Oper} {l : Fm} {ds : List Deferred} {w : World}
/-- a list of operations still to come, in a frame -/
structure WL (P : Program) (ops : Array Oper) (Q : Exit → Act → World → Prop) (rest : List Oper) (l : Fm) (ds : List Deferred) (w : World) : Prop where
  out : wpList P ops Q rest ⟨l.arr, ds⟩ w
/-- the next operation, if its guard wants it -/
structure SStep (P : Program) (ops : Array Oper) (Q : Exit → Act → World → Prop) (rest : List Oper) (o : Oper) (l : Fm) (ds : List Deferred) (w : World) : Prop where
  run : wantF ops l o = true → WL P ops Q (o :: rest) l ds w
structure SNay (P : Program) (ops : Array Oper) (Q : Exit → Act → World → Prop) (rest : List Oper) (o : Oper) (l : Fm) (ds : List Deferred) (w : World) : Prop where
  run : wantF ops l o = false → WL P ops Q (o :: rest) l ds w
theorem S_yes (hw : wantF ops l o = true) (h : SStep P ops Q rest o l ds w) : WL P ops Q (o :: rest) l ds w := h.run hw
theorem S_nay (hw : wantF ops l o = false) (h : SNay P ops Q rest o l ds w) : WL P ops Q (o :: rest) l ds w := h.run hw
theorem WL_nil (h : Q .normal ⟨l.arr, ds⟩ w) : WL P ops Q [] l ds w := ⟨h⟩
theorem W_region {id : Nat} {l' : List Oper} (h : WL P l'.toArray Q l' l ds w) : (Code.region id l'.toArray false).wp P Q ⟨l.arr, ds⟩ w := wp_region_lit h.out
theorem S_of (h : o.wp P ⟨l.arr, ds⟩ w (wpList P ops Q rest) Q) : SStep P ops Q rest o l ds w := ⟨fun hw => ⟨by
  unfold wpList
  rw [if_pos (wantF_eq.trans hw)]
  exact .inl h⟩⟩
theorem S_ok {d : Nat} {v : Value} {w' : World} (hd : o.dst = some d) (he : (execOp (Act.mk l.arr ds).eval o).run P w = .ok (.value v) w')
    (k : WL P ops Q rest (l.upd d v) ds w') : SStep P ops Q rest o l ds w := S_of (by
  unfold Oper.wp
  rw [he]
  show wpList P ops Q rest _ w'
  rw [hd, put_mk]
  exact k.out)
theorem S_sk {w' : World} (hd : o.dst = none) (he : (execOp (Act.mk l.arr ds).eval o).run P w = .ok .skip w')
    (k : WL P ops Q rest l ds w') : SStep P ops Q rest o l ds w := S_of (by
  unfold Oper.wp
  rw [he]
  show wpList P ops Q rest _ w'
  rw [hd]
  exact k.out)
theorem S_ok0 {v : Value} {w' : World} (hd : o.dst = none) (he : (execOp (Act.mk l.arr ds).eval o).run P w = .ok (.value v) w')
    (k : WL P ops Q rest l ds w') : SStep P ops Q rest o l ds w := S_of (by
  unfold Oper.wp
  rw [he]
  show wpList P ops Q rest _ w'
  rw [hd]
  exact k.out)
theorem S_ex {d : Nat} {v : Value} (hd : o.dst = some d) (he : Ex P l ds o w v) (k : WL P ops Q rest (l.upd d v) ds w) : SStep P ops Q rest o l ds w := S_ok hd he k
theorem S_no {d : Nat} (hd : o.dst = some d) (k : WL P ops Q rest (l.upd d undef) ds w) : SNay P ops Q rest o l ds w := ⟨fun hw => ⟨by
  unfold wpList
  rw [if_neg (by rw [wantF_eq, hw]; exact Bool.false_ne_true), hd, put_mk]
  exact k.out⟩⟩
theorem S_no0 (hd : o.dst = none) (k : WL P ops Q rest l ds w) : SNay P ops Q rest o l ds w := ⟨fun hw => ⟨by
  unfold wpList
  rw [if_neg (by rw [wantF_eq, hw]; exact Bool.false_ne_true), hd]
  exact k.out⟩⟩
/-- a call that returns -/
def CallsR (P : Program) (f : FuncId) (args : Array Value) (w : World) (R : Value → World → Prop) : Prop := Calls P f args w fun e w' => ∃ v, e = .returned v ∧ R v w'
theorem CallsR.mono {f : FuncId} {args : Array Value} {R R' : Value → World → Prop} (h : CallsR P f args w R) (hr : ∀ v w', R v w' → R' v w') : CallsR P f args w R' :=
  Calls.mono h fun _ w' ⟨v, he, hv⟩ => ⟨v, he, hr v w' hv⟩
/-- the function has a body -/
def enterB (P : Program) (f : FuncId) : Bool := match P.funcs[f]? with | some fn => !(fn.name == "runtime.NumGoroutine") && fn.body.isSome | none => false
theorem callFunc_run {f : FuncId} {args : Array Value} (hb : enterB P f = true) : (callFunc f args).run P w = .ok (.enter f args) w := by
  unfold enterB at hb
  cases hf : P.funcs[f]? with
  | none => rw [hf] at hb; cases hb
  | some fn =>
    rw [hf] at hb
    simp only [Bool.and_eq_true, Bool.not_eq_true', beq_eq_false_iff_ne] at hb
    have h2 : ¬ fn.body = none := fun h => by rw [h] at hb; cases hb.2
    simp [callFunc, go_sem, hf, hb.1, h2]
end
end Go.Proofs.Ytfdfnamkkepbiaa
