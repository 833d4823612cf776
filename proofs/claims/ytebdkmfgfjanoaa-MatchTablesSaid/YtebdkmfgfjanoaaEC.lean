/-
  Regions that draw their order and whose calls or allocations make memory: walked in an order that the proof chooses; what only reads is taken first. Nothing here names a function of the program.
-/
import Derived.Test.YtebdkmfgfjanoaaEB
import Derived.OrdersHeld
namespace Go.Proofs.Ytebdkmfgfjanoaa
open Go.RowKit

/-- an order for a region: number i is taken first (true: it only reads), or it alone may come up (false) -/
def planB (ops : Array Oper) : List (Nat × Bool) → Array Bool → Bool
  | [], listed => (Region.ready .any ops listed).isEmpty
  | (i, t) :: π, listed => (bif t then Region.free .any ops listed i && (Region.ready .any ops listed).contains i else Region.ready .any ops listed == [i]) && planB ops π (listed.setIfInBounds i true)
structure WH (P : Program) (ops : Array Oper) (Q : Exit → Act → World → Prop) (S : World → Prop) (π : List (Nat × Bool)) (l : Fm) (ds : List Deferred) (w : World) : Prop where
  run : ∀ listed, planB ops π listed = true → Region.noSelect ops = true → wpAnyH P .any ops Q S π.length listed ⟨l.arr, ds⟩ w
structure HT (P : Program) (ops : Array Oper) (Q : Exit → Act → World → Prop) (S : World → Prop) (π : List (Nat × Bool)) (i : Nat) (o : Oper) (l : Fm) (ds : List Deferred) (w : World) : Prop where
  run : nthO ops.toList i = some o → WH P ops Q S ((i, true) :: π) l ds w
/-- what stands behind an operation that is carried out -/
def HQ (P : Program) (ops : Array Oper) (Q : Exit → Act → World → Prop) (S : World → Prop) (π : List (Nat × Bool)) (listed : Array Bool) : Exit → Act → World → Prop
  | .normal, a, w => S w ∧ wpAnyH P .any ops Q S π.length listed a w
  | e, a, w => Q e a w
structure HF (P : Program) (ops : Array Oper) (Q : Exit → Act → World → Prop) (S : World → Prop) (π : List (Nat × Bool)) (i : Nat) (o : Oper) (l : Fm) (ds : List Deferred) (w : World) : Prop where
  run : ∀ listed, planB ops π listed = true → Region.noSelect ops = true → WL P ops (HQ P ops Q S π listed) [o] l ds w
section
variable {P : Program} {ops : Array Oper} {Q : Exit → Act → World → Prop} {S : World → Prop} {π : List (Nat × Bool)} {i d : Nat} {o : Oper} {l : Fm} {ds : List Deferred} {w : World}
theorem nthO_get (h : nthO ops.toList i = some o) : ops[i]? = some o := by rw [nthO_eq] at h; simpa using h
theorem H_t (hi : nthO ops.toList i = some o) (h : HT P ops Q S π i o l ds w) : WH P ops Q S ((i, true) :: π) l ds w := h.run hi
theorem HT_yes {v : Value} (hw : wantF ops l o = true) (hd : o.dst = some d) (hS : S w) (hQ : ∀ c a w, Q (.panic c) (a.put (some d) v) w → Q (.panic c) a w) (he : ∀ w, S w → Ex P l ds o w v) (k : WH P ops Q S π (l.upd d v) ds w) : HT P ops Q S π i o l ds w := ⟨fun hi => ⟨fun listed hp hs => by
  simp only [planB, cond_true, Bool.and_eq_true] at hp
  refine wpAnyH_take (nthO_get hi) hs hp.1.1 hp.1.2 (by rw [hd]; exact hQ) (.inl ⟨wantF_eq.trans hw, fun w hS => he w hS⟩) hS ?_
  rw [hd, put_mk]
  exact k.run _ hp.2 hs⟩⟩
theorem HT_no (hw : wantF ops l o = false) (hd : o.dst = some d) (hS : S w) (hQ : ∀ c a w, Q (.panic c) (a.put (some d) undef) w → Q (.panic c) a w) (k : WH P ops Q S π (l.upd d undef) ds w) : HT P ops Q S π i o l ds w := ⟨fun hi => ⟨fun listed hp hs => by
  simp only [planB, cond_true, Bool.and_eq_true] at hp
  refine wpAnyH_take (nthO_get hi) hs hp.1.1 hp.1.2 (by rw [hd]; exact hQ) (.inr ⟨wantF_eq.trans hw, rfl⟩) hS ?_
  rw [hd, put_mk]
  exact k.run _ hp.2 hs⟩⟩
theorem wp_HQ {listed : Array Bool} {a : Act} (h : o.wp P a w (wpList P ops (HQ P ops Q S π listed) []) (HQ P ops Q S π listed)) : o.wp P a w (fun a' w' => S w' ∧ wpAnyH P .any ops Q S π.length listed a' w') Q := by
  unfold Oper.wp at *
  generalize (execOp a.eval o).run P w = r at h ⊢
  cases r with
  | ok n w' =>
    cases n <;> simp only [Oper.upon] at h ⊢ <;> try exact h
  | halt x w' => cases x <;> simp only [Oper.upon] at h ⊢ <;> try exact h
theorem H_f (hi : nthO ops.toList i = some o) (h : HF P ops Q S π i o l ds w) : WH P ops Q S ((i, false) :: π) l ds w := ⟨fun listed hp hs => by
  simp only [planB, cond_false, Bool.and_eq_true, beq_iff_eq] at hp
  refine wpAnyH_all hp.1 (by simp) fun j hj => ?_
  obtain rfl : j = i := by simpa using hj
  have h1 := (h.run _ hp.2 hs).out
  unfold wpOp
  rw [nthO_get hi]
  simp only
  unfold wpList at h1
  split
  · rename_i hw
    rw [if_pos hw] at h1
    rcases h1 with h1 | ⟨h1, h2⟩
    · exact .inl (wp_HQ h1)
    · exact .inr ⟨h1, by obtain ⟨a', w3, h3⟩ := h2; exact ⟨a', w3, h3⟩⟩
  · rename_i hw
    rw [if_neg hw] at h1
    exact h1⟩
theorem HF_mk (h : ∀ Q', (∀ l' w', S w' → WH P ops Q S π l' ds w' → Q' .normal ⟨l'.arr, ds⟩ w') → WL P ops Q' [o] l ds w) : HF P ops Q S π i o l ds w :=
  ⟨fun listed hp hs => h _ fun l' w' hS hk => ⟨hS, hk.run _ hp hs⟩⟩
theorem H_nil (hS : Q .normal ⟨l.arr, ds⟩ w) : WH P ops Q S [] l ds w := ⟨fun listed hp _ => ⟨by simpa [planB] using hp, hS⟩⟩
theorem W_held {F : Nat → Prop} {w0 : World} {rs : List Res} {id : Nat} {l' : List Oper} (π : List (Nat × Bool)) (hS : St F w0 rs w) (hm : P.follows .mixedOrders = true)
    (hp : (planB l'.toArray π (Array.replicate l'.toArray.size false) && Region.noSelect l'.toArray && π.length == l'.toArray.size) = true)
    (k : ∀ w, St F w0 rs w → WH P l'.toArray Q (St F w0 rs) π l ds w) : (Code.region id l'.toArray true).wp P Q ⟨l.arr, ds⟩ w := by
  simp only [Bool.and_eq_true, beq_iff_eq] at hp
  refine wp_region_held (S := St F w0 rs) hm ?_
  have := (k _ (hS.call (Fr.of ((Below.refl _ _).drew)))).run _ hp.1.1 hp.1.2
  rw [hp.2] at this
  exact this
end
end Go.Proofs.Ytebdkmfgfjanoaa
/-
  Maps that a function lays out and looks into; closures; panics; strings cut; regions that draw their order, by a plan with branches. Nothing here names a function of the program.
-/
namespace Go.Proofs.Ytebdkmfgfjanoaa
open Go.RowKit
section
variable {P : Program} {ops : Array Oper} {Q : Exit → Act → World → Prop} {rest : List Oper} {o : Oper} {l : Fm} {ds : List Deferred} {w : World}
variable {F : Nat → Prop} {w0 : World} {rs rs' : List Res} {x y z : Operand} {t t' e e' : TypeId} {size n c d : Nat} {A : Option Addr}

/-! function values -/
theorem x_mkFunc {fn : Fn} {first captured : Array Operand} (ho : o.op = .makeFunc fn first captured) : Ex P l ds o w (.func fn (lks l first.toList).toArray (lks l captured.toList).toArray) := by
  unfold Ex execOp; rw [ho]
  refine run_v ?_
  rw [lks_eval, lks_eval]; rfl
section
variable {fn : Fn} {first captured : Array Operand} {u1 u2 u3 u4 : Value} {x1 x2 x3 x4 : Operand}
theorem x_bound (ho : o.op = .makeFunc fn first captured) (h1 : first.toList = [x1]) (h2 : captured.toList = []) (k1 : lk l x1 = some u1) : Ex P l ds o w (.func fn #[u1] #[]) := by
  have := x_mkFunc (P := P) (l := l) (ds := ds) (w := w) ho
  rw [h1, h2] at this; simpa [lks, k1] using this
theorem x_func0 (ho : o.op = .makeFunc fn first captured) (h1 : first.toList = []) (h2 : captured.toList = []) : Ex P l ds o w (.func fn #[] #[]) := by
  have := x_mkFunc (P := P) (l := l) (ds := ds) (w := w) ho
  rw [h1, h2] at this; simpa [lks] using this
theorem x_func1 (ho : o.op = .makeFunc fn first captured) (h1 : first.toList = []) (h2 : captured.toList = [x1]) (k1 : lk l x1 = some u1) : Ex P l ds o w (.func fn #[] #[u1]) := by
  have := x_mkFunc (P := P) (l := l) (ds := ds) (w := w) ho
  rw [h1, h2] at this; simpa [lks, k1] using this
theorem x_func2 (ho : o.op = .makeFunc fn first captured) (h1 : first.toList = []) (h2 : captured.toList = [x1, x2]) (k1 : lk l x1 = some u1) (k2 : lk l x2 = some u2) : Ex P l ds o w (.func fn #[] #[u1, u2]) := by
  have := x_mkFunc (P := P) (l := l) (ds := ds) (w := w) ho
  rw [h1, h2] at this; simpa [lks, k1, k2] using this
theorem x_func3 (ho : o.op = .makeFunc fn first captured) (h1 : first.toList = []) (h2 : captured.toList = [x1, x2, x3]) (k1 : lk l x1 = some u1) (k2 : lk l x2 = some u2) (k3 : lk l x3 = some u3) : Ex P l ds o w (.func fn #[] #[u1, u2, u3]) := by
  have := x_mkFunc (P := P) (l := l) (ds := ds) (w := w) ho
  rw [h1, h2] at this; simpa [lks, k1, k2, k3] using this
theorem x_func4 (ho : o.op = .makeFunc fn first captured) (h1 : first.toList = []) (h2 : captured.toList = [x1, x2, x3, x4]) (k1 : lk l x1 = some u1) (k2 : lk l x2 = some u2) (k3 : lk l x3 = some u3) (k4 : lk l x4 = some u4) : Ex P l ds o w (.func fn #[] #[u1, u2, u3, u4]) := by
  have := x_mkFunc (P := P) (l := l) (ds := ds) (w := w) ho
  rw [h1, h2] at this; simpa [lks, k1, k2, k3, k4] using this
end

section
variable {fs : Array Field} {zs : List Value} {parts : Array (Nat × Operand)} {x1 x2 x3 x4 x5 : Operand} {i1 i2 i3 i4 i5 : Nat} {u1 u2 u3 u4 u5 : Value}
def okB (zs : List Value) (fs : Array Field) (i : Nat) (u : Value) : Bool := decide (i < zs.length) && decide (i < fs.toList.length) && u.oneCell'
theorem x_build4 (ho : o.op = .build t parts) (hp : parts.toList = [(i1, x1), (i2, x2), (i3, x3), (i4, x4)]) (ht : P.underlying t = some (.struct fs)) (hfs : plainStruct P fs.toList = true) (hz : zeroT P t = some zs.toArray) (h1 : lk l x1 = some u1) (h2 : lk l x2 = some u2) (h3 : lk l x3 = some u3) (h4 : lk l x4 = some u4)
    (hb : (okB zs fs i1 u1 && (okB zs fs i2 u2 && (okB zs fs i3 u3 && okB zs fs i4 u4))) = true) : Ex P l ds o w (.agg ((((zs.set i1 u1).set i2 u2).set i3 u3).set i4 u4).toArray) := by
  have := x_build (ds := ds) (l := l) (w := w) ho ht hfs hz (by rw [hp]; simpa only [okB, lkp, h1, h2, h3, h4, Option.getD_some, List.all_cons, List.all_nil, Bool.and_true] using hb)
  rw [hp] at this; simpa [lkp, h1, h2, h3, h4, bld] using this
theorem x_build5 (ho : o.op = .build t parts) (hp : parts.toList = [(i1, x1), (i2, x2), (i3, x3), (i4, x4), (i5, x5)]) (ht : P.underlying t = some (.struct fs)) (hfs : plainStruct P fs.toList = true) (hz : zeroT P t = some zs.toArray) (h1 : lk l x1 = some u1) (h2 : lk l x2 = some u2) (h3 : lk l x3 = some u3) (h4 : lk l x4 = some u4) (h5 : lk l x5 = some u5)
    (hb : (okB zs fs i1 u1 && (okB zs fs i2 u2 && (okB zs fs i3 u3 && (okB zs fs i4 u4 && okB zs fs i5 u5)))) = true) : Ex P l ds o w (.agg (((((zs.set i1 u1).set i2 u2).set i3 u3).set i4 u4).set i5 u5).toArray) := by
  have := x_build (ds := ds) (l := l) (w := w) ho ht hfs hz (by rw [hp]; simpa only [okB, lkp, h1, h2, h3, h4, h5, Option.getD_some, List.all_cons, List.all_nil, Bool.and_true] using hb)
  rw [hp] at this; simpa [lkp, h1, h2, h3, h4, h5, bld] using this
end

/-! maps -/
/-- keys that are told apart by their own value -/
def plainKey : TypeDesc → Bool
  | .int _ => true
  | .string => true
  | _ => false
theorem checkKey_plain {b : Bool} {kt : TypeId} {dsc : TypeDesc} {k : Value} (h : P.underlying kt = some dsc) (hp : plainKey dsc = true) : (Instr.checkKey b 10000 kt k).run P w = .ok () w := by
  show (Instr.checkKey b (9999 + 1) kt k).run P w = _
  unfold Instr.checkKey
  rw [Sem.run_bind, run_underlying h]
  cases dsc <;> first | (cases hp; done) | (cases k <;> rfl)
def newKeyT (P : Program) (t : TypeId) (k : Value) (es : List MapEntry) : Bool := match P.underlying t with
  | some (.map kt _) => (match P.underlying kt with
    | some d => plainKey d && (match Instr.findNow d k es 0 with | some none => true | _ => false)
    | none => false)
  | _ => false
theorem S_makeMap (hS : St F w0 rs w) (hd : o.dst = some d) (ho : o.op = .makeMap t none)
    (k : ∀ b w', St F w0 (Res.obj b (.map #[] 0) :: rs) w' → WL P ops Q rest (l.upd d (.map (some b))) ds w') : SStep P ops Q rest o l ds w := by
  refine S_new (f := fun b => .map (some b)) hS hd ?_ k
  unfold execOp; rw [ho]
  refine run_v ?_
  rfl
theorem run_insert {b c : Nat} {es : List MapEntry} {k v : Value} (hh : w.heap[b]? = some (.map es.toArray c)) (hk : newKeyT P t k es = true) :
    (Instr.mapUpdate t (.map (some b)) k v).run P w = .ok () { w with heap := w.heap.setIfInBounds b (.map (es ++ [MapEntry.mk k v c]).toArray (c + 1)) } := by
  unfold newKeyT at hk
  cases hu : P.underlying t with
  | none => rw [hu] at hk; cases hk
  | some d =>
    cases d with
    | map kt et =>
      simp only [hu] at hk
      cases hu2 : P.underlying kt with
      | none => rw [hu2] at hk; cases hk
      | some d2 =>
        simp only [hu2, Bool.and_eq_true] at hk
        have hf : Instr.findNow d2 k es 0 = some none := by
          cases hq : Instr.findNow d2 k es 0 with
          | none => rw [hq] at hk; cases hk.2
          | some r => cases r with
            | none => rfl
            | some r => rw [hq] at hk; cases hk.2
        have hg : (getObj b).run P w = .ok (.map es.toArray c) w := by simp [getObj, Sem.run, hh]
        have hs : (setObj b (.map (es ++ [MapEntry.mk k v c]).toArray (c + 1))).run P w = .ok () { w with heap := w.heap.setIfInBounds b (.map (es ++ [MapEntry.mk k v c]).toArray (c + 1)) } := by
          have hb := (Array.getElem?_eq_some_iff.1 hh).1
          simp only [setObj, Sem.run, hh]
        have hfk : (Instr.findKey kt k es).run P w = .ok none w := by
          simp only [Instr.findKey, Sem.run_bind, run_underlying hu2, Result.andThen_ok, hf]; rfl
        simp only [Instr.mapUpdate, Sem.run_bind, run_underlying hu, Result.andThen_ok, hg, checkKey_plain hu2 hk.1, hfk]
        simpa using hs
    | _ => rw [hu] at hk; cases hk
theorem S_insert {b c : Nat} {es : List MapEntry} {k v : Value} (hS : St F w0 rs w) (hd : o.dst = none) (ho : o.op = .insert t x y z) (hx : lk l x = some (.map (some b))) (hy : lk l y = some k) (hz : lk l z = some v)
    (hu : Upd (Res.obj b (.map es.toArray c)) (Res.obj b (.map (es ++ [MapEntry.mk k v c]).toArray (c + 1))) rs rs') (hk : newKeyT P t k es = true)
    (kk : ∀ w', St F w0 rs' w' → WL P ops Q rest l ds w') : SStep P ops Q rest o l ds w := by
  have hh : w.heap[b]? = some (.map es.toArray c) := hS.get hu.mem
  refine S_sk hd (w' := { w with heap := w.heap.setIfInBounds b (.map (es ++ [MapEntry.mk k v c]).toArray (c + 1)) }) ?_ (kk _ (hS.upd hu rfl ⟨rfl, rfl, rfl, by simp, fun i hi hne => ?_⟩ ?_ fun _ h => .inl h))
  · unfold execOp; rw [ho]; simp only [lk_eval hx, lk_eval hy, lk_eval hz]
    exact run_u (run_insert hh hk)
  · show (w.heap.setIfInBounds b _)[i]? = _
    rw [Array.getElem?_setIfInBounds_ne fun h => hne (by rw [h]; rfl)]
  · show (w.heap.setIfInBounds b _)[b]? = _
    rw [Array.getElem?_setIfInBounds_self_of_lt (Array.getElem?_eq_some_iff.1 hh).1]
def lookT (P : Program) (t : TypeId) (k : Value) (es : List MapEntry) : Option Value := match P.underlying t with
  | some (.map kt et) => (match P.underlying kt with
    | some d => (bif plainKey d then (match Instr.findNow d k es 0 with
      | some (some (_, v)) => some v
      | some none => (match P.info? et with | some i => i.zero | none => none)
      | none => none) else none)
    | none => none)
  | _ => none
theorem run_lookup {b c : Nat} {es : List MapEntry} {k v : Value} (hh : w.heap[b]? = some (.map es.toArray c)) (hk : lookT P t k es = some v) : (Instr.lookup t (.map (some b)) k false).run P w = .ok v w := by
  unfold lookT at hk
  cases hu : P.underlying t with
  | none => rw [hu] at hk; cases hk
  | some d =>
    cases d with
    | map kt et =>
      simp only [hu] at hk
      cases hu2 : P.underlying kt with
      | none => rw [hu2] at hk; cases hk
      | some d2 =>
        simp only [hu2] at hk
        cases hp : plainKey d2 with
        | false => rw [hp] at hk; cases hk
        | true =>
          simp only [hp, cond_true] at hk
          have hg : (getObj b).run P w = .ok (.map es.toArray c) w := by simp [getObj, Sem.run, hh]
          cases hq : Instr.findNow d2 k es 0 with
          | none => rw [hq] at hk; cases hk
          | some r =>
            have hfk : (Instr.findKey kt k es).run P w = .ok r w := by
              simp only [Instr.findKey, Sem.run_bind, run_underlying hu2, Result.andThen_ok, hq]; rfl
            cases r with
            | some r =>
              obtain ⟨i, v'⟩ := r
              simp only [hq, Option.some.injEq] at hk
              subst hk
              simp only [Instr.lookup, Sem.run_bind, run_underlying hu, Result.andThen_ok, hg, Sem.run_pure, checkKey_plain hu2 hp, hfk]
              rfl
            | none =>
              simp only [hq] at hk
              cases hi : P.info? et with
              | none => rw [hi] at hk; cases hk
              | some j =>
                simp only [hi] at hk
                have hzv : (zeroValue et).run P w = .ok v w := by simp [zeroValue, typeInfo, go_sem, hi, hk]
                simp only [Instr.lookup, Sem.run_bind, run_underlying hu, Result.andThen_ok, hg, Sem.run_pure, checkKey_plain hu2 hp, hfk, hzv]
                rfl
    | _ => rw [hu] at hk; cases hk
theorem x_lookupAt {b c : Nat} {es : List MapEntry} {k v : Value} (hh : w.heap[b]? = some (.map es.toArray c)) (ho : o.op = .lookup t x y false) (hx : lk l x = some (.map (some b))) (hy : lk l y = some k) (hk : lookT P t k es = some v) : Ex P l ds o w v := by
  unfold Ex execOp; rw [ho]; simp only [lk_eval hx, lk_eval hy]
  exact run_v (run_lookup hh hk)
theorem x_lookup {b c : Nat} {es : List MapEntry} {k v : Value} (hS : St F w0 rs w) (hm : Res.obj b (.map es.toArray c) ∈ rs) (ho : o.op = .lookup t x y false) (hx : lk l x = some (.map (some b))) (hy : lk l y = some k) (hk : lookT P t k es = some v) : Ex P l ds o w v :=
  x_lookupAt (hS.get hm) ho hx hy hk

/-! panics -/
def ifaceT (P : Program) (t : TypeId) : Bool := match P.underlying t with | some (.interface _) => false | some _ => true | none => false
theorem x_iface {v : Value} (ho : o.op = .makeInterface t x) (ht : ifaceT P t = true) (hx : lk l x = some v) : Ex P l ds o w (.iface t v) := by
  unfold Ex execOp; rw [ho]; simp only [lk_eval hx]
  refine run_v ?_
  unfold ifaceT at ht
  cases hu : P.underlying t with
  | none => rw [hu] at ht; cases ht
  | some d => cases d <;> first | (rw [hu] at ht; cases ht; done) | simp [Instr.makeInterface, underlying, go_sem, hu]
theorem S_panic {v : Value} (ho : o.op = .panic x) (hx : lk l x = some (.iface t v)) (h : Q (.panic [{ v := .iface t v, recovered := false }]) ⟨l.arr, ds⟩ w) : SStep P ops Q rest o l ds w := by
  refine S_of ?_
  unfold Oper.wp
  have : (execOp (Act.mk l.arr ds).eval o).run P w = .halt (.panic (.iface t v)) w := by
    unfold execOp; rw [ho]; simp only [lk_eval hx]; rfl
  rw [this]
  exact h
/-- a call that panics -/
def CallsP (P : Program) (f : FuncId) (args : Array Value) (w : World) (E : List PanicEntry → World → Prop) : Prop := Calls P f args w fun e w' => ∃ c, e = .panicked c ∧ E c w'
theorem CallsP.mono {f : FuncId} {args : Array Value} {E E' : List PanicEntry → World → Prop} (h : CallsP P f args w E) (hr : ∀ v w', E v w' → E' v w') : CallsP P f args w E' :=
  Calls.mono h fun _ w' ⟨v, he, hv⟩ => ⟨v, he, hr v w' hv⟩
theorem enterP {f n : Nat} {fn : Func} {c : Code} {args us : List Value} {w : World} {E : List PanicEntry → World → Prop} (hf : P.funcs[f]? = some fn) (hb : fn.body = some c) (hn : fn.ntmps = n) (hl : List.replicate (n - args.length) undef = us)
    (h : c.wp P (bodyPost P fn fun e w' => ∃ c, e = .panicked c ∧ E c w') ⟨(Fm.base (args ++ us)).arr, []⟩ w) : CallsP P f args.toArray w E := by
  refine calls_of_wp hf hb ?_
  have : args.toArray ++ Array.replicate (fn.ntmps - args.toArray.size) undef = (Fm.base (args ++ us)).arr := by
    rw [← hl, hn]; simp [Fm.arr, Fm.toList]
  rw [this]
  exact h
theorem W_panic {fn : Func} {E : List PanicEntry → World → Prop} {c : List PanicEntry} (h : E c w) : bodyPost P fn (fun e w' => ∃ c, e = .panicked c ∧ E c w') (.panic c) ⟨l.arr, []⟩ w := ⟨rfl, _, rfl, h⟩
theorem SP_ {g : FuncId} {fs cs : Array Value} {f : Operand} {ar : Array Operand} {E : List PanicEntry → World → Prop} (hf : lk l f = some (.func (.func g) fs cs)) (hb : enterB P g = true) (hc : CallsP P g (fs.toList ++ lks l ar.toList ++ cs.toList).toArray w E)
    (k : ∀ c w', E c w' → Q (.panic c) ⟨l.arr, ds⟩ w') : SCall P ops Q rest o l ds w f ar := ⟨fun ⟨_, ho⟩ => S_of (by
  unfold Oper.wp
  rw [run_call ho hf hb]
  show Calls P g _ w _
  refine Calls.mono hc ?_
  rintro e w' ⟨v, rfl, hv⟩
  exact k v w' hv)⟩

/-! strings cut -/
theorem x_sliceSt {L : List UInt8} {k : IntKind} {i : Int} (ho : o.op = .slice t x (some y) none none) (ht : P.underlying t = some .string) (hx : lk l x = some (.string ⟨L.toArray⟩)) (hy : lk l y = some (.int k i)) (hi : 0 ≤ i ∧ i ≤ L.length) : Ex P l ds o w (.string ⟨(L.drop i.toNat).toArray⟩) := by
  unfold Ex execOp; rw [ho]; simp only [lk_eval hx, lk_eval hy, Option.map_some, Option.map_none]
  refine run_v ?_
  have hle : i ≤ ((ByteArray.mk L.toArray).size : Int) := by simpa [ByteArray.size] using hi.2
  have hb : (Instr.sliceBound (.int k i) (ByteArray.mk L.toArray).size .sliceB).run P w = .ok i.toNat w := by
    simp only [Instr.sliceBound, asIntOf, Sem.run_bind, Sem.run_pure, Result.andThen_ok, if_pos (And.intro hi.1 hle)]
  have he : (ByteArray.mk L.toArray).extract i.toNat (ByteArray.mk L.toArray).size = ⟨(L.drop i.toNat).toArray⟩ := by
    apply ByteArray.ext; simp [ByteArray.size]
    rw [List.take_of_length_le (by simp)]
  simp only [Instr.sliceAt, Instr.slice, Instr.sliceBounds, Sem.run_bind, run_underlying ht, Result.andThen_ok, Sem.run_pure, Option.isSome_none, Bool.false_eq_true, if_false, hb, he]
end
end Go.Proofs.Ytebdkmfgfjanoaa
/-
  Regions that draw their order and whose calls and allocations make memory, by a plan with branches that meet again behind the region. Nothing here names a function of the program.
-/
namespace Go.Proofs.Ytebdkmfgfjanoaa
open Go.RowKit

/-- an order for a region: what only reads is taken first; else one, or one of two, may come up -/
inductive Plan where
  | done
  | take (i : Nat) (p : Plan)
  | one (i : Nat) (p : Plan)
  | two (i j : Nat) (p q : Plan)
def Plan.len : Plan → Nat
  | .done => 0
  | .take _ p => p.len + 1
  | .one _ p => p.len + 1
  | .two _ _ p _ => p.len + 1
def planT (ops : Array Oper) : Plan → Array Bool → Bool
  | .done, listed => (Region.ready .any ops listed).isEmpty
  | .take i p, listed => (Region.free .any ops listed i && (Region.ready .any ops listed).contains i) && planT ops p (listed.setIfInBounds i true)
  | .one i p, listed => (Region.ready .any ops listed == [i]) && planT ops p (listed.setIfInBounds i true)
  | .two i j p q, listed => (Region.ready .any ops listed == [i, j]) && (p.len == q.len) && (planT ops p (listed.setIfInBounds i true) && planT ops q (listed.setIfInBounds j true))
structure WP (P : Program) (ops : Array Oper) (Q : Exit → Act → World → Prop) (S : World → Prop) (p : Plan) (l : Fm) (ds : List Deferred) (w : World) : Prop where
  run : ∀ listed, planT ops p listed = true → Region.noSelect ops = true → wpAnyH P .any ops Q S p.len listed ⟨l.arr, ds⟩ w
structure PT (P : Program) (ops : Array Oper) (Q : Exit → Act → World → Prop) (S : World → Prop) (p : Plan) (i : Nat) (o : Oper) (l : Fm) (ds : List Deferred) (w : World) : Prop where
  run : nthO ops.toList i = some o → WP P ops Q S (.take i p) l ds w
/-- what stands behind an operation that is carried out -/
def PQ (P : Program) (ops : Array Oper) (Q : Exit → Act → World → Prop) (S : World → Prop) (p : Plan) (listed : Array Bool) : Exit → Act → World → Prop
  | .normal, a, w => S w ∧ wpAnyH P .any ops Q S p.len listed a w
  | e, a, w => Q e a w
structure PF (P : Program) (ops : Array Oper) (Q : Exit → Act → World → Prop) (S : World → Prop) (p : Plan) (o : Oper) (l : Fm) (ds : List Deferred) (w : World) : Prop where
  run : ∀ listed, planT ops p listed = true → Region.noSelect ops = true → WL P ops (PQ P ops Q S p listed) [o] l ds w
section
variable {P : Program} {ops : Array Oper} {Q : Exit → Act → World → Prop} {S : World → Prop} {p q : Plan} {i j d : Nat} {o : Oper} {l : Fm} {ds : List Deferred} {w : World}
theorem P_t (hi : nthO ops.toList i = some o) (h : PT P ops Q S p i o l ds w) : WP P ops Q S (.take i p) l ds w := h.run hi
theorem PT_yes {v : Value} (hw : wantF ops l o = true) (hd : o.dst = some d) (hS : S w) (hQ : ∀ c a w, Q (.panic c) (a.put (some d) v) w → Q (.panic c) a w) (he : ∀ w, S w → Ex P l ds o w v) (k : WP P ops Q S p (l.upd d v) ds w) : PT P ops Q S p i o l ds w := ⟨fun hi => ⟨fun listed hp hs => by
  simp only [planT, Bool.and_eq_true] at hp
  refine wpAnyH_take (nthO_get hi) hs hp.1.1 hp.1.2 (by rw [hd]; exact hQ) (.inl ⟨wantF_eq.trans hw, fun w hS => he w hS⟩) hS ?_
  rw [hd, put_mk]
  exact k.run _ hp.2 hs⟩⟩
theorem PT_no (hw : wantF ops l o = false) (hd : o.dst = some d) (hS : S w) (hQ : ∀ c a w, Q (.panic c) (a.put (some d) undef) w → Q (.panic c) a w) (k : WP P ops Q S p (l.upd d undef) ds w) : PT P ops Q S p i o l ds w := ⟨fun hi => ⟨fun listed hp hs => by
  simp only [planT, Bool.and_eq_true] at hp
  refine wpAnyH_take (nthO_get hi) hs hp.1.1 hp.1.2 (by rw [hd]; exact hQ) (.inr ⟨wantF_eq.trans hw, rfl⟩) hS ?_
  rw [hd, put_mk]
  exact k.run _ hp.2 hs⟩⟩
theorem wp_PQ {listed : Array Bool} {a : Act} (h : o.wp P a w (wpList P ops (PQ P ops Q S p listed) []) (PQ P ops Q S p listed)) : o.wp P a w (fun a' w' => S w' ∧ wpAnyH P .any ops Q S p.len listed a' w') Q := by
  unfold Oper.wp at *
  generalize (execOp a.eval o).run P w = r at h ⊢
  cases r with
  | ok n w' =>
    cases n <;> simp only [Oper.upon] at h ⊢ <;> try exact h
  | halt x w' => cases x <;> simp only [Oper.upon] at h ⊢ <;> try exact h
theorem wpOp_PF (hi : nthO ops.toList i = some o) (h : PF P ops Q S p o l ds w) {listed : Array Bool} (hp : planT ops p listed = true) (hs : Region.noSelect ops = true) :
    wpOp P ops Q i (fun a' w' => S w' ∧ wpAnyH P .any ops Q S p.len listed a' w') ⟨l.arr, ds⟩ w := by
  have h1 := (h.run _ hp hs).out
  unfold wpOp
  rw [nthO_get hi]
  simp only
  unfold wpList at h1
  split
  · rename_i hw
    rw [if_pos hw] at h1
    rcases h1 with h1 | ⟨h1, h2⟩
    · exact .inl (wp_PQ h1)
    · exact .inr ⟨h1, by obtain ⟨a', w3, h3⟩ := h2; exact ⟨a', w3, h3⟩⟩
  · rename_i hw
    rw [if_neg hw] at h1
    exact h1
theorem P_one (hi : nthO ops.toList i = some o) (h : PF P ops Q S p o l ds w) : WP P ops Q S (.one i p) l ds w := ⟨fun listed hp hs => by
  simp only [planT, Bool.and_eq_true, beq_iff_eq] at hp
  refine wpAnyH_all hp.1 (by simp) fun k hk => ?_
  obtain rfl : k = i := by simpa using hk
  exact wpOp_PF hi h hp.2 hs⟩
theorem P_two {o' : Oper} (hi : nthO ops.toList i = some o) (hj : nthO ops.toList j = some o') (h : PF P ops Q S p o l ds w) (h' : PF P ops Q S q o' l ds w) : WP P ops Q S (.two i j p q) l ds w := ⟨fun listed hp hs => by
  simp only [planT, Bool.and_eq_true, beq_iff_eq] at hp
  refine wpAnyH_all hp.1.1 (by simp) fun k hk => ?_
  have hk : k = i ∨ k = j := by simpa using hk
  rcases hk with rfl | rfl
  · exact wpOp_PF hi h hp.2.1 hs
  · have := wpOp_PF hj h' hp.2.2 hs
    rw [← hp.1.2] at this
    exact this⟩
theorem PF_mk (h : ∀ Q', (∀ l' w', S w' → WP P ops Q S p l' ds w' → Q' .normal ⟨l'.arr, ds⟩ w') → (∀ c a w', Q (.panic c) a w' → Q' (.panic c) a w') → WL P ops Q' [o] l ds w) : PF P ops Q S p o l ds w :=
  ⟨fun listed hp hs => h _ (fun l' w' hS hk => ⟨hS, hk.run _ hp hs⟩) (fun _ _ _ h => h)⟩
theorem P_done (hS : Q .normal ⟨l.arr, ds⟩ w) : WP P ops Q S .done l ds w := ⟨fun listed hp _ => ⟨by simpa [planT] using hp, hS⟩⟩
section
variable {F : Nat → Prop} {w0 : World} {rs : List Res}
/-- the region's end: all branches come to one of these states -/
def Meet {α : Type} (F : Nat → Prop) (w0 : World) (post : α → Fm → Fm) (rs2 : α → List Res) (l : Fm) (ds : List Deferred) : Exit → Act → World → Prop :=
  fun e a w => e = .normal ∧ ∃ s, a = ⟨(post s l).arr, ds⟩ ∧ St F w0 (rs2 s) w
theorem W_plan {α : Type} {id : Nat} {l' : List Oper} (p : Plan) (post : α → Fm → Fm) (rs2 : α → List Res) (hS : St F w0 rs w) (hm : P.follows .mixedOrders = true)
    (hp : (planT l'.toArray p (Array.replicate l'.toArray.size false) && Region.noSelect l'.toArray && p.len == l'.toArray.size) = true)
    (k1 : ∀ w, St F w0 rs w → WP P l'.toArray (Meet F w0 post rs2 l ds) (St F w0 rs) p l ds w)
    (k2 : ∀ s w, St F w0 (rs2 s) w → Q .normal ⟨(post s l).arr, ds⟩ w) : (Code.region id l'.toArray true).wp P Q ⟨l.arr, ds⟩ w := by
  simp only [Bool.and_eq_true, beq_iff_eq] at hp
  refine wp_mono (Q := Meet F w0 post rs2 l ds) ?_ ?_
  · refine wp_region_held (S := St F w0 rs) hm ?_
    have := (k1 _ (hS.call (Fr.of ((Below.refl _ _).drew)))).run _ hp.1.1 hp.1.2
    rw [hp.2] at this
    exact this
  · rintro e a w' ⟨rfl, s, rfl, hs⟩
    exact k2 s w' hs
/-- without branches -/
theorem W_plan1 {id : Nat} {l' : List Oper} (p : Plan) (hS : St F w0 rs w) (hm : P.follows .mixedOrders = true)
    (hp : (planT l'.toArray p (Array.replicate l'.toArray.size false) && Region.noSelect l'.toArray && p.len == l'.toArray.size) = true)
    (k : ∀ w, St F w0 rs w → WP P l'.toArray Q (St F w0 rs) p l ds w) : (Code.region id l'.toArray true).wp P Q ⟨l.arr, ds⟩ w := by
  simp only [Bool.and_eq_true, beq_iff_eq] at hp
  refine wp_region_held (S := St F w0 rs) hm ?_
  have := (k _ (hS.call (Fr.of ((Below.refl _ _).drew)))).run _ hp.1.1 hp.1.2
  rw [hp.2] at this
  exact this
theorem St.freshObj {w' : World} {b : Nat} {ob : Obj} (h : St F w0 rs w) (hf : Fr Nof w w') (hh : w'.heap[b]? = some ob) (hb : w.heap.size ≤ b) : St F w0 (Res.obj b ob :: rs) w' :=
  h.fresh hf hh fun b' hb' => by cases hb'; exact hb
theorem St.objNew {b : Nat} {ob : Obj} (h : St Nof w0 rs w) (hm : Res.obj b ob ∈ rs) : w0.heap.size ≤ b ∧ w.heap[b]? = some ob :=
  ⟨(h.own _ hm rfl b rfl).elim (fun h => h.elim) id, h.get hm⟩
theorem P_meet {α : Type} {post : α → Fm → Fm} {rs2 : α → List Res} {l0 : Fm} (s : α) (hl : l.toList = (post s l0).toList) (hS : St F w0 (rs2 s) w) : Meet F w0 post rs2 l0 ds .normal ⟨l.arr, ds⟩ w :=
  ⟨rfl, s, by rw [Fm.arr, Fm.arr, hl], hS⟩
theorem meet_panic {α : Type} {post : α → Fm → Fm} {rs2 : α → List Res} {l0 : Fm} {v : Value} : ∀ c a w, Meet F w0 post rs2 l0 ds (.panic c) (a.put (some d) v) w → Meet F w0 post rs2 l0 ds (.panic c) a w := fun _ _ _ h => (by have h1 := h.1; cases h1)
end
end
end Go.Proofs.Ytebdkmfgfjanoaa
