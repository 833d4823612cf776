/-
  What an operation yields that leaves the world alone, one short law a kind; what is known of memory is found by instances. Nothing here names a function of the program.
-/
import Derived.Test.YtfdfnamkkepbiaaWalk9
namespace Go.Proofs.Ytfdfnamkkepbiaa
open Go.RowKit

/-! what is known of memory -/
class HasObj (rs : List Res) (b : Nat) (ob : outParam Obj) : Prop where
  mem : Res.obj b ob ∈ rs
instance (priority := high) hasObjH {b : Nat} {ob : Obj} {rs : List Res} : HasObj (Res.obj b ob :: rs) b ob := ⟨List.mem_cons_self ..⟩
instance hasObjT {b : Nat} {ob : Obj} {r : Res} {rs : List Res} [h : HasObj rs b ob] : HasObj (r :: rs) b ob := ⟨List.mem_cons_of_mem _ h.mem⟩
class PutObj (rs : List Res) (b : Nat) (ob ob' : Obj) (rs' : outParam (List Res)) : Prop where
  upd : Upd (Res.obj b ob) (Res.obj b ob') rs rs'
instance (priority := high) putObjH {b : Nat} {ob ob' : Obj} {rs : List Res} : PutObj (Res.obj b ob :: rs) b ob ob' (Res.obj b ob' :: rs) := ⟨.here⟩
instance putObjT {b : Nat} {ob ob' : Obj} {r : Res} {rs rs' : List Res} [h : PutObj rs b ob ob' rs'] : PutObj (r :: rs) b ob ob' (r :: rs') := ⟨.there h.upd⟩
/-- a slice that can be read -/
class HasSl (rs : List Res) (A : Option Addr) (n : outParam Nat) (size : outParam Nat) (xs : outParam (List Value)) : Prop where
  rd : ∀ {F : Nat → Prop} {w0 w : World}, St F w0 rs w → Rd w size A n xs
instance (priority := high) hasSlH {A : Option Addr} {n size : Nat} {xs : List Value} {rs : List Res} : HasSl (Res.rd size A n xs :: rs) A n size xs := ⟨fun h => h.get (r := Res.rd size A n xs) (List.mem_cons_self ..)⟩
instance (priority := high) hasSlR {A : Option Addr} {n c size : Nat} {e : TypeId} {xs : List Value} {rs : List Res} : HasSl (Res.row e size (.slice A n c) n xs :: rs) A n size xs := ⟨fun h => h.rowAt (List.mem_cons_self ..)⟩
instance hasSlT {A : Option Addr} {n size : Nat} {xs : List Value} {r : Res} {rs : List Res} [h : HasSl rs A n size xs] : HasSl (r :: rs) A n size xs := ⟨fun hS => h.rd hS.drop⟩
/-- a slice of one's own -/
class HasRow (rs : List Res) (e : TypeId) (v : Value) (size n : outParam Nat) (xs : outParam (List Value)) : Prop where
  mem : Res.row e size v n xs ∈ rs
instance (priority := high) hasRowH {e : TypeId} {v : Value} {size n : Nat} {xs : List Value} {rs : List Res} : HasRow (Res.row e size v n xs :: rs) e v size n xs := ⟨List.mem_cons_self ..⟩
instance hasRowT {e : TypeId} {v : Value} {size n : Nat} {xs : List Value} {r : Res} {rs : List Res} [h : HasRow rs e v size n xs] : HasRow (r :: rs) e v size n xs := ⟨List.mem_cons_of_mem _ h.mem⟩
class PutRow (rs : List Res) (e : TypeId) (v : Value) (size n : Nat) (xs : List Value) (mk : outParam (Value → Nat → List Value → List Res)) : Prop where
  upd : ∀ v' n' xs', Upd (Res.row e size v n xs) (Res.row e size v' n' xs') rs (mk v' n' xs')
instance (priority := high) putRowH {e : TypeId} {v : Value} {size n : Nat} {xs : List Value} {rs : List Res} : PutRow (Res.row e size v n xs :: rs) e v size n xs (fun v' n' xs' => Res.row e size v' n' xs' :: rs) := ⟨fun _ _ _ => .here⟩
instance putRowT {e : TypeId} {v : Value} {size n : Nat} {xs : List Value} {r : Res} {rs : List Res} {mk : Value → Nat → List Value → List Res} [h : PutRow rs e v size n xs mk] : PutRow (r :: rs) e v size n xs (fun v' n' xs' => r :: mk v' n' xs') := ⟨fun _ _ _ => .there (h.upd _ _ _)⟩
/-- pointers, by their form -/
class IsCell (v : Value) (b off : outParam Nat) : Prop where
  eq : v = .pointer (some ⟨b, off, none⟩)
instance isCell {b off : Nat} : IsCell (.pointer (some ⟨b, off, none⟩)) b off := ⟨rfl⟩
class IsEl (v : Value) (A : outParam (Option Addr)) (j : outParam Nat) : Prop where
  eq : v = .pointer (some ((adr A).add j))
instance isEl {A : Option Addr} {j : Nat} : IsEl (.pointer (some ((adr A).add j))) A j := ⟨rfl⟩

/-! pure operations -/
def lksO (l : Fm) : List Operand → Option (List Value)
  | [] => some []
  | x :: xs => match lk l x, lksO l xs with
    | some u, some us => some (u :: us)
    | _, _ => none
theorem lksO_eq {l : Fm} : ∀ {xs : List Operand} {us : List Value}, lksO l xs = some us → lks l xs = us
  | [], us, h => by simpa [lksO, lks] using h
  | x :: xs, us, h => by
    unfold lksO at h
    cases hx : lk l x with
    | none => simp [hx] at h
    | some u =>
      cases hxs : lksO l xs with
      | none => simp [hx, hxs] at h
      | some us' =>
        simp only [hx, hxs, Option.some.injEq] at h
        subst h
        simp [lks, hx, lksO_eq hxs]
def bldO (l : Fm) (m : Nat) (zs : List Value) : List (Nat × Operand) → Option (List Value)
  | [] => some zs
  | (i, x) :: ps => match lk l x with
    | some u => bif decide (i < zs.length) && decide (i < m) && u.oneCell' then bldO l m (zs.set i u) ps else none
    | none => none
theorem bldO_eq {l : Fm} {m : Nat} : ∀ {ps : List (Nat × Operand)} {zs us : List Value}, bldO l m zs ps = some us → bld zs (lkp l ps) = us ∧ ((lkp l ps).all fun p => decide (p.1 < zs.length) && decide (p.1 < m) && p.2.oneCell') = true
  | [], zs, us, h => by simpa [bldO, bld, lkp] using h
  | (i, x) :: ps, zs, us, h => by
    unfold bldO at h
    cases hx : lk l x with
    | none => simp [hx] at h
    | some u =>
      simp only [hx] at h
      cases hb : (decide (i < zs.length) && decide (i < m) && u.oneCell') with
      | false => rw [hb] at h; cases h
      | true =>
        rw [hb] at h
        have := bldO_eq (ps := ps) h
        refine ⟨by simp [lkp, bld, hx, this.1], ?_⟩
        simp only [lkp, hx, Option.getD_some, List.all_cons, hb, Bool.true_and]
        simpa using this.2
def structT (P : Program) (t : TypeId) : Option (Array Field) := match P.underlying t with | some (.struct fs) => some fs | _ => none
def pFieldO (P : Program) (t : TypeId) (i : Nat) (cs : List Value) : Option Value := match structT P t with
  | some fs => (match fs.toList[i]? with
    | some f => bif flatT P f.type then nth cs f.offset else none
    | none => none)
  | none => none
def sliceTy (P : Program) (t : TypeId) : Bool := match P.underlying t with | some (.slice _) => true | _ => false
def stringTy (P : Program) (t : TypeId) : Bool := match P.underlying t with | some .string => true | _ => false
def boolTy (P : Program) (t : TypeId) : Bool := match P.underlying t with | some .bool => true | _ => false
def pure1 (P : Program) (l : Fm) (op : Op) : Option Value := match op with
  | .move x => lk l x
  | .assign x => lk l x
  | .pick x y z => (match lk l x with
    | some (.bool b) => (match b with | true => lk l y | false => lk l z)
    | _ => none)
  | .unOp uo _ x => (match uo, lk l x with
    | .not, some (.bool b) => some (.bool (!b))
    | _, _ => none)
  | .extract x i => (match lk l x with | some (.tuple vs) => nth vs.toList i | _ => none)
  | .field t x i => (match lk l x with | some (.agg cs) => pFieldO P t i cs.toList | _ => none)
  | .nilCheck x => (match lk l x with
    | some (.pointer (some a)) => some (.pointer (some a))
    | some (.func (.func f) a b) => some (.func (.func f) a b)
    | _ => none)
  | .makeFunc fn first captured => (match lksO l first.toList, lksO l captured.toList with
    | some a, some b => some (.func fn a.toArray b.toArray)
    | _, _ => none)
  | .makeInterface t x => bif ifaceT P t then (match lk l x with | some v => some (.iface t v) | none => none) else none
  | .build t ps => (match structT P t, zeroT P t with
    | some fs, some zs => bif plainStruct P fs.toList then (match bldO l fs.toList.length zs.toList ps.toList with
      | some us => some (.agg us.toArray)
      | none => none) else none
    | _, _ => none)
  | _ => none
section
variable {P : Program} {o : Oper} {l : Fm} {ds : List Deferred} {w : World}
theorem pure1_ex {v : Value} (h : pure1 P l o.op = some v) : Ex P l ds o w v := by
  obtain ⟨dst, op, type, pos, after, guard⟩ := o
  cases op with
  | move x => exact x_move rfl h
  | assign x => exact x_assign rfl h
  | pick x y z =>
    simp only [pure1] at h
    cases hx : lk l x with
    | none => simp [hx] at h
    | some u =>
      cases u with
      | bool b =>
        cases b
        · exact x_pick_f rfl hx (by simpa [hx] using h)
        · exact x_pick_t rfl hx (by simpa [hx] using h)
      | _ => simp [hx] at h
  | unOp uo t x =>
    simp only [pure1] at h
    cases uo <;> cases hx : lk l x with
    | none => simp [hx] at h
    | some u =>
      cases u with
      | bool b => first | (simp [hx] at h; done) | (simp only [hx, Option.some.injEq] at h; subst h; exact x_not rfl hx)
      | _ => simp [hx] at h
  | extract x i =>
    simp only [pure1] at h
    cases hx : lk l x with
    | none => simp [hx] at h
    | some u =>
      cases u with
      | tuple vs => exact x_extract rfl hx (by simpa [hx] using h)
      | _ => simp [hx] at h
  | field t x i =>
    simp only [pure1] at h
    cases hx : lk l x with
    | none => simp [hx] at h
    | some u =>
      cases u with
      | agg cs =>
        simp only [hx, pFieldO] at h
        cases hu : structT P t with
        | none => simp [hu] at h
        | some fs =>
          simp only [hu] at h
          cases hf : fs.toList[i]? with
          | none => simp [hf] at h
          | some f =>
            simp only [hf] at h
            cases hft : flatT P f.type with
            | false => simp [hft] at h
            | true =>
              simp only [hft, cond_true] at h
              unfold structT at hu
              refine x_field rfl (fs := fs) ?_ hf hft hx h
              cases hq : P.underlying t with
              | none => simp [hq] at hu
              | some d => cases d <;> first | (simp [hq] at hu; done) | (simp only [hq, Option.some.injEq] at hu; rw [hu])
      | _ => simp [hx] at h
  | nilCheck x =>
    simp only [pure1] at h
    cases hx : lk l x with
    | none => simp [hx] at h
    | some u =>
      cases u with
      | pointer a =>
        cases a with
        | none => simp [hx] at h
        | some a => simp only [hx, Option.some.injEq] at h; subst h; exact x_nilCheck rfl hx
      | func fn a b =>
        cases fn <;> first | (simp [hx] at h; done) | (simp only [hx, Option.some.injEq] at h; subst h; exact x_nilCheckF rfl hx)
      | _ => simp [hx] at h
  | makeFunc fn first captured =>
    simp only [pure1] at h
    cases h1 : lksO l first.toList with
    | none => simp [h1] at h
    | some a =>
      cases h2 : lksO l captured.toList with
      | none => simp [h1, h2] at h
      | some b =>
        simp only [h1, h2, Option.some.injEq] at h
        subst h
        rw [← lksO_eq h1, ← lksO_eq h2]
        exact x_mkFunc rfl
  | makeInterface t x =>
    simp only [pure1] at h
    cases ht : ifaceT P t with
    | false => simp [ht] at h
    | true =>
      simp only [ht, cond_true] at h
      cases hx : lk l x with
      | none => simp [hx] at h
      | some u => simp only [hx, Option.some.injEq] at h; subst h; exact x_iface rfl ht hx
  | build t ps =>
    simp only [pure1] at h
    cases hu : structT P t with
    | none => simp [hu] at h
    | some fs =>
      cases hz : zeroT P t with
      | none => simp [hu, hz] at h
      | some zs =>
        simp only [hu, hz] at h
        cases hp : plainStruct P fs.toList with
        | false => simp [hp] at h
        | true =>
          simp only [hp, cond_true] at h
          cases hb : bldO l fs.toList.length zs.toList ps.toList with
          | none => rw [hb] at h; cases h
          | some us =>
            simp only [hb, Option.some.injEq] at h
            subst h
            obtain ⟨h1, h2⟩ := bldO_eq hb
            rw [← h1]
            refine x_build rfl (fs := fs) ?_ hp (by simpa using hz) h2
            unfold structT at hu
            cases hq : P.underlying t with
            | none => simp [hq] at hu
            | some d => cases d <;> first | (simp [hq] at hu; done) | (simp only [hq, Option.some.injEq] at hu; rw [hu])
  | _ => simp [pure1] at h
end
/-- the operation yields v in every world of which this is known -/
structure Yl (P : Program) (rs : List Res) (l : Fm) (o : Oper) (v : Value) : Prop where
  run : ∀ {F : Nat → Prop} {w0 w : World} {ds : List Deferred}, St F w0 rs w → Ex P l ds o w v
section
variable {P : Program} {rs : List Res} {o : Oper} {l : Fm} {x y z : Operand} {t t' : TypeId} {k k' : IntKind} {m n : Int} {v : Value}
theorem Yp (h : pure1 P l o.op = some v := by rfl) : Yl P rs l o v := ⟨fun _ => pure1_ex h⟩
/-- comparisons -/
structure Cm where
  p : Prop
  dec : Decidable p
def cmpO (op : BinOp) (m n : Int) : Option Cm := match op with
  | .eql => some ⟨m = n, inferInstance⟩
  | .neq => some ⟨m ≠ n, inferInstance⟩
  | .lss => some ⟨m < n, inferInstance⟩
  | .leq => some ⟨m ≤ n, inferInstance⟩
  | .gtr => some ⟨n < m, inferInstance⟩
  | .geq => some ⟨n ≤ m, inferInstance⟩
  | _ => none
def cmp1 (l : Fm) (op : Op) : Option Cm := match op with
  | .binOp bo _ x y _ => (match lk l x, lk l y with
    | some (.int k m), some (.int k' n) => bif decide (k = k') then cmpO bo m n else none
    | _, _ => none)
  | _ => none
theorem cmp1_ex {c : Cm} {ds : List Deferred} {w : World} (h : cmp1 l o.op = some c) : Ex P l ds o w (.bool (@decide c.p c.dec)) := by
  obtain ⟨dst, op, type, pos, after, guard⟩ := o
  cases op with
  | binOp bo t x y t' =>
    simp only [cmp1] at h
    cases hx : lk l x with
    | none => simp [hx] at h
    | some u =>
      cases u with
      | int k m =>
        cases hy : lk l y with
        | none => simp [hx, hy] at h
        | some u2 =>
          cases u2 with
          | int k' n =>
            simp only [hx, hy] at h
            cases hk : decide (k = k') with
            | false => rw [hk] at h; cases h
            | true =>
              obtain rfl : k = k' := of_decide_eq_true hk
              rw [hk] at h
              refine x_bins (k := k) (m := m) (n := n) rfl hx hy ?_
              cases bo <;> simp only [cmpO, cond_true, Option.some.injEq] at h <;> first | (cases h; done) | skip
              all_goals subst h
              · exact B_eq
              · exact B_ne
              · exact B_lt
              · exact B_le
              · exact B_gt
              · exact B_ge
          | _ => simp [hx, hy] at h
      | _ => simp [hx] at h
  | _ => simp [cmp1] at h
theorem Yt {p : Prop} {dec : Decidable p} (h : cmp1 l o.op = some ⟨p, dec⟩ := by rfl) (hp : p := by omega) : Yl P rs l o (.bool true) := ⟨fun {_ _ w ds} _ => by
  have := cmp1_ex (P := P) (ds := ds) (w := w) h; rwa [show @decide p dec = true from decide_eq_true hp] at this⟩
theorem Yf {p : Prop} {dec : Decidable p} (h : cmp1 l o.op = some ⟨p, dec⟩ := by rfl) (hp : ¬ p := by omega) : Yl P rs l o (.bool false) := ⟨fun {_ _ w ds} _ => by
  have := cmp1_ex (P := P) (ds := ds) (w := w) h; rwa [show @decide p dec = false from decide_eq_false hp] at this⟩
theorem Yu {p : Prop} {dec : Decidable p} (h : cmp1 l o.op = some ⟨p, dec⟩ := by rfl) : Yl P rs l o (.bool (@decide p dec)) := ⟨fun _ => cmp1_ex h⟩
end
end Go.Proofs.Ytfdfnamkkepbiaa
