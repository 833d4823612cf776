/-
  What an operation yields that leaves the world alone, one short law a kind; what is known of memory is found by instances. Nothing here names a function of the program.
-/
import Derived.Test.YtebdkmfgfjanoaaEC
namespace Go.Proofs.Ytebdkmfgfjanoaa
open Go.RowKit

/-! what is known of memory -/
class HasObj (rs : List Res) (b : Nat) (ob : outParam Obj) : Prop where
  mem : Res.obj b ob ∈ rs
instance (priority := high) hasObjH {b : Nat} {ob : Obj} {rs : List Res} : HasObj (Res.obj b ob :: rs) b ob := ⟨List.mem_cons_self ..⟩
instance hasObjT {b : Nat} {ob : Obj} {r : Res} {rs : List Res} [h : HasObj rs b ob] : HasObj (r :: rs) b ob := ⟨List.mem_cons_of_mem _ h.mem⟩
class PutObj (rs : List Res) (b : Nat) (ob ob' : Obj) (rs' : outParam (List Res)) : Prop where
  upd : Upd (Res.obj b ob) (Res.obj b ob') rs rs'
instance (priority := high) putObjH {b : Nat} {ob ob' : Obj} {rs : List Res} : PutObj (Res.obj b ob :: rs) b ob ob' (Res.obj b ob' :: rs) := ⟨.here⟩
instance putObjT {b : Nat} {ob ob' : Obj} {r : Res} {rs rs' : List Res} [h : PutObj rs b ob ob' rs'] : PutObj (r :: rs) b ob ob' (r :: rs') := ⟨.there h.upd⟩
/-- a slice that can be read -/
class HasSl (rs : List Res) (A : Option Addr) (n : outParam Nat) (size : outParam Nat) (xs : outParam (List Value)) : Prop where
  rd : ∀ {F : Nat → Prop} {w0 w : World}, St F w0 rs w → Rd w size A n xs
instance (priority := high) hasSlH {A : Option Addr} {n size : Nat} {xs : List Value} {rs : List Res} : HasSl (Res.rd size A n xs :: rs) A n size xs := ⟨fun h => h.get (r := Res.rd size A n xs) (List.mem_cons_self ..)⟩
instance (priority := high) hasSlR {A : Option Addr} {n c size : Nat} {e : TypeId} {xs : List Value} {rs : List Res} : HasSl (Res.row e size (.slice A n c) n xs :: rs) A n size xs := ⟨fun h => h.rowAt (List.mem_cons_self ..)⟩
instance hasSlT {A : Option Addr} {n size : Nat} {xs : List Value} {r : Res} {rs : List Res} [h : HasSl rs A n size xs] : HasSl (r :: rs) A n size xs := ⟨fun hS => h.rd hS.drop⟩
/-- a slice of one's own -/
class HasRow (rs : List Res) (e : TypeId) (v : Value) (size n : outParam Nat) (xs : outParam (List Value)) : Prop where
  mem : Res.row e size v n xs ∈ rs
instance (priority := high) hasRowH {e : TypeId} {v : Value} {size n : Nat} {xs : List Value} {rs : List Res} : HasRow (Res.row e size v n xs :: rs) e v size n xs := ⟨List.mem_cons_self ..⟩
instance hasRowT {e : TypeId} {v : Value} {size n : Nat} {xs : List Value} {r : Res} {rs : List Res} [h : HasRow rs e v size n xs] : HasRow (r :: rs) e v size n xs := ⟨List.mem_cons_of_mem _ h.mem⟩
class PutRow (rs : List Res) (e : TypeId) (v : Value) (size n : Nat) (xs : List Value) (mk : outParam (Value → Nat → List Value → List Res)) : Prop where
  upd : ∀ v' n' xs', Upd (Res.row e size v n xs) (Res.row e size v' n' xs') rs (mk v' n' xs')
instance (priority := high) putRowH {e : TypeId} {v : Value} {size n : Nat} {xs : List Value} {rs : List Res} : PutRow (Res.row e size v n xs :: rs) e v size n xs (fun v' n' xs' => Res.row e size v' n' xs' :: rs) := ⟨fun _ _ _ => .here⟩
instance putRowT {e : TypeId} {v : Value} {size n : Nat} {xs : List Value} {r : Res} {rs : List Res} {mk : Value → Nat → List Value → List Res} [h : PutRow rs e v size n xs mk] : PutRow (r :: rs) e v size n xs (fun v' n' xs' => r :: mk v' n' xs') := ⟨fun _ _ _ => .there (h.upd _ _ _)⟩
/-- pointers, by their form -/
class IsCell (v : Value) (b off : outParam Nat) : Prop where
  eq : v = .pointer (some ⟨b, off, none⟩)
instance isCell {b off : Nat} : IsCell (.pointer (some ⟨b, off, none⟩)) b off := ⟨rfl⟩
class IsEl (v : Value) (A : outParam (Option Addr)) (j : outParam Nat) : Prop where
  eq : v = .pointer (some ((adr A).add j))
instance isEl {A : Option Addr} {j : Nat} : IsEl (.pointer (some ((adr A).add j))) A j := ⟨rfl⟩

/-! pure operations -/
def lksO (l : Fm) : List Operand → Option (List Value)
  | [] => some []
  | x :: xs => match lk l x, lksO l xs with
    | some u, some us => some (u :: us)
    | _, _ => none
theorem lksO_eq {l : Fm} : ∀ {xs : List Operand} {us : List Value}, lksO l xs = some us → lks l xs = us
  | [], us, h => by simpa [lksO, lks] using h
  | x :: xs, us, h => by
    unfold lksO at h
    cases hx : lk l x with
    | none => simp [hx] at h
    | some u =>
      cases hxs : lksO l xs with
      | none => simp [hx, hxs] at h
      | some us' =>
        simp only [hx, hxs, Option.some.injEq] at h
        subst h
        simp [lks, hx, lksO_eq hxs]
def bldO (l : Fm) (m : Nat) (zs : List Value) : List (Nat × Operand) → Option (List Value)
  | [] => some zs
  | (i, x) :: ps => match lk l x with
    | some u => bif decide (i < zs.length) && decide (i < m) && u.oneCell' then bldO l m (zs.set i u) ps else none
    | none => none
theorem bldO_eq {l : Fm} {m : Nat} : ∀ {ps : List (Nat × Operand)} {zs us : List Value}, bldO l m zs ps = some us → bld zs (lkp l ps) = us ∧ ((lkp l ps).all fun p => decide (p.1 < zs.length) && decide (p.1 < m) && p.2.oneCell') = true
  | [], zs, us, h => by simpa [bldO, bld, lkp] using h
  | (i, x) :: ps, zs, us, h => by
    unfold bldO at h
    cases hx : lk l x with
    | none => simp [hx] at h
    | some u =>
      simp only [hx] at h
      cases hb : (decide (i < zs.length) && decide (i < m) && u.oneCell') with
      | false => rw [hb] at h; cases h
      | true =>
        rw [hb] at h
        have := bldO_eq (ps := ps) h
        refine ⟨by simp [lkp, bld, hx, this.1], ?_⟩
        simp only [lkp, hx, Option.getD_some, List.all_cons, hb, Bool.true_and]
        simpa using this.2
def structT (P : Program) (t : TypeId) : Option (Array Field) := match P.underlying t with | some (.struct fs) => some fs | _ => none
def pFieldO (P : Program) (t : TypeId) (i : Nat) (cs : List Value) : Option Value := match structT P t with
  | some fs => (match fs.toList[i]? with
    | some f => bif flatT P f.type then nth cs f.offset else none
    | none => none)
  | none => none
def sliceTy (P : Program) (t : TypeId) : Bool := match P.underlying t with | some (.slice _) => true | _ => false
def stringTy (P : Program) (t : TypeId) : Bool := match P.underlying t with | some .string => true | _ => false
def boolTy (P : Program) (t : TypeId) : Bool := match P.underlying t with | some .bool => true | _ => false
def pure1 (P : Program) (l : Fm) (op : Op) : Option Value := match op with
  | .move x => lk l x
  | .assign x => lk l x
  | .pick x y z => (match lk l x with
    | some (.bool b) => (match b with | true => lk l y | false => lk l z)
    | _ => none)
  | .unOp uo _ x => (match uo, lk l x with
    | .not, some (.bool b) => some (.bool (!b))
    | _, _ => none)
  | .extract x i => (match lk l x with | some (.tuple vs) => nth vs.toList i | _ => none)
  | .field t x i => (match lk l x with | some (.agg cs) => pFieldO P t i cs.toList | _ => none)
  | .nilCheck x => (match lk l x with
    | some (.pointer (some a)) => some (.pointer (some a))
    | some (.func (.func f) a b) => some (.func (.func f) a b)
    | _ => none)
  | .makeFunc fn first captured => (match lksO l first.toList, lksO l captured.toList with
    | some a, some b => some (.func fn a.toArray b.toArray)
    | _, _ => none)
  | .makeInterface t x => bif ifaceT P t then (match lk l x with | some v => some (.iface t v) | none => none) else none
  | .build t ps => (match structT P t, zeroT P t with
    | some fs, some zs => bif plainStruct P fs.toList then (match bldO l fs.toList.length zs.toList ps.toList with
      | some us => some (.agg us.toArray)
      | none => none) else none
    | _, _ => none)
  | _ => none
section
variable {P : Program} {o : Oper} {l : Fm} {ds : List Deferred} {w : World}
theorem pure1_ex {v : Value} (h : pure1 P l o.op = some v) : Ex P l ds o w v := by
  obtain ⟨dst, op, type, pos, after, guard⟩ := o
  cases op with
  | move x => exact x_move rfl h
  | assign x => exact x_assign rfl h
  | pick x y z =>
    simp only [pure1] at h
    cases hx : lk l x with
    | none => simp [hx] at h
    | some u =>
      cases u with
      | bool b =>
        cases b
        · exact x_pick_f rfl hx (by simpa [hx] using h)
        · exact x_pick_t rfl hx (by simpa [hx] using h)
      | _ => simp [hx] at h
  | unOp uo t x =>
    simp only [pure1] at h
    cases uo <;> cases hx : lk l x with
    | none => simp [hx] at h
    | some u =>
      cases u with
      | bool b => first | (simp [hx] at h; done) | (simp only [hx, Option.some.injEq] at h; subst h; exact x_not rfl hx)
      | _ => simp [hx] at h
  | extract x i =>
    simp only [pure1] at h
    cases hx : lk l x with
    | none => simp [hx] at h
    | some u =>
      cases u with
      | tuple vs => exact x_extract rfl hx (by simpa [hx] using h)
      | _ => simp [hx] at h
  | field t x i =>
    simp only [pure1] at h
    cases hx : lk l x with
    | none => simp [hx] at h
    | some u =>
      cases u with
      | agg cs =>
        simp only [hx, pFieldO] at h
        cases hu : structT P t with
        | none => simp [hu] at h
        | some fs =>
          simp only [hu] at h
          cases hf : fs.toList[i]? with
          | none => simp [hf] at h
          | some f =>
            simp only [hf] at h
            cases hft : flatT P f.type with
            | false => simp [hft] at h
            | true =>
              simp only [hft, cond_true] at h
              unfold structT at hu
              refine x_field rfl (fs := fs) ?_ hf hft hx h
              cases hq : P.underlying t with
              | none => simp [hq] at hu
              | some d => cases d <;> first | (simp [hq] at hu; done) | (simp only [hq, Option.some.injEq] at hu; rw [hu])
      | _ => simp [hx] at h
  | nilCheck x =>
    simp only [pure1] at h
    cases hx : lk l x with
    | none => simp [hx] at h
    | some u =>
      cases u with
      | pointer a =>
        cases a with
        | none => simp [hx] at h
        | some a => simp only [hx, Option.some.injEq] at h; subst h; exact x_nilCheck rfl hx
      | func fn a b =>
        cases fn <;> first | (simp [hx] at h; done) | (simp only [hx, Option.some.injEq] at h; subst h; exact x_nilCheckF rfl hx)
      | _ => simp [hx] at h
  | makeFunc fn first captured =>
    simp only [pure1] at h
    cases h1 : lksO l first.toList with
    | none => simp [h1] at h
    | some a =>
      cases h2 : lksO l captured.toList with
      | none => simp [h1, h2] at h
      | some b =>
        simp only [h1, h2, Option.some.injEq] at h
        subst h
        rw [← lksO_eq h1, ← lksO_eq h2]
        exact x_mkFunc rfl
  | makeInterface t x =>
    simp only [pure1] at h
    cases ht : ifaceT P t with
    | false => simp [ht] at h
    | true =>
      simp only [ht, cond_true] at h
      cases hx : lk l x with
      | none => simp [hx] at h
      | some u => simp only [hx, Option.some.injEq] at h; subst h; exact x_iface rfl ht hx
  | build t ps =>
    simp only [pure1] at h
    cases hu : structT P t with
    | none => simp [hu] at h
    | some fs =>
      cases hz : zeroT P t with
      | none => simp [hu, hz] at h
      | some zs =>
        simp only [hu, hz] at h
        cases hp : plainStruct P fs.toList with
        | false => simp [hp] at h
        | true =>
          simp only [hp, cond_true] at h
          cases hb : bldO l fs.toList.length zs.toList ps.toList with
          | none => rw [hb] at h; cases h
          | some us =>
            simp only [hb, Option.some.injEq] at h
            subst h
            obtain ⟨h1, h2⟩ := bldO_eq hb
            rw [← h1]
            refine x_build rfl (fs := fs) ?_ hp (by simpa using hz) h2
            unfold structT at hu
            cases hq : P.underlying t with
            | none => simp [hq] at hu
            | some d => cases d <;> first | (simp [hq] at hu; done) | (simp only [hq, Option.some.injEq] at hu; rw [hu])
  | _ => simp [pure1] at h
end
/-- the operation yields v in every world of which this is known -/
structure Yl (P : Program) (rs : List Res) (l : Fm) (o : Oper) (v : Value) : Prop where
  run : ∀ {F : Nat → Prop} {w0 w : World} {ds : List Deferred}, St F w0 rs w → Ex P l ds o w v
section
variable {P : Program} {rs : List Res} {o : Oper} {l : Fm} {x y z : Operand} {t t' : TypeId} {k k' : IntKind} {m n : Int} {v : Value}
theorem Yp (h : pure1 P l o.op = some v := by rfl) : Yl P rs l o v := ⟨fun _ => pure1_ex h⟩
/-- comparisons -/
structure Cm where
  p : Prop
  dec : Decidable p
def cmpO (op : BinOp) (m n : Int) : Option Cm := match op with
  | .eql => some ⟨m = n, inferInstance⟩
  | .neq => some ⟨m ≠ n, inferInstance⟩
  | .lss => some ⟨m < n, inferInstance⟩
  | .leq => some ⟨m ≤ n, inferInstance⟩
  | .gtr => some ⟨n < m, inferInstance⟩
  | .geq => some ⟨n ≤ m, inferInstance⟩
  | _ => none
def cmp1 (l : Fm) (op : Op) : Option Cm := match op with
  | .binOp bo _ x y _ => (match lk l x, lk l y with
    | some (.int k m), some (.int k' n) => bif decide (k = k') then cmpO bo m n else none
    | _, _ => none)
  | _ => none
theorem cmp1_ex {c : Cm} {ds : List Deferred} {w : World} (h : cmp1 l o.op = some c) : Ex P l ds o w (.bool (@decide c.p c.dec)) := by
  obtain ⟨dst, op, type, pos, after, guard⟩ := o
  cases op with
  | binOp bo t x y t' =>
    simp only [cmp1] at h
    cases hx : lk l x with
    | none => simp [hx] at h
    | some u =>
      cases u with
      | int k m =>
        cases hy : lk l y with
        | none => simp [hx, hy] at h
        | some u2 =>
          cases u2 with
          | int k' n =>
            simp only [hx, hy] at h
            cases hk : decide (k = k') with
            | false => rw [hk] at h; cases h
            | true =>
              obtain rfl : k = k' := of_decide_eq_true hk
              rw [hk] at h
              refine x_bins (k := k) (m := m) (n := n) rfl hx hy ?_
              cases bo <;> simp only [cmpO, cond_true, Option.some.injEq] at h <;> first | (cases h; done) | skip
              all_goals subst h
              · exact B_eq
              · exact B_ne
              · exact B_lt
              · exact B_le
              · exact B_gt
              · exact B_ge
          | _ => simp [hx, hy] at h
      | _ => simp [hx] at h
  | _ => simp [cmp1] at h
theorem Yt {p : Prop} {dec : Decidable p} (h : cmp1 l o.op = some ⟨p, dec⟩ := by rfl) (hp : p := by omega) : Yl P rs l o (.bool true) := ⟨fun {_ _ w ds} _ => by
  have := cmp1_ex (P := P) (ds := ds) (w := w) h; rwa [show @decide p dec = true from decide_eq_true hp] at this⟩
theorem Yf {p : Prop} {dec : Decidable p} (h : cmp1 l o.op = some ⟨p, dec⟩ := by rfl) (hp : ¬ p := by omega) : Yl P rs l o (.bool false) := ⟨fun {_ _ w ds} _ => by
  have := cmp1_ex (P := P) (ds := ds) (w := w) h; rwa [show @decide p dec = false from decide_eq_false hp] at this⟩
theorem Yu {p : Prop} {dec : Decidable p} (h : cmp1 l o.op = some ⟨p, dec⟩ := by rfl) : Yl P rs l o (.bool (@decide p dec)) := ⟨fun _ => cmp1_ex h⟩
end
end Go.Proofs.Ytebdkmfgfjanoaa
/-
  More short laws: arithmetic, conversions, strings, loads, elements, maps. Nothing here names a function of the program.
-/
namespace Go.Proofs.Ytebdkmfgfjanoaa
open Go.RowKit

theorem r_i32 {z : Int} (h : -2147483648 ≤ z ∧ z ≤ 2147483647) : IntKind.i32.wrap z = z := by
  simp [IntKind.wrap, IntKind.bits, IntKind.signed]; omega
theorem r_u32 {z : Int} (h : 0 ≤ z ∧ z ≤ 4294967295) : IntKind.u32.wrap z = z := by
  simp [IntKind.wrap, IntKind.bits, IntKind.signed]; omega
/-- a condition and a value -/
structure Cv where
  c : Prop
  v : Value
def ar2 (bo : BinOp) (k k' : IntKind) (m n : Int) : Option Cv := match bo, k, k' with
  | .add, .i64, .i64 => some ⟨-9223372036854775808 ≤ m + n ∧ m + n ≤ 9223372036854775807, .int .i64 (m + n)⟩
  | .sub, .i64, .i64 => some ⟨-9223372036854775808 ≤ m - n ∧ m - n ≤ 9223372036854775807, .int .i64 (m - n)⟩
  | .add, .u8, .u8 => some ⟨0 ≤ m + n ∧ m + n ≤ 255, .int .u8 (m + n)⟩
  | .sub, .u8, .u8 => some ⟨0 ≤ m - n ∧ m - n ≤ 255, .int .u8 (m - n)⟩
  | .and, .u8, .u8 => (match m, n with | .ofNat a, .ofNat b => some ⟨a < 256 ∧ b < 256, .int .u8 ((a &&& b : Nat) : Int)⟩ | _, _ => none)
  | .or, .u8, .u8 => (match m, n with | .ofNat a, .ofNat b => some ⟨a < 256 ∧ b < 256, .int .u8 ((a ||| b : Nat) : Int)⟩ | _, _ => none)
  | .andNot, .u8, .u8 => (match m, n with | .ofNat a, .ofNat b => some ⟨a < 256 ∧ b < 256, .int .u8 ((a &&& (255 - b) : Nat) : Int)⟩ | _, _ => none)
  | .and, .i64, .i64 => (match m, n with | .ofNat a, .ofNat b => some ⟨a < 4611686018427387904 ∧ b < 4611686018427387904, .int .i64 ((a &&& b : Nat) : Int)⟩ | _, _ => none)
  | .or, .i64, .i64 => (match m, n with | .ofNat a, .ofNat b => some ⟨a < 4611686018427387904 ∧ b < 4611686018427387904, .int .i64 ((a ||| b : Nat) : Int)⟩ | _, _ => none)
  | .rem, .i64, .i64 => (match m, n with | .ofNat a, .ofNat b => some ⟨0 < b, .int .i64 ((a % b : Nat) : Int)⟩ | _, _ => none)
  | .rem, .u8, .u8 => (match m, n with | .ofNat a, .ofNat b => some ⟨0 < b, .int .u8 ((a % b : Nat) : Int)⟩ | _, _ => none)
  | _, _, _ => none
theorem ar2_ok {P : Program} {bo : BinOp} {k k' : IntKind} {m n : Int} {r : Cv} (h : ar2 bo k k' m n = some r) (hc : r.c) : k = k' ∧ BinS P bo k m n r.v := by
  unfold ar2 at h
  split at h
  · cases h; exact ⟨rfl, B_add (r_i64 hc)⟩
  · cases h; exact ⟨rfl, B_sub (r_i64 hc)⟩
  · cases h; exact ⟨rfl, B_add (r_u8 hc)⟩
  · cases h; exact ⟨rfl, B_sub (r_u8 hc)⟩
  · split at h
    · cases h; exact ⟨rfl, B_and8 hc.1 hc.2⟩
    · cases h
  · split at h
    · cases h; exact ⟨rfl, B_or8 hc.1 hc.2⟩
    · cases h
  · split at h
    · cases h; exact ⟨rfl, B_andNot8 hc.1 hc.2⟩
    · cases h
  · split at h
    · cases h; exact ⟨rfl, B_and64 hc.1 hc.2⟩
    · cases h
  · split at h
    · cases h; exact ⟨rfl, B_or64 hc.1 hc.2⟩
    · cases h
  · split at h
    · cases h; exact ⟨rfl, B_rem (by have h0 : 0 < _ := hc; omega)⟩
    · cases h
  · split at h
    · cases h; exact ⟨rfl, B_rem (by have h0 : 0 < _ := hc; omega)⟩
    · cases h
  · cases h
def cv2 (k : IntKind) (m : Int) : Option Cv := match k with
  | .i64 => some ⟨-9223372036854775808 ≤ m ∧ m ≤ 9223372036854775807, .int .i64 m⟩
  | .u8 => some ⟨0 ≤ m ∧ m ≤ 255, .int .u8 m⟩
  | .u64 => some ⟨0 ≤ m ∧ m ≤ 18446744073709551615, .int .u64 m⟩
  | .i32 => some ⟨-2147483648 ≤ m ∧ m ≤ 2147483647, .int .i32 m⟩
  | .u32 => some ⟨0 ≤ m ∧ m ≤ 4294967295, .int .u32 m⟩
  | _ => none
theorem cv2_ok {k : IntKind} {m : Int} {r : Cv} (h : cv2 k m = some r) (hc : r.c) : r.v = .int k (k.wrap m) := by
  unfold cv2 at h
  split at h <;> cases h
  · show Value.int _ m = _; rw [r_i64 hc]
  · show Value.int _ m = _; rw [r_u8 hc]
  · show Value.int _ m = _; rw [r_u64 hc]
  · show Value.int _ m = _; rw [r_i32 hc]
  · show Value.int _ m = _; rw [r_u32 hc]
def intTy (P : Program) (t : TypeId) : Option IntKind := match P.underlying t with | some (.int k) => some k | _ => none
def arith1 (P : Program) (l : Fm) (op : Op) : Option Cv := match op with
  | .binOp bo _ x y _ => (match lk l x, lk l y with
    | some (.int k m), some (.int k' n) => ar2 bo k k' m n
    | _, _ => none)
  | .convert t t' x => (match intTy P t, intTy P t', lk l x with
    | some k, some k', some (.int k2 m) => bif decide (k = k2) then cv2 k' m else none
    | _, _, _ => none)
  | .call ⟨.builtin .len, ar, ts⟩ => (match ar.toList, ts.toList with
    | [x], [t] => bif sliceTy P t then (match lk l x with
      | some (.slice _ n _) => some ⟨True, .int .i64 n⟩
      | _ => none) else none
    | _, _ => none)
  | _ => none
theorem intTy_ok {P : Program} {t : TypeId} {k : IntKind} (h : intTy P t = some k) : P.underlying t = some (.int k) := by
  unfold intTy at h
  cases hq : P.underlying t with
  | none => simp [hq] at h
  | some d => cases d <;> first | (simp [hq] at h; done) | (simp only [hq, Option.some.injEq] at h; rw [h])
theorem arith1_ex {P : Program} {o : Oper} {l : Fm} {ds : List Deferred} {w : World} {r : Cv} (h : arith1 P l o.op = some r) (hc : r.c) : Ex P l ds o w r.v := by
  obtain ⟨dst, op, type, pos, after, guard⟩ := o
  cases op with
  | binOp bo t x y t' =>
    simp only [arith1] at h
    cases hx : lk l x with
    | none => simp [hx] at h
    | some u =>
      cases u with
      | int k m =>
        cases hy : lk l y with
        | none => simp [hx, hy] at h
        | some u2 =>
          cases u2 with
          | int k' n =>
            simp only [hx, hy] at h
            obtain ⟨rfl, hb⟩ := ar2_ok (P := P) h hc
            exact x_bins rfl hx hy hb
          | _ => simp [hx, hy] at h
      | _ => simp [hx] at h
  | convert t t' x =>
    simp only [arith1] at h
    cases h1 : intTy P t with
    | none => simp [h1] at h
    | some k =>
      cases h2 : intTy P t' with
      | none => simp [h1, h2] at h
      | some k' =>
        cases hx : lk l x with
        | none => simp [h1, h2, hx] at h
        | some u =>
          cases u with
          | int k2 m =>
            simp only [h1, h2, hx] at h
            cases hk : decide (k = k2) with
            | false => rw [hk] at h; cases h
            | true =>
              obtain rfl : k = k2 := of_decide_eq_true hk
              rw [hk] at h
              have := cv2_ok (k := k') h hc
              rw [this]
              exact x_conv rfl (intTy_ok h1) (intTy_ok h2) hx rfl
          | _ => simp [h1, h2, hx] at h
  | call c =>
    obtain ⟨callee, ar, ts⟩ := c
    cases callee with
    | builtin b =>
      cases b with
      | len =>
        simp only [arith1] at h
        split at h
        · rename_i x t har hts
          cases hs : sliceTy P t with
          | false => rw [hs] at h; cases h
          | true =>
            rw [hs] at h
            simp only [cond_true] at h
            cases hx : lk l x with
            | none => simp [hx] at h
            | some u =>
              cases u with
              | slice A n c =>
                simp only [hx, Option.some.injEq] at h
                subst h
                unfold sliceTy at hs
                cases hq : P.underlying t with
                | none => simp [hq] at hs
                | some d => cases d with
                  | slice e => exact x_lenSl rfl har hts hq hx
                  | _ => simp [hq] at hs
              | _ => simp [hx] at h
        · cases h
      | _ => simp [arith1] at h
    | _ => simp [arith1] at h
  | _ => simp [arith1] at h
section
variable {P : Program} {rs : List Res} {o : Oper} {l : Fm} {x y z : Operand} {t t' e : TypeId} {k k' : IntKind} {m n : Int} {v u : Value} {b off j : Nat} {A : Option Addr}
theorem Ya {c : Prop} (h : arith1 P l o.op = some ⟨c, v⟩ := by rfl) (hc : c := by first | omega | (refine ⟨?_, ?_⟩ <;> first | omega | assumption) | (show True; trivial)) : Yl P rs l o v := ⟨fun _ => arith1_ex h hc⟩
theorem Yq {c : Prop} {i i' : Int} (h : arith1 P l o.op = some ⟨c, .int k i⟩ := by rfl) (hq : i = i' := by assumption) (hc : c := by omega) : Yl P rs l o (.int k i') := ⟨fun {_ _ w ds} _ => by
  have := arith1_ex (ds := ds) (w := w) h hc; rwa [hq] at this⟩
/-! shifts -/
theorem Yh1 {n : Nat} (ho : o.op = .binOp .shl t x y t' := by rfl) (hx : lk l x = some (.int .i64 1) := by rfl) (hy : lk l y = some (.int k' n) := by rfl) (hn : n ≤ 62 := by omega) : Yl P rs l o (.int .i64 ((two n : Nat) : Int)) := ⟨fun _ => x_shl1_64 ho hx hy hn⟩
theorem Yh8 {n : Nat} (ho : o.op = .binOp .shl t x y t' := by rfl) (hx : lk l x = some (.int .u8 1) := by rfl) (hy : lk l y = some (.int k' n) := by rfl) (hn : n ≤ 7 := by omega) : Yl P rs l o (.int .u8 ((two n : Nat) : Int)) := ⟨fun _ => x_shl1_8 ho hx hy hn⟩
theorem Yhr {a n : Nat} (ho : o.op = .binOp .shr t x y t' := by rfl) (hx : lk l x = some (.int k a) := by rfl) (hy : lk l y = some (.int k' n) := by rfl) (hn : n ≤ k.bits := by first | omega | (simp [IntKind.bits] <;> omega)) : Yl P rs l o (.int k ((a / two n : Nat) : Int)) := ⟨fun _ => x_shr_nat ho hx hy hn⟩
theorem Yhl {a n : Nat} (ho : o.op = .binOp .shl t x y t' := by rfl) (hx : lk l x = some (.int .i64 a) := by rfl) (hy : lk l y = some (.int k' n) := by rfl) (hn : n ≤ 62 := by omega) (ha : a * two n ≤ 9223372036854775807 := by first | omega | assumption) : Yl P rs l o (.int .i64 ((a * two n : Nat) : Int)) := ⟨fun _ => x_shl_nat64 ho hx hy hn ha⟩
/-! strings -/
section
variable {a c : List UInt8}
theorem YsT (ho : o.op = .binOp .eql t x y t' := by rfl) (hx : lk l x = some (.string ⟨a.toArray⟩) := by rfl) (hy : lk l y = some (.string ⟨c.toArray⟩) := by rfl) (h : a = c := by first | assumption | decide) : Yl P rs l o (.bool true) := ⟨fun _ => x_eqS_t ho hx hy h⟩
theorem YsF (ho : o.op = .binOp .eql t x y t' := by rfl) (hx : lk l x = some (.string ⟨a.toArray⟩) := by rfl) (hy : lk l y = some (.string ⟨c.toArray⟩) := by rfl) (h : a ≠ c := by first | assumption | decide) : Yl P rs l o (.bool false) := ⟨fun _ => x_eqS_f ho hx hy h⟩
theorem YnT (ho : o.op = .binOp .neq t x y t' := by rfl) (hx : lk l x = some (.string ⟨a.toArray⟩) := by rfl) (hy : lk l y = some (.string ⟨c.toArray⟩) := by rfl) (h : a ≠ c := by first | assumption | decide) : Yl P rs l o (.bool true) := ⟨fun _ => x_neS_t ho hx hy h⟩
theorem YnF (ho : o.op = .binOp .neq t x y t' := by rfl) (hx : lk l x = some (.string ⟨a.toArray⟩) := by rfl) (hy : lk l y = some (.string ⟨c.toArray⟩) := by rfl) (h : a = c := by first | assumption | decide) : Yl P rs l o (.bool false) := ⟨fun _ => x_neS_f ho hx hy h⟩
theorem Yct (ho : o.op = .binOp .add t x y t' := by rfl) (hx : lk l x = some (.string ⟨a.toArray⟩) := by rfl) (hy : lk l y = some (.string ⟨c.toArray⟩) := by rfl) (h : a.length + c.length ≤ 9223372036854775807 := by first | omega | (simp; omega)) : Yl P rs l o (.string ⟨(a ++ c).toArray⟩) := ⟨fun _ => x_cat ho hx hy h⟩
theorem Yis {i : Int} {d : UInt8} (ho : o.op = .index t x y := by rfl) (hx : lk l x = some (.string ⟨a.toArray⟩) := by rfl) (hy : lk l y = some (.int k i) := by rfl) (ht : P.underlying t = some .string := by rfl) (hi : 0 ≤ i := by omega) (hb : a[i.toNat]? = some d := by first | assumption | rfl) : Yl P rs l o (.int .u8 (d.toNat : Int)) := ⟨fun _ => x_idxStr ho ht hx hy hi hb⟩
theorem Yln {ar : Array Operand} {ts : Array TypeId} (ho : o.op = .call { callee := .builtin .len, args := ar, argTypes := ts } := by rfl) (ha : ar.toList = [x] := by rfl) (hts : ts.toList = [t] := by rfl) (ht : P.underlying t = some .string := by rfl) (hx : lk l x = some (.string ⟨a.toArray⟩) := by rfl) : Yl P rs l o (.int .i64 a.length) := ⟨fun _ => x_lenS ho ha hts ht hx⟩
theorem Ysl {i : Int} (ho : o.op = .slice t x (some y) none none := by rfl) (hx : lk l x = some (.string ⟨a.toArray⟩) := by rfl) (hy : lk l y = some (.int k i) := by rfl) (ht : P.underlying t = some .string := by rfl) (hi : 0 ≤ i ∧ i ≤ a.length := by first | omega | (simp <;> omega)) : Yl P rs l o (.string ⟨(a.drop i.toNat).toArray⟩) := ⟨fun _ => x_sliceSt ho ht hx hy hi⟩
end
/-! bools -/
theorem YbE {a c : Bool} (ho : o.op = .binOp .eql t x y t' := by rfl) (ht : P.underlying t = some .bool := by rfl) (hx : lk l x = some (.bool a) := by rfl) (hy : lk l y = some (.bool c) := by rfl) : Yl P rs l o (.bool (a == c)) := ⟨fun _ => x_eqB ho ht hx hy⟩
theorem YbN {a c : Bool} (ho : o.op = .binOp .neq t x y t' := by rfl) (ht : P.underlying t = some .bool := by rfl) (hx : lk l x = some (.bool a) := by rfl) (hy : lk l y = some (.bool c) := by rfl) : Yl P rs l o (.bool (!(a == c))) := ⟨fun _ => x_neB ho ht hx hy⟩
theorem YbT {a c : Bool} (ho : o.op = .binOp .eql t x y t' := by rfl) (ht : P.underlying t = some .bool := by rfl) (hx : lk l x = some (.bool a) := by rfl) (hy : lk l y = some (.bool c) := by rfl) (h : a = c := by first | rfl | assumption) : Yl P rs l o (.bool true) := ⟨fun _ => x_eqB_t ho ht hx hy h⟩
theorem YbF {a c : Bool} (ho : o.op = .binOp .neq t x y t' := by rfl) (ht : P.underlying t = some .bool := by rfl) (hx : lk l x = some (.bool a) := by rfl) (hy : lk l y = some (.bool c) := by rfl) (h : a = c := by first | rfl | assumption) : Yl P rs l o (.bool false) := ⟨fun _ => x_neB_f ho ht hx hy h⟩
/-! memory -/
theorem Yld {c : Array Value} {ty : TypeId} {fz : Nat × Nat} (ho : o.op = .load t x := by rfl) (hx : lk l x = some u := by rfl) (hu : IsCell u b off := by infer_instance) (hm : HasObj rs b (.cells c ty fz) := by infer_instance) (ht : flatT P t = true := by rfl) (hv : nth c.toList off = some v := by rfl) : Yl P rs l o v := ⟨fun hS => by
  rw [hu.eq] at hx; exact x_load hS ho hx ht hm.mem hv⟩
theorem YlA {c : List Value} {ty : TypeId} {fz : Nat × Nat} (ho : o.op = .load t x := by rfl) (hx : lk l x = some u := by rfl) (hu : IsCell u b 0 := by infer_instance) (hm : HasObj rs b (.cells c.toArray ty fz) := by infer_instance) (ht : aggT P t c.length = true := by rfl) : Yl P rs l o (.agg c.toArray) := ⟨fun hS => by
  rw [hu.eq] at hx; exact x_loadBox hS ho hx hm.mem ht⟩
theorem YlE {n size : Nat} {xs : List Value} (ho : o.op = .load t x := by rfl) (hx : lk l x = some u := by rfl) (hu : IsEl u A j := by infer_instance) (hm : HasSl rs A n size xs := by infer_instance) (ht : flatT P t = true := by rfl) (hv : xs[j]? = some v := by first | assumption | rfl) : Yl P rs l o v := ⟨fun hS => by
  rw [hu.eq] at hx; exact x_loadEl ho hx ht (hm.rd hS) hv⟩
theorem YlG {n size : Nat} {xs cs : List Value} (ho : o.op = .load t x := by rfl) (hx : lk l x = some u := by rfl) (hu : IsEl u A j := by infer_instance) (hm : HasSl rs A n size xs := by infer_instance) (hv : (xs.drop j).take cs.length = cs := by assumption) (ht : aggT P t cs.length = true := by rfl) : Yl P rs l o (.agg cs.toArray) := ⟨fun hS => by
  rw [hu.eq] at hx; exact x_loadElAgg ho hx (hm.rd hS) hv ht⟩
/-- an index that is a natural number -/
class IsNat (v : Value) (k : outParam IntKind) (j : outParam Nat) : Prop where
  eq : v = .int k ((j : Nat) : Int)
instance isNat {k : IntKind} {j : Nat} : IsNat (.int k ((j : Nat) : Int)) k j := ⟨rfl⟩
def elemT (P : Program) (t : TypeId) : Option TypeId := match P.underlying t with | some (.slice e) => some e | _ => none
theorem elemT_ok (h : elemT P t = some e) : P.underlying t = some (.slice e) := by
  unfold elemT at h
  cases hq : P.underlying t with
  | none => simp [hq] at h
  | some d => cases d <;> first | (simp [hq] at h; done) | (simp only [hq, Option.some.injEq] at h; rw [h])
section
variable {n c size : Nat} {xs : List Value} {i : Int}
theorem YiN (ho : o.op = .indexAddr t x y := by rfl) (hx : lk l x = some (.slice A n c) := by rfl) (hy : lk l y = some u := by rfl) (hu : IsNat u k j := by infer_instance) (ht : elemT P t = some e := by rfl) (hm : HasSl rs A n 1 xs := by infer_instance) (he : sizeT P e 1 = true := by rfl) (hi : j < n := by omega) : Yl P rs l o (.pointer (some ((adr A).add j))) := ⟨fun hS => by
  rw [hu.eq] at hy; exact x_idx1 ho hx hy (elemT_ok ht) he (hm.rd hS) (by omega)⟩
theorem YiM (ho : o.op = .indexAddr t x y := by rfl) (hx : lk l x = some (.slice A n c) := by rfl) (hy : lk l y = some u := by rfl) (hu : IsNat u k j := by infer_instance) (ht : elemT P t = some e := by rfl) (hm : HasSl rs A n size xs := by infer_instance) (he : sizeT P e size = true := by rfl) (hi : j < n := by omega) : Yl P rs l o (.pointer (some ((adr A).add (j * size)))) := ⟨fun hS => by
  rw [hu.eq] at hy; exact x_idx ho hx hy (elemT_ok ht) (hm.rd hS) he (by omega)⟩
theorem Yi1 (ho : o.op = .indexAddr t x y := by rfl) (hx : lk l x = some (.slice A n c) := by rfl) (hy : lk l y = some (.int k i) := by rfl) (ht : elemT P t = some e := by rfl) (hm : HasSl rs A n 1 xs := by infer_instance) (he : sizeT P e 1 = true := by rfl) (hi : 0 ≤ i ∧ i < (n : Int) := by omega) : Yl P rs l o (.pointer (some ((adr A).add i.toNat))) := ⟨fun hS => 
  x_idx1 ho hx hy (elemT_ok ht) he (hm.rd hS) hi⟩
theorem Yi2 (ho : o.op = .indexAddr t x y := by rfl) (hx : lk l x = some (.slice A n c) := by rfl) (hy : lk l y = some (.int k i) := by rfl) (ht : elemT P t = some e := by rfl) (hm : HasSl rs A n size xs := by infer_instance) (he : sizeT P e size = true := by rfl) (hi : 0 ≤ i ∧ i < (n : Int) := by omega) : Yl P rs l o (.pointer (some ((adr A).add (i.toNat * size)))) := ⟨fun hS => 
  x_idx ho hx hy (elemT_ok ht) (hm.rd hS) he hi⟩
end
def fldO (P : Program) (t : TypeId) (i : Nat) : Option Nat := match structT P t with
  | some fs => (match fs.toList[i]? with
    | some f => bif someT P f.type then some f.offset else none
    | none => none)
  | none => none
theorem fldO_ok {i d : Nat} (h : fldO P t i = some d) : ∃ (fs : Array Field) (f : Field), P.underlying t = some (.struct fs) ∧ fs.toList[i]? = some f ∧ someT P f.type = true ∧ f.offset = d := by
  unfold fldO at h
  cases hu : structT P t with
  | none => simp [hu] at h
  | some fs =>
    simp only [hu] at h
    cases hf : fs.toList[i]? with
    | none => simp [hf] at h
    | some f =>
      simp only [hf] at h
      cases hs : someT P f.type with
      | false => rw [hs] at h; cases h
      | true =>
        simp only [hs, cond_true, Option.some.injEq] at h
        refine ⟨fs, f, ?_, hf, hs, h⟩
        unfold structT at hu
        cases hq : P.underlying t with
        | none => simp [hq] at hu
        | some d => cases d <;> first | (simp [hq] at hu; done) | (simp only [hq, Option.some.injEq] at hu; rw [hu])
theorem Yfc {i d : Nat} (ho : o.op = .fieldAddr t x i := by rfl) (hx : lk l x = some u := by rfl) (hu : IsCell u b off := by infer_instance) (hf : fldO P t i = some d := by rfl) : Yl P rs l o (.pointer (some ⟨b, off + d, none⟩)) := ⟨fun hS => by
  obtain ⟨fs, f, h1, h2, h3, rfl⟩ := fldO_ok hf
  rw [hu.eq] at hx; exact x_fieldAddr ho h1 h2 h3 hx⟩
theorem Yfe {i d : Nat} (ho : o.op = .fieldAddr t x i := by rfl) (hx : lk l x = some u := by rfl) (hu : IsEl u A j := by infer_instance) (hf : fldO P t i = some d := by rfl) : Yl P rs l o (.pointer (some ((adr A).add (j + d)))) := ⟨fun hS => by
  obtain ⟨fs, f, h1, h2, h3, rfl⟩ := fldO_ok hf
  rw [hu.eq] at hx; exact x_fieldAddrEl ho h1 h2 h3 hx⟩
theorem Ymp {es : List MapEntry} {c : Nat} {kv : Value} (ho : o.op = .lookup t x y false := by rfl) (hx : lk l x = some (.map (some b)) := by rfl) (hy : lk l y = some kv := by rfl) (hm : HasObj rs b (.map es.toArray c) := by infer_instance) (hk : lookT P t kv es = some v := by first | assumption | rfl) : Yl P rs l o v := ⟨fun hS => x_lookup hS hm.mem ho hx hy hk⟩
end
end Go.Proofs.Ytebdkmfgfjanoaa
/-
  The walk by short laws: steps, control, regions that draw their order. Nothing here names a function of the program.
-/
namespace Go.Proofs.Ytebdkmfgfjanoaa
open Go.RowKit

/-- code to be walked, from a frame -/
structure Wc (P : Program) (c : Code) (Q : Exit → Act → World → Prop) (l : Fm) (ds : List Deferred) (w : World) : Prop where
  out : c.wp P Q ⟨l.arr, ds⟩ w
/-- how code ended -/
structure Wx (Q : Exit → Act → World → Prop) (e : Exit) (l : Fm) (ds : List Deferred) (w : World) : Prop where
  out : Q e ⟨l.arr, ds⟩ w
/-- the code that follows -/
structure Kon (P : Program) (c : Code) (Q : Exit → Act → World → Prop) (a : Act) (w : World) : Prop where
  out : c.wp P Q a w
section
variable {P : Program} {ops : Array Oper} {Q Q' : Exit → Act → World → Prop} {rest : List Oper} {o : Oper} {l : Fm} {ds : List Deferred} {w : World}
variable {F : Nat → Prop} {w0 : World} {rs rs' : List Res} {x y z : Operand} {t t' e : TypeId} {d : Nat} {v u : Value} {b off j : Nat} {A : Option Addr}
/-! control -/
theorem C_sq {c c' : Code} (h : Wc P c (Exit.then (Kon P c' Q) Q) l ds w) : Wc P (.seq c c') Q l ds w :=
  ⟨wp_seq (wp_mono h.out fun e a w hq => match e, hq with
    | .normal, hq => hq.out
    | .exit _, hq => hq
    | .goto _, hq => hq
    | .ret, hq => hq
    | .panic _, hq => hq
    | .outgrown, hq => hq)⟩
theorem C_rg {id : Nat} {l' : List Oper} (h : WL P l'.toArray Q l' l ds w) : Wc P (.region id l'.toArray false) Q l ds w := ⟨W_region h⟩
theorem C_bk {id : Nat} {c : Code} (h : Wc P c (Exit.inBlock id Q) l ds w) : Wc P (.block id c) Q l ds w := ⟨wp_block h.out⟩
theorem C_ct {c : Operand} {thn els : Code} (k : Wc P thn Q l ds w) (hc : lk l c = some (.bool true) := by rfl) : Wc P (.cond c thn els) Q l ds w := ⟨W_cond_t hc k.out⟩
theorem C_cf {c : Operand} {thn els : Code} (k : Wc P els Q l ds w) (hc : lk l c = some (.bool false) := by rfl) : Wc P (.cond c thn els) Q l ds w := ⟨W_cond_f hc k.out⟩
theorem C_sk (h : Wx Q .normal l ds w) : Wc P .skip Q l ds w := ⟨wp_skip h.out⟩
theorem C_ex {id : Nat} (h : Wx Q (.exit id) l ds w) : Wc P (.exit id) Q l ds w := ⟨wp_exit h.out⟩
theorem C_rt (h : Wx Q .ret l ds w) : Wc P .ret Q l ds w := ⟨wp_ret h.out⟩
theorem L_nil (h : Wx Q .normal l ds w) : WL P ops Q [] l ds w := ⟨h.out⟩
theorem X_r {K : Act → World → Prop} (h : Wx Q .ret l ds w) : Wx (Exit.then K Q) .ret l ds w := ⟨h.out⟩
theorem X_e {K : Act → World → Prop} {id : Nat} (h : Wx Q (.exit id) l ds w) : Wx (Exit.then K Q) (.exit id) l ds w := ⟨h.out⟩
theorem X_p {K : Act → World → Prop} {c : List PanicEntry} (h : Wx Q (.panic c) l ds w) : Wx (Exit.then K Q) (.panic c) l ds w := ⟨h.out⟩
theorem X_bn {id : Nat} (h : Wx Q .normal l ds w) : Wx (Exit.inBlock id Q) .normal l ds w := ⟨h.out⟩
theorem X_br {id : Nat} (h : Wx Q .ret l ds w) : Wx (Exit.inBlock id Q) .ret l ds w := ⟨h.out⟩
theorem X_bp {id : Nat} {c : List PanicEntry} (h : Wx Q (.panic c) l ds w) : Wx (Exit.inBlock id Q) (.panic c) l ds w := ⟨h.out⟩
theorem X_bh {id : Nat} (h : Wx Q .normal l ds w) : Wx (Exit.inBlock id Q) (.exit id) l ds w := ⟨by
  show (if id = id then Q .normal _ _ else _); rw [if_pos rfl]; exact h.out⟩
theorem X_be {id id' : Nat} (h : Wx Q (.exit id') l ds w) (hne : id' ≠ id := by decide) : Wx (Exit.inBlock id Q) (.exit id') l ds w := ⟨by
  show (if id' = id then Q .normal _ _ else Q (.exit id') _ _); rw [if_neg hne]; exact h.out⟩

theorem C_fr {c : Code} {l' : List Value} (e : l.toList = l') (h : Wc P c Q (Fm.base l') ds w) : Wc P c Q l ds w := ⟨by
  have : l.arr = (Fm.base l').arr := by rw [Fm.arr, e]; rfl
  rw [this]; exact h.out⟩
theorem X_k {c : Code} {l' : List Value} (e : l.toList = l') (h : Wc P c Q (Fm.base l') ds w) : Wx (Exit.then (Kon P c Q) Q') .normal l ds w := ⟨⟨(C_fr e h).out⟩⟩
/-! steps -/
theorem S_w (h : SStep P ops Q rest o l ds w) (hw : wantF ops l o = true := by rfl) : WL P ops Q (o :: rest) l ds w := h.run hw
theorem S_u (k : WL P ops Q rest (l.upd d undef) ds w) (hw : wantF ops l o = false := by rfl) (hd : o.dst = some d := by rfl) : WL P ops Q (o :: rest) l ds w := S_nay hw (S_no hd k)
theorem S_v (k : WL P ops Q rest l ds w) (hw : wantF ops l o = false := by rfl) (hd : o.dst = none := by rfl) : WL P ops Q (o :: rest) l ds w := S_nay hw (S_no0 hd k)
theorem S_q (hS : St F w0 rs w) (h : Yl P rs l o v) (k : WL P ops Q rest (l.upd d v) ds w) (hd : o.dst = some d := by rfl) : SStep P ops Q rest o l ds w := S_ex hd (h.run hS) k
/-! calls -/
theorem M_c {g : FuncId} {args : Array Value} {fs cs : Array Value} {f : Operand} {ar : Array Operand} {ts : Array TypeId} {R : Value → World → Prop} (hc : CallsR P g args w R) (k : ∀ v w', R v w' → WL P ops Q rest (l.upd d v) ds w')
    (ho : o.op = .call { callee := .value f, args := ar, argTypes := ts } := by rfl) (hd : o.dst = some d := by rfl) (hf : lk l f = some (.func (.func g) fs cs) := by rfl) (ha : (fs.toList ++ lks l ar.toList ++ cs.toList).toArray = args := by rfl) (hb : enterB P g = true := by rfl) : SStep P ops Q rest o l ds w :=
  S_call hd ho hf hb (ha ▸ hc) k
theorem M_c0 {g : FuncId} {args : Array Value} {fs cs : Array Value} {f : Operand} {ar : Array Operand} {ts : Array TypeId} {R : Value → World → Prop} (hc : CallsR P g args w R) (k : ∀ v w', R v w' → WL P ops Q rest l ds w')
    (ho : o.op = .call { callee := .value f, args := ar, argTypes := ts } := by rfl) (hd : o.dst = none := by rfl) (hf : lk l f = some (.func (.func g) fs cs) := by rfl) (ha : (fs.toList ++ lks l ar.toList ++ cs.toList).toArray = args := by rfl) (hb : enterB P g = true := by rfl) : SStep P ops Q rest o l ds w :=
  S_call0 hd ho hf hb (ha ▸ hc) k
theorem M_p {g : FuncId} {args : Array Value} {fs cs : Array Value} {f : Operand} {ar : Array Operand} {ts : Array TypeId} {E : List PanicEntry → World → Prop} (hc : CallsP P g args w E) (k : ∀ c w', E c w' → Wx Q (.panic c) l ds w')
    (ho : o.op = .call { callee := .value f, args := ar, argTypes := ts } := by rfl) (hf : lk l f = some (.func (.func g) fs cs) := by rfl) (ha : (fs.toList ++ lks l ar.toList ++ cs.toList).toArray = args := by rfl) (hb : enterB P g = true := by rfl) : SStep P ops Q rest o l ds w :=
  (SP_ hf hb (ha ▸ hc) fun c w' h => (k c w' h).out).run ⟨ts, ho⟩
theorem M_pn (k : Wx Q (.panic [{ v := .iface t v, recovered := false }]) l ds w) (ho : o.op = .panic x := by rfl) (hx : lk l x = some (.iface t v) := by rfl) : SStep P ops Q rest o l ds w := S_panic ho hx k.out
/-! new memory -/
theorem M_bA {c : List Value} (hS : St F w0 rs w) (k : ∀ b w', St F w0 (Res.obj b (.cells c.toArray t (0, 0)) :: rs) w' → WL P ops Q rest (l.upd d (.pointer (some ⟨b, 0, none⟩))) ds w')
    (ho : o.op = .box t x := by rfl) (hd : o.dst = some d := by rfl) (hx : lk l x = some (.agg c.toArray) := by rfl) : SStep P ops Q rest o l ds w := S_boxA hS hd ho hx k
theorem M_b1 (hS : St F w0 rs w) (k : ∀ b w', St F w0 (Res.obj b (.cells #[v] t (0, 0)) :: rs) w' → WL P ops Q rest (l.upd d (.pointer (some ⟨b, 0, none⟩))) ds w')
    (ho : o.op = .box t x := by rfl) (hd : o.dst = some d := by rfl) (hx : lk l x = some v := by rfl) (h1 : v.oneCell' = true := by rfl) : SStep P ops Q rest o l ds w := S_box1 hS hd ho hx h1 k
theorem M_aA {i : TypeInfo} {c : List Value} (hS : St F w0 rs w) (k : ∀ b w', St F w0 (Res.obj b (.cells c.toArray t (0, 0)) :: rs) w' → WL P ops Q rest (l.upd d (.pointer (some ⟨b, 0, none⟩))) ds w')
    (ho : o.op = .alloc t := by rfl) (hd : o.dst = some d := by rfl) (hi : P.info? t = some i := by rfl) (hz : i.zero = some (.agg c.toArray) := by rfl) : SStep P ops Q rest o l ds w := S_allocA hS hd ho hi hz k
theorem M_a1 {i : TypeInfo} (hS : St F w0 rs w) (k : ∀ b w', St F w0 (Res.obj b (.cells #[v] t (0, 0)) :: rs) w' → WL P ops Q rest (l.upd d (.pointer (some ⟨b, 0, none⟩))) ds w')
    (ho : o.op = .alloc t := by rfl) (hd : o.dst = some d := by rfl) (hi : P.info? t = some i := by rfl) (hz : i.zero = some v := by rfl) (h1 : v.oneCell' = true := by rfl) : SStep P ops Q rest o l ds w := S_alloc1 hS hd ho hi hz h1 k
theorem lkp_map2 {l : Fm} : ∀ ps : List (Nat × Operand), (lkp l ps).map (·.2) = lks l (ps.map (·.2))
  | [] => rfl
  | p :: ps => by simp [lkp, lks, lkp_map2 ps]
theorem M_sl {n : Nat} {parts : Array (Nat × Operand)} {vs : List Value} (hS : St F w0 rs w) (k : ∀ b w', St F w0 (Res.obj b (.cells vs.toArray e (0, 0)) :: rs) w' → WL P ops Q rest (l.upd d (.slice (some ⟨b, 0, none⟩) n n)) ds w')
    (ho : o.op = .buildSlice t n parts := by rfl) (hd : o.dst = some d := by rfl) (ht : elemT P t = some e := by rfl) (he : zerosT P e 1 = true := by rfl) (hp : parts.toList.map (·.1) = List.range' 0 n := by rfl) (hv : lksO l (parts.toList.map (·.2)) = some vs := by rfl) (h1 : one' vs = true := by rfl) (hn : 0 < n ∧ n ≤ 1000 := by omega) : SStep P ops Q rest o l ds w := by
  have h2 : (lkp l parts.toList).map (·.2) = vs := by rw [lkp_map2, lksO_eq hv]
  exact S_slice hS hd ho (elemT_ok ht) he hp (by rw [h2]; exact h1) hn (by rw [h2]; exact k)
theorem M_s1 {c : List Value} {parts : Array (Nat × Operand)} (hS : St F w0 rs w) (k : ∀ b w', St F w0 (Res.obj b (.cells c.toArray e (0, 0)) :: rs) w' → WL P ops Q rest (l.upd d (.slice (some ⟨b, 0, none⟩) 1 1)) ds w')
    (ho : o.op = .buildSlice t 1 parts := by rfl) (hd : o.dst = some d := by rfl) (hp : parts.toList = [(0, x)] := by rfl) (ht : elemT P t = some e := by rfl) (hx : lk l x = some (.agg c.toArray) := by rfl) (he : zerosT P e c.length = true := by rfl) (hn : (decide (0 < c.length) && decide (c.length ≤ 1000)) = true := by rfl) : SStep P ops Q rest o l ds w := S_slice1 hS hd ho hp (elemT_ok ht) hx he (by simpa using hn) k
theorem M_mm (hS : St F w0 rs w) (k : ∀ b w', St F w0 (Res.obj b (.map #[] 0) :: rs) w' → WL P ops Q rest (l.upd d (.map (some b))) ds w') (ho : o.op = .makeMap t none := by rfl) (hd : o.dst = some d := by rfl) : SStep P ops Q rest o l ds w := S_makeMap hS hd ho k
/-! stores -/
theorem M_st {c : List Value} {ty : TypeId} {i : TypeInfo} (hS : St F w0 rs w) (k : ∀ w', St F w0 rs' w' → WL P ops Q rest l ds w')
    (ho : o.op = .store t x y := by rfl) (hd : o.dst = none := by rfl) (hx : lk l x = some u := by rfl) (hc : IsCell u b off := by infer_instance) (hy : lk l y = some v := by rfl) (h1 : v.oneCell' = true := by rfl) (hi : P.info? t = some i := by rfl) (hsz : i.size = 1 := by rfl)
    (hm : HasObj rs b (.cells c.toArray ty (0, 0)) := by infer_instance) (hu : PutObj rs b (.cells c.toArray ty (0, 0)) (.cells (c.set off v).toArray ty (0, 0)) rs' := by infer_instance) (hoff : decide (off < c.length) = true := by rfl) : SStep P ops Q rest o l ds w := by
  rw [hc.eq] at hx; exact S_store hS hd ho hx hy h1 hi hsz hu.upd (of_decide_eq_true hoff) k
theorem M_sA {c c' : List Value} {ty : TypeId} (hS : St F w0 rs w) (k : ∀ w', St F w0 rs' w' → WL P ops Q rest l ds w')
    (ho : o.op = .store t x y := by rfl) (hd : o.dst = none := by rfl) (hx : lk l x = some u := by rfl) (hc : IsCell u b 0 := by infer_instance) (hy : lk l y = some (.agg c'.toArray) := by rfl) (h1 : one' c' = true := by rfl)
    (hm : HasObj rs b (.cells c.toArray ty (0, 0)) := by infer_instance) (hu : PutObj rs b (.cells c.toArray ty (0, 0)) (.cells c'.toArray ty (0, 0)) rs' := by infer_instance) (hl : c'.length = c.length := by rfl) (ht : sizeT P t c'.length = true := by rfl) : SStep P ops Q rest o l ds w := by
  rw [hc.eq] at hx; exact S_storeBox hS hd ho hx hy h1 hu.upd hl ht k
theorem M_in {c : Nat} {es : List MapEntry} {kv : Value} (hS : St F w0 rs w) (kk : ∀ w', St F w0 rs' w' → WL P ops Q rest l ds w')
    (ho : o.op = .insert t x y z := by rfl) (hd : o.dst = none := by rfl) (hx : lk l x = some (.map (some b)) := by rfl) (hy : lk l y = some kv := by rfl) (hz : lk l z = some v := by rfl) (hm : HasObj rs b (.map es.toArray c) := by infer_instance)
    (hu : PutObj rs b (.map es.toArray c) (.map (es ++ [MapEntry.mk kv v c]).toArray (c + 1)) rs' := by infer_instance) (hk : newKeyT P t kv es = true := by rfl) : SStep P ops Q rest o l ds w := S_insert hS hd ho hx hy hz hu.upd hk kk
theorem M_ap {ar : Array Operand} {ts : Array TypeId} {size n m c : Nat} {xs news : List Value} {ty : TypeId} {fz : Nat × Nat} {mk : Value → Nat → List Value → List Res} (hS : St F w0 rs w)
    (k : ∀ g cap w', St F w0 (mk (.slice (some ⟨g, 0, none⟩) (n + m) cap) (n + m) (xs ++ news)) w' → WL P ops Q rest (l.upd d (.slice (some ⟨g, 0, none⟩) (n + m) cap)) ds w')
    (ho : o.op = .call { callee := .builtin .append, args := ar, argTypes := ts } := by rfl) (hd : o.dst = some d := by rfl) (har : ar.toList = [x, y] := by rfl) (hts : ts.toList = [t, t] := by rfl) (ht : elemT P t = some e := by rfl)
    (hx : lk l x = some v := by rfl) (hy : lk l y = some (.slice (some ⟨b, 0, none⟩) m c) := by rfl) (hm : HasObj rs b (.cells news.toArray ty fz) := by infer_instance) (hr : HasRow rs e v size n xs := by infer_instance)
    (hu : PutRow rs e v size n xs mk := by infer_instance) (hi : infoT P e size = true := by rfl) (hl : news.length = m * size := by rfl) (h1 : one' news = true := by rfl) (hpos : 0 < m ∧ 0 < size := by omega) (hn : n + m ≤ 4294967296 := by omega) : SStep P ops Q rest o l ds w :=
  S_append hS hd ho har hts (elemT_ok ht) hx hy hm.mem (fun v' => hu.upd v' _ _) hi hl h1 hpos hn k

/-- the row that begins at A -/
class RowAt (rs : List Res) (A : Option Addr) (e : outParam TypeId) (size n c : outParam Nat) (xs : outParam (List Value)) : Prop where
  mem : Res.row e size (.slice A n c) n xs ∈ rs
instance (priority := high) rowAtH {A : Option Addr} {e : TypeId} {size n c : Nat} {xs : List Value} {rs : List Res} : RowAt (Res.row e size (.slice A n c) n xs :: rs) A e size n c xs := ⟨List.mem_cons_self ..⟩
instance rowAtT {A : Option Addr} {e : TypeId} {size n c : Nat} {xs : List Value} {r : Res} {rs : List Res} [h : RowAt rs A e size n c xs] : RowAt (r :: rs) A e size n c xs := ⟨List.mem_cons_of_mem _ h.mem⟩
theorem M_sR {n c : Nat} {xs : List Value} {mk : Value → Nat → List Value → List Res} (hS : St F w0 rs w) (k : ∀ w', St F w0 (mk (.slice A n c) n (xs.set j v)) w' → WL P ops Q rest l ds w')
    (ho : o.op = .store t x y := by rfl) (hd : o.dst = none := by rfl) (hx : lk l x = some u := by rfl) (hc : IsEl u A j := by infer_instance) (hy : lk l y = some v := by rfl) (h1 : v.oneCell' = true := by rfl)
    (hr : RowAt rs A e 1 n c xs := by infer_instance) (hu : PutRow rs e (.slice A n c) 1 n xs mk := by infer_instance) (ht : sizeT P t 1 = true := by rfl) (hi : j < n := by omega) : SStep P ops Q rest o l ds w := by
  rw [hc.eq] at hx; exact S_storeRow1 hS hd ho hx hy h1 (hu.upd _ _ _) ht hi k
theorem M_mk (m : Nat) {i : TypeInfo} (hS : St F w0 rs w) (k : ∀ g w', St F w0 (Res.row e 1 (.slice (some ⟨g, 0, none⟩) m m) m (List.replicate m v) :: rs) w' → WL P ops Q rest (l.upd d (.slice (some ⟨g, 0, none⟩) m m)) ds w')
    (ho : o.op = .makeSlice t x y := by rfl) (hd : o.dst = some d := by rfl) (ht : elemT P t = some e := by rfl) (hx : lk l x = some (.int .i64 (m : Int)) := by rfl) (hy : lk l y = some (.int .i64 (m : Int)) := by rfl)
    (hi : P.info? e = some i := by rfl) (hz : i.zero = some v := by rfl) (h1 : v.oneCell' = true := by rfl) (hsz : i.size = 1 := by rfl) (hb : i.bytes ≤ 4096 := by decide) (hm : m ≤ 4294967296 := by omega) : SStep P ops Q rest o l ds w :=
  S_make1 hS hd ho (elemT_ok ht) hx hy hi hz h1 hsz hb hm k
/-! regions that draw their order -/
theorem C_qt {id : Nat} {l' : List Oper} (hS : St F w0 rs w) (k : WQ P l'.toArray (St F w0 rs) (fun a' => ∀ w', St F w0 rs w' → Q .normal a' w') l' l ds) (hm : P.follows .mixedOrders = true := by kernel_rfl) (hB : Region.lexB .any l'.toArray = true := by kernel_rfl) : Wc P (.region id l'.toArray true) Q l ds w := ⟨W_quiet hS hm hB k⟩
variable {K : Act → Prop}
theorem Q_w (h : QStep P ops (St F w0 rs) K rest o l ds) (hw : wantF ops l o = true := by rfl) : WQ P ops (St F w0 rs) K (o :: rest) l ds := h.run hw
theorem Q_u (k : WQ P ops (St F w0 rs) K rest (l.upd d undef) ds) (hw : wantF ops l o = false := by rfl) (hd : o.dst = some d := by rfl) : WQ P ops (St F w0 rs) K (o :: rest) l ds := Q_nay hw (Q_no hd k)
theorem Q_q (h : Yl P rs l o v) (k : WQ P ops (St F w0 rs) K rest (l.upd d v) ds) (hd : o.dst = some d := by rfl) : QStep P ops (St F w0 rs) K rest o l ds := Q_ex hd (fun _ hS => h.run hS) k
theorem Q_c {g : FuncId} {args : Array Value} {fs cs : Array Value} {f : Operand} {ar : Array Operand} {ts : Array TypeId} (hc : ∀ w, St F w0 rs w → CallsR P g args w fun v' w' => v' = v ∧ St F w0 rs w') (k : WQ P ops (St F w0 rs) K rest (l.upd d v) ds)
    (ho : o.op = .call { callee := .value f, args := ar, argTypes := ts } := by rfl) (hd : o.dst = some d := by rfl) (hf : lk l f = some (.func (.func g) fs cs) := by rfl) (ha : (fs.toList ++ lks l ar.toList ++ cs.toList).toArray = args := by rfl) (hb : enterB P g = true := by rfl) : QStep P ops (St F w0 rs) K rest o l ds :=
  Q_call hd ho hf hb (ha ▸ hc) k
theorem Q_n (k : ∀ w', St F w0 rs w' → Wx Q .normal l ds w') : WQ P ops (St F w0 rs) (fun a' => ∀ w', St F w0 rs w' → Q .normal a' w') [] l ds := WQ_nil fun w' hS => (k w' hS).out
/-- by a plan -/
theorem C_pl {id : Nat} {l' : List Oper} (p : Plan) (hS : St F w0 rs w) (k : ∀ w, St F w0 rs w → WP P l'.toArray Q (St F w0 rs) p l ds w) (hm : P.follows .mixedOrders = true := by kernel_rfl)
    (hp : (planT l'.toArray p (Array.replicate l'.toArray.size false) && Region.noSelect l'.toArray && p.len == l'.toArray.size) = true := by kernel_rfl) : Wc P (.region id l'.toArray true) Q l ds w := ⟨W_plan1 p hS hm hp k⟩
theorem C_pm {α : Type} {id : Nat} {l' : List Oper} (p : Plan) (post : α → Fm → Fm) (rs2 : α → List Res) (hS : St F w0 rs w)
    (k1 : ∀ w, St F w0 rs w → WP P l'.toArray (Meet F w0 post rs2 l ds) (St F w0 rs) p l ds w) (k2 : ∀ s w, St F w0 (rs2 s) w → Wx Q .normal (post s l) ds w) (hm : P.follows .mixedOrders = true := by kernel_rfl)
    (hp : (planT l'.toArray p (Array.replicate l'.toArray.size false) && Region.noSelect l'.toArray && p.len == l'.toArray.size) = true := by kernel_rfl) : Wc P (.region id l'.toArray true) Q l ds w := ⟨W_plan p post rs2 hS hm hp k1 fun s w h => (k2 s w h).out⟩
section
variable {p q : Plan} {i : Nat}
/-- panics do not depend on the frame's temporaries -/
class Blind (Q : Exit → Act → World → Prop) : Prop where
  out : ∀ c (a : Act) d v w, Q (.panic c) (a.put d v) w → Q (.panic c) a w
instance blindThen {K : Act → World → Prop} [h : Blind Q] : Blind (Exit.then K Q) := ⟨fun c a d v w hq => h.out c a d v w hq⟩
instance blindBlock {id : Nat} [h : Blind Q] : Blind (Exit.inBlock id Q) := ⟨fun c a d v w hq => h.out c a d v w hq⟩
instance blindBody {fn : Func} {R : Ending → World → Prop} : Blind (bodyPost P fn R) := ⟨fun _ a d v w hq => by
  cases d <;> exact hq⟩
instance blindMeet {α : Type} {post : α → Fm → Fm} {rs2 : α → List Res} {l0 : Fm} : Blind (Meet F w0 post rs2 l0 ds) := ⟨fun _ _ _ _ _ h => (by have h1 := h.1; cases h1)⟩
theorem P_y (hS : St F w0 rs w) (h : Yl P rs l o v) (k : WP P ops Q (St F w0 rs) p (l.upd d v) ds w) (hw : wantF ops l o = true := by rfl) (hd : o.dst = some d := by rfl) (hb : Blind Q := by infer_instance) : PT P ops Q (St F w0 rs) p i o l ds w :=
  PT_yes hw hd hS (fun c a w => hb.out c a _ _ w) (fun _ hS => h.run hS) k
theorem P_z (hS : St F w0 rs w) (k : WP P ops Q (St F w0 rs) p (l.upd d undef) ds w) (hw : wantF ops l o = false := by rfl) (hd : o.dst = some d := by rfl) (hb : Blind Q := by infer_instance) : PT P ops Q (St F w0 rs) p i o l ds w :=
  PT_no hw hd hS (fun c a w => hb.out c a _ _ w) k
theorem P_f {S : World → Prop} (h : ∀ Q', (∀ l' w', S w' → WP P ops Q S p l' ds w' → Wx Q' .normal l' ds w') → (∀ c w', Wx Q (.panic c) l ds w' → Wx Q' (.panic c) l ds w') → WL P ops Q' [o] l ds w) : PF P ops Q S p o l ds w :=
  PF_mk fun Q' h1 h2 => h Q' (fun l' w' hS hk => ⟨h1 l' w' hS hk⟩) (fun c w' hq => ⟨h2 c _ w' hq.out⟩)
theorem P_d {S : World → Prop} (h : Wx Q .normal l ds w) : WP P ops Q S .done l ds w := P_done h.out
theorem P_m {α : Type} {post : α → Fm → Fm} {rs2 : α → List Res} {l0 : Fm} {S : World → Prop} (s : α) (hS : St F w0 (rs2 s) w) (hl : l.toList = (post s l0).toList := by rfl) : WP P ops (Meet F w0 post rs2 l0 ds) S .done l ds w := P_done (P_meet s hl hS)
end
end

/-! heads, ends, loops -/
theorem E_r {P : Program} {f n m : Nat} {fn : Func} {c : Code} {args : List Value} {w : World} {R : Value → World → Prop}
    (h : Wc P c (bodyPost P fn fun e w' => ∃ v, e = .returned v ∧ R v w') (Fm.base (args ++ List.replicate m undef)) [] w) (hf : P.funcs[f]? = some fn) (hb : fn.body = some c) (hn : fn.ntmps = n) (hl : n - args.length = m) : CallsR P f args.toArray w R :=
  enterR hf hb hn (by rw [hl]) h.out
theorem E_p {P : Program} {f n m : Nat} {fn : Func} {c : Code} {args : List Value} {w : World} {E : List PanicEntry → World → Prop}
    (h : Wc P c (bodyPost P fn fun e w' => ∃ c, e = .panicked c ∧ E c w') (Fm.base (args ++ List.replicate m undef)) [] w) (hf : P.funcs[f]? = some fn) (hb : fn.body = some c) (hn : fn.ntmps = n) (hl : n - args.length = m) : CallsP P f args.toArray w E :=
  enterP hf hb hn (by rw [hl]) h.out
section
variable {P : Program} {l : Fm} {w w0 : World} {fn : Func} {R : Value → World → Prop} {E : List PanicEntry → World → Prop}
theorem V_0 (h : R (.tuple #[]) w) (hr : fn.results = #[] := by rfl) : Wx (bodyPost P fn fun e w' => ∃ v, e = .returned v ∧ R v w') .ret l [] w := ⟨W_ret0 hr h⟩
theorem V_e (h : R (.tuple #[]) w) (hr : fn.results = #[] := by rfl) : Wx (bodyPost P fn fun e w' => ∃ v, e = .returned v ∧ R v w') .normal l [] w := ⟨W_end0 hr h⟩
theorem V_1 {t : Nat} {v : Value} (h : R v w) (hr : fn.results = #[.tmp t] := by rfl) (h1 : fnth l t = some v := by rfl) : Wx (bodyPost P fn fun e w' => ∃ v, e = .returned v ∧ R v w') .ret l [] w := ⟨W_ret1 hr (Rv.tmp h1) h⟩
theorem V_2 {t t' : Nat} {v v' : Value} (h : R (.tuple #[v, v']) w) (hr : fn.results = #[.tmp t, .tmp t'] := by rfl) (h1 : fnth l t = some v := by rfl) (h2 : fnth l t' = some v' := by rfl) : Wx (bodyPost P fn fun e w' => ∃ v, e = .returned v ∧ R v w') .ret l [] w := ⟨W_ret2 hr (Rv.tmp h1) (Rv.tmp h2) h⟩
theorem V_p {c : List PanicEntry} (h : E c w) : Wx (bodyPost P fn fun e w' => ∃ c, e = .panicked c ∧ E c w') (.panic c) l [] w := ⟨W_panic h⟩
/-- slots that a loop writes, as lengths of runs: kept, written, kept .. -/
def runs : Bool → List Nat → List Bool
  | _, [] => []
  | b, n :: ns => List.replicate n b ++ runs (!b) ns
theorem C_lp {Q : Exit → Act → World → Prop} {ds : List Deferred} {c : Code} {α : Type} {l0 : List Value} (bs : List Nat) (vals : α → List (Nat × Value)) (I : α → World → Prop) (μ : α → Nat) (s0 : α) (h0 : I s0 w)
    (round : ∀ s y w, I s w → Wc P c (Exit.then (Again (runs false bs) vals I μ l0 ds s) Q) (Fm.base (mask (ov (vals s) y) 0 (runs false bs) l0)) ds w)
    (hl : mask (ov (vals s0) (fun i => (nth l0 i).getD undef)) 0 (runs false bs) l0 = l0 := by rfl) : Wc P (.loop c) Q (Fm.base l0) ds w :=
  ⟨W_loop (l := l0) (runs false bs) vals I μ s0 hl h0 fun s y w hI => (round s y w hI).out⟩
theorem R_e {Q : Exit → Act → World → Prop} {l0 : List Value} {ds : List Deferred} {α : Type} {bs : List Bool} {vals : α → List (Nat × Value)} {I : α → World → Prop} {μ : α → Nat} {s : α} (s' : α)
    (hI : I s' w) (hμ : μ s' < μ s) (hl : mask (ov (vals s') (fun i => (fnth l i).getD undef)) 0 bs l0 = l.toList := by rfl) : Wx (Exit.then (Again bs vals I μ l0 ds s) Q) .normal l ds w := ⟨round_end s' hl hI hμ⟩
end
end Go.Proofs.Ytebdkmfgfjanoaa
/-
  Regions that draw their order and write: a plan in which only what reads no memory is taken first. Nothing here names a function of the program.
-/
namespace Go.Proofs.Ytebdkmfgfjanoaa
open Go.RowKit
section
variable {P : Program} {ops : Array Oper} {Q : Exit → Act → World → Prop} {o : Oper} {l : Fm} {ds : List Deferred} {w : World} {F : Nat → Prop} {w0 : World} {rs : List Res} {d : Nat} {v : Value} {p : Plan} {i : Nat}
def Any : World → Prop := fun _ => True
/-- what the branches come to: a state s, a frame, what is known of memory -/
def MeetA {α : Type} (F : Nat → Prop) (w0 : World) (post : α → Fm → Fm) (rs2 : α → List Res) (l : Fm) (ds : List Deferred) : Exit → Act → World → Prop := Meet F w0 post rs2 l ds
theorem C_p0 {α : Type} {id : Nat} {l' : List Oper} (p : Plan) (post : α → Fm → Fm) (rs2 : α → List Res) (hS : St F w0 rs w)
    (k1 : ∀ w, St F w0 rs w → WP P l'.toArray (Meet F w0 post rs2 l ds) Any p l ds w) (k2 : ∀ s w, St F w0 (rs2 s) w → Wx Q .normal (post s l) ds w) (hm : P.follows .mixedOrders = true := by kernel_rfl)
    (hp : (planT l'.toArray p (Array.replicate l'.toArray.size false) && Region.noSelect l'.toArray && p.len == l'.toArray.size) = true := by kernel_rfl) : Wc P (.region id l'.toArray true) Q l ds w := ⟨by
  simp only [Bool.and_eq_true, beq_iff_eq] at hp
  refine wp_mono (Q := Meet F w0 post rs2 l ds) ?_ ?_
  · refine wp_region_held (S := Any) hm ?_
    have := (k1 _ (hS.call (Fr.of ((Below.refl _ _).drew)))).run _ hp.1.1 hp.1.2
    rw [hp.2] at this
    exact this
  · rintro e a w' ⟨rfl, s, rfl, hs⟩
    exact (k2 s w' hs).out⟩
theorem P_a (h : Yl P [] l o v) (k : WP P ops Q Any p (l.upd d v) ds w) (hw : wantF ops l o = true := by rfl) (hd : o.dst = some d := by rfl) (hb : Blind Q := by infer_instance) : PT P ops Q Any p i o l ds w :=
  PT_yes hw hd trivial (fun c a w => hb.out c a _ _ w) (fun w _ => h.run (St.start Nof w)) k
theorem P_b (k : WP P ops Q Any p (l.upd d undef) ds w) (hw : wantF ops l o = false := by rfl) (hd : o.dst = some d := by rfl) (hb : Blind Q := by infer_instance) : PT P ops Q Any p i o l ds w :=
  PT_no hw hd trivial (fun c a w => hb.out c a _ _ w) k
theorem P_e {α : Type} {post : α → Fm → Fm} {rs2 : α → List Res} {l0 : Fm} (s : α) (hS : St F w0 (rs2 s) w) (hl : l.toList = (post s l0).toList := by rfl) : WP P ops (Meet F w0 post rs2 l0 ds) Any .done l ds w := P_done (P_meet s hl hS)
end
/-! a call that returns or panics -/
section
variable {P : Program} {f n m : Nat} {fn : Func} {c : Code} {args : List Value} {w : World} {l : Fm} {Φ : Ending → World → Prop}
theorem E_g (h : Wc P c (bodyPost P fn Φ) (Fm.base (args ++ List.replicate m undef)) [] w) (hf : P.funcs[f]? = some fn) (hb : fn.body = some c) (hn : fn.ntmps = n) (hl : n - args.length = m) : Calls P f args.toArray w Φ := by
  refine calls_of_wp hf hb ?_
  have : args.toArray ++ Array.replicate (fn.ntmps - args.toArray.size) undef = (Fm.base (args ++ List.replicate m undef)).arr := by
    rw [hn]; simp [Fm.arr, Fm.toList, hl]
  rw [this]
  exact h.out
theorem G_1 {t : Nat} {v : Value} (h : Φ (.returned v) w) (hr : fn.results = #[.tmp t] := by rfl) (h1 : fnth l t = some v := by rfl) : Wx (bodyPost P fn Φ) .ret l [] w :=
  ⟨bodyPost_ret (v := v) (by have h1 := Rv.tmp (P := P) (w := w) h1; unfold Rv at h1; rw [results_eq, hr]; simp [h1, go_sem]) rfl h⟩
theorem G_p {ch : List PanicEntry} (h : Φ (.panicked ch) w) : Wx (bodyPost P fn Φ) (.panic ch) l [] w := ⟨⟨rfl, h⟩⟩
end
/-- a byte as a string -/
theorem Ycs {P : Program} {rs : List Res} {o : Oper} {l : Fm} {x : Operand} {t t' : TypeId} {k k' : IntKind} {c : UInt8} (ho : o.op = .convert t t' x := by rfl) (ht : intTy P t = some k := by rfl) (ht' : P.underlying t' = some .string := by rfl) (hx : lk l x = some (.int k' (c.toNat : Int)) := by rfl) (hc : c.toNat < 128 := by omega) : Yl P rs l o (.string ⟨[c].toArray⟩) := ⟨fun {_ _ w ds} _ => by
  unfold Ex execOp; rw [ho]; simp only [lk_eval hx]
  refine run_v ?_
  have h1 : Utf8.valid (c.toNat : Int) = true := by simp [Utf8.valid]; omega
  have h2 : Utf8.encode (c.toNat : Int) = ⟨[c].toArray⟩ := by
    unfold Utf8.encode
    simp only [h1, if_true, Int.toNat_natCast]
    rw [if_pos hc]
    simp
  simp only [convert, Sem.run_bind, run_underlying (intTy_ok ht), run_underlying ht', Result.andThen_ok, Conv.intToString, h2]
  rfl⟩
end Go.Proofs.Ytebdkmfgfjanoaa
