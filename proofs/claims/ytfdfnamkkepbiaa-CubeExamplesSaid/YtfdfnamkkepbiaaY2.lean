/-
  More short laws: arithmetic, conversions, strings, loads, elements, maps. Nothing here names a function of the program.
-/
import Derived.Test.YtfdfnamkkepbiaaY
namespace Go.Proofs.Ytfdfnamkkepbiaa
open Go.RowKit

theorem r_i32 {z : Int} (h : -2147483648 ≤ z ∧ z ≤ 2147483647) : IntKind.i32.wrap z = z := by
  simp [IntKind.wrap, IntKind.bits, IntKind.signed]; omega
theorem r_u32 {z : Int} (h : 0 ≤ z ∧ z ≤ 4294967295) : IntKind.u32.wrap z = z := by
  simp [IntKind.wrap, IntKind.bits, IntKind.signed]; omega
/-- a condition and a value -/
structure Cv where
  c : Prop
  v : Value
def ar2 (bo : BinOp) (k k' : IntKind) (m n : Int) : Option Cv := match bo, k, k' with
  | .add, .i64, .i64 => some ⟨-9223372036854775808 ≤ m + n ∧ m + n ≤ 9223372036854775807, .int .i64 (m + n)⟩
  | .sub, .i64, .i64 => some ⟨-9223372036854775808 ≤ m - n ∧ m - n ≤ 9223372036854775807, .int .i64 (m - n)⟩
  | .add, .u8, .u8 => some ⟨0 ≤ m + n ∧ m + n ≤ 255, .int .u8 (m + n)⟩
  | .sub, .u8, .u8 => some ⟨0 ≤ m - n ∧ m - n ≤ 255, .int .u8 (m - n)⟩
  | .and, .u8, .u8 => (match m, n with | .ofNat a, .ofNat b => some ⟨a < 256 ∧ b < 256, .int .u8 ((a &&& b : Nat) : Int)⟩ | _, _ => none)
  | .or, .u8, .u8 => (match m, n with | .ofNat a, .ofNat b => some ⟨a < 256 ∧ b < 256, .int .u8 ((a ||| b : Nat) : Int)⟩ | _, _ => none)
  | .andNot, .u8, .u8 => (match m, n with | .ofNat a, .ofNat b => some ⟨a < 256 ∧ b < 256, .int .u8 ((a &&& (255 - b) : Nat) : Int)⟩ | _, _ => none)
  | .and, .i64, .i64 => (match m, n with | .ofNat a, .ofNat b => some ⟨a < 4611686018427387904 ∧ b < 4611686018427387904, .int .i64 ((a &&& b : Nat) : Int)⟩ | _, _ => none)
  | .or, .i64, .i64 => (match m, n with | .ofNat a, .ofNat b => some ⟨a < 4611686018427387904 ∧ b < 4611686018427387904, .int .i64 ((a ||| b : Nat) : Int)⟩ | _, _ => none)
  | .rem, .i64, .i64 => (match m, n with | .ofNat a, .ofNat b => some ⟨0 < b, .int .i64 ((a % b : Nat) : Int)⟩ | _, _ => none)
  | .rem, .u8, .u8 => (match m, n with | .ofNat a, .ofNat b => some ⟨0 < b, .int .u8 ((a % b : Nat) : Int)⟩ | _, _ => none)
  | _, _, _ => none
theorem ar2_ok {P : Program} {bo : BinOp} {k k' : IntKind} {m n : Int} {r : Cv} (h : ar2 bo k k' m n = some r) (hc : r.c) : k = k' ∧ BinS P bo k m n r.v := by
  unfold ar2 at h
  split at h
  · cases h; exact ⟨rfl, B_add (r_i64 hc)⟩
  · cases h; exact ⟨rfl, B_sub (r_i64 hc)⟩
  · cases h; exact ⟨rfl, B_add (r_u8 hc)⟩
  · cases h; exact ⟨rfl, B_sub (r_u8 hc)⟩
  · split at h
    · cases h; exact ⟨rfl, B_and8 hc.1 hc.2⟩
    · cases h
  · split at h
    · cases h; exact ⟨rfl, B_or8 hc.1 hc.2⟩
    · cases h
  · split at h
    · cases h; exact ⟨rfl, B_andNot8 hc.1 hc.2⟩
    · cases h
  · split at h
    · cases h; exact ⟨rfl, B_and64 hc.1 hc.2⟩
    · cases h
  · split at h
    · cases h; exact ⟨rfl, B_or64 hc.1 hc.2⟩
    · cases h
  · split at h
    · cases h; exact ⟨rfl, B_rem (by have h0 : 0 < _ := hc; omega)⟩
    · cases h
  · split at h
    · cases h; exact ⟨rfl, B_rem (by have h0 : 0 < _ := hc; omega)⟩
    · cases h
  · cases h
def cv2 (k : IntKind) (m : Int) : Option Cv := match k with
  | .i64 => some ⟨-9223372036854775808 ≤ m ∧ m ≤ 9223372036854775807, .int .i64 m⟩
  | .u8 => some ⟨0 ≤ m ∧ m ≤ 255, .int .u8 m⟩
  | .u64 => some ⟨0 ≤ m ∧ m ≤ 18446744073709551615, .int .u64 m⟩
  | .i32 => some ⟨-2147483648 ≤ m ∧ m ≤ 2147483647, .int .i32 m⟩
  | .u32 => some ⟨0 ≤ m ∧ m ≤ 4294967295, .int .u32 m⟩
  | _ => none
theorem cv2_ok {k : IntKind} {m : Int} {r : Cv} (h : cv2 k m = some r) (hc : r.c) : r.v = .int k (k.wrap m) := by
  unfold cv2 at h
  split at h <;> cases h
  · show Value.int _ m = _; rw [r_i64 hc]
  · show Value.int _ m = _; rw [r_u8 hc]
  · show Value.int _ m = _; rw [r_u64 hc]
  · show Value.int _ m = _; rw [r_i32 hc]
  · show Value.int _ m = _; rw [r_u32 hc]
def intTy (P : Program) (t : TypeId) : Option IntKind := match P.underlying t with | some (.int k) => some k | _ => none
def arith1 (P : Program) (l : Fm) (op : Op) : Option Cv := match op with
  | .binOp bo _ x y _ => (match lk l x, lk l y with
    | some (.int k m), some (.int k' n) => ar2 bo k k' m n
    | _, _ => none)
  | .convert t t' x => (match intTy P t, intTy P t', lk l x with
    | some k, some k', some (.int k2 m) => bif decide (k = k2) then cv2 k' m else none
    | _, _, _ => none)
  | .call ⟨.builtin .len, ar, ts⟩ => (match ar.toList, ts.toList with
    | [x], [t] => bif sliceTy P t then (match lk l x with
      | some (.slice _ n _) => some ⟨True, .int .i64 n⟩
      | _ => none) else none
    | _, _ => none)
  | _ => none
theorem intTy_ok {P : Program} {t : TypeId} {k : IntKind} (h : intTy P t = some k) : P.underlying t = some (.int k) := by
  unfold intTy at h
  cases hq : P.underlying t with
  | none => simp [hq] at h
  | some d => cases d <;> first | (simp [hq] at h; done) | (simp only [hq, Option.some.injEq] at h; rw [h])
theorem arith1_ex {P : Program} {o : Oper} {l : Fm} {ds : List Deferred} {w : World} {r : Cv} (h : arith1 P l o.op = some r) (hc : r.c) : Ex P l ds o w r.v := by
  obtain ⟨dst, op, type, pos, after, guard⟩ := o
  cases op with
  | binOp bo t x y t' =>
    simp only [arith1] at h
    cases hx : lk l x with
    | none => simp [hx] at h
    | some u =>
      cases u with
      | int k m =>
        cases hy : lk l y with
        | none => simp [hx, hy] at h
        | some u2 =>
          cases u2 with
          | int k' n =>
            simp only [hx, hy] at h
            obtain ⟨rfl, hb⟩ := ar2_ok (P := P) h hc
            exact x_bins rfl hx hy hb
          | _ => simp [hx, hy] at h
      | _ => simp [hx] at h
  | convert t t' x =>
    simp only [arith1] at h
    cases h1 : intTy P t with
    | none => simp [h1] at h
    | some k =>
      cases h2 : intTy P t' with
      | none => simp [h1, h2] at h
      | some k' =>
        cases hx : lk l x with
        | none => simp [h1, h2, hx] at h
        | some u =>
          cases u with
          | int k2 m =>
            simp only [h1, h2, hx] at h
            cases hk : decide (k = k2) with
            | false => rw [hk] at h; cases h
            | true =>
              obtain rfl : k = k2 := of_decide_eq_true hk
              rw [hk] at h
              have := cv2_ok (k := k') h hc
              rw [this]
              exact x_conv rfl (intTy_ok h1) (intTy_ok h2) hx rfl
          | _ => simp [h1, h2, hx] at h
  | call c =>
    obtain ⟨callee, ar, ts⟩ := c
    cases callee with
    | builtin b =>
      cases b with
      | len =>
        simp only [arith1] at h
        split at h
        · rename_i x t har hts
          cases hs : sliceTy P t with
          | false => rw [hs] at h; cases h
          | true =>
            rw [hs] at h
            simp only [cond_true] at h
            cases hx : lk l x with
            | none => simp [hx] at h
            | some u =>
              cases u with
              | slice A n c =>
                simp only [hx, Option.some.injEq] at h
                subst h
                unfold sliceTy at hs
                cases hq : P.underlying t with
                | none => simp [hq] at hs
                | some d => cases d with
                  | slice e => exact x_lenSl rfl har hts hq hx
                  | _ => simp [hq] at hs
              | _ => simp [hx] at h
        · cases h
      | _ => simp [arith1] at h
    | _ => simp [arith1] at h
  | _ => simp [arith1] at h
section
variable {P : Program} {rs : List Res} {o : Oper} {l : Fm} {x y z : Operand} {t t' e : TypeId} {k k' : IntKind} {m n : Int} {v u : Value} {b off j : Nat} {A : Option Addr}
theorem Ya {c : Prop} (h : arith1 P l o.op = some ⟨c, v⟩ := by rfl) (hc : c := by first | omega | (refine ⟨?_, ?_⟩ <;> first | omega | assumption) | (show True; trivial)) : Yl P rs l o v := ⟨fun _ => arith1_ex h hc⟩
theorem Yq {c : Prop} {i i' : Int} (h : arith1 P l o.op = some ⟨c, .int k i⟩ := by rfl) (hq : i = i' := by assumption) (hc : c := by omega) : Yl P rs l o (.int k i') := ⟨fun {_ _ w ds} _ => by
  have := arith1_ex (ds := ds) (w := w) h hc; rwa [hq] at this⟩
/-! shifts -/
theorem Yh1 {n : Nat} (ho : o.op = .binOp .shl t x y t' := by rfl) (hx : lk l x = some (.int .i64 1) := by rfl) (hy : lk l y = some (.int k' n) := by rfl) (hn : n ≤ 62 := by omega) : Yl P rs l o (.int .i64 ((two n : Nat) : Int)) := ⟨fun _ => x_shl1_64 ho hx hy hn⟩
theorem Yh8 {n : Nat} (ho : o.op = .binOp .shl t x y t' := by rfl) (hx : lk l x = some (.int .u8 1) := by rfl) (hy : lk l y = some (.int k' n) := by rfl) (hn : n ≤ 7 := by omega) : Yl P rs l o (.int .u8 ((two n : Nat) : Int)) := ⟨fun _ => x_shl1_8 ho hx hy hn⟩
theorem Yhr {a n : Nat} (ho : o.op = .binOp .shr t x y t' := by rfl) (hx : lk l x = some (.int k a) := by rfl) (hy : lk l y = some (.int k' n) := by rfl) (hn : n ≤ k.bits := by first | omega | (simp [IntKind.bits] <;> omega)) : Yl P rs l o (.int k ((a / two n : Nat) : Int)) := ⟨fun _ => x_shr_nat ho hx hy hn⟩
theorem Yhl {a n : Nat} (ho : o.op = .binOp .shl t x y t' := by rfl) (hx : lk l x = some (.int .i64 a) := by rfl) (hy : lk l y = some (.int k' n) := by rfl) (hn : n ≤ 62 := by omega) (ha : a * two n ≤ 9223372036854775807 := by first | omega | assumption) : Yl P rs l o (.int .i64 ((a * two n : Nat) : Int)) := ⟨fun _ => x_shl_nat64 ho hx hy hn ha⟩
/-! strings -/
section
variable {a c : List UInt8}
theorem YsT (ho : o.op = .binOp .eql t x y t' := by rfl) (hx : lk l x = some (.string ⟨a.toArray⟩) := by rfl) (hy : lk l y = some (.string ⟨c.toArray⟩) := by rfl) (h : a = c := by first | assumption | decide) : Yl P rs l o (.bool true) := ⟨fun _ => x_eqS_t ho hx hy h⟩
theorem YsF (ho : o.op = .binOp .eql t x y t' := by rfl) (hx : lk l x = some (.string ⟨a.toArray⟩) := by rfl) (hy : lk l y = some (.string ⟨c.toArray⟩) := by rfl) (h : a ≠ c := by first | assumption | decide) : Yl P rs l o (.bool false) := ⟨fun _ => x_eqS_f ho hx hy h⟩
theorem YnT (ho : o.op = .binOp .neq t x y t' := by rfl) (hx : lk l x = some (.string ⟨a.toArray⟩) := by rfl) (hy : lk l y = some (.string ⟨c.toArray⟩) := by rfl) (h : a ≠ c := by first | assumption | decide) : Yl P rs l o (.bool true) := ⟨fun _ => x_neS_t ho hx hy h⟩
theorem YnF (ho : o.op = .binOp .neq t x y t' := by rfl) (hx : lk l x = some (.string ⟨a.toArray⟩) := by rfl) (hy : lk l y = some (.string ⟨c.toArray⟩) := by rfl) (h : a = c := by first | assumption | decide) : Yl P rs l o (.bool false) := ⟨fun _ => x_neS_f ho hx hy h⟩
theorem Yct (ho : o.op = .binOp .add t x y t' := by rfl) (hx : lk l x = some (.string ⟨a.toArray⟩) := by rfl) (hy : lk l y = some (.string ⟨c.toArray⟩) := by rfl) (h : a.length + c.length ≤ 9223372036854775807 := by first | omega | (simp; omega)) : Yl P rs l o (.string ⟨(a ++ c).toArray⟩) := ⟨fun _ => x_cat ho hx hy h⟩
theorem Yis {i : Int} {d : UInt8} (ho : o.op = .index t x y := by rfl) (hx : lk l x = some (.string ⟨a.toArray⟩) := by rfl) (hy : lk l y = some (.int k i) := by rfl) (ht : P.underlying t = some .string := by rfl) (hi : 0 ≤ i := by omega) (hb : a[i.toNat]? = some d := by first | assumption | rfl) : Yl P rs l o (.int .u8 (d.toNat : Int)) := ⟨fun _ => x_idxStr ho ht hx hy hi hb⟩
theorem Yln {ar : Array Operand} {ts : Array TypeId} (ho : o.op = .call { callee := .builtin .len, args := ar, argTypes := ts } := by rfl) (ha : ar.toList = [x] := by rfl) (hts : ts.toList = [t] := by rfl) (ht : P.underlying t = some .string := by rfl) (hx : lk l x = some (.string ⟨a.toArray⟩) := by rfl) : Yl P rs l o (.int .i64 a.length) := ⟨fun _ => x_lenS ho ha hts ht hx⟩
theorem Ysl {i : Int} (ho : o.op = .slice t x (some y) none none := by rfl) (hx : lk l x = some (.string ⟨a.toArray⟩) := by rfl) (hy : lk l y = some (.int k i) := by rfl) (ht : P.underlying t = some .string := by rfl) (hi : 0 ≤ i ∧ i ≤ a.length := by first | omega | (simp <;> omega)) : Yl P rs l o (.string ⟨(a.drop i.toNat).toArray⟩) := ⟨fun _ => x_sliceSt ho ht hx hy hi⟩
end
/-! bools -/
theorem YbE {a c : Bool} (ho : o.op = .binOp .eql t x y t' := by rfl) (ht : P.underlying t = some .bool := by rfl) (hx : lk l x = some (.bool a) := by rfl) (hy : lk l y = some (.bool c) := by rfl) : Yl P rs l o (.bool (a == c)) := ⟨fun _ => x_eqB ho ht hx hy⟩
theorem YbN {a c : Bool} (ho : o.op = .binOp .neq t x y t' := by rfl) (ht : P.underlying t = some .bool := by rfl) (hx : lk l x = some (.bool a) := by rfl) (hy : lk l y = some (.bool c) := by rfl) : Yl P rs l o (.bool (!(a == c))) := ⟨fun _ => x_neB ho ht hx hy⟩
theorem YbT {a c : Bool} (ho : o.op = .binOp .eql t x y t' := by rfl) (ht : P.underlying t = some .bool := by rfl) (hx : lk l x = some (.bool a) := by rfl) (hy : lk l y = some (.bool c) := by rfl) (h : a = c := by first | rfl | assumption) : Yl P rs l o (.bool true) := ⟨fun _ => x_eqB_t ho ht hx hy h⟩
theorem YbF {a c : Bool} (ho : o.op = .binOp .neq t x y t' := by rfl) (ht : P.underlying t = some .bool := by rfl) (hx : lk l x = some (.bool a) := by rfl) (hy : lk l y = some (.bool c) := by rfl) (h : a = c := by first | rfl | assumption) : Yl P rs l o (.bool false) := ⟨fun _ => x_neB_f ho ht hx hy h⟩
/-! memory -/
theorem Yld {c : Array Value} {ty : TypeId} {fz : Nat × Nat} (ho : o.op = .load t x := by rfl) (hx : lk l x = some u := by rfl) (hu : IsCell u b off := by infer_instance) (hm : HasObj rs b (.cells c ty fz) := by infer_instance) (ht : flatT P t = true := by rfl) (hv : nth c.toList off = some v := by rfl) : Yl P rs l o v := ⟨fun hS => by
  rw [hu.eq] at hx; exact x_load hS ho hx ht hm.mem hv⟩
theorem YlA {c : List Value} {ty : TypeId} {fz : Nat × Nat} (ho : o.op = .load t x := by rfl) (hx : lk l x = some u := by rfl) (hu : IsCell u b 0 := by infer_instance) (hm : HasObj rs b (.cells c.toArray ty fz) := by infer_instance) (ht : aggT P t c.length = true := by rfl) : Yl P rs l o (.agg c.toArray) := ⟨fun hS => by
  rw [hu.eq] at hx; exact x_loadBox hS ho hx hm.mem ht⟩
theorem YlE {n size : Nat} {xs : List Value} (ho : o.op = .load t x := by rfl) (hx : lk l x = some u := by rfl) (hu : IsEl u A j := by infer_instance) (hm : HasSl rs A n size xs := by infer_instance) (ht : flatT P t = true := by rfl) (hv : xs[j]? = some v := by first | assumption | rfl) : Yl P rs l o v := ⟨fun hS => by
  rw [hu.eq] at hx; exact x_loadEl ho hx ht (hm.rd hS) hv⟩
theorem YlG {n size : Nat} {xs cs : List Value} (ho : o.op = .load t x := by rfl) (hx : lk l x = some u := by rfl) (hu : IsEl u A j := by infer_instance) (hm : HasSl rs A n size xs := by infer_instance) (hv : (xs.drop j).take cs.length = cs := by assumption) (ht : aggT P t cs.length = true := by rfl) : Yl P rs l o (.agg cs.toArray) := ⟨fun hS => by
  rw [hu.eq] at hx; exact x_loadElAgg ho hx (hm.rd hS) hv ht⟩
/-- an index that is a natural number -/
class IsNat (v : Value) (k : outParam IntKind) (j : outParam Nat) : Prop where
  eq : v = .int k ((j : Nat) : Int)
instance isNat {k : IntKind} {j : Nat} : IsNat (.int k ((j : Nat) : Int)) k j := ⟨rfl⟩
def elemT (P : Program) (t : TypeId) : Option TypeId := match P.underlying t with | some (.slice e) => some e | _ => none
theorem elemT_ok (h : elemT P t = some e) : P.underlying t = some (.slice e) := by
  unfold elemT at h
  cases hq : P.underlying t with
  | none => simp [hq] at h
  | some d => cases d <;> first | (simp [hq] at h; done) | (simp only [hq, Option.some.injEq] at h; rw [h])
section
variable {n c size : Nat} {xs : List Value} {i : Int}
theorem YiN (ho : o.op = .indexAddr t x y := by rfl) (hx : lk l x = some (.slice A n c) := by rfl) (hy : lk l y = some u := by rfl) (hu : IsNat u k j := by infer_instance) (ht : elemT P t = some e := by rfl) (hm : HasSl rs A n 1 xs := by infer_instance) (he : sizeT P e 1 = true := by rfl) (hi : j < n := by omega) : Yl P rs l o (.pointer (some ((adr A).add j))) := ⟨fun hS => by
  rw [hu.eq] at hy; exact x_idx1 ho hx hy (elemT_ok ht) he (hm.rd hS) (by omega)⟩
theorem YiM (ho : o.op = .indexAddr t x y := by rfl) (hx : lk l x = some (.slice A n c) := by rfl) (hy : lk l y = some u := by rfl) (hu : IsNat u k j := by infer_instance) (ht : elemT P t = some e := by rfl) (hm : HasSl rs A n size xs := by infer_instance) (he : sizeT P e size = true := by rfl) (hi : j < n := by omega) : Yl P rs l o (.pointer (some ((adr A).add (j * size)))) := ⟨fun hS => by
  rw [hu.eq] at hy; exact x_idx ho hx hy (elemT_ok ht) (hm.rd hS) he (by omega)⟩
theorem Yi1 (ho : o.op = .indexAddr t x y := by rfl) (hx : lk l x = some (.slice A n c) := by rfl) (hy : lk l y = some (.int k i) := by rfl) (ht : elemT P t = some e := by rfl) (hm : HasSl rs A n 1 xs := by infer_instance) (he : sizeT P e 1 = true := by rfl) (hi : 0 ≤ i ∧ i < (n : Int) := by omega) : Yl P rs l o (.pointer (some ((adr A).add i.toNat))) := ⟨fun hS => 
  x_idx1 ho hx hy (elemT_ok ht) he (hm.rd hS) hi⟩
theorem Yi2 (ho : o.op = .indexAddr t x y := by rfl) (hx : lk l x = some (.slice A n c) := by rfl) (hy : lk l y = some (.int k i) := by rfl) (ht : elemT P t = some e := by rfl) (hm : HasSl rs A n size xs := by infer_instance) (he : sizeT P e size = true := by rfl) (hi : 0 ≤ i ∧ i < (n : Int) := by omega) : Yl P rs l o (.pointer (some ((adr A).add (i.toNat * size)))) := ⟨fun hS => 
  x_idx ho hx hy (elemT_ok ht) (hm.rd hS) he hi⟩
end
def fldO (P : Program) (t : TypeId) (i : Nat) : Option Nat := match structT P t with
  | some fs => (match fs.toList[i]? with
    | some f => bif someT P f.type then some f.offset else none
    | none => none)
  | none => none
theorem fldO_ok {i d : Nat} (h : fldO P t i = some d) : ∃ (fs : Array Field) (f : Field), P.underlying t = some (.struct fs) ∧ fs.toList[i]? = some f ∧ someT P f.type = true ∧ f.offset = d := by
  unfold fldO at h
  cases hu : structT P t with
  | none => simp [hu] at h
  | some fs =>
    simp only [hu] at h
    cases hf : fs.toList[i]? with
    | none => simp [hf] at h
    | some f =>
      simp only [hf] at h
      cases hs : someT P f.type with
      | false => rw [hs] at h; cases h
      | true =>
        simp only [hs, cond_true, Option.some.injEq] at h
        refine ⟨fs, f, ?_, hf, hs, h⟩
        unfold structT at hu
        cases hq : P.underlying t with
        | none => simp [hq] at hu
        | some d => cases d <;> first | (simp [hq] at hu; done) | (simp only [hq, Option.some.injEq] at hu; rw [hu])
theorem Yfc {i d : Nat} (ho : o.op = .fieldAddr t x i := by rfl) (hx : lk l x = some u := by rfl) (hu : IsCell u b off := by infer_instance) (hf : fldO P t i = some d := by rfl) : Yl P rs l o (.pointer (some ⟨b, off + d, none⟩)) := ⟨fun hS => by
  obtain ⟨fs, f, h1, h2, h3, rfl⟩ := fldO_ok hf
  rw [hu.eq] at hx; exact x_fieldAddr ho h1 h2 h3 hx⟩
theorem Yfe {i d : Nat} (ho : o.op = .fieldAddr t x i := by rfl) (hx : lk l x = some u := by rfl) (hu : IsEl u A j := by infer_instance) (hf : fldO P t i = some d := by rfl) : Yl P rs l o (.pointer (some ((adr A).add (j + d)))) := ⟨fun hS => by
  obtain ⟨fs, f, h1, h2, h3, rfl⟩ := fldO_ok hf
  rw [hu.eq] at hx; exact x_fieldAddrEl ho h1 h2 h3 hx⟩
theorem Ymp {es : List MapEntry} {c : Nat} {kv : Value} (ho : o.op = .lookup t x y false := by rfl) (hx : lk l x = some (.map (some b)) := by rfl) (hy : lk l y = some kv := by rfl) (hm : HasObj rs b (.map es.toArray c) := by infer_instance) (hk : lookT P t kv es = some v := by first | assumption | rfl) : Yl P rs l o v := ⟨fun hS => x_lookup hS hm.mem ho hx hy hk⟩
end
end Go.Proofs.Ytfdfnamkkepbiaa
