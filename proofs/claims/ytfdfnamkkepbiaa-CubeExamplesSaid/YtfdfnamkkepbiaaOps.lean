/-
  The laws of single operations that leave the world alone. Nothing here names a function of the program.
-/
import Derived.Test.YtfdfnamkkepbiaaEng
namespace Go.Proofs.Ytfdfnamkkepbiaa
open Go.RowKit

section
variable {P : Program} {o : Oper} {l : Fm} {ds : List Deferred} {w : World} {x y z : Operand} {t t' : TypeId} {k : IntKind} {m n : Int}

theorem x_move {v : Value} (ho : o.op = .move x) (hx : lk l x = some v) : Ex P l ds o w v := by
  unfold Ex execOp; rw [ho]; simp only [lk_eval hx]; rfl
theorem x_assign {v : Value} (ho : o.op = .assign x) (hx : lk l x = some v) : Ex P l ds o w v := by
  unfold Ex execOp; rw [ho]; simp only [lk_eval hx]; rfl
theorem x_pick_t {u : Value} (ho : o.op = .pick x y z) (hx : lk l x = some (.bool true)) (hy : lk l y = some u) : Ex P l ds o w u := by
  unfold Ex execOp; rw [ho]; simp only [lk_eval hx, lk_eval hy]; rfl
theorem x_pick_f {v : Value} (ho : o.op = .pick x y z) (hx : lk l x = some (.bool false)) (hz : lk l z = some v) : Ex P l ds o w v := by
  unfold Ex execOp; rw [ho]; simp only [lk_eval hx, lk_eval hz]; rfl
theorem x_bin {op : BinOp} {a b v : Value} (ho : o.op = .binOp op t x y t') (hx : lk l x = some a) (hy : lk l y = some b) (hg : (eqGuard op t x y a b).run P w = .ok () w) (hv : (binOp op t a b).run P w = .ok v w) : Ex P l ds o w v := by
  unfold Ex execOp; rw [ho]; simp only [lk_eval hx, lk_eval hy]
  simp [go_sem, hg, hv]
theorem x_int {op : BinOp} {v : Value} (ho : o.op = .binOp op t x y t') (hx : lk l x = some (.int k m)) (hy : lk l y = some (.int k n)) (hv : (binOp op t (.int k m) (.int k n)).run P w = .ok v w) : Ex P l ds o w v := by
  refine x_bin ho hx hy ?_ hv
  cases op <;> rfl
/-- what an operator on two integers yields -/
structure BinS (P : Program) (op : BinOp) (k : IntKind) (m n : Int) (v : Value) : Prop where
  run : ∀ t w, (binOp op t (.int k m) (.int k n)).run P w = .ok v w
theorem B_add {r : Int} (hr : k.wrap (m + n) = r) : BinS P .add k m n (.int k r) := BinS.mk fun t w => (by simp [binOp, Op.intArith, hr, go_sem])
theorem B_sub {r : Int} (hr : k.wrap (m - n) = r) : BinS P .sub k m n (.int k r) := BinS.mk fun t w => (by simp [binOp, Op.intArith, hr, go_sem])
theorem B_mul {r : Int} (hr : k.wrap (m * n) = r) : BinS P .mul k m n (.int k r) := BinS.mk fun t w => (by simp [binOp, Op.intArith, hr, go_sem])
theorem B_eq_t (h : m = n) : BinS P .eql k m n (.bool true) := BinS.mk fun t w => (by simp [binOp, Op.intCmp, h, go_sem])
theorem B_eq_f (h : m ≠ n) : BinS P .eql k m n (.bool false) := BinS.mk fun t w => (by simp [binOp, Op.intCmp, h, go_sem])
theorem B_eq : BinS P .eql k m n (.bool (decide (m = n))) := BinS.mk fun t w => (by simp only [binOp, Op.intCmp]; by_cases h : m = n <;> simp [h, go_sem])
theorem B_ne_t (h : m ≠ n) : BinS P .neq k m n (.bool true) := BinS.mk fun t w => (by simp [binOp, Op.intCmp, h, go_sem])
theorem B_ne_f (h : m = n) : BinS P .neq k m n (.bool false) := BinS.mk fun t w => (by simp [binOp, Op.intCmp, h, go_sem])
theorem B_ne : BinS P .neq k m n (.bool (decide (m ≠ n))) := BinS.mk fun t w => (by simp only [binOp, Op.intCmp]; by_cases h : m = n <;> simp [h, go_sem])
theorem B_lt_t (h : m < n) : BinS P .lss k m n (.bool true) := BinS.mk fun t w => (by simp [binOp, Op.intCmp, h, go_sem])
theorem B_lt_f (h : ¬ m < n) : BinS P .lss k m n (.bool false) := BinS.mk fun t w => (by simp [binOp, Op.intCmp, h, go_sem])
theorem B_lt : BinS P .lss k m n (.bool (decide (m < n))) := BinS.mk fun t w => (by simp [binOp, Op.intCmp, go_sem])
theorem B_le_t (h : m ≤ n) : BinS P .leq k m n (.bool true) := BinS.mk fun t w => (by simp [binOp, Op.intCmp, h, go_sem])
theorem B_le_f (h : ¬ m ≤ n) : BinS P .leq k m n (.bool false) := BinS.mk fun t w => (by simp [binOp, Op.intCmp, h, go_sem])
theorem B_le : BinS P .leq k m n (.bool (decide (m ≤ n))) := BinS.mk fun t w => (by simp [binOp, Op.intCmp, go_sem])
theorem B_gt_t (h : n < m) : BinS P .gtr k m n (.bool true) := BinS.mk fun t w => (by simp [binOp, Op.intCmp, h, go_sem])
theorem B_gt_f (h : ¬ n < m) : BinS P .gtr k m n (.bool false) := BinS.mk fun t w => (by simp [binOp, Op.intCmp, h, go_sem])
theorem B_gt : BinS P .gtr k m n (.bool (decide (n < m))) := BinS.mk fun t w => (by simp [binOp, Op.intCmp, go_sem])
theorem B_ge_t (h : n ≤ m) : BinS P .geq k m n (.bool true) := BinS.mk fun t w => (by simp [binOp, Op.intCmp, h, go_sem])
theorem B_ge_f (h : ¬ n ≤ m) : BinS P .geq k m n (.bool false) := BinS.mk fun t w => (by simp [binOp, Op.intCmp, h, go_sem])
theorem B_ge : BinS P .geq k m n (.bool (decide (n ≤ m))) := BinS.mk fun t w => (by simp [binOp, Op.intCmp, go_sem])

/-! sums and differences that stay in range -/
theorem r_i64 {z : Int} (h : -9223372036854775808 ≤ z ∧ z ≤ 9223372036854775807) : IntKind.i64.wrap z = z := IntWalk.i64_in z h
theorem r_u8 {z : Int} (h : 0 ≤ z ∧ z ≤ 255) : IntKind.u8.wrap z = z := IntWalk.u8_in z h
theorem r_u64 {z : Int} (h : 0 ≤ z ∧ z ≤ 18446744073709551615) : IntKind.u64.wrap z = z := by
  simp [IntKind.wrap, IntKind.bits, IntKind.signed]; omega

/-! bits of bytes -/
theorem B_and8 {a b : Nat} (ha : a < 256) (hb : b < 256) : BinS P .and .u8 a b (.int .u8 ((a &&& b : Nat) : Int)) := BinS.mk fun t w => (by have h := u8_and_nat a b ha hb; rw [← h]; rfl)
theorem B_or8 {a b : Nat} (ha : a < 256) (hb : b < 256) : BinS P .or .u8 a b (.int .u8 ((a ||| b : Nat) : Int)) := BinS.mk fun t w => (by have h := u8_or_nat a b ha hb; rw [← h]; rfl)
theorem B_andNot8 {a b : Nat} (ha : a < 256) (hb : b < 256) : BinS P .andNot .u8 a b (.int .u8 ((a &&& (255 - b) : Nat) : Int)) := BinS.mk fun t w => (by have h := u8_andNot_nat a b ha hb; rw [← h]; rfl)

theorem ofInt_64 (z : Nat) (hz : z < 4611686018427387904) : (BitVec.ofInt 64 (z : Int)).toNat = z := by
  rw [BitVec.ofInt_natCast, BitVec.toNat_ofNat]; exact Nat.mod_eq_of_lt (by omega)
theorem B_and64 {a b : Nat} (ha : a < 4611686018427387904) (hb : b < 4611686018427387904) : BinS P .and .i64 a b (.int .i64 ((a &&& b : Nat) : Int)) := BinS.mk fun t w => (by
  show Result.ok (Value.int .i64 (IntKind.i64.wrap ((BitVec.ofInt 64 (a : Int) &&& BitVec.ofInt 64 (b : Int)).toNat : Int))) w = _
  have h : a &&& b < 4611686018427387904 := Nat.lt_of_le_of_lt Nat.and_le_left ha
  rw [BitVec.toNat_and, ofInt_64 a ha, ofInt_64 b hb, r_i64 (by omega)])
theorem B_or64 {a b : Nat} (ha : a < 4611686018427387904) (hb : b < 4611686018427387904) : BinS P .or .i64 a b (.int .i64 ((a ||| b : Nat) : Int)) := BinS.mk fun t w => (by
  show Result.ok (Value.int .i64 (IntKind.i64.wrap ((BitVec.ofInt 64 (a : Int) ||| BitVec.ofInt 64 (b : Int)).toNat : Int))) w = _
  have h : a ||| b < 4611686018427387904 := Nat.or_lt_two_pow (n := 62) ha hb
  rw [BitVec.toNat_or, ofInt_64 a ha, ofInt_64 b hb, r_i64 (by omega)])

/-! unary -/
theorem x_not {b : Bool} {t : TypeId} (ho : o.op = .unOp .not t x) (hx : lk l x = some (.bool b)) : Ex P l ds o w (.bool (!b)) := by
  unfold Ex execOp; rw [ho]; simp only [lk_eval hx]; rfl
theorem x_not_t {t : TypeId} (ho : o.op = .unOp .not t x) (hx : lk l x = some (.bool true)) : Ex P l ds o w (.bool false) := x_not ho hx
theorem x_not_f {t : TypeId} (ho : o.op = .unOp .not t x) (hx : lk l x = some (.bool false)) : Ex P l ds o w (.bool true) := x_not ho hx

/-! conversions of integers -/
theorem x_conv {k' : IntKind} {r : Int} (ho : o.op = .convert t t' x) (ht : P.underlying t = some (.int k)) (ht' : P.underlying t' = some (.int k')) (hx : lk l x = some (.int k m)) (hr : k'.wrap m = r) : Ex P l ds o w (.int k' r) := by
  unfold Ex execOp; rw [ho]; simp only [lk_eval hx]
  simp [convert, underlying, go_sem, ht, ht', Conv.intToInt, hr]

theorem x_bins {op : BinOp} {v : Value} (ho : o.op = .binOp op t x y t') (hx : lk l x = some (.int k m)) (hy : lk l y = some (.int k n)) (hv : BinS P op k m n v) : Ex P l ds o w v := x_int ho hx hy (hv.run t w)
/-! shifts -/
theorem x_shl1_64 {k' : IntKind} {n : Nat} (ho : o.op = .binOp .shl t x y t') (hx : lk l x = some (.int .i64 1)) (hy : lk l y = some (.int k' n)) (hn : n ≤ 62) : Ex P l ds o w (.int .i64 ((two n : Nat) : Int)) := by
  refine x_bin ho hx hy rfl ?_
  have h1 : min n 64 = n := by omega
  have h2 : (2 : Int) ^ n = ((two n : Nat) : Int) := by simp [two]
  have h3 : two n ≤ 4611686018427387904 := Nat.pow_le_pow_right (n := 2) (i := n) (j := 62) (by omega) hn
  have h4 : ¬ ((n : Int) < 0) := by omega
  simp only [binOp, Op.shift, if_neg h4, Int.toNat_natCast, IntKind.bits, h1, Int.one_mul, h2]
  rw [r_i64 (by omega)]; rfl
theorem x_shl1_8 {k' : IntKind} {n : Nat} (ho : o.op = .binOp .shl t x y t') (hx : lk l x = some (.int .u8 1)) (hy : lk l y = some (.int k' n)) (hn : n ≤ 7) : Ex P l ds o w (.int .u8 ((two n : Nat) : Int)) := by
  refine x_bin ho hx hy rfl ?_
  have h1 : min n 8 = n := by omega
  have h2 : (2 : Int) ^ n = ((two n : Nat) : Int) := by simp [two]
  have h3 : two n ≤ 128 := Nat.pow_le_pow_right (n := 2) (i := n) (j := 7) (by omega) hn
  have h4 : ¬ ((n : Int) < 0) := by omega
  simp only [binOp, Op.shift, if_neg h4, Int.toNat_natCast, IntKind.bits, h1, Int.one_mul, h2]
  rw [r_u8 (by omega)]; rfl
theorem x_shr_nat {k' : IntKind} {a n : Nat} (ho : o.op = .binOp .shr t x y t') (hx : lk l x = some (.int k a)) (hy : lk l y = some (.int k' n)) (hn : n ≤ k.bits) : Ex P l ds o w (.int k ((a / two n : Nat) : Int)) := by
  refine x_bin ho hx hy rfl ?_
  have h1 : min n k.bits = n := by omega
  have h2 : (2 : Int) ^ n = ((two n : Nat) : Int) := by simp [two]
  have h4 : ¬ ((n : Int) < 0) := by omega
  simp only [binOp, Op.shift, if_neg h4, Int.toNat_natCast, h1, h2]
  rw [Int.fdiv_eq_ediv_of_nonneg _ (by omega), ← Int.natCast_ediv]; rfl
theorem x_shl_nat64 {k' : IntKind} {a n : Nat} (ho : o.op = .binOp .shl t x y t') (hx : lk l x = some (.int .i64 a)) (hy : lk l y = some (.int k' n)) (hn : n ≤ 62) (ha : a * two n ≤ 9223372036854775807) : Ex P l ds o w (.int .i64 ((a * two n : Nat) : Int)) := by
  refine x_bin ho hx hy rfl ?_
  have h1 : min n 64 = n := by omega
  have h2 : (2 : Int) ^ n = ((two n : Nat) : Int) := by simp [two]
  have h4 : ¬ ((n : Int) < 0) := by omega
  simp only [binOp, Op.shift, if_neg h4, Int.toNat_natCast, IntKind.bits, h1, h2]
  rw [← Int.natCast_mul, r_i64 (by omega)]; rfl
theorem B_rem {a b : Nat} (hb : (b : Int) ≠ 0) : BinS P .rem k a b (.int k ((a % b : Nat) : Int)) := BinS.mk fun t w => (by simp only [binOp]; simp only [Op.intDiv, if_neg hb, ne_eq, not_true, if_false]; rw [Int.tmod_eq_emod_of_nonneg (by omega), ← Int.natCast_emod]; rfl)

theorem B_mod2 {a : Nat} : BinS P .rem k a 2 (.int k ((a % 2 : Nat) : Int)) := B_rem (a := a) (b := 2) (by omega)

/-! tuples, fields, built values -/
theorem x_extract {vs : Array Value} {i : Nat} {v : Value} (ho : o.op = .extract x i) (hx : lk l x = some (.tuple vs)) (hv : nth vs.toList i = some v) : Ex P l ds o w v := by
  unfold Ex execOp; rw [ho]; simp only [lk_eval hx]
  have : vs[i]? = some v := by rw [nth_eq] at hv; simpa using hv
  simp [Instr.extract, this, go_sem]
def flatT (P : Program) (t : TypeId) : Bool := match P.underlying t with | some (.struct _) => false | some (.array _ _) => false | some _ => true | none => false
theorem isAgg_flat (h : flatT P t = true) : (isAgg t).run P w = .ok false w := by
  unfold flatT at h
  cases hu : P.underlying t with
  | none => rw [hu] at h; cases h
  | some d => cases d <;> simp [isAgg, underlying, go_sem, hu] <;> (rw [hu] at h; cases h)
theorem x_field {cs : Array Value} {fs : Array Field} {f : Field} {i : Nat} {v : Value} (ho : o.op = .field t x i) (ht : P.underlying t = some (.struct fs)) (hf : fs.toList[i]? = some f) (hft : flatT P f.type = true)
    (hx : lk l x = some (.agg cs)) (hv : nth cs.toList f.offset = some v) : Ex P l ds o w v := by
  unfold Ex execOp; rw [ho]; simp only [lk_eval hx]
  have h1 : cs[f.offset]? = some v := by rw [nth_eq] at hv; simpa using hv
  have h2 : fs[i]? = some f := by simpa using hf
  simp [Instr.field, underlying, go_sem, ht, h2, part, isAgg_flat hft, asAgg, h1]
theorem x_nilCheck {a : Addr} (ho : o.op = .nilCheck x) (hx : lk l x = some (.pointer (some a))) : Ex P l ds o w (.pointer (some a)) := by
  unfold Ex execOp; rw [ho]; simp only [lk_eval hx]; rfl
theorem x_nilCheckF {f : FuncId} {ar cs : Array Value} (ho : o.op = .nilCheck x) (hx : lk l x = some (.func (.func f) ar cs)) : Ex P l ds o w (.func (.func f) ar cs) := by
  unfold Ex execOp; rw [ho]; simp only [lk_eval hx]; rfl
theorem x_lenSl {A : Option Addr} {n c : Nat} {e : TypeId} {ar : Array Operand} {ts : Array TypeId} (ho : o.op = .call { callee := .builtin .len, args := ar, argTypes := ts }) (ha : ar.toList = [x]) (hts : ts.toList = [t])
    (ht : P.underlying t = some (.slice e)) (hx : lk l x = some (.slice A n c)) : Ex P l ds o w (.int .i64 n) := by
  obtain rfl : ar = #[x] := by cases ar; simp_all
  obtain rfl : ts = #[t] := by cases ts; simp_all
  have e := lk_eval (ds := ds) hx
  unfold Ex
  generalize (Act.mk l.arr ds).eval = ρ at e ⊢
  unfold execOp; rw [ho]
  simp [resolve, invoke, builtin, Builtin.len_, underlying, go_sem, e, ht, goInt]
theorem x_lenStr {b : ByteArray} {r : Nat} {ar : Array Operand} {ts : Array TypeId} (ho : o.op = .call { callee := .builtin .len, args := ar, argTypes := ts }) (ha : ar.toList = [x]) (hts : ts.toList = [t])
    (ht : P.underlying t = some .string) (hx : lk l x = some (.string b)) (hr : b.size = r) : Ex P l ds o w (.int .i64 r) := by
  obtain rfl : ar = #[x] := by cases ar; simp_all
  obtain rfl : ts = #[t] := by cases ts; simp_all
  have e := lk_eval (ds := ds) hx
  unfold Ex
  generalize (Act.mk l.arr ds).eval = ρ at e ⊢
  unfold execOp; rw [ho]
  simp [resolve, invoke, builtin, Builtin.len_, underlying, go_sem, e, ht, goInt, hr]
end
end Go.Proofs.Ytfdfnamkkepbiaa
