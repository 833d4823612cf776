/-
  Regions that draw their order and end in an operation that writes; strings. Nothing here names a function of the program.
-/
import Derived.Test.YtfdfnamkkepbiaaWalk4
import Derived.StillTail
namespace Go.Proofs.Ytfdfnamkkepbiaa
open Go.RowKit

section
variable {P : Program} {ops : Array Oper} {Q : Exit → Act → World → Prop} {rest : List Oper} {o : Oper} {l : Fm} {ds : List Deferred} {w : World}
variable {F : Nat → Prop} {w0 : World} {rs rs' : List Res} {x y : Operand} {t t' : TypeId} {d n : Nat}
/-- n operations that leave the world alone, in any order, then the others in theirs -/
structure WT (P : Program) (ops : Array Oper) (Q : Exit → Act → World → Prop) (n : Nat) (rest : List Oper) (l : Fm) (ds : List Deferred) (w : World) : Prop where
  out : wpStill P ops w (fun a' => wpList P ops Q (rest.drop n) a' w) (rest.take n) ⟨l.arr, ds⟩
structure TStep (P : Program) (ops : Array Oper) (Q : Exit → Act → World → Prop) (n : Nat) (rest : List Oper) (o : Oper) (l : Fm) (ds : List Deferred) (w : World) : Prop where
  run : wantF ops l o = true → WT P ops Q (n + 1) (o :: rest) l ds w
structure TNay (P : Program) (ops : Array Oper) (Q : Exit → Act → World → Prop) (n : Nat) (rest : List Oper) (o : Oper) (l : Fm) (ds : List Deferred) (w : World) : Prop where
  run : wantF ops l o = false → WT P ops Q (n + 1) (o :: rest) l ds w
theorem T_yes (hw : wantF ops l o = true) (h : TStep P ops Q n rest o l ds w) : WT P ops Q (n + 1) (o :: rest) l ds w := h.run hw
theorem T_nay (hw : wantF ops l o = false) (h : TNay P ops Q n rest o l ds w) : WT P ops Q (n + 1) (o :: rest) l ds w := h.run hw
theorem T_nil (h : WL P ops Q rest l ds w) : WT P ops Q 0 rest l ds w := ⟨h.out⟩
theorem T_ex {v : Value} (hd : o.dst = some d) (he : Ex P l ds o w v) (k : WT P ops Q n rest (l.upd d v) ds w) : TStep P ops Q n rest o l ds w := ⟨fun hw => ⟨by
  show wpStill P ops w _ (o :: rest.take n) _
  unfold wpStill
  rw [if_pos (wantF_eq.trans hw)]
  unfold Oper.still
  rw [he, Oper.stillUpon_value, hd, put_mk]
  exact k.out⟩⟩
theorem T_bin {op : BinOp} {k : IntKind} {m i : Int} (hd : o.dst = some d) (ho : o.op = .binOp op t x y t') (hx : lk l x = some (.int k m)) (hy : lk l y = some (.int k i)) (h : ∃ v, BinS P op k m i v ∧ WT P ops Q n rest (l.upd d v) ds w) : TStep P ops Q n rest o l ds w := by
  obtain ⟨v, hv, k⟩ := h
  exact T_ex hd (x_bins ho hx hy hv) k
theorem T_no (hd : o.dst = some d) (k : WT P ops Q n rest (l.upd d undef) ds w) : TNay P ops Q n rest o l ds w := ⟨fun hw => ⟨by
  show wpStill P ops w _ (o :: rest.take n) _
  unfold wpStill
  rw [if_neg (by rw [wantF_eq, hw]; exact Bool.false_ne_true), hd, put_mk]
  exact k.out⟩⟩
theorem W_tail {id : Nat} {l' : List Oper} (n : Nat) (hS : St F w0 rs w) (hm : P.follows .mixedOrders = true) (hB : Region.lexTailB .any l'.toArray n = true)
    (k : ∀ w, St F w0 rs w → WT P l'.toArray Q n l' l ds w) : (Code.region id l'.toArray true).wp P Q ⟨l.arr, ds⟩ w :=
  wp_region_still_tail n hm hB (k _ (hS.call (Fr.of ((Below.refl _ _).drew)))).out

/-! strings -/
theorem x_idxStr {L : List UInt8} {k : IntKind} {i : Int} {b : UInt8} (ho : o.op = .index t x y) (ht : P.underlying t = some .string) (hx : lk l x = some (.string ⟨L.toArray⟩)) (hy : lk l y = some (.int k i)) (hi : 0 ≤ i) (hb : L[i.toNat]? = some b) : Ex P l ds o w (.int .u8 (b.toNat : Int)) := by
  unfold Ex execOp; rw [ho]; simp only [lk_eval hx, lk_eval hy]
  refine run_v ?_
  have h1 : (⟨L.toArray⟩ : ByteArray)[i.toNat]? = some b := by
    have hlt := (List.getElem?_eq_some_iff.1 hb).1
    have hlt' : i.toNat < (⟨L.toArray⟩ : ByteArray).size := by simpa [ByteArray.size] using hlt
    rw [getElem?_pos (⟨L.toArray⟩ : ByteArray) i.toNat hlt']
    have := (List.getElem?_eq_some_iff.1 hb).2
    rw [← this]; rfl
  simp only [Instr.index, asIntOf, Sem.run_bind, Sem.run_pure, Result.andThen_ok, run_underlying ht, if_pos hi, h1]
theorem ba_toList (L : List UInt8) : (⟨L.toArray⟩ : ByteArray).toList = L := by rw [ByteArray.toList_eq]
theorem x_str {op : BinOp} {a b : ByteArray} {v : Value} (ho : o.op = .binOp op t x y t') (hx : lk l x = some (.string a)) (hy : lk l y = some (.string b)) (hv : (Op.stringOp op a b).run P w = .ok v w) : Ex P l ds o w v := by
  refine x_bin ho hx hy ?_ ?_
  · cases op <;> rfl
  · cases op <;> exact hv
theorem x_eqS_t {a b : List UInt8} (ho : o.op = .binOp .eql t x y t') (hx : lk l x = some (.string ⟨a.toArray⟩)) (hy : lk l y = some (.string ⟨b.toArray⟩)) (h : a = b) : Ex P l ds o w (.bool true) :=
  x_str ho hx hy (by simp [Op.stringOp, ba_toList, h, go_sem])
theorem x_eqS_f {a b : List UInt8} (ho : o.op = .binOp .eql t x y t') (hx : lk l x = some (.string ⟨a.toArray⟩)) (hy : lk l y = some (.string ⟨b.toArray⟩)) (h : a ≠ b) : Ex P l ds o w (.bool false) :=
  x_str ho hx hy (by simp [Op.stringOp, ba_toList, h, go_sem])
theorem x_neS_t {a b : List UInt8} (ho : o.op = .binOp .neq t x y t') (hx : lk l x = some (.string ⟨a.toArray⟩)) (hy : lk l y = some (.string ⟨b.toArray⟩)) (h : a ≠ b) : Ex P l ds o w (.bool true) :=
  x_str ho hx hy (by simp [Op.stringOp, ba_toList, h, go_sem])
theorem x_neS_f {a b : List UInt8} (ho : o.op = .binOp .neq t x y t') (hx : lk l x = some (.string ⟨a.toArray⟩)) (hy : lk l y = some (.string ⟨b.toArray⟩)) (h : a = b) : Ex P l ds o w (.bool false) :=
  x_str ho hx hy (by simp [Op.stringOp, ba_toList, h, go_sem])
theorem x_cat {a b : List UInt8} (ho : o.op = .binOp .add t x y t') (hx : lk l x = some (.string ⟨a.toArray⟩)) (hy : lk l y = some (.string ⟨b.toArray⟩)) (h : a.length + b.length ≤ 9223372036854775807) : Ex P l ds o w (.string ⟨(a ++ b).toArray⟩) :=
  x_str ho hx hy (by
    have h1 : ¬ (((a.length + b.length : Nat) : Int) > IntKind.i64.max) := by
      have : IntKind.i64.max = 9223372036854775807 := by rfl
      omega
    have h2 : (⟨a.toArray⟩ : ByteArray) ++ ⟨b.toArray⟩ = ⟨(a ++ b).toArray⟩ := by
      apply ByteArray.ext; simp
    simp only [Op.stringOp, ByteArray.size, List.size_toArray, if_neg h1, h2]
    rfl)
theorem x_lenS {L : List UInt8} {ar : Array Operand} {ts : Array TypeId} (ho : o.op = .call { callee := .builtin .len, args := ar, argTypes := ts }) (ha : ar.toList = [x]) (hts : ts.toList = [t])
    (ht : P.underlying t = some .string) (hx : lk l x = some (.string ⟨L.toArray⟩)) : Ex P l ds o w (.int .i64 L.length) := x_lenStr ho ha hts ht hx (by simp [ByteArray.size])
/-- bools against each other -/
theorem run_eqB {a b : Bool} (ht : P.underlying t = some .bool) : (Op.equal t (.bool a) (.bool b)).run P w = .ok (a == b) w := by
  show (Op.equalIn (9999 + 1) t (.bool a) (.bool b)).run P w = _
  unfold Op.equalIn
  simp only [Sem.run_bind, run_underlying ht, Result.andThen_ok, Sem.run_pure]
theorem x_eqB {a b : Bool} (ho : o.op = .binOp .eql t x y t') (ht : P.underlying t = some .bool) (hx : lk l x = some (.bool a)) (hy : lk l y = some (.bool b)) : Ex P l ds o w (.bool (a == b)) :=
  x_bin ho hx hy rfl (by
    show ((Op.equal t (.bool a) (.bool b)) >>= fun x => (pure (Value.bool x) : Sem Value)).run P w = _
    rw [Sem.run_bind, run_eqB ht]; rfl)
theorem x_neB {a b : Bool} (ho : o.op = .binOp .neq t x y t') (ht : P.underlying t = some .bool) (hx : lk l x = some (.bool a)) (hy : lk l y = some (.bool b)) : Ex P l ds o w (.bool (!(a == b))) :=
  x_bin ho hx hy rfl (by
    show ((Op.equal t (.bool a) (.bool b)) >>= fun x => (pure (Value.bool (!x)) : Sem Value)).run P w = _
    rw [Sem.run_bind, run_eqB ht]; rfl)
theorem x_eqB_t {a b : Bool} (ho : o.op = .binOp .eql t x y t') (ht : P.underlying t = some .bool) (hx : lk l x = some (.bool a)) (hy : lk l y = some (.bool b)) (h : a = b) : Ex P l ds o w (.bool true) := by
  have := x_eqB (ds := ds) (w := w) ho ht hx hy; rwa [h, beq_self_eq_true] at this
theorem x_neB_f {a b : Bool} (ho : o.op = .binOp .neq t x y t') (ht : P.underlying t = some .bool) (hx : lk l x = some (.bool a)) (hy : lk l y = some (.bool b)) (h : a = b) : Ex P l ds o w (.bool false) := by
  have := x_neB (ds := ds) (w := w) ho ht hx hy; rwa [h, beq_self_eq_true] at this
theorem St.freshRow {e : TypeId} {size n : Nat} {v : Value} {xs : List Value} {w' : World} (h : St F w0 rs w) (hb : Below w.heap.size w w') (hown : w'.ownsRow w.heap.size e size v n xs) : St F w0 (Res.row e size v n xs :: rs) w' :=
  h.fresh (Fr.of hb) (ownsRow_base hown (Nat.zero_le _)) fun b hb' => (hown.lt b hb').1
theorem St.rowOwn {e : TypeId} {size n : Nat} {v : Value} {xs : List Value} (h : St Nof w0 rs w) (hm : Res.row e size v n xs ∈ rs) : w.ownsRow w0.heap.size e size v n xs := by
  have h1 : w.ownsRow 0 e size v n xs := h.get hm
  refine ⟨h1.1, ?_⟩
  rcases h1.2 with h2 | ⟨g, cap, cur, hv, _, r⟩
  · exact .inl h2
  · refine .inr ⟨g, cap, cur, hv, ?_, r⟩
    rcases h.own _ hm rfl g (by subst hv; rfl) with h3 | h3
    · exact h3.elim
    · exact h3
end
end Go.Proofs.Ytfdfnamkkepbiaa
