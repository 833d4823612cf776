/-
  Slices of structs written out, parts of a block, bytes as a string. Nothing here names a function of the program.
-/
import Derived.Test.YtfdfnamkkepbiaaY4
import Derived.Laws.BytesString
namespace Go.Proofs.Ytfdfnamkkepbiaa
open Go.RowKit

theorem fold_setAt (off : Nat) : ∀ (c : List Value) (j : Nat) (cs : List Value), off + j + c.length ≤ cs.length →
    (c.zipIdx j).foldl (fun (cs : Array Value) (p : Value × Nat) => cs.setIfInBounds (off + p.2) p.1) cs.toArray = (cs.take (off + j) ++ (c ++ cs.drop (off + j + c.length))).toArray
  | [], j, cs, _ => by simp
  | v :: c, j, cs, h => by
    simp only [List.length_cons] at h
    simp only [List.zipIdx_cons, List.foldl_cons, List.setIfInBounds_toArray]
    rw [fold_setAt off c (j + 1) (cs.set (off + j) v) (by simp; omega)]
    have h1 : off + (j + 1) = off + j + 1 := by omega
    rw [h1, List.take_add_one, List.take_set_of_le (Nat.le_refl _), List.getElem?_set_self (by omega), List.drop_set_of_lt (by omega)]
    simp only [Option.toList_some, List.append_assoc, List.cons_append, List.nil_append, List.length_cons]
    rw [show off + j + 1 + c.length = off + j + (c.length + 1) by omega]
theorem fill_aggs (sz : Nat) : ∀ (vs : List (List Value)) (k : Nat) (zs : List Value), (∀ c ∈ vs, c.length = sz) → zs.length = (k + vs.length) * sz →
    Instr.fill (fun i => some (i * sz, sz)) zs.toArray ((vs.zipIdx k).map fun p => (p.2, Value.agg p.1.toArray)) = some (zs.take (k * sz) ++ vs.flatten).toArray
  | [], k, zs, _, hz => by
    simp only [List.zipIdx_nil, List.map_nil, Instr.fill, List.flatten_nil, List.append_nil]
    rw [List.take_of_length_le (by rw [hz]; simp)]
  | c :: vs, k, zs, hc, hz => by
    have h1 : c.length = sz := hc c (List.mem_cons_self ..)
    simp only [List.length_cons] at hz
    have hmul : (k + (vs.length + 1)) * sz = k * sz + sz + vs.length * sz := by rw [Nat.add_mul, Nat.add_mul]; omega
    simp only [List.zipIdx_cons, List.map_cons, Instr.fill, Value.cells, List.size_toArray, h1, ne_eq, not_true, decide_false, Bool.false_or]
    rw [if_neg (by simp; omega)]
    have h2 := fold_setAt (k * sz) c 0 zs (by omega)
    have h5 : c.toArray.zipIdx = (c.zipIdx 0).toArray := by simp
    rw [h5]
    simp only [List.foldl_toArray, Nat.add_zero] at h2 ⊢
    rw [h2, fill_aggs sz vs (k + 1) _ (fun d hd => hc d (List.mem_cons_of_mem _ hd)) (by
      simp only [List.length_append, List.length_take, List.length_drop, hz, hmul, h1, Nat.add_mul]; omega)]
    have h3 : (k + 1) * sz = k * sz + sz := by rw [Nat.add_mul]; omega
    have hle : k * sz ≤ zs.length := by omega
    rw [h3, ← List.append_assoc, List.take_append_of_le_length (by simp; omega)]
    rw [List.take_of_length_le (by simp; omega)]
    simp

def aggO (l : Fm) : Nat → List (Nat × Operand) → Option (List (List Value))
  | _, [] => some []
  | k, (i, x) :: ps => bif Nat.beq i k then (match lk l x with
    | some (.agg cs) => (match aggO l (k + 1) ps with
      | some vs => some (cs.toList :: vs)
      | none => none)
    | _ => none) else none
theorem aggO_eq {l : Fm} : ∀ {ps : List (Nat × Operand)} {k : Nat} {vs : List (List Value)}, aggO l k ps = some vs → lkp l ps = (vs.zipIdx k).map fun p => (p.2, Value.agg p.1.toArray)
  | [], k, vs, h => by simp only [aggO, Option.some.injEq] at h; subst h; rfl
  | (i, x) :: ps, k, vs, h => by
    unfold aggO at h
    cases hb : Nat.beq i k with
    | false => rw [hb] at h; cases h
    | true =>
      obtain rfl : i = k := Nat.eq_of_beq_eq_true hb
      rw [hb] at h
      simp only [cond_true] at h
      cases hx : lk l x with
      | none => simp [hx] at h
      | some u =>
        cases u with
        | agg cs =>
          simp only [hx] at h
          cases hr : aggO l (i + 1) ps with
          | none => rw [hr] at h; cases h
          | some us =>
            simp only [hr, Option.some.injEq] at h
            subst h
            simp [lkp, hx, aggO_eq hr]
        | _ => simp [hx] at h
section
variable {P : Program} {ops : Array Oper} {Q : Exit → Act → World → Prop} {rest : List Oper} {o : Oper} {l : Fm} {ds : List Deferred} {w : World}
variable {F : Nat → Prop} {w0 : World} {rs rs' : List Res} {x y : Operand} {t e : TypeId} {d : Nat}
/-- a slice of structs, written out whole -/
theorem M_sN {n : Nat} (sz : Nat) {parts : Array (Nat × Operand)} {vs : List (List Value)} (hS : St F w0 rs w) (k : ∀ b w', St F w0 (Res.obj b (.cells vs.flatten.toArray e (0, 0)) :: rs) w' → WL P ops Q rest (l.upd d (.slice (some ⟨b, 0, none⟩) n n)) ds w')
    (ho : o.op = .buildSlice t n parts := by rfl) (hd : o.dst = some d := by rfl) (ht : elemT P t = some e := by rfl) (he : zerosT P e sz = true := by rfl) (hv : aggO l 0 parts.toList = some vs := by rfl) (hall : (vs.all fun c => Nat.beq c.length sz) = true := by rfl) (hl : vs.length = n := by rfl) (hn : 0 < n * sz ∧ n * sz ≤ 100000 := by omega) : SStep P ops Q rest o l ds w := by
  refine S_new (f := fun b => .slice (some ⟨b, 0, none⟩) n n) hS hd ?_ k
  unfold execOp; rw [ho]
  refine run_v ?_
  rw [lkp_eval]
  obtain ⟨z, hz1, hz2, hz3⟩ := zeros_run (w := w) he
  have hbig : ¬ (n * sz > 2 ^ 24) := by omega
  have h0 : ¬ (n * sz = 0) := by omega
  have hc : ∀ c ∈ vs, c.length = sz := fun c hc => Nat.eq_of_beq_eq_true (List.all_eq_true.1 hall c hc)
  simp only [Instr.buildSlice, Sem.run_bind, run_underlying (elemT_ok ht), Result.andThen_ok, hz3, if_neg hbig, Sem.run_pure, if_neg h0, hz1]
  rw [← Array.toArray_toList (xs := (Array.range (n * sz)).map fun i => z.cells[i % z.cells.size]!), aggO_eq hv, fill_aggs sz vs 0 _ hc (by simp [hl])]
  simp only [Nat.zero_mul, List.take_zero, List.nil_append]
  rfl
end
/-- a part of a block -/
def subO (P : Program) (t : TypeId) (off : Nat) (c : List Value) : Option (List Value) := match P.info? t with
  | some i => bif Nat.beq ((c.drop off).take i.size).length i.size && aggT P t i.size then some ((c.drop off).take i.size) else none
  | none => none
theorem subO_ok {P : Program} {t : TypeId} {off : Nat} {c cs : List Value} (h : subO P t off c = some cs) : aggT P t cs.length = true ∧ ∀ j v, cs[j]? = some v → c[off + j]? = some v := by
  unfold subO at h
  cases hi : P.info? t with
  | none => simp [hi] at h
  | some i =>
    simp only [hi] at h
    cases hb : Nat.beq ((c.drop off).take i.size).length i.size && aggT P t i.size with
    | false => rw [hb] at h; cases h
    | true =>
      rw [hb] at h
      simp only [cond_true, Option.some.injEq] at h
      subst h
      simp only [Bool.and_eq_true] at hb
      have hl := Nat.eq_of_beq_eq_true hb.1
      refine ⟨by rw [hl]; exact hb.2, fun j v hj => ?_⟩
      rw [List.getElem?_take] at hj
      split at hj
      · rwa [List.getElem?_drop] at hj
      · cases hj
theorem cell_add (b off : Nat) : (⟨b, 0, none⟩ : Addr).add off = ⟨b, off, none⟩ := by
  unfold Addr.add; split <;> simp_all
theorem YlS {P : Program} {rs : List Res} {o : Oper} {l : Fm} {x : Operand} {t ty : TypeId} {u : Value} {b off : Nat} {c cs : List Value} {fz : Nat × Nat} (ho : o.op = .load t x := by rfl) (hx : lk l x = some u := by rfl) (hu : IsCell u b off := by infer_instance) (hm : HasObj rs b (.cells c.toArray ty fz) := by infer_instance) (hs : subO P t off c = some cs := by rfl) : Yl P rs l o (.agg cs.toArray) := ⟨fun {_ _ w ds} hS => by
  obtain ⟨h1, h2⟩ := subO_ok hs
  rw [hu.eq] at hx
  unfold Ex execOp; rw [ho]; simp only [lk_eval hx]
  refine run_v ?_
  refine run_loadAgg h1 fun j v hj => ?_
  have := cells_at hS hm.mem (off + j) v (by simpa using h2 j v hj)
  rw [← adr_add, cell_add] at this
  exact this⟩
/-- a block that was written out whole, to be read from now on -/
theorem St.toRd {F : Nat → Prop} {w0 w : World} {rs : List Res} {b n size : Nat} {xs : List Value} {ty : TypeId} {fz : Nat × Nat} (h : St F w0 (Res.obj b (.cells xs.toArray ty fz) :: rs) w) (hn : xs.length = n * size) : St F w0 (Res.rd size (some ⟨b, 0, none⟩) n xs :: rs) w := by
  have hb : w.heap[b]? = some (.cells xs.toArray ty fz) := h.all _ (List.mem_cons_self ..)
  have hlt : b < w.heap.size := (Array.getElem?_eq_some_iff.1 hb).1
  have hfp : ∀ i, (Res.rd size (some ⟨b, 0, none⟩) n xs).fp = some i → i = b := fun i hi => by
    simp only [Res.rd] at hi
    split at hi
    · cases hi
    · simpa using hi.symm
  obtain ⟨h1, h2⟩ := List.pairwise_cons.1 h.apart
  refine ⟨h.fr, fun r hr => ?_, List.pairwise_cons.2 ⟨fun r hr => .inr fun i hi hi2 => ?_, h2⟩, fun r hr hro i hi => ?_⟩
  · rcases List.mem_cons.1 hr with rfl | hr
    · exact ⟨hn, fun _ => ⟨_, rfl, hlt, cells_at h (List.mem_cons_self ..)⟩⟩
    · exact h.all r (List.mem_cons_of_mem _ hr)
  · obtain rfl := hfp i hi
    rcases h1 r hr with ⟨h3, _⟩ | h3
    · cases h3
    · exact h3 i rfl hi2
  · rcases List.mem_cons.1 hr with rfl | hr
    · cases hro
    · exact h.own r (List.mem_cons_of_mem _ hr) hro i hi
theorem objRd {F : Nat → Prop} {w0 w : World} {rs : List Res} {b n size : Nat} {xs ys : List Value} {ty : TypeId} {fz : Nat × Nat} (hS : St F w0 rs w) (hm : HasObj rs b (.cells ys.toArray ty fz) := by infer_instance) (e : ys = xs := by rfl) (hn : ys.length = n * size := by rfl) : Rd w size (some ⟨b, 0, none⟩) n xs := by
  subst e
  have hb : w.heap[b]? = some (.cells ys.toArray ty fz) := hS.all _ hm.mem
  exact ⟨hn, fun _ => ⟨_, rfl, (Array.getElem?_eq_some_iff.1 hb).1, cells_at hS hm.mem⟩⟩
/-! a struct with structs in it -/
def sizesO (P : Program) : List Field → Option (List (Nat × Nat))
  | [] => some []
  | f :: fs => (match P.info? f.type, sizesO P fs with
    | some i, some r => some ((f.offset, i.size) :: r)
    | _, _ => none)
theorem sizesO_run {P : Program} {w : World} : ∀ {fs : List Field} {pl : List (Nat × Nat)}, sizesO P fs = some pl → (fs.mapM (m := Sem) fun f => do pure (f.offset, ← sizeOf f.type)).run P w = .ok pl w
  | [], pl, h => by simp only [sizesO, Option.some.injEq] at h; subst h; rfl
  | f :: fs, pl, h => by
    unfold sizesO at h
    cases hi : P.info? f.type with
    | none => simp [hi] at h
    | some i =>
      cases hr : sizesO P fs with
      | none => simp [hi, hr] at h
      | some r =>
        simp only [hi, hr, Option.some.injEq] at h
        subst h
        have ih := sizesO_run (w := w) hr
        have hs : (sizeOf f.type).run P w = .ok i.size w := sizeOf_run (by simp [sizeT, hi])
        simp only [List.mapM_cons, Sem.run_bind, hs, Result.andThen_ok, Sem.run_pure, ih]
def plAt : List (Nat × Nat) → Nat → Option (Nat × Nat)
  | [], _ => none
  | a :: _, 0 => some a
  | _ :: l, n + 1 => plAt l n
theorem plAt_eq : ∀ (l : List (Nat × Nat)) (n : Nat), plAt l n = l[n]?
  | [], _ => by simp [plAt]
  | a :: l, 0 => by simp [plAt]
  | a :: l, n + 1 => by simp [plAt, plAt_eq l n]
def bldG (pl : List (Nat × Nat)) (l : Fm) : List Value → List (Nat × Operand) → Option (List Value)
  | zs, [] => some zs
  | zs, (i, x) :: ps => (match plAt pl i, lk l x with
    | some (off, sz), some v => bif Nat.beq v.cells.toList.length sz && Nat.ble (off + sz) zs.length then bldG pl l (zs.take off ++ (v.cells.toList ++ zs.drop (off + v.cells.toList.length))) ps else none
    | _, _ => none)
theorem bldG_fill {pl : List (Nat × Nat)} {l : Fm} : ∀ {ps : List (Nat × Operand)} {zs us : List Value}, bldG pl l zs ps = some us → Instr.fill (pl.toArray[·]?) zs.toArray (lkp l ps) = some us.toArray
  | [], zs, us, h => by simp only [bldG, Option.some.injEq] at h; subst h; rfl
  | (i, x) :: ps, zs, us, h => by
    unfold bldG at h
    cases hp : plAt pl i with
    | none => simp [hp] at h
    | some q =>
      obtain ⟨off, sz⟩ := q
      cases hx : lk l x with
      | none => simp [hp, hx] at h
      | some v =>
        simp only [hp, hx] at h
        cases hb : Nat.beq v.cells.toList.length sz && Nat.ble (off + sz) zs.length with
        | false => rw [hb] at h; cases h
        | true =>
          rw [hb] at h
          simp only [cond_true] at h
          simp only [Bool.and_eq_true] at hb
          have h1 := Nat.eq_of_beq_eq_true hb.1
          have h2 := Nat.le_of_ble_eq_true hb.2
          have hpl : pl.toArray[i]? = some (off, sz) := by rw [List.getElem?_toArray, ← plAt_eq, hp]
          simp only [lkp, hx, Option.getD_some, Instr.fill, hpl]
          have h1' : v.cells.size = sz := by simpa using h1
          rw [if_neg (by simp [h1']; omega)]
          have h3 := fold_setAt off v.cells.toList 0 zs (by omega)
          have h5 : v.cells.zipIdx = (v.cells.toList.zipIdx 0).toArray := by
            rw [← Array.toList_zipIdx, Array.toArray_toList]
          rw [h5]
          simp only [List.foldl_toArray, Nat.add_zero] at h3 ⊢
          rw [h3]
          exact bldG_fill h
def buildG (P : Program) (l : Fm) (op : Op) : Option Value := match op with
  | .build t ps => (match structT P t, zeroT P t with
    | some fs, some zs => (match sizesO P fs.toList with
      | some pl => (match bldG pl l zs.toList ps.toList with
        | some us => some (.agg us.toArray)
        | none => none)
      | none => none)
    | _, _ => none)
  | _ => none
theorem buildG_ex {P : Program} {o : Oper} {l : Fm} {ds : List Deferred} {w : World} {v : Value} (h : buildG P l o.op = some v) : Ex P l ds o w v := by
  obtain ⟨dst, op, type, pos, after, guard⟩ := o
  cases op with
  | build t ps =>
    simp only [buildG] at h
    cases hu : structT P t with
    | none => simp [hu] at h
    | some fs =>
      cases hz : zeroT P t with
      | none => simp [hu, hz] at h
      | some zs =>
        simp only [hu, hz] at h
        cases hpl : sizesO P fs.toList with
        | none => rw [hpl] at h; cases h
        | some pl =>
          simp only [hpl] at h
          cases hb : bldG pl l zs.toList ps.toList with
          | none => rw [hb] at h; cases h
          | some us =>
            simp only [hb, Option.some.injEq] at h
            subst h
            have hu' : P.underlying t = some (.struct fs) := by
              unfold structT at hu
              cases hq : P.underlying t with
              | none => simp [hq] at hu
              | some d => cases d <;> first | (simp [hq] at hu; done) | (simp only [hq, Option.some.injEq] at hu; rw [hu])
            unfold Ex execOp
            refine run_v ?_
            simp only [lkp_eval]
            have hm : (fs.mapM (m := Sem) fun f => do pure (f.offset, ← sizeOf f.type)).run P w = .ok pl.toArray w := by
              have h1 := sizesO_run (w := w) hpl
              cases fs with
              | mk fl =>
                have h2 : (fl.toArray.mapM (m := Sem) fun f => do pure (f.offset, ← sizeOf f.type)) = ((fl.mapM fun f => do pure (f.offset, ← sizeOf f.type)) >>= fun x => pure x.toArray) := by simp
                rw [h2]
                simp only [Sem.run_bind]
                rw [h1]
                rfl
            have hzz : (zeroValue t).run P w = .ok (.agg zs) w := by
              unfold zeroT at hz
              cases hi : P.info? t with
              | none => rw [hi] at hz; cases hz
              | some i =>
                simp only [hi] at hz
                cases hq : i.zero with
                | none => simp [hq] at hz
                | some z => cases z <;> first | (simp [hq] at hz; done) | (simp only [hq, Option.some.injEq] at hz; subst hz; simp [zeroValue, typeInfo, go_sem, hi, hq])
            have hf := bldG_fill hb
            rw [Array.toArray_toList] at hf
            simp only [Instr.build, Sem.run_bind, hzz, Result.andThen_ok, run_underlying hu', hm, Value.cells, hf]
            rfl
  | _ => simp [buildG] at h
theorem Ybg {P : Program} {rs : List Res} {o : Oper} {l : Fm} {v : Value} (h : buildG P l o.op = some v := by rfl) : Yl P rs l o v := ⟨fun _ => buildG_ex h⟩
/-! bytes as a string -/
def bCells (L : List UInt8) : List Value := L.map fun c => .int .u8 (c.toNat : Int)
class IsBytes (xs : List Value) (L : outParam (List UInt8)) : Prop where
  eq : xs = bCells L
instance isBytes {L : List UInt8} : IsBytes (bCells L) L := ⟨rfl⟩
instance isBytesR {n : Nat} : IsBytes (List.replicate n (.int .u8 0)) (List.replicate n 0) := ⟨by simp [bCells]⟩
theorem fold_push (f : Int → UInt8) : ∀ (ns : List Int) (s : ByteArray), ns.foldl (fun r n => r.push (f n)) s = ⟨s.data ++ (ns.map f).toArray⟩
  | [], s => by simp
  | n :: ns, s => by
    rw [List.foldl_cons, fold_push f ns]
    simp [ByteArray.push]
theorem Ybs {P : Program} {rs : List Res} {o : Oper} {l : Fm} {x : Operand} {t t' e : TypeId} {A : Option Addr} {n c : Nat} {xs : List Value} {L : List UInt8} (ho : o.op = .convert t t' x := by rfl) (ht : elemT P t = some e := by rfl) (he : intTy P e = some .u8 := by rfl) (ht' : P.underlying t' = some .string := by rfl) (hx : lk l x = some (.slice A n c) := by rfl) (hm : HasSl rs A n 1 xs := by infer_instance) (hL : IsBytes xs L := by infer_instance) : Yl P rs l o (.string ⟨L.toArray⟩) := ⟨fun {_ _ w ds} hS => by
  have hR := hm.rd hS
  unfold Ex execOp; rw [ho]; simp only [lk_eval hx]
  refine run_v ?_
  rw [run_convert_bytes_string w t t' e A n c (elemT_ok ht) (intTy_ok he) ht']
  rw [hL.eq] at hR
  have hl : L.length = n := by have := hR.1; simpa [bCells] using this
  cases A with
  | none =>
    have : n = 0 := Classical.byContradiction fun h0 => by obtain ⟨_, h1, _⟩ := hR.2 (by omega); cases h1
    subst this
    obtain rfl : L = [] := List.length_eq_zero_iff.1 hl
    rfl
  | some a =>
    have hr : (loadCells a n).run P w = .ok ((L.map fun c => ((c.toNat : Nat) : Int)).map (Value.int .u8)).toArray w := by
      by_cases h0 : n = 0
      · subst h0
        obtain rfl : L = [] := List.length_eq_zero_iff.1 hl
        exact run_loadCells_list w a [] (fun j v h => by simp at h)
      · obtain ⟨a', h1, _, h3⟩ := hR.2 (by omega)
        cases h1
        have := run_loadCells_list (P := P) w a (bCells L) h3
        simpa [bCells, hl, Function.comp_def] using this
    rw [run_bytesToString w a n c _ hr, fold_push]
    congr 3
    simp [Function.comp_def]⟩
end Go.Proofs.Ytfdfnamkkepbiaa
