/-
  Slices of structs written out, parts of a block, bytes as a string. Nothing here names a function of the program.
-/
import Derived.Test.YtijmggoikieelaaED
import Derived.Laws.BytesString
namespace Go.Proofs.Ytijmggoikieelaa
open Go.RowKit

theorem fold_setAt (off : Nat) : ∀ (c : List Value) (j : Nat) (cs : List Value), off + j + c.length ≤ cs.length →
    (c.zipIdx j).foldl (fun (cs : Array Value) (p : Value × Nat) => cs.setIfInBounds (off + p.2) p.1) cs.toArray = (cs.take (off + j) ++ (c ++ cs.drop (off + j + c.length))).toArray
  | [], j, cs, _ => by simp
  | v :: c, j, cs, h => by
    simp only [List.length_cons] at h
    simp only [List.zipIdx_cons, List.foldl_cons, List.setIfInBounds_toArray]
    rw [fold_setAt off c (j + 1) (cs.set (off + j) v) (by simp; omega)]
    have h1 : off + (j + 1) = off + j + 1 := by omega
    rw [h1, List.take_add_one, List.take_set_of_le (Nat.le_refl _), List.getElem?_set_self (by omega), List.drop_set_of_lt (by omega)]
    simp only [Option.toList_some, List.append_assoc, List.cons_append, List.nil_append, List.length_cons]
    rw [show off + j + 1 + c.length = off + j + (c.length + 1) by omega]
theorem fill_aggs (sz : Nat) : ∀ (vs : List (List Value)) (k : Nat) (zs : List Value), (∀ c ∈ vs, c.length = sz) → zs.length = (k + vs.length) * sz →
    Instr.fill (fun i => some (i * sz, sz)) zs.toArray ((vs.zipIdx k).map fun p => (p.2, Value.agg p.1.toArray)) = some (zs.take (k * sz) ++ vs.flatten).toArray
  | [], k, zs, _, hz => by
    simp only [List.zipIdx_nil, List.map_nil, Instr.fill, List.flatten_nil, List.append_nil]
    rw [List.take_of_length_le (by rw [hz]; simp)]
  | c :: vs, k, zs, hc, hz => by
    have h1 : c.length = sz := hc c (List.mem_cons_self ..)
    simp only [List.length_cons] at hz
    have hmul : (k + (vs.length + 1)) * sz = k * sz + sz + vs.length * sz := by rw [Nat.add_mul, Nat.add_mul]; omega
    simp only [List.zipIdx_cons, List.map_cons, Instr.fill, Value.cells, List.size_toArray, h1, ne_eq, not_true, decide_false, Bool.false_or]
    rw [if_neg (by simp; omega)]
    have h2 := fold_setAt (k * sz) c 0 zs (by omega)
    have h5 : c.toArray.zipIdx = (c.zipIdx 0).toArray := by simp
    rw [h5]
    simp only [List.foldl_toArray, Nat.add_zero] at h2 ⊢
    rw [h2, fill_aggs sz vs (k + 1) _ (fun d hd => hc d (List.mem_cons_of_mem _ hd)) (by
      simp only [List.length_append, List.length_take, List.length_drop, hz, hmul, h1, Nat.add_mul]; omega)]
    have h3 : (k + 1) * sz = k * sz + sz := by rw [Nat.add_mul]; omega
    have hle : k * sz ≤ zs.length := by omega
    rw [h3, ← List.append_assoc, List.take_append_of_le_length (by simp; omega)]
    rw [List.take_of_length_le (by simp; omega)]
    simp

def aggO (l : Fm) : Nat → List (Nat × Operand) → Option (List (List Value))
  | _, [] => some []
  | k, (i, x) :: ps => bif Nat.beq i k then (match lk l x with
    | some (.agg cs) => (match aggO l (k + 1) ps with
      | some vs => some (cs.toList :: vs)
      | none => none)
    | _ => none) else none
theorem aggO_eq {l : Fm} : ∀ {ps : List (Nat × Operand)} {k : Nat} {vs : List (List Value)}, aggO l k ps = some vs → lkp l ps = (vs.zipIdx k).map fun p => (p.2, Value.agg p.1.toArray)
  | [], k, vs, h => by simp only [aggO, Option.some.injEq] at h; subst h; rfl
  | (i, x) :: ps, k, vs, h => by
    unfold aggO at h
    cases hb : Nat.beq i k with
    | false => rw [hb] at h; cases h
    | true =>
      obtain rfl : i = k := Nat.eq_of_beq_eq_true hb
      rw [hb] at h
      simp only [cond_true] at h
      cases hx : lk l x with
      | none => simp [hx] at h
      | some u =>
        cases u with
        | agg cs =>
          simp only [hx] at h
          cases hr : aggO l (i + 1) ps with
          | none => rw [hr] at h; cases h
          | some us =>
            simp only [hr, Option.some.injEq] at h
            subst h
            simp [lkp, hx, aggO_eq hr]
        | _ => simp [hx] at h
section
variable {P : Program} {ops : Array Oper} {Q : Exit → Act → World → Prop} {rest : List Oper} {o : Oper} {l : Fm} {ds : List Deferred} {w : World}
variable {F : Nat → Prop} {w0 : World} {rs rs' : List Res} {x y : Operand} {t e : TypeId} {d : Nat}
/-- a slice of structs, written out whole -/
theorem M_sN {n : Nat} (sz : Nat) {parts : Array (Nat × Operand)} {vs : List (List Value)} (hS : St F w0 rs w) (k : ∀ b w', St F w0 (Res.obj b (.cells vs.flatten.toArray e (0, 0)) :: rs) w' → WL P ops Q rest (l.upd d (.slice (some ⟨b, 0, none⟩) n n)) ds w')
    (ho : o.op = .buildSlice t n parts := by rfl) (hd : o.dst = some d := by rfl) (ht : elemT P t = some e := by rfl) (he : zerosT P e sz = true := by rfl) (hv : aggO l 0 parts.toList = some vs := by rfl) (hall : (vs.all fun c => Nat.beq c.length sz) = true := by rfl) (hl : vs.length = n := by rfl) (hn : 0 < n * sz ∧ n * sz ≤ 100000 := by omega) : SStep P ops Q rest o l ds w := by
  refine S_new (f := fun b => .slice (some ⟨b, 0, none⟩) n n) hS hd ?_ k
  unfold execOp; rw [ho]
  refine run_v ?_
  rw [lkp_eval]
  obtain ⟨z, hz1, hz2, hz3⟩ := zeros_run (w := w) he
  have hbig : ¬ (n * sz > 2 ^ 24) := by omega
  have h0 : ¬ (n * sz = 0) := by omega
  have hc : ∀ c ∈ vs, c.length = sz := fun c hc => Nat.eq_of_beq_eq_true (List.all_eq_true.1 hall c hc)
  simp only [Instr.buildSlice, Sem.run_bind, run_underlying (elemT_ok ht), Result.andThen_ok, hz3, if_neg hbig, Sem.run_pure, if_neg h0, hz1]
  rw [← Array.toArray_toList (xs := (Array.range (n * sz)).map fun i => z.cells[i % z.cells.size]!), aggO_eq hv, fill_aggs sz vs 0 _ hc (by simp [hl])]
  simp only [Nat.zero_mul, List.take_zero, List.nil_append]
  rfl
end
/-- a part of a block -/
def subO (P : Program) (t : TypeId) (off : Nat) (c : List Value) : Option (List Value) := match P.info? t with
  | some i => bif Nat.beq ((c.drop off).take i.size).length i.size && aggT P t i.size then some ((c.drop off).take i.size) else none
  | none => none
theorem subO_ok {P : Program} {t : TypeId} {off : Nat} {c cs : List Value} (h : subO P t off c = some cs) : aggT P t cs.length = true ∧ ∀ j v, cs[j]? = some v → c[off + j]? = some v := by
  unfold subO at h
  cases hi : P.info? t with
  | none => simp [hi] at h
  | some i =>
    simp only [hi] at h
    cases hb : Nat.beq ((c.drop off).take i.size).length i.size && aggT P t i.size with
    | false => rw [hb] at h; cases h
    | true =>
      rw [hb] at h
      simp only [cond_true, Option.some.injEq] at h
      subst h
      simp only [Bool.and_eq_true] at hb
      have hl := Nat.eq_of_beq_eq_true hb.1
      refine ⟨by rw [hl]; exact hb.2, fun j v hj => ?_⟩
      rw [List.getElem?_take] at hj
      split at hj
      · rwa [List.getElem?_drop] at hj
      · cases hj
theorem cell_add (b off : Nat) : (⟨b, 0, none⟩ : Addr).add off = ⟨b, off, none⟩ := by
  unfold Addr.add; split <;> simp_all
theorem YlS {P : Program} {rs : List Res} {o : Oper} {l : Fm} {x : Operand} {t ty : TypeId} {u : Value} {b off : Nat} {c cs : List Value} {fz : Nat × Nat} (ho : o.op = .load t x := by rfl) (hx : lk l x = some u := by rfl) (hu : IsCell u b off := by infer_instance) (hm : HasObj rs b (.cells c.toArray ty fz) := by infer_instance) (hs : subO P t off c = some cs := by rfl) : Yl P rs l o (.agg cs.toArray) := ⟨fun {_ _ w ds} hS => by
  obtain ⟨h1, h2⟩ := subO_ok hs
  rw [hu.eq] at hx
  unfold Ex execOp; rw [ho]; simp only [lk_eval hx]
  refine run_v ?_
  refine run_loadAgg h1 fun j v hj => ?_
  have := cells_at hS hm.mem (off + j) v (by simpa using h2 j v hj)
  rw [← adr_add, cell_add] at this
  exact this⟩
/-- a block that was written out whole, to be read from now on -/
theorem St.toRd {F : Nat → Prop} {w0 w : World} {rs : List Res} {b n size : Nat} {xs : List Value} {ty : TypeId} {fz : Nat × Nat} (h : St F w0 (Res.obj b (.cells xs.toArray ty fz) :: rs) w) (hn : xs.length = n * size) : St F w0 (Res.rd size (some ⟨b, 0, none⟩) n xs :: rs) w := by
  have hb : w.heap[b]? = some (.cells xs.toArray ty fz) := h.all _ (List.mem_cons_self ..)
  have hlt : b < w.heap.size := (Array.getElem?_eq_some_iff.1 hb).1
  have hfp : ∀ i, (Res.rd size (some ⟨b, 0, none⟩) n xs).fp = some i → i = b := fun i hi => by
    simp only [Res.rd] at hi
    split at hi
    · cases hi
    · simpa using hi.symm
  obtain ⟨h1, h2⟩ := List.pairwise_cons.1 h.apart
  refine ⟨h.fr, fun r hr => ?_, List.pairwise_cons.2 ⟨fun r hr => .inr fun i hi hi2 => ?_, h2⟩, fun r hr hro i hi => ?_⟩
  · rcases List.mem_cons.1 hr with rfl | hr
    · exact ⟨hn, fun _ => ⟨_, rfl, hlt, cells_at h (List.mem_cons_self ..)⟩⟩
    · exact h.all r (List.mem_cons_of_mem _ hr)
  · obtain rfl := hfp i hi
    rcases h1 r hr with ⟨h3, _⟩ | h3
    · cases h3
    · exact h3 i rfl hi2
  · rcases List.mem_cons.1 hr with rfl | hr
    · cases hro
    · exact h.own r (List.mem_cons_of_mem _ hr) hro i hi
theorem objRd {F : Nat → Prop} {w0 w : World} {rs : List Res} {b n size : Nat} {xs ys : List Value} {ty : TypeId} {fz : Nat × Nat} (hS : St F w0 rs w) (hm : HasObj rs b (.cells ys.toArray ty fz) := by infer_instance) (e : ys = xs := by rfl) (hn : ys.length = n * size := by rfl) : Rd w size (some ⟨b, 0, none⟩) n xs := by
  subst e
  have hb : w.heap[b]? = some (.cells ys.toArray ty fz) := hS.all _ hm.mem
  exact ⟨hn, fun _ => ⟨_, rfl, (Array.getElem?_eq_some_iff.1 hb).1, cells_at hS hm.mem⟩⟩
/-! a struct with structs in it -/
def sizesO (P : Program) : List Field → Option (List (Nat × Nat))
  | [] => some []
  | f :: fs => (match P.info? f.type, sizesO P fs with
    | some i, some r => some ((f.offset, i.size) :: r)
    | _, _ => none)
theorem sizesO_run {P : Program} {w : World} : ∀ {fs : List Field} {pl : List (Nat × Nat)}, sizesO P fs = some pl → (fs.mapM (m := Sem) fun f => do pure (f.offset, ← sizeOf f.type)).run P w = .ok pl w
  | [], pl, h => by simp only [sizesO, Option.some.injEq] at h; subst h; rfl
  | f :: fs, pl, h => by
    unfold sizesO at h
    cases hi : P.info? f.type with
    | none => simp [hi] at h
    | some i =>
      cases hr : sizesO P fs with
      | none => simp [hi, hr] at h
      | some r =>
        simp only [hi, hr, Option.some.injEq] at h
        subst h
        have ih := sizesO_run (w := w) hr
        have hs : (sizeOf f.type).run P w = .ok i.size w := sizeOf_run (by simp [sizeT, hi])
        simp only [List.mapM_cons, Sem.run_bind, hs, Result.andThen_ok, Sem.run_pure, ih]
def plAt : List (Nat × Nat) → Nat → Option (Nat × Nat)
  | [], _ => none
  | a :: _, 0 => some a
  | _ :: l, n + 1 => plAt l n
theorem plAt_eq : ∀ (l : List (Nat × Nat)) (n : Nat), plAt l n = l[n]?
  | [], _ => by simp [plAt]
  | a :: l, 0 => by simp [plAt]
  | a :: l, n + 1 => by simp [plAt, plAt_eq l n]
def bldG (pl : List (Nat × Nat)) (l : Fm) : List Value → List (Nat × Operand) → Option (List Value)
  | zs, [] => some zs
  | zs, (i, x) :: ps => (match plAt pl i, lk l x with
    | some (off, sz), some v => bif Nat.beq v.cells.toList.length sz && Nat.ble (off + sz) zs.length then bldG pl l (zs.take off ++ (v.cells.toList ++ zs.drop (off + v.cells.toList.length))) ps else none
    | _, _ => none)
theorem bldG_fill {pl : List (Nat × Nat)} {l : Fm} : ∀ {ps : List (Nat × Operand)} {zs us : List Value}, bldG pl l zs ps = some us → Instr.fill (pl.toArray[·]?) zs.toArray (lkp l ps) = some us.toArray
  | [], zs, us, h => by simp only [bldG, Option.some.injEq] at h; subst h; rfl
  | (i, x) :: ps, zs, us, h => by
    unfold bldG at h
    cases hp : plAt pl i with
    | none => simp [hp] at h
    | some q =>
      obtain ⟨off, sz⟩ := q
      cases hx : lk l x with
      | none => simp [hp, hx] at h
      | some v =>
        simp only [hp, hx] at h
        cases hb : Nat.beq v.cells.toList.length sz && Nat.ble (off + sz) zs.length with
        | false => rw [hb] at h; cases h
        | true =>
          rw [hb] at h
          simp only [cond_true] at h
          simp only [Bool.and_eq_true] at hb
          have h1 := Nat.eq_of_beq_eq_true hb.1
          have h2 := Nat.le_of_ble_eq_true hb.2
          have hpl : pl.toArray[i]? = some (off, sz) := by rw [List.getElem?_toArray, ← plAt_eq, hp]
          simp only [lkp, hx, Option.getD_some, Instr.fill, hpl]
          have h1' : v.cells.size = sz := by simpa using h1
          rw [if_neg (by simp [h1']; omega)]
          have h3 := fold_setAt off v.cells.toList 0 zs (by omega)
          have h5 : v.cells.zipIdx = (v.cells.toList.zipIdx 0).toArray := by
            rw [← Array.toList_zipIdx, Array.toArray_toList]
          rw [h5]
          simp only [List.foldl_toArray, Nat.add_zero] at h3 ⊢
          rw [h3]
          exact bldG_fill h
def buildG (P : Program) (l : Fm) (op : Op) : Option Value := match op with
  | .build t ps => (match structT P t, zeroT P t with
    | some fs, some zs => (match sizesO P fs.toList with
      | some pl => (match bldG pl l zs.toList ps.toList with
        | some us => some (.agg us.toArray)
        | none => none)
      | none => none)
    | _, _ => none)
  | _ => none
theorem buildG_ex {P : Program} {o : Oper} {l : Fm} {ds : List Deferred} {w : World} {v : Value} (h : buildG P l o.op = some v) : Ex P l ds o w v := by
  obtain ⟨dst, op, type, pos, after, guard⟩ := o
  cases op with
  | build t ps =>
    simp only [buildG] at h
    cases hu : structT P t with
    | none => simp [hu] at h
    | some fs =>
      cases hz : zeroT P t with
      | none => simp [hu, hz] at h
      | some zs =>
        simp only [hu, hz] at h
        cases hpl : sizesO P fs.toList with
        | none => rw [hpl] at h; cases h
        | some pl =>
          simp only [hpl] at h
          cases hb : bldG pl l zs.toList ps.toList with
          | none => rw [hb] at h; cases h
          | some us =>
            simp only [hb, Option.some.injEq] at h
            subst h
            have hu' : P.underlying t = some (.struct fs) := by
              unfold structT at hu
              cases hq : P.underlying t with
              | none => simp [hq] at hu
              | some d => cases d <;> first | (simp [hq] at hu; done) | (simp only [hq, Option.some.injEq] at hu; rw [hu])
            unfold Ex execOp
            refine run_v ?_
            simp only [lkp_eval]
            have hm : (fs.mapM (m := Sem) fun f => do pure (f.offset, ← sizeOf f.type)).run P w = .ok pl.toArray w := by
              have h1 := sizesO_run (w := w) hpl
              cases fs with
              | mk fl =>
                have h2 : (fl.toArray.mapM (m := Sem) fun f => do pure (f.offset, ← sizeOf f.type)) = ((fl.mapM fun f => do pure (f.offset, ← sizeOf f.type)) >>= fun x => pure x.toArray) := by simp
                rw [h2]
                simp only [Sem.run_bind]
                rw [h1]
                rfl
            have hzz : (zeroValue t).run P w = .ok (.agg zs) w := by
              unfold zeroT at hz
              cases hi : P.info? t with
              | none => rw [hi] at hz; cases hz
              | some i =>
                simp only [hi] at hz
                cases hq : i.zero with
                | none => simp [hq] at hz
                | some z => cases z <;> first | (simp [hq] at hz; done) | (simp only [hq, Option.some.injEq] at hz; subst hz; simp [zeroValue, typeInfo, go_sem, hi, hq])
            have hf := bldG_fill hb
            rw [Array.toArray_toList] at hf
            simp only [Instr.build, Sem.run_bind, hzz, Result.andThen_ok, run_underlying hu', hm, Value.cells, hf]
            rfl
  | _ => simp [buildG] at h
theorem Ybg {P : Program} {rs : List Res} {o : Oper} {l : Fm} {v : Value} (h : buildG P l o.op = some v := by rfl) : Yl P rs l o v := ⟨fun _ => buildG_ex h⟩
/-! bytes as a string -/
def bCells (L : List UInt8) : List Value := L.map fun c => .int .u8 (c.toNat : Int)
class IsBytes (xs : List Value) (L : outParam (List UInt8)) : Prop where
  eq : xs = bCells L
instance isBytes {L : List UInt8} : IsBytes (bCells L) L := ⟨rfl⟩
instance isBytesR {n : Nat} : IsBytes (List.replicate n (.int .u8 0)) (List.replicate n 0) := ⟨by simp [bCells]⟩
theorem fold_push (f : Int → UInt8) : ∀ (ns : List Int) (s : ByteArray), ns.foldl (fun r n => r.push (f n)) s = ⟨s.data ++ (ns.map f).toArray⟩
  | [], s => by simp
  | n :: ns, s => by
    rw [List.foldl_cons, fold_push f ns]
    simp [ByteArray.push]
theorem Ybs {P : Program} {rs : List Res} {o : Oper} {l : Fm} {x : Operand} {t t' e : TypeId} {A : Option Addr} {n c : Nat} {xs : List Value} {L : List UInt8} (ho : o.op = .convert t t' x := by rfl) (ht : elemT P t = some e := by rfl) (he : intTy P e = some .u8 := by rfl) (ht' : P.underlying t' = some .string := by rfl) (hx : lk l x = some (.slice A n c) := by rfl) (hm : HasSl rs A n 1 xs := by infer_instance) (hL : IsBytes xs L := by infer_instance) : Yl P rs l o (.string ⟨L.toArray⟩) := ⟨fun {_ _ w ds} hS => by
  have hR := hm.rd hS
  unfold Ex execOp; rw [ho]; simp only [lk_eval hx]
  refine run_v ?_
  rw [run_convert_bytes_string w t t' e A n c (elemT_ok ht) (intTy_ok he) ht']
  rw [hL.eq] at hR
  have hl : L.length = n := by have := hR.1; simpa [bCells] using this
  cases A with
  | none =>
    have : n = 0 := Classical.byContradiction fun h0 => by obtain ⟨_, h1, _⟩ := hR.2 (by omega); cases h1
    subst this
    obtain rfl : L = [] := List.length_eq_zero_iff.1 hl
    rfl
  | some a =>
    have hr : (loadCells a n).run P w = .ok ((L.map fun c => ((c.toNat : Nat) : Int)).map (Value.int .u8)).toArray w := by
      by_cases h0 : n = 0
      · subst h0
        obtain rfl : L = [] := List.length_eq_zero_iff.1 hl
        exact run_loadCells_list w a [] (fun j v h => by simp at h)
      · obtain ⟨a', h1, _, h3⟩ := hR.2 (by omega)
        cases h1
        have := run_loadCells_list (P := P) w a (bCells L) h3
        simpa [bCells, hl, Function.comp_def] using this
    rw [run_bytesToString w a n c _ hr, fold_push]
    congr 3
    simp [Function.comp_def]⟩
end Go.Proofs.Ytijmggoikieelaa
/-
  Slices of slices; append of a slice that is read; stores of structs into a row of one's own. Nothing here names a function of the program.
-/
namespace Go.Proofs.Ytijmggoikieelaa
open Go.RowKit

/-- where the part from number i on lies -/
def subA (A : Option Addr) (c i size : Nat) : Option Addr := if c = i then A else A.map (·.add (i * size))
def subL (xs : List Value) (i j size : Nat) : List Value := (xs.drop (i * size)).take ((j - i) * size)
theorem rdSub {w : World} {size n c i j : Nat} {A : Option Addr} {xs : List Value} (h : Rd w size A n xs) (hij : i ≤ j) (hj : j ≤ n) (hc : n ≤ c) : Rd w size (subA A c i size) (j - i) (subL xs i j size) := by
  have hm : ∀ a b : Nat, a ≤ b → a * size ≤ b * size := fun a b h => Nat.mul_le_mul_right _ h
  refine ⟨?_, fun h0 => ?_⟩
  · have := hm _ _ hj
    have := hm _ _ hij
    have e : (j - i) * size = j * size - i * size := Nat.sub_mul _ _ _
    simp only [subL, List.length_take, List.length_drop, h.1]
    omega
  · obtain ⟨ad, rfl, hb, hcl⟩ := h.2 (by omega)
    refine ⟨ad.add (i * size), by rw [subA, if_neg (by omega)]; rfl, by rw [add_block]; exact hb, fun k u hk => ?_⟩
    rw [subL, List.getElem?_take] at hk
    split at hk
    · rw [List.getElem?_drop] at hk
      rw [adr_add]
      exact hcl _ _ hk
    · cases hk
def bndO (l : Fm) (d : Int) : Option Operand → Option Int
  | none => some d
  | some y => (match lk l y with
    | some (.int _ z) => some z
    | _ => none)
section
variable {P : Program} {rs : List Res} {o : Oper} {l : Fm} {x y z : Operand} {t e : TypeId} {A : Option Addr} {n c size : Nat} {xs : List Value} {i j : Int} {lo : Option Operand}
theorem bnd_some {d : Int} {y : Operand} (h : bndO l d (some y) = some i) : ∃ k, lk l y = some (.int k i) := by
  simp only [bndO] at h
  cases hy : lk l y with
  | none => simp [hy] at h
  | some u =>
    cases u <;> first | (simp [hy] at h; done) | skip
    rename_i k z
    simp only [hy, Option.some.injEq] at h
    subst h
    exact ⟨k, rfl⟩
/-- e[lo:hi] -/
theorem YsH {k : IntKind} (ho : o.op = .slice t x lo (some z) none := by rfl) (hx : lk l x = some (.slice A n c) := by rfl) (hz : lk l z = some (.int k j) := by rfl) (ht : elemT P t = some e := by rfl) (hm : HasSl rs A n size xs := by infer_instance) (hs : sizeT P e size = true := by rfl) (hlo : bndO l 0 lo = some i := by rfl) (hb : 0 ≤ i ∧ i ≤ j ∧ j ≤ (c : Int) := by omega) : Yl P rs l o (.slice (subA A c i.toNat size) (j.toNat - i.toNat) (c - i.toNat)) := ⟨fun {_ _ w ds} _ => by
  have hsz : (sizeOf e).run P w = .ok size w := sizeOf_run hs
  unfold Ex execOp; rw [ho]; simp only [lk_eval hx]
  refine run_v ?_
  have hh : (Instr.sliceBound (.int k j) c .sliceAcap).run P w = .ok j.toNat w := by
    simp only [Instr.sliceBound, asIntOf, Sem.run_bind, Sem.run_pure, Result.andThen_ok]
    rw [if_pos (by omega)]; rfl
  cases lo with
  | none =>
    simp only [bndO, Option.some.injEq] at hlo
    subst hlo
    simp only [Option.map_some, lk_eval hz, Option.map_none]
    simp only [Instr.sliceAt, Instr.slice, Sem.run_bind, run_underlying (elemT_ok ht), Result.andThen_ok, Instr.sliceBounds, Sem.run_pure, if_true, hh]
    simp only [Result.andThen_ok, hsz, Sem.run_pure, subA, Int.toNat_zero]
  | some y =>
    obtain ⟨k', hy⟩ := bnd_some hlo
    have hl : (Instr.sliceBound (.int k' i) j.toNat .sliceB).run P w = .ok i.toNat w := by
      simp only [Instr.sliceBound, asIntOf, Sem.run_bind, Sem.run_pure, Result.andThen_ok]
      rw [if_pos (by omega)]; rfl
    simp only [Option.map_some, lk_eval hz, Option.map_none, Option.map_some, lk_eval hy]
    simp only [Instr.sliceAt, Instr.slice, Sem.run_bind, run_underlying (elemT_ok ht), Result.andThen_ok, Instr.sliceBounds, Sem.run_pure, if_true, hh, Option.isSome_none, Bool.false_eq_true, if_false, hl]
    simp only [Result.andThen_ok, hsz, Sem.run_pure, subA]⟩
/-- e[lo:] -/
theorem YsL (ho : o.op = .slice t x lo none none := by rfl) (hx : lk l x = some (.slice A n c) := by rfl) (ht : elemT P t = some e := by rfl) (hm : HasSl rs A n size xs := by infer_instance) (hs : sizeT P e size = true := by rfl) (hlo : bndO l 0 lo = some i := by rfl) (hb : 0 ≤ i ∧ i ≤ (n : Int) := by omega) : Yl P rs l o (.slice (subA A c i.toNat size) (n - i.toNat) (c - i.toNat)) := ⟨fun {_ _ w ds} _ => by
  have hsz : (sizeOf e).run P w = .ok size w := sizeOf_run hs
  unfold Ex execOp; rw [ho]; simp only [lk_eval hx]
  refine run_v ?_
  cases lo with
  | none =>
    simp only [bndO, Option.some.injEq] at hlo
    subst hlo
    simp only [Option.map_none]
    simp only [Instr.sliceAt, Instr.slice, Sem.run_bind, run_underlying (elemT_ok ht), Result.andThen_ok, Instr.sliceBounds, Sem.run_pure]
    simp only [Result.andThen_ok, hsz, Sem.run_pure, subA, Int.toNat_zero]
  | some y =>
    obtain ⟨k', hy⟩ := bnd_some hlo
    have hl : (Instr.sliceBound (.int k' i) n .sliceB).run P w = .ok i.toNat w := by
      simp only [Instr.sliceBound, asIntOf, Sem.run_bind, Sem.run_pure, Result.andThen_ok]
      rw [if_pos (by omega)]; rfl
    simp only [Option.map_none, Option.map_some, lk_eval hy]
    simp only [Instr.sliceAt, Instr.slice, Sem.run_bind, run_underlying (elemT_ok ht), Result.andThen_ok, Instr.sliceBounds, Sem.run_pure, Option.isSome_none, Bool.false_eq_true, if_false, hl]
    simp only [Result.andThen_ok, hsz, Sem.run_pure, subA]⟩
end
theorem pairwise_mem {α : Type} {R : α → α → Prop} (hR : ∀ {a b}, R a b → R b a) : ∀ {l : List α}, l.Pairwise R → ∀ a ∈ l, ∀ b ∈ l, a = b ∨ R a b
  | [], _, a, ha, _, _ => by cases ha
  | x :: l, h, a, ha, b, hb => by
    obtain ⟨h1, h2⟩ := List.pairwise_cons.1 h
    rcases List.mem_cons.1 ha with e1 | h3
    · rcases List.mem_cons.1 hb with e2 | h4
      · exact .inl (e1.trans e2.symm)
      · exact .inr (e1 ▸ h1 b h4)
    · rcases List.mem_cons.1 hb with e2 | h4
      · exact .inr (e2 ▸ hR (h1 a h3))
      · exact pairwise_mem hR h2 a h3 b h4
section
variable {F : Nat → Prop} {w0 w : World} {rs : List Res}
/-- a slice of a slice that is read -/
theorem St.addSub {size n c i j : Nat} {A : Option Addr} {xs : List Value} (h : St F w0 rs w) (hm : Res.rd size A n xs ∈ rs) (hij : i ≤ j) (hj : j ≤ n) (hc : n ≤ c) : St F w0 (Res.rd size (subA A c i size) (j - i) (subL xs i j size) :: rs) w := by
  refine h.addRo (rdSub (h.rdAt hm) hij hj hc) rfl fun s hs hro b h1 h2 => ?_
  rcases pairwise_mem (fun h => Res.apart_symm h) h.apart _ hm s hs with e | e
  · rw [← e] at hro; cases hro
  · rcases e with ⟨_, e⟩ | e
    · rw [hro] at e; cases e
    · refine e b ?_ h2
      simp only [Res.rd] at h1 ⊢
      split at h1
      · cases h1
      · rename_i h0
        rw [if_neg (by omega)]
        unfold subA at h1
        split at h1
        · exact h1
        · cases A with
          | none => cases h1
          | some a => simpa [add_block] using h1
end
section
variable {P : Program} {ops : Array Oper} {Q : Exit → Act → World → Prop} {rest : List Oper} {o : Oper} {l : Fm} {ds : List Deferred} {w : World}
variable {F : Nat → Prop} {w0 : World} {rs rs' : List Res} {x y : Operand} {t e : TypeId} {d : Nat} {v u : Value}
/-- append(row, s...), s being read -/
theorem M_aR {ar : Array Operand} {ts : Array TypeId} {size n m c : Nat} {A : Option Addr} {xs news : List Value} {mk : Value → Nat → List Value → List Res} (hS : St F w0 rs w)
    (k : ∀ g cap w', St F w0 (mk (.slice (some ⟨g, 0, none⟩) (n + m) cap) (n + m) (xs ++ news)) w' → WL P ops Q rest (l.upd d (.slice (some ⟨g, 0, none⟩) (n + m) cap)) ds w')
    (ho : o.op = .call { callee := .builtin .append, args := ar, argTypes := ts } := by rfl) (hd : o.dst = some d := by rfl) (har : ar.toList = [x, y] := by rfl) (hts : ts.toList = [t, t] := by rfl) (ht : elemT P t = some e := by rfl)
    (hx : lk l x = some v := by rfl) (hy : lk l y = some (.slice A m c) := by rfl) (hm : HasSl rs A m size news := by infer_instance) (hr : HasRow rs e v size n xs := by infer_instance)
    (hu : PutRow rs e v size n xs mk := by infer_instance) (hi : infoT P e size = true := by rfl) (h1 : one' news = true := by assumption) (hpos : 0 < m ∧ 0 < size := by omega) (hn : n + m ≤ 4294967296 := by omega) : SStep P ops Q rest o l ds w := by
  have hR := hm.rd hS
  obtain ⟨a, rfl, hab, hcl⟩ := hR.2 hpos.1
  have hl := hR.1
  have ht' := elemT_ok ht
  obtain rfl : ar = #[x, y] := by cases ar; simp_all
  obtain rfl : ts = #[t, t] := by cases ts; simp_all
  unfold infoT at hi
  cases hq : P.info? e with
  | none => rw [hq] at hi; cases hi
  | some i =>
    rw [hq] at hi
    simp only [Bool.and_eq_true, beq_iff_eq, decide_eq_true_eq] at hi
    obtain ⟨⟨hs1, hs2⟩, hs3⟩ := hi
    have hb : (n + m) * i.bytes ≤ 140737488355328 := Nat.le_trans (Nat.mul_le_mul hn hs2) (by omega)
    cases hz : i.zero with
    | none => rw [hz] at hs3; cases hs3
    | some z =>
      rw [hz] at hs3
      simp only [beq_iff_eq] at hs3
      have hown : w.ownsRow 0 e size v n xs := hS.get hr.mem
      obtain ⟨v', w', hrun, hown', hgr, _, hblk⟩ := run_append_own_at (P := P) w 0 t o.type e i z size i.bytes ht' hq hz hs1 rfl hs3 hpos.2 v n xs hown a m c news hl hcl (by simpa [one'] using h1) (by unfold maxLen; omega) hb (Nat.zero_le _)
      obtain ⟨g, cap, rfl, _, _⟩ := hown'.form (by omega)
      have e1 := lk_eval (ds := ds) hx
      have e2 := lk_eval (ds := ds) hy
      refine S_ok hd (w' := w') (v := .slice (some ⟨g, 0, none⟩) (n + m) cap) ?_ (k g cap w' (hS.upd (hu.upd _ _ _) rfl ⟨hgr.os, hgr.tape, hgr.output, hgr.size, fun i hi hne => hgr.block i hi fun h => hne h.symm⟩ hown' fun b' hb' => ?_))
      · generalize (Act.mk l.arr ds).eval = ρ at e1 e2 ⊢
        unfold execOp
        simp only [ho, resolve, invoke, builtin, Sem.run_bind, Sem.run_pure, Result.andThen_ok, List.map_toArray, List.map_cons, List.map_nil, e1, e2, hrun]
      · cases hb'
        rcases hblk with h | h
        · exact .inl h.symm
        · exact .inr (by cases h; exact Nat.le_refl _)
/-- append(row, s...), s being empty -/
theorem M_a0 {ar : Array Operand} {ts : Array TypeId} {c : Nat} {A : Option Addr} (hS : St F w0 rs w)
    (k : ∀ w', St F w0 rs w' → WL P ops Q rest (l.upd d (.slice none 0 0)) ds w')
    (ho : o.op = .call { callee := .builtin .append, args := ar, argTypes := ts } := by rfl) (hd : o.dst = some d := by rfl) (har : ar.toList = [x, y] := by rfl) (hts : ts.toList = [t, t] := by rfl) (ht : elemT P t = some e := by rfl)
    (hx : lk l x = some (.slice none 0 0) := by rfl) (hy : lk l y = some (.slice A 0 c) := by rfl) {size : Nat} (hi : infoT P e size = true) (hsz : 0 < size) : SStep P ops Q rest o l ds w := by
  have ht' := elemT_ok ht
  obtain rfl : ar = #[x, y] := by cases ar; simp_all
  obtain rfl : ts = #[t, t] := by cases ts; simp_all
  have e1 := lk_eval (ds := ds) hx
  have e2 := lk_eval (ds := ds) hy
  cases A with
  | some a =>
    unfold infoT at hi
    cases hq : P.info? e with
    | none => rw [hq] at hi; cases hi
    | some i =>
      rw [hq] at hi
      simp only [Bool.and_eq_true, beq_iff_eq, decide_eq_true_eq] at hi
      obtain ⟨⟨hs1, hs2⟩, hs3⟩ := hi
      cases hz : i.zero with
      | none => rw [hz] at hs3; cases hs3
      | some z =>
        rw [hz] at hs3
        simp only [beq_iff_eq] at hs3
        obtain ⟨v', w', hrun, hown', hgr, hv, hblk⟩ := run_append_own_at (P := P) w 0 t o.type e i z size i.bytes ht' hq hz hs1 rfl hs3 hsz (.slice none 0 0) 0 [] (World.ownsRow_nil _ _ _ _) a 0 c [] (by simp) (fun j u h => by simp at h) (fun u h => by cases h) (by unfold maxLen; omega) (by omega) (Nat.zero_le _)
        obtain rfl := hv.2 ⟨rfl, rfl⟩
        refine S_ok hd (w' := w') (v := .slice none 0 0) ?_ (k w' (hS.call ⟨hgr.os, hgr.tape, hgr.output, hgr.size, fun i hi _ => hgr.block i hi (by simp [Value.ownBlock])⟩))
        generalize (Act.mk l.arr ds).eval = ρ at e1 e2 ⊢
        unfold execOp
        simp only [ho, resolve, invoke, builtin, Sem.run_bind, Sem.run_pure, Result.andThen_ok, List.map_toArray, List.map_cons, List.map_nil, e1, e2, hrun]
  | none =>
    unfold infoT at hi
    cases hq : P.info? e with
    | none => rw [hq] at hi; cases hi
    | some i =>
      refine S_ok hd (w' := w) (v := .slice none 0 0) ?_ (k w hS)
      have hrun : (Builtin.append_ #[t, t] o.type #[.slice none 0 0, .slice none 0 c]).run P w = .ok (.slice none 0 0) w := by
        simp [Builtin.append_, run_underlying ht', sizeOf, typeInfo, hq, Builtin.lenOf, Builtin.firstCells]
      generalize (Act.mk l.arr ds).eval = ρ at e1 e2 ⊢
      unfold execOp
      simp only [ho, resolve, invoke, builtin, Sem.run_bind, Sem.run_pure, Result.andThen_ok, List.map_toArray, List.map_cons, List.map_nil, e1, e2, hrun]
end
end Go.Proofs.Ytijmggoikieelaa
/-
  Structs of integers held against each other. Nothing here names a function of the program.
-/
namespace Go.Proofs.Ytijmggoikieelaa
open Go.RowKit

theorem run_fields {P : Program} {w : World} {g : Field → Option Bool × Unit → Sem (ForInStep (Option Bool × Unit))} (c : Field → Bool) : ∀ fs : List Field,
    (∀ f ∈ fs, (g f (none, ())).run P w = .ok (if c f then .yield (none, ()) else .done (some false, ())) w) → (forIn fs ((none, ()) : Option Bool × Unit) g).run P w = .ok (if fs.all c then (none, ()) else (some false, ())) w
  | [], _ => by simp [Sem.run_pure]
  | f :: fs, h => by
    have h1 := h f (List.mem_cons_self ..)
    have ih := run_fields c fs fun g hg => h g (List.mem_cons_of_mem _ hg)
    rw [List.forIn_cons, Sem.run_bind, h1, Result.andThen_ok]
    by_cases hc : c f = true
    · simp only [hc, if_true]
      rw [ih]; simp [hc]
    · simp only [hc, if_false, Bool.false_eq_true, Sem.run_pure]
      simp [hc]
def valEq : Option Value → Option Value → Bool
  | some (.int _ a), some (.int _ b) => a == b
  | _, _ => false
/-- each field of the two is an integer of the field's kind -/
def intFs (P : Program) (fs : List Field) (xs ys : List Value) : Bool := fs.all fun f => f.name != "_" && flatT P f.type && (match P.underlying f.type, nth xs f.offset, nth ys f.offset with
  | some (.int k), some (.int k1 _), some (.int k2 _) => k == k1 && k == k2
  | _, _, _ => false)
section
variable {P : Program} {t : TypeId} {fs : Array Field} {xs ys : List Value}
theorem run_part {cs : List Value} {off : Nat} {v : Value} {t : TypeId} {w : World} (h : flatT P t = true) (hv : nth cs off = some v) : (part t cs.toArray off).run P w = .ok v w := by
  have h1 : cs.toArray[off]? = some v := by rw [nth_eq] at hv; simpa using hv
  simp [part, isAgg_flat h, go_sem, h1]
theorem eq_ints (hu : P.underlying t = some (.struct fs)) (hs : P.stoodInHeld t = false) (h : intFs P fs.toList xs ys = true) (w : World) :
    (Op.equal t (.agg xs.toArray) (.agg ys.toArray)).run P w = .ok (fs.toList.all fun f => valEq (nth xs f.offset) (nth ys f.offset)) w := by
  have key : ∀ d : Nat, (Op.equalIn (d + 2) t (.agg xs.toArray) (.agg ys.toArray)).run P w = .ok (fs.toList.all fun f => valEq (nth xs f.offset) (nth ys f.offset)) w := fun d => by
    have hb : ∀ f ∈ fs.toList, f.name ≠ "_" ∧ flatT P f.type = true ∧ ∃ k a b, P.underlying f.type = some (.int k) ∧ nth xs f.offset = some (.int k a) ∧ nth ys f.offset = some (.int k b) := fun f hf => by
      have h1 := List.all_eq_true.1 h f hf
      simp only [Bool.and_eq_true, bne_iff_ne] at h1
      obtain ⟨⟨h2, h3⟩, h4⟩ := h1
      refine ⟨h2, h3, ?_⟩
      split at h4
      · rename_i k k1 a k2 b e1 e2 e3
        simp only [Bool.and_eq_true, beq_iff_eq] at h4
        obtain ⟨rfl, rfl⟩ := h4
        exact ⟨_, _, _, e1, e2, e3⟩
      · cases h4
    cases fs with
    | mk fl =>
      have hp : (program : Sem Program).run P w = .ok P w := rfl
      unfold Op.equalIn
      simp only [Sem.run_bind, run_underlying hu, Result.andThen_ok, hp, hs, Bool.false_eq_true, if_false, List.forIn_toArray]
      rw [run_fields (fun f => valEq (nth xs f.offset) (nth ys f.offset)) fl ?_]
      · simp only [Result.andThen_ok]
        cases hq : fl.all fun f => valEq (nth xs f.offset) (nth ys f.offset) <;> simp [Sem.run_pure]
      · intro f hf
        obtain ⟨h1, h2, k, a, b, h3, h4, h5⟩ := hb f hf
        simp only [h1, ne_eq, not_false_iff, if_true, Sem.run_bind, run_part h2 h4, run_part h2 h5, Result.andThen_ok]
        unfold Op.equalIn
        simp only [Sem.run_bind, run_underlying h3, Result.andThen_ok, if_true, Sem.run_pure, h4, h5, valEq]
        cases hq : a == b <;> simp [Sem.run_pure]
  exact key 9998
/-- such a comparison may be made -/
def eqOk (P : Program) (t : TypeId) : Bool := !(P.stoodInHeld t) && !(P.eqGuardType P.depth t)
theorem run_eqG {op : BinOp} {x y : Operand} {a b : Array Value} {w : World} (h : eqOk P t = true) : (eqGuard op t x y (.agg a) (.agg b)).run P w = .ok () w := by
  simp only [eqOk, Bool.and_eq_true, Bool.not_eq_true'] at h
  have hp : (program : Sem Program).run P w = .ok P w := rfl
  unfold eqGuard
  cases op <;> first | rfl | (simp [Sem.run_bind, hp, Result.andThen_ok, h.2, Sem.run_pure])
theorem x_eqAg {o : Oper} {l : Fm} {x y : Operand} {t' : TypeId} {ds : List Deferred} {w : World} {b : Bool} (ho : o.op = .binOp .eql t x y t') (hx : lk l x = some (.agg xs.toArray)) (hy : lk l y = some (.agg ys.toArray)) (hg : eqOk P t = true) (hu : P.underlying t = some (.struct fs)) (h : intFs P fs.toList xs ys = true)
    (hb : (fs.toList.all fun f => valEq (nth xs f.offset) (nth ys f.offset)) = b) : Ex P l ds o w (.bool b) := by
  have h1 := eq_ints hu (by simp only [eqOk, Bool.and_eq_true, Bool.not_eq_true'] at hg; exact hg.1) h w
  rw [hb] at h1
  refine x_bin ho hx hy (run_eqG hg) ?_
  simp [binOp, Sem.run_bind, h1, Result.andThen_ok, Sem.run_pure]
theorem x_neAg {o : Oper} {l : Fm} {x y : Operand} {t' : TypeId} {ds : List Deferred} {w : World} {b : Bool} (ho : o.op = .binOp .neq t x y t') (hx : lk l x = some (.agg xs.toArray)) (hy : lk l y = some (.agg ys.toArray)) (hg : eqOk P t = true) (hu : P.underlying t = some (.struct fs)) (h : intFs P fs.toList xs ys = true)
    (hb : (fs.toList.all fun f => valEq (nth xs f.offset) (nth ys f.offset)) = b) : Ex P l ds o w (.bool (!b)) := by
  have h1 := eq_ints hu (by simp only [eqOk, Bool.and_eq_true, Bool.not_eq_true'] at hg; exact hg.1) h w
  rw [hb] at h1
  refine x_bin ho hx hy (run_eqG hg) ?_
  simp [binOp, Sem.run_bind, h1, Result.andThen_ok, Sem.run_pure]
end
end Go.Proofs.Ytijmggoikieelaa
/-
  The head of a law's walk: it returns true and turns nothing.
-/
namespace Go.Proofs.Ytijmggoikieelaa
open Go.RowKit
theorem law_go {P : Program} {f : FuncId} {args : Array Value} {W : World} (h : CallsR P f args W fun r w' => r = .bool true ∧ Fr Nof W w') : Calls P f args W fun e w' => e = .returned (.bool true) ∧ Below W.heap.size W w' :=
  CallsR.plain (Φ := fun w' => Below W.heap.size W w') (CallsR.mono h fun _ _ h => ⟨h.1, h.2.below⟩)
end Go.Proofs.Ytijmggoikieelaa
/-
  The steps of a walk with their search kept in the laws' own defaults. Nothing here names a function of the program.
-/
namespace Go.Proofs.Ytijmggoikieelaa
open Go.RowKit

section
variable {P : Program} {ops : Array Oper} {Q Q' : Exit → Act → World → Prop} {rest : List Oper} {o : Oper} {l : Fm} {ds : List Deferred} {w w0 : World} {F : Nat → Prop} {rs rs' : List Res} {d i : Nat} {v : Value}
theorem S_y (hS : St F w0 rs w) (k : WL P ops Q rest (l.upd d v) ds w) (h : Yl P rs l o v := by first | exact Yp | exact Yt | exact Yf | exact Yq | exact Ya | exact Yld | exact YlA | exact YlE | exact YlG | exact Yfc | exact Yfe | exact YiN | exact YiM | exact Yi1 | exact Yi2 | exact Ymp | exact Yh1 | exact Yh8 | exact Yhr | exact Yhl | exact YsT | exact YsF | exact YnT | exact YnF | exact Yct | exact Yis | exact Yln | exact Ysl | exact YbT | exact YbF | exact YbE | exact YbN | exact YlS | exact Ybg | exact Ybs | exact YsH | exact YsL) (hd : o.dst = some d := by rfl) : SStep P ops Q rest o l ds w := S_q hS h k hd
theorem Q_y {K : Act → Prop} (k : WQ P ops (St F w0 rs) K rest (l.upd d v) ds) (h : Yl P rs l o v := by first | exact Yp | exact Yt | exact Yf | exact Yq | exact Ya | exact Yld | exact YlA | exact YlE | exact YlG | exact Yfc | exact Yfe | exact YiN | exact YiM | exact Yi1 | exact Yi2 | exact Ymp | exact Yh1 | exact Yh8 | exact Yhr | exact Yhl | exact YsT | exact YsF | exact YnT | exact YnF | exact Yct | exact Yis | exact Yln | exact Ysl | exact YbT | exact YbF | exact YbE | exact YbN | exact YlS | exact Ybg | exact Ybs | exact YsH | exact YsL) (hd : o.dst = some d := by rfl) : QStep P ops (St F w0 rs) K rest o l ds := Q_q h k hd
theorem P_yy {p : Plan} (hS : St F w0 rs w) (k : WP P ops Q (St F w0 rs) p (l.upd d v) ds w) (h : Yl P rs l o v := by first | exact Yp | exact Yfc | exact Yld | exact Yt | exact Yf | exact Yq | exact Ya | exact YlA | exact YlE | exact YlG | exact Yfe | exact YiN | exact YiM | exact Yi1 | exact Yi2 | exact Ymp | exact Yln | exact YlS | exact Ybg) (hw : wantF ops l o = true := by rfl) (hd : o.dst = some d := by rfl) (hb : Blind Q := by infer_instance) : PT P ops Q (St F w0 rs) p i o l ds w := P_y hS h k hw hd hb
theorem X_w {c : Code} {l' : List Value} (h : Wc P c Q (Fm.base l') ds w) (e : l.toList = l' := by (try simp only [Fm.toList, List.set_cons_succ, List.set_cons_zero]); exact rfl) : Wx (Exit.then (Kon P c Q) Q') .normal l ds w := X_k e h
theorem C_fs {c : Code} {l' : List Value} (h : Wc P c Q (Fm.base l') ds w) (e : l.toList = l' := by simp only [runs, mask, ov, Fm.toList, List.replicate_succ, List.replicate_zero, List.cons_append, List.nil_append, Bool.not_true, Bool.not_false, Nat.reduceAdd, Nat.reduceEqDiff, Nat.zero_ne_one, Nat.one_ne_zero, ↓reduceIte]; exact rfl) : Wc P c Q l ds w := C_fr e h
theorem C_ft {c : Code} {l' : List Value} (h : Wc P c Q (Fm.base l') ds w) (e : l.toList = l' := by simp only [List.replicate_succ, List.replicate_zero, List.cons_append, List.nil_append, Fm.toList]; exact rfl) : Wc P c Q l ds w := C_fr e h
theorem St.sb (h : St F w0 rs w) (hs : rs'.Sublist rs := by repeat (first | exact List.Sublist.slnil | exact List.Sublist.refl _ | refine List.Sublist.cons_cons _ ?_ | refine List.Sublist.cons _ ?_)) : St F w0 rs' w := h.sub hs
theorem St.rdAtM {size n : Nat} {A : Option Addr} {xs : List Value} (hS : St F w0 rs w) (hm : Res.rd size A n xs ∈ rs := by repeat (first | exact List.Mem.head _ | assumption | apply List.Mem.tail)) : Rd w size A n xs := hS.rdAt hm
theorem St.rowAtM {size n c : Nat} {A : Option Addr} {xs : List Value} {e : TypeId} (hS : St F w0 rs w) (hm : Res.row e size (.slice A n c) n xs ∈ rs := by repeat (first | exact List.Mem.head _ | assumption | apply List.Mem.tail)) : Rd w size A n xs := hS.rowAt hm
theorem St.rowOwnM {e : TypeId} {size n : Nat} {v : Value} {xs : List Value} (h : St Nof w0 rs w) (hm : Res.row e size v n xs ∈ rs := by repeat (first | exact List.Mem.head _ | assumption | apply List.Mem.tail)) : w.ownsRow w0.heap.size e size v n xs := h.rowOwn hm
end
end Go.Proofs.Ytijmggoikieelaa
