/-
  Regions that draw their order, walked by an invariant over what has come up. Nothing here names a function of the program.
-/
import Derived.Test.YtcholfpomalgdaaEE
import Derived.StillTail
namespace Go.Proofs.Ytcholfpomalgdaa
open Go.RowKit

/-- how many have not come up -/
def unC (listed : Array Bool) (n : Nat) : Nat := (List.range n).countP fun i => !listed.getD i true
theorem unC_set {listed : Array Bool} {n i : Nat} (h : listed.getD i true = false) (hi : i < n) : unC (listed.setIfInBounds i true) n + 1 = unC listed n := by
  have hlt : i < listed.size := by
    rcases Nat.lt_or_ge i listed.size with h' | h'
    · exact h'
    · simp [Array.getElem?_eq_none h'] at h
  have hset : ∀ j, (listed.setIfInBounds i true).getD j true = if j = i then true else listed.getD j true := fun j => by
    by_cases hj : j = i
    · subst hj; simp [hlt]
    · rw [if_neg hj]; simp [Array.getElem?_setIfInBounds, Ne.symm hj]
  have key : ∀ m, (List.range m).countP (fun j => !(listed.setIfInBounds i true).getD j true) + (if i < m then 1 else 0) = (List.range m).countP fun j => !listed.getD j true := by
    intro m
    induction m with
    | zero => simp
    | succ m ih =>
      rw [List.range_succ, List.countP_append, List.countP_append, ← ih, List.countP_singleton, List.countP_singleton, hset m]
      by_cases hm : m = i
      · subst hm; rw [h]; simp
      · rw [if_neg hm]
        have : (i < m + 1) ↔ i < m := by omega
        simp only [this]
        omega
  have := key n
  rw [if_pos hi] at this
  exact this
theorem unC_pos {listed : Array Bool} {n i : Nat} (h : listed.getD i true = false) (hi : i < n) : 0 < unC listed n := by
  have := unC_set h hi; omega
section
variable {P : Program} {ops : Array Oper} {Q : Exit → Act → World → Prop}
theorem any_inv (Inv : Array Bool → Act → World → Prop) (hend : ∀ listed a w, Inv listed a w → Region.ready .any ops listed = [] → Q .normal a w)
    (hstep : ∀ listed a w i, Inv listed a w → i ∈ Region.ready .any ops listed → wpOp P ops Q i (Inv (listed.setIfInBounds i true)) a w) :
    ∀ (fuel : Nat) (listed : Array Bool) (a : Act) (w : World), unC listed ops.size ≤ fuel → Inv listed a w → wpAny P .any ops Q fuel listed a w
  | 0, listed, a, w, hf, h => by
    have : Region.ready .any ops listed = [] := by
      cases hr : Region.ready .any ops listed with
      | nil => rfl
      | cons i r =>
        have hi : i ∈ Region.ready .any ops listed := by rw [hr]; exact List.mem_cons_self ..
        obtain ⟨hu, oi, hoi, _⟩ := mem_ready.1 hi
        have := unC_pos hu (Array.getElem?_eq_some_iff.1 hoi).1
        omega
    exact ⟨this, hend _ _ _ h this⟩
  | fuel + 1, listed, a, w, hf, h => ⟨fun hr => hend _ _ _ h hr, fun i hi => by
    obtain ⟨hu, oi, hoi, _⟩ := mem_ready.1 hi
    have hc := unC_set hu (Array.getElem?_eq_some_iff.1 hoi).1
    exact wpOp_mono (fun a' w' h' => any_inv Inv hend hstep fuel _ a' w' (by omega) h') (hstep _ _ _ _ h hi)⟩
/-- behind an operation that is carried out -/
def IQ (Q : Exit → Act → World → Prop) (K : Act → World → Prop) : Exit → Act → World → Prop
  | .normal, a, w => K a w
  | e, a, w => Q e a w
theorem wp_IQ {o : Oper} {a : Act} {w : World} {K : Act → World → Prop} (h : o.wp P a w (wpList P ops (IQ Q K) []) (IQ Q K)) : o.wp P a w K Q := by
  unfold Oper.wp at *
  generalize (execOp a.eval o).run P w = r at h ⊢
  cases r with
  | ok n w' =>
    cases n <;> simp only [Oper.upon] at h ⊢ <;> try exact h
  | halt x w' => cases x <;> simp only [Oper.upon] at h ⊢ <;> try exact h
theorem wpOp_WL {i : Nat} {o : Oper} {l : Fm} {ds : List Deferred} {w : World} {K : Act → World → Prop} (hi : ops[i]? = some o) (h : WL P ops (IQ Q K) [o] l ds w) : wpOp P ops Q i K ⟨l.arr, ds⟩ w := by
  have h1 := h.out
  unfold wpOp
  rw [hi]
  simp only
  unfold wpList at h1
  split
  · rename_i hw
    rw [if_pos hw] at h1
    rcases h1 with h1 | ⟨h1, h2⟩
    · exact .inl (wp_IQ h1)
    · exact .inr ⟨h1, by obtain ⟨a', w3, h3⟩ := h2; exact ⟨a', w3, h3⟩⟩
  · rename_i hw
    rw [if_neg hw] at h1
    exact h1
end
/-- an operation of such a region: which it waits for, what its slot holds, what memory it makes -/
structure AOp where
  deps : List Nat
  ok : (Nat → Value) → Prop
  res : List ((Nat → Value) → Res)
def up (y : Nat → Value) (p : Nat) (v : Value) : Nat → Value := fun q => if q = p then v else y q
def AOp.rs (k : AOp) (y : Nat → Value) : List Res := k.res.map fun f => f y
def resL (K : Nat → AOp) (n : Nat) (listed : Array Bool) (y : Nat → Value) : List Res := ((List.range n).filter fun i => listed.getD i false).flatMap fun i => (K i).rs y
/-- the edges that an operation's values need are there -/
def edgeB (ops : Array Oper) (deps : Nat → List Nat) : Bool := (List.range ops.size).all fun i => match ops[i]? with
  | some o => (deps i).all fun d => o.after.any fun e => Region.binds .any e && e.on == d
  | none => true
/-- edges lead to smaller numbers -/
def downB (ops : Array Oper) : Bool := (List.range ops.size).all fun i => match ops[i]? with
  | some o => o.after.all fun e => decide (e.on < i)
  | none => true
theorem filter_one {n i : Nat} {p q : Nat → Bool} (hi : i < n) (hp : p i = false) (hq : ∀ j, q j = if j = i then true else p j) : ((List.range n).filter q).Perm (i :: (List.range n).filter p) := by
  have hnd : ∀ (l : List Nat), l.Nodup → i ∈ l → (l.filter q).Perm (i :: l.filter p) := by
    intro l
    induction l with
    | nil => intro _ h; cases h
    | cons a l ih =>
      intro hn hm
      obtain ⟨h1, h2⟩ := List.nodup_cons.1 hn
      by_cases ha : a = i
      · subst ha
        have hqa : q a = true := by rw [hq, if_pos rfl]
        rw [List.filter_cons_of_pos hqa, List.filter_cons_of_neg (by rw [hp]; decide)]
        refine List.Perm.cons a (List.Perm.of_eq ?_)
        refine List.filter_congr fun x hx => ?_
        rw [hq, if_neg (fun e : x = a => h1 (by rw [← e]; exact hx))]
      · have hm' : i ∈ l := by
          rcases List.mem_cons.1 hm with h | h
          · exact absurd h.symm ha
          · exact h
        have hqa : q a = p a := by rw [hq, if_neg ha]
        by_cases hpa : p a = true
        · rw [List.filter_cons_of_pos (by rw [hqa]; exact hpa), List.filter_cons_of_pos hpa]
          exact ((ih h2 hm').cons a).trans (List.Perm.swap i a _)
        · rw [List.filter_cons_of_neg (by rw [hqa]; exact hpa), List.filter_cons_of_neg hpa]
          exact ih h2 hm'
  exact hnd _ List.nodup_range (List.mem_range.2 hi)
section
variable {P : Program} {ops : Array Oper} {Q : Exit → Act → World → Prop} {F : Nat → Prop} {w0 w : World} {rs : List Res} {ds : List Deferred}
theorem St.per8 {rs' : List Res} (h : St F w0 rs w) (hp : rs.Perm rs') : St F w0 rs' w :=
  ⟨h.fr, fun r hr => h.all r (hp.mem_iff.2 hr), (hp.pairwise_iff Res.apart_symm).1 h.apart, fun r hr => h.own r (hp.mem_iff.2 hr)⟩
/-- the state of such a region -/
def AInv (F : Nat → Prop) (w0 : World) (rs : List Res) (ds : List Deferred) (K : Nat → AOp) (fr : (Nat → Value) → List Value) (s0 n : Nat) (y0 : Nat → Value) (listed : Array Bool) (a : Act) (w : World) : Prop :=
  listed.size = n ∧ ∃ y, a = ⟨(fr y).toArray, ds⟩ ∧ (∀ p, (∀ i, i < n → listed.getD i false = true → p ≠ s0 + i) → y p = y0 p) ∧ (∀ i, listed.getD i false = true → (K i).ok y ∧ ∀ d ∈ (K i).deps, listed.getD d false = true) ∧ St F w0 (resL K n listed y ++ rs) w
theorem getD_set' {listed : Array Bool} {i j : Nat} (hi : i < listed.size) : (listed.setIfInBounds i true).getD j false = if j = i then true else listed.getD j false := by
  by_cases hj : j = i
  · subst hj; simp [hi]
  · rw [if_neg hj]; simp [Array.getElem?_setIfInBounds, Ne.symm hj]
theorem AInv_step {K : Nat → AOp} {fr : (Nat → Value) → List Value} {s0 : Nat} {y0 : Nat → Value}
    (hdep : ∀ i y k v, k ≠ i → k ∉ (K i).deps → ((K i).ok y → (K i).ok (up y (s0 + k) v)) ∧ (K i).rs (up y (s0 + k) v) = (K i).rs y)
    (hedge : edgeB ops (fun i => (K i).deps) = true)
    (hfr : ∀ y k v, k < ops.size → (fr y).set (s0 + k) v = fr (up y (s0 + k) v))
    (hstep : ∀ i o, ops[i]? = some o → ∀ y w rs', (∀ d ∈ (K i).deps, (K d).ok y) → St F w0 rs' w → ∀ Q', (∀ v w', (K i).ok (up y (s0 + i) v) → St F w0 ((K i).rs (up y (s0 + i) v) ++ rs') w' → Q' .normal ⟨((Fm.base (fr y)).upd (s0 + i) v).arr, ds⟩ w') → WL P ops Q' [o] (Fm.base (fr y)) ds w)
    {listed : Array Bool} {a : Act} {i : Nat} (h : AInv F w0 rs ds K fr s0 ops.size y0 listed a w) (hi : i ∈ Region.ready .any ops listed) :
    wpOp P ops Q i (AInv F w0 rs ds K fr s0 ops.size y0 (listed.setIfInBounds i true)) a w := by
  obtain ⟨hsz, y, rfl, hy, hok, hS⟩ := h
  obtain ⟨hu, o, ho, hall⟩ := mem_ready.1 hi
  have hlt := (Array.getElem?_eq_some_iff.1 ho).1
  have hun : listed.getD i false = false := getD_both hu
  have hdl : ∀ d ∈ (K i).deps, listed.getD d false = true := fun d hd => by
    have h1 := List.all_eq_true.1 hedge i (List.mem_range.2 hlt)
    rw [ho] at h1
    have h2 := List.all_eq_true.1 h1 d hd
    obtain ⟨e, he, hb⟩ := Array.any_eq_true'.1 h2
    simp only [Bool.and_eq_true, beq_iff_eq] at hb
    have := hall e he hb.1
    rwa [hb.2] at this
  have hnot : ∀ j, listed.getD j false = true → i ≠ j ∧ i ∉ (K j).deps := fun j hj =>
    ⟨fun e => absurd (e ▸ hun) (by rw [hj]; decide), fun hm => absurd ((hok j hj).2 i hm) (by rw [hun]; decide)⟩
  refine wpOp_WL (l := Fm.base (fr y)) ho ?_
  refine hstep i o ho y w _ (fun d hd => (hok d (hdl d hd)).1) hS _ ?_
  intro v w' hv hS'
  refine ⟨by simp [hsz], up y (s0 + i) v, ?_, ?_, ?_, ?_⟩
  · show (⟨((fr y).set (s0 + i) v).toArray, ds⟩ : Act) = _
    rw [hfr y i v hlt]
  · intro p hp
    have hne : p ≠ s0 + i := hp i hlt (by rw [getD_set' (by omega), if_pos rfl])
    unfold up
    rw [if_neg hne]
    refine hy p fun j hj hl => hp j hj ?_
    rw [getD_set' (by omega), hl]; simp
  · intro j hj
    rw [getD_set' (by omega)] at hj
    have hset : ∀ d, listed.getD d false = true → (listed.setIfInBounds i true).getD d false = true := fun d hd => by rw [getD_set' (by omega), hd]; simp
    by_cases hji : j = i
    · subst hji; exact ⟨hv, fun d hd => hset d (hdl d hd)⟩
    · rw [if_neg hji] at hj
      exact ⟨(hdep j y i v (hnot j hj).1 (hnot j hj).2).1 (hok j hj).1, fun d hd => hset d ((hok j hj).2 d hd)⟩
  · have h1 := (filter_one (p := fun j => listed.getD j false) (q := fun j => (listed.setIfInBounds i true).getD j false) hlt hun fun j => getD_set' (by omega)).symm
    have h2 : resL K ops.size listed (up y (s0 + i) v) = resL K ops.size listed y := by
      unfold resL
      rw [List.flatMap_def, List.flatMap_def]
      congr 1
      refine List.map_congr_left fun j hj => ?_
      have hjl := (List.mem_filter.1 hj).2
      exact (hdep j y i v (hnot j hjl).1 (hnot j hjl).2).2
    refine St.per8 hS' ?_
    rw [← List.append_assoc]
    refine List.Perm.append_right _ ?_
    rw [← h2]
    have h3 := h1.flatMap_right fun j => (K j).rs (up y (s0 + i) v)
    rw [List.flatMap_cons] at h3
    exact h3
theorem all_listed {listed : Array Bool} (hsz : listed.size = ops.size) (hd : downB ops = true) (hr : Region.ready .any ops listed = []) : ∀ i, i < ops.size → listed.getD i false = true := by
  intro i
  induction i using Nat.strongRecOn with
  | _ i ih =>
    intro hi
    cases hl : listed.getD i false with
    | true => rfl
    | false =>
      exfalso
      have hm : i ∈ Region.ready .any ops listed := by
        refine mem_ready.2 ⟨getD_in (by omega) hl, ops[i], Array.getElem?_eq_getElem hi, fun e he _ => ?_⟩
        have h1 := List.all_eq_true.1 hd i (List.mem_range.2 hi)
        rw [Array.getElem?_eq_getElem hi] at h1
        have h2 := Array.all_eq_true_iff_forall_mem.1 h1 e he
        have h3 := of_decide_eq_true h2
        exact ih e.on h3 (by omega)
      rw [hr] at hm
      cases hm
def resA (K : Nat → AOp) (n : Nat) (y : Nat → Value) : List Res := (List.range n).flatMap fun i => (K i).rs y
theorem C_any {id : Nat} {l' : List Oper} {l : Fm} (K : Nat → AOp) (fr : (Nat → Value) → List Value) (s0 : Nat) (y0 : Nat → Value) (hS : St F w0 rs w) (hl : l.toList = fr y0)
    (hdep : ∀ i y k v, k ≠ i → k ∉ (K i).deps → ((K i).ok y → (K i).ok (up y (s0 + k) v)) ∧ (K i).rs (up y (s0 + k) v) = (K i).rs y)
    (hedge : edgeB l'.toArray (fun i => (K i).deps) = true) (hdown : downB l'.toArray = true)
    (hfr : ∀ y k v, k < l'.toArray.size → (fr y).set (s0 + k) v = fr (up y (s0 + k) v))
    (hstep : ∀ i o, l'.toArray[i]? = some o → ∀ y w rs', (∀ d ∈ (K i).deps, (K d).ok y) → St F w0 rs' w → ∀ Q', (∀ v w', (K i).ok (up y (s0 + i) v) → St F w0 ((K i).rs (up y (s0 + i) v) ++ rs') w' → Q' .normal ⟨((Fm.base (fr y)).upd (s0 + i) v).arr, ds⟩ w') → WL P l'.toArray Q' [o] (Fm.base (fr y)) ds w)
    (k : ∀ y w, (∀ p, p < s0 ∨ s0 + l'.length ≤ p → y p = y0 p) → (∀ i, i < l'.length → (K i).ok y) → St F w0 (resA K l'.length y ++ rs) w → Wx Q .normal (Fm.base (fr y)) ds w)
    (hm : P.follows .mixedOrders = true := by kernel_rfl) : Wc P (.region id l'.toArray true) Q l ds w := ⟨by
  have hsl : l'.toArray.size = l'.length := by simp
  refine wp_region_any hm ?_
  refine any_inv (AInv F w0 rs ds K fr s0 l'.toArray.size y0) ?_ (fun listed a w i h hi => AInv_step hdep hedge hfr hstep h hi) _ _ _ _ ?_ ?_
  · rintro listed a w ⟨hsz, y, rfl, hy, hok, hS⟩ hr
    have hall := all_listed hsz hdown hr
    have hres : resL K l'.toArray.size listed y = resA K l'.length y := by
      unfold resL resA
      rw [hsl, List.filter_eq_self.2 fun i hi => hall i (by rw [hsl]; exact List.mem_range.1 hi)]
    rw [hres] at hS
    exact (k y w (fun p hp => hy p fun i hi _ => by omega) (fun i hi => (hok i (hall i (by omega))).1) hS).out
  · have : unC (Array.replicate l'.toArray.size false) l'.toArray.size ≤ (List.range l'.toArray.size).length := List.countP_le_length
    rwa [List.length_range] at this
  · refine ⟨by simp, y0, by rw [← hl]; rfl, fun _ _ => rfl, fun i hi => ?_, ?_⟩
    · rw [getD_replicate_false] at hi; cases hi
    · have hres : resL K l'.toArray.size (Array.replicate l'.toArray.size false) y0 = [] := by
        unfold resL
        rw [List.filter_eq_nil_iff.2 fun i _ => by rw [getD_replicate_false]; decide]
        rfl
      rw [hres]
      exact hS.call (Fr.of ((Below.refl _ _).drew))⟩
end
/-! a slice of structs, all zero -/
theorem range_rep (cs : List Value) (hn : 0 < cs.length) : ∀ m : Nat, (List.range (m * cs.length)).map (fun j => cs.toArray[j % cs.toArray.size]!) = (List.replicate m cs).flatten
  | 0 => by simp
  | m + 1 => by
    have h2 : (List.range cs.length).map ((fun j => cs.toArray[j % cs.toArray.size]!) ∘ fun x => m * cs.length + x) = cs := by
      apply List.ext_getElem?
      intro j
      by_cases hj : j < cs.length
      · have hmod : (m * cs.length + j) % cs.length = j := by rw [Nat.add_comm, Nat.add_mul_mod_self_right, Nat.mod_eq_of_lt hj]
        simp [hj, hmod]
      · simp [hj]
    rw [Nat.add_mul, Nat.one_mul, List.range_add, List.map_append, range_rep cs hn m, List.map_map, h2, List.replicate_succ', List.flatten_append]
    simp
section
variable {P : Program} {ops : Array Oper} {Q : Exit → Act → World → Prop} {rest : List Oper} {o : Oper} {l : Fm} {ds : List Deferred} {w : World}
variable {F : Nat → Prop} {w0 : World} {rs rs' : List Res} {x y : Operand} {t e : TypeId} {d : Nat}
theorem M_mkS (m : Nat) {i : TypeInfo} {z : Value} (cs : List Value) (hS : St F w0 rs w) (k : ∀ b w', St F w0 (Res.obj b (.cells (List.replicate m cs).flatten.toArray e (0, 0)) :: rs) w' → WL P ops Q rest (l.upd d (.slice (some ⟨b, 0, none⟩) m m)) ds w')
    (ho : o.op = .makeSlice t x y := by rfl) (hd : o.dst = some d := by rfl) (ht : elemT P t = some e := by rfl) (hx : lk l x = some (.int .i64 (m : Int)) := by rfl) (hy : lk l y = some (.int .i64 (m : Int)) := by rfl)
    (hi : P.info? e = some i := by rfl) (hz : i.zero = some z := by rfl) (hc : z.cells = cs.toArray := by rfl) (hsz : i.size = cs.length := by rfl) (hb : i.bytes ≤ 4096 := by decide) (hm : 0 < m ∧ m ≤ 100000 := by omega) (hcl : (decide (0 < cs.length)) = true := by rfl) : SStep P ops Q rest o l ds w := by
  refine S_new (f := fun b => .slice (some ⟨b, 0, none⟩) m m) hS hd ?_ k
  have hcl := of_decide_eq_true hcl
  have hw1 : IntKind.i64.wrap (m : Int) = m := r_i64 (by omega)
  have hprod : i.bytes * m ≤ 17592186044416 := Nat.le_trans (Nat.mul_le_mul hb hm.2) (by omega)
  have hbig : ¬ ((i.bytes : Int) * (m : Int) > 2 ^ 48) := by
    have : ((i.bytes * m : Nat) : Int) ≤ 17592186044416 := by omega
    rw [Int.natCast_mul] at this
    omega
  have hroom : ¬ (m * i.bytes > roomBytes) := by unfold roomBytes; rw [Nat.mul_comm]; omega
  have hti : (typeInfo e).run P w = .ok i w := by simp [typeInfo, go_sem, hi]
  have hzv : (zeroValue e).run P w = .ok z w := by simp [zeroValue, typeInfo, go_sem, hi, hz]
  have hso : (sizeOf e).run P w = .ok cs.length w := by simp [sizeOf, typeInfo, go_sem, hi, hsz]
  have hrep : ((Array.range (m * cs.length)).map fun j => cs.toArray[j % cs.toArray.size]!) = (List.replicate m cs).flatten.toArray := by
    apply Array.ext'
    rw [← range_rep cs hcl m]
    simp
  unfold execOp; rw [ho]; simp only [lk_eval hx, lk_eval hy]
  refine run_v ?_
  have hneg : ¬ ((m : Int) < 0) := by omega
  have hlt : ¬ ((m : Int) > (m : Int)) := by omega
  have hai : (asInt (.int .i64 (m : Int))).run P w = .ok (m : Int) w := rfl
  have hm0 : ¬ (m * cs.length = 0) := fun h => by
    have := Nat.mul_pos hm.1 hcl
    omega
  simp only [Instr.makeSlice, Sem.run_bind, run_underlying (elemT_ok ht), Result.andThen_ok, hai, Sem.run_pure, hti, hw1, decide_eq_false hneg, decide_eq_false hbig, decide_eq_false hlt, Bool.or_false, Bool.or_self, Bool.false_eq_true, if_false, Int.toNat_natCast, askRoom, hroom, hso]
  simp only [if_neg hm0, Sem.run_bind, Sem.run_pure, Result.andThen_ok, hzv, hc, hrep, newRow]
  rfl
end
end Go.Proofs.Ytcholfpomalgdaa
