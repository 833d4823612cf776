/-
  Regions that draw their order and whose calls and allocations make memory, by a plan with branches that meet again behind the region. Nothing here names a function of the program.
-/
import Derived.Test.YtfdfnamkkepbiaaWalk8
namespace Go.Proofs.Ytfdfnamkkepbiaa
open Go.RowKit

/-- an order for a region: what only reads is taken first; else one, or one of two, may come up -/
inductive Plan where
  | done
  | take (i : Nat) (p : Plan)
  | one (i : Nat) (p : Plan)
  | two (i j : Nat) (p q : Plan)
def Plan.len : Plan → Nat
  | .done => 0
  | .take _ p => p.len + 1
  | .one _ p => p.len + 1
  | .two _ _ p _ => p.len + 1
def planT (ops : Array Oper) : Plan → Array Bool → Bool
  | .done, listed => (Region.ready .any ops listed).isEmpty
  | .take i p, listed => (Region.free .any ops listed i && (Region.ready .any ops listed).contains i) && planT ops p (listed.setIfInBounds i true)
  | .one i p, listed => (Region.ready .any ops listed == [i]) && planT ops p (listed.setIfInBounds i true)
  | .two i j p q, listed => (Region.ready .any ops listed == [i, j]) && (p.len == q.len) && (planT ops p (listed.setIfInBounds i true) && planT ops q (listed.setIfInBounds j true))
structure WP (P : Program) (ops : Array Oper) (Q : Exit → Act → World → Prop) (S : World → Prop) (p : Plan) (l : Fm) (ds : List Deferred) (w : World) : Prop where
  run : ∀ listed, planT ops p listed = true → Region.noSelect ops = true → wpAnyH P .any ops Q S p.len listed ⟨l.arr, ds⟩ w
structure PT (P : Program) (ops : Array Oper) (Q : Exit → Act → World → Prop) (S : World → Prop) (p : Plan) (i : Nat) (o : Oper) (l : Fm) (ds : List Deferred) (w : World) : Prop where
  run : nthO ops.toList i = some o → WP P ops Q S (.take i p) l ds w
/-- what stands behind an operation that is carried out -/
def PQ (P : Program) (ops : Array Oper) (Q : Exit → Act → World → Prop) (S : World → Prop) (p : Plan) (listed : Array Bool) : Exit → Act → World → Prop
  | .normal, a, w => S w ∧ wpAnyH P .any ops Q S p.len listed a w
  | e, a, w => Q e a w
structure PF (P : Program) (ops : Array Oper) (Q : Exit → Act → World → Prop) (S : World → Prop) (p : Plan) (o : Oper) (l : Fm) (ds : List Deferred) (w : World) : Prop where
  run : ∀ listed, planT ops p listed = true → Region.noSelect ops = true → WL P ops (PQ P ops Q S p listed) [o] l ds w
section
variable {P : Program} {ops : Array Oper} {Q : Exit → Act → World → Prop} {S : World → Prop} {p q : Plan} {i j d : Nat} {o : Oper} {l : Fm} {ds : List Deferred} {w : World}
theorem P_t (hi : nthO ops.toList i = some o) (h : PT P ops Q S p i o l ds w) : WP P ops Q S (.take i p) l ds w := h.run hi
theorem PT_yes {v : Value} (hw : wantF ops l o = true) (hd : o.dst = some d) (hS : S w) (hQ : ∀ c a w, Q (.panic c) (a.put (some d) v) w → Q (.panic c) a w) (he : ∀ w, S w → Ex P l ds o w v) (k : WP P ops Q S p (l.upd d v) ds w) : PT P ops Q S p i o l ds w := ⟨fun hi => ⟨fun listed hp hs => by
  simp only [planT, Bool.and_eq_true] at hp
  refine wpAnyH_take (nthO_get hi) hs hp.1.1 hp.1.2 (by rw [hd]; exact hQ) (.inl ⟨wantF_eq.trans hw, fun w hS => he w hS⟩) hS ?_
  rw [hd, put_mk]
  exact k.run _ hp.2 hs⟩⟩
theorem PT_no (hw : wantF ops l o = false) (hd : o.dst = some d) (hS : S w) (hQ : ∀ c a w, Q (.panic c) (a.put (some d) undef) w → Q (.panic c) a w) (k : WP P ops Q S p (l.upd d undef) ds w) : PT P ops Q S p i o l ds w := ⟨fun hi => ⟨fun listed hp hs => by
  simp only [planT, Bool.and_eq_true] at hp
  refine wpAnyH_take (nthO_get hi) hs hp.1.1 hp.1.2 (by rw [hd]; exact hQ) (.inr ⟨wantF_eq.trans hw, rfl⟩) hS ?_
  rw [hd, put_mk]
  exact k.run _ hp.2 hs⟩⟩
theorem wp_PQ {listed : Array Bool} {a : Act} (h : o.wp P a w (wpList P ops (PQ P ops Q S p listed) []) (PQ P ops Q S p listed)) : o.wp P a w (fun a' w' => S w' ∧ wpAnyH P .any ops Q S p.len listed a' w') Q := by
  unfold Oper.wp at *
  generalize (execOp a.eval o).run P w = r at h ⊢
  cases r with
  | ok n w' =>
    cases n <;> simp only [Oper.upon] at h ⊢ <;> try exact h
  | halt x w' => cases x <;> simp only [Oper.upon] at h ⊢ <;> try exact h
theorem wpOp_PF (hi : nthO ops.toList i = some o) (h : PF P ops Q S p o l ds w) {listed : Array Bool} (hp : planT ops p listed = true) (hs : Region.noSelect ops = true) :
    wpOp P ops Q i (fun a' w' => S w' ∧ wpAnyH P .any ops Q S p.len listed a' w') ⟨l.arr, ds⟩ w := by
  have h1 := (h.run _ hp hs).out
  unfold wpOp
  rw [nthO_get hi]
  simp only
  unfold wpList at h1
  split
  · rename_i hw
    rw [if_pos hw] at h1
    rcases h1 with h1 | ⟨h1, h2⟩
    · exact .inl (wp_PQ h1)
    · exact .inr ⟨h1, by obtain ⟨a', w3, h3⟩ := h2; exact ⟨a', w3, h3⟩⟩
  · rename_i hw
    rw [if_neg hw] at h1
    exact h1
theorem P_one (hi : nthO ops.toList i = some o) (h : PF P ops Q S p o l ds w) : WP P ops Q S (.one i p) l ds w := ⟨fun listed hp hs => by
  simp only [planT, Bool.and_eq_true, beq_iff_eq] at hp
  refine wpAnyH_all hp.1 (by simp) fun k hk => ?_
  obtain rfl : k = i := by simpa using hk
  exact wpOp_PF hi h hp.2 hs⟩
theorem P_two {o' : Oper} (hi : nthO ops.toList i = some o) (hj : nthO ops.toList j = some o') (h : PF P ops Q S p o l ds w) (h' : PF P ops Q S q o' l ds w) : WP P ops Q S (.two i j p q) l ds w := ⟨fun listed hp hs => by
  simp only [planT, Bool.and_eq_true, beq_iff_eq] at hp
  refine wpAnyH_all hp.1.1 (by simp) fun k hk => ?_
  have hk : k = i ∨ k = j := by simpa using hk
  rcases hk with rfl | rfl
  · exact wpOp_PF hi h hp.2.1 hs
  · have := wpOp_PF hj h' hp.2.2 hs
    rw [← hp.1.2] at this
    exact this⟩
theorem PF_mk (h : ∀ Q', (∀ l' w', S w' → WP P ops Q S p l' ds w' → Q' .normal ⟨l'.arr, ds⟩ w') → (∀ c a w', Q (.panic c) a w' → Q' (.panic c) a w') → WL P ops Q' [o] l ds w) : PF P ops Q S p o l ds w :=
  ⟨fun listed hp hs => h _ (fun l' w' hS hk => ⟨hS, hk.run _ hp hs⟩) (fun _ _ _ h => h)⟩
theorem P_done (hS : Q .normal ⟨l.arr, ds⟩ w) : WP P ops Q S .done l ds w := ⟨fun listed hp _ => ⟨by simpa [planT] using hp, hS⟩⟩
section
variable {F : Nat → Prop} {w0 : World} {rs : List Res}
/-- the region's end: all branches come to one of these states -/
def Meet {α : Type} (F : Nat → Prop) (w0 : World) (post : α → Fm → Fm) (rs2 : α → List Res) (l : Fm) (ds : List Deferred) : Exit → Act → World → Prop :=
  fun e a w => e = .normal ∧ ∃ s, a = ⟨(post s l).arr, ds⟩ ∧ St F w0 (rs2 s) w
theorem W_plan {α : Type} {id : Nat} {l' : List Oper} (p : Plan) (post : α → Fm → Fm) (rs2 : α → List Res) (hS : St F w0 rs w) (hm : P.follows .mixedOrders = true)
    (hp : (planT l'.toArray p (Array.replicate l'.toArray.size false) && Region.noSelect l'.toArray && p.len == l'.toArray.size) = true)
    (k1 : ∀ w, St F w0 rs w → WP P l'.toArray (Meet F w0 post rs2 l ds) (St F w0 rs) p l ds w)
    (k2 : ∀ s w, St F w0 (rs2 s) w → Q .normal ⟨(post s l).arr, ds⟩ w) : (Code.region id l'.toArray true).wp P Q ⟨l.arr, ds⟩ w := by
  simp only [Bool.and_eq_true, beq_iff_eq] at hp
  refine wp_mono (Q := Meet F w0 post rs2 l ds) ?_ ?_
  · refine wp_region_held (S := St F w0 rs) hm ?_
    have := (k1 _ (hS.call (Fr.of ((Below.refl _ _).drew)))).run _ hp.1.1 hp.1.2
    rw [hp.2] at this
    exact this
  · rintro e a w' ⟨rfl, s, rfl, hs⟩
    exact k2 s w' hs
/-- without branches -/
theorem W_plan1 {id : Nat} {l' : List Oper} (p : Plan) (hS : St F w0 rs w) (hm : P.follows .mixedOrders = true)
    (hp : (planT l'.toArray p (Array.replicate l'.toArray.size false) && Region.noSelect l'.toArray && p.len == l'.toArray.size) = true)
    (k : ∀ w, St F w0 rs w → WP P l'.toArray Q (St F w0 rs) p l ds w) : (Code.region id l'.toArray true).wp P Q ⟨l.arr, ds⟩ w := by
  simp only [Bool.and_eq_true, beq_iff_eq] at hp
  refine wp_region_held (S := St F w0 rs) hm ?_
  have := (k _ (hS.call (Fr.of ((Below.refl _ _).drew)))).run _ hp.1.1 hp.1.2
  rw [hp.2] at this
  exact this
theorem St.freshObj {w' : World} {b : Nat} {ob : Obj} (h : St F w0 rs w) (hf : Fr Nof w w') (hh : w'.heap[b]? = some ob) (hb : w.heap.size ≤ b) : St F w0 (Res.obj b ob :: rs) w' :=
  h.fresh hf hh fun b' hb' => by cases hb'; exact hb
theorem St.objNew {b : Nat} {ob : Obj} (h : St Nof w0 rs w) (hm : Res.obj b ob ∈ rs) : w0.heap.size ≤ b ∧ w.heap[b]? = some ob :=
  ⟨(h.own _ hm rfl b rfl).elim (fun h => h.elim) id, h.get hm⟩
theorem P_meet {α : Type} {post : α → Fm → Fm} {rs2 : α → List Res} {l0 : Fm} (s : α) (hl : l.toList = (post s l0).toList) (hS : St F w0 (rs2 s) w) : Meet F w0 post rs2 l0 ds .normal ⟨l.arr, ds⟩ w :=
  ⟨rfl, s, by rw [Fm.arr, Fm.arr, hl], hS⟩
theorem meet_panic {α : Type} {post : α → Fm → Fm} {rs2 : α → List Res} {l0 : Fm} {v : Value} : ∀ c a w, Meet F w0 post rs2 l0 ds (.panic c) (a.put (some d) v) w → Meet F w0 post rs2 l0 ds (.panic c) a w := fun _ _ _ h => (by have h1 := h.1; cases h1)
end
end
end Go.Proofs.Ytfdfnamkkepbiaa
