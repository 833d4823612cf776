/-
  Regions that draw their order and write, with up to four operations ready at a time. Nothing here names a function of the program.
-/
import Derived.Test.YtijmggoikieelaaDA
namespace Go.Proofs.Ytijmggoikieelaa
open Go.RowKit

inductive PlanM where
  | done
  | take (i : Nat) (p : PlanM)
  | one (i : Nat) (p : PlanM)
  | two (i j : Nat) (p q : PlanM)
  | three (i j k : Nat) (p q r : PlanM)
  | four (i j k n : Nat) (p q r s : PlanM)
def PlanM.len : PlanM → Nat
  | .done => 0
  | .take _ p => p.len + 1
  | .one _ p => p.len + 1
  | .two _ _ p _ => p.len + 1
  | .three _ _ _ p _ _ => p.len + 1
  | .four _ _ _ _ p _ _ _ => p.len + 1
def planM (ops : Array Oper) : PlanM → Array Bool → Bool
  | .done, listed => (Region.ready .any ops listed).isEmpty
  | .take i p, listed => (Region.free .any ops listed i && (Region.ready .any ops listed).contains i) && planM ops p (listed.setIfInBounds i true)
  | .one i p, listed => (Region.ready .any ops listed == [i]) && planM ops p (listed.setIfInBounds i true)
  | .two i j p q, listed => (Region.ready .any ops listed == [i, j]) && (p.len == q.len) && (planM ops p (listed.setIfInBounds i true) && planM ops q (listed.setIfInBounds j true))
  | .three i j k p q r, listed => (Region.ready .any ops listed == [i, j, k]) && (p.len == q.len && p.len == r.len) && (planM ops p (listed.setIfInBounds i true) && (planM ops q (listed.setIfInBounds j true) && planM ops r (listed.setIfInBounds k true)))
  | .four i j k n p q r s, listed => (Region.ready .any ops listed == [i, j, k, n]) && (p.len == q.len && (p.len == r.len && p.len == s.len)) && (planM ops p (listed.setIfInBounds i true) && (planM ops q (listed.setIfInBounds j true) && (planM ops r (listed.setIfInBounds k true) && planM ops s (listed.setIfInBounds n true))))
structure WM (P : Program) (ops : Array Oper) (Q : Exit → Act → World → Prop) (p : PlanM) (l : Fm) (ds : List Deferred) (w : World) : Prop where
  run : ∀ listed, planM ops p listed = true → Region.noSelect ops = true → wpAnyH P .any ops Q Any p.len listed ⟨l.arr, ds⟩ w
structure TM (P : Program) (ops : Array Oper) (Q : Exit → Act → World → Prop) (p : PlanM) (i : Nat) (o : Oper) (l : Fm) (ds : List Deferred) (w : World) : Prop where
  run : nthO ops.toList i = some o → WM P ops Q (.take i p) l ds w
/-- what stands behind an operation that is carried out -/
def QM (P : Program) (ops : Array Oper) (Q : Exit → Act → World → Prop) (p : PlanM) (listed : Array Bool) : Exit → Act → World → Prop
  | .normal, a, w => wpAnyH P .any ops Q Any p.len listed a w
  | e, a, w => Q e a w
structure FM (P : Program) (ops : Array Oper) (Q : Exit → Act → World → Prop) (p : PlanM) (o : Oper) (l : Fm) (ds : List Deferred) (w : World) : Prop where
  run : ∀ listed, planM ops p listed = true → Region.noSelect ops = true → WL P ops (QM P ops Q p listed) [o] l ds w
section
variable {P : Program} {ops : Array Oper} {Q : Exit → Act → World → Prop} {p q r s : PlanM} {i j k n d : Nat} {o o1 o2 o3 o4 : Oper} {l : Fm} {ds : List Deferred} {w : World} {v : Value}
theorem N_t (hi : nthO ops.toList i = some o) (h : TM P ops Q p i o l ds w) : WM P ops Q (.take i p) l ds w := h.run hi
theorem N_a (h : Yl P [] l o v) (k : WM P ops Q p (l.upd d v) ds w) (hw : wantF ops l o = true := by rfl) (hd : o.dst = some d := by rfl) (hb : Blind Q := by infer_instance) : TM P ops Q p i o l ds w := ⟨fun hi => ⟨fun listed hp hs => by
  simp only [planM, Bool.and_eq_true] at hp
  refine wpAnyH_take (nthO_get hi) hs hp.1.1 hp.1.2 (by rw [hd]; exact fun c a w => hb.out c a _ _ w) (.inl ⟨wantF_eq.trans hw, fun w _ => h.run (St.start Nof w)⟩) trivial ?_
  rw [hd, put_mk]
  exact k.run _ hp.2 hs⟩⟩
theorem wp_QM {listed : Array Bool} {a : Act} (h : o.wp P a w (wpList P ops (QM P ops Q p listed) []) (QM P ops Q p listed)) : o.wp P a w (fun a' w' => Any w' ∧ wpAnyH P .any ops Q Any p.len listed a' w') Q := by
  unfold Oper.wp at *
  generalize (execOp a.eval o).run P w = r at h ⊢
  cases r with
  | ok n w' =>
    cases n <;> simp only [Oper.upon] at h ⊢
    all_goals first
      | exact h
      | exact ⟨trivial, h⟩
      | exact Calls.mono h fun e w'' he => by
          cases e <;> first | exact he | exact ⟨trivial, he⟩
      | exact Rows.mono h fun u w'' he => ⟨trivial, he⟩
  | halt x w' => cases x <;> simp only [Oper.upon] at h ⊢ <;> try exact h
theorem wpOp_FM (hi : nthO ops.toList i = some o) (h : FM P ops Q p o l ds w) {listed : Array Bool} (hp : planM ops p listed = true) (hs : Region.noSelect ops = true) :
    wpOp P ops Q i (fun a' w' => Any w' ∧ wpAnyH P .any ops Q Any p.len listed a' w') ⟨l.arr, ds⟩ w := by
  have h1 := (h.run _ hp hs).out
  unfold wpOp
  rw [nthO_get hi]
  simp only
  unfold wpList at h1
  split
  · rename_i hw
    rw [if_pos hw] at h1
    rcases h1 with h1 | ⟨h1, h2⟩
    · exact .inl (wp_QM h1)
    · exact .inr ⟨h1, by obtain ⟨a', w3, h3⟩ := h2; exact ⟨a', w3, h3⟩⟩
  · rename_i hw
    rw [if_neg hw] at h1
    exact ⟨trivial, h1⟩
theorem N_1 (hi : nthO ops.toList i = some o1) (h : FM P ops Q p o1 l ds w) : WM P ops Q (.one i p) l ds w := ⟨fun listed hp hs => by
  simp only [planM, Bool.and_eq_true, beq_iff_eq] at hp
  refine wpAnyH_all hp.1 (by simp) fun k hk => ?_
  obtain rfl : k = i := by simpa using hk
  exact wpOp_FM hi h hp.2 hs⟩
theorem N_2 (h1 : nthO ops.toList i = some o1) (h2 : nthO ops.toList j = some o2) (g1 : FM P ops Q p o1 l ds w) (g2 : FM P ops Q q o2 l ds w) : WM P ops Q (.two i j p q) l ds w := ⟨fun listed hp hs => by
  simp only [planM, Bool.and_eq_true, beq_iff_eq] at hp
  refine wpAnyH_all hp.1.1 (by simp) fun x hx => ?_
  have hx : x = i ∨ x = j := by simpa using hx
  rcases hx with rfl | rfl
  · exact wpOp_FM h1 g1 hp.2.1 hs
  · have := wpOp_FM h2 g2 hp.2.2 hs
    rwa [← hp.1.2] at this⟩
theorem N_3 (h1 : nthO ops.toList i = some o1) (h2 : nthO ops.toList j = some o2) (h3 : nthO ops.toList k = some o3) (g1 : FM P ops Q p o1 l ds w) (g2 : FM P ops Q q o2 l ds w) (g3 : FM P ops Q r o3 l ds w) : WM P ops Q (.three i j k p q r) l ds w := ⟨fun listed hp hs => by
  simp only [planM, Bool.and_eq_true, beq_iff_eq] at hp
  refine wpAnyH_all hp.1.1 (by simp) fun x hx => ?_
  have hx : x = i ∨ x = j ∨ x = k := by simpa using hx
  rcases hx with rfl | rfl | rfl
  · exact wpOp_FM h1 g1 hp.2.1 hs
  · have := wpOp_FM h2 g2 hp.2.2.1 hs
    rwa [← hp.1.2.1] at this
  · have := wpOp_FM h3 g3 hp.2.2.2 hs
    rwa [← hp.1.2.2] at this⟩
theorem N_4 (h1 : nthO ops.toList i = some o1) (h2 : nthO ops.toList j = some o2) (h3 : nthO ops.toList k = some o3) (h4 : nthO ops.toList n = some o4) (g1 : FM P ops Q p o1 l ds w) (g2 : FM P ops Q q o2 l ds w) (g3 : FM P ops Q r o3 l ds w) (g4 : FM P ops Q s o4 l ds w) : WM P ops Q (.four i j k n p q r s) l ds w := ⟨fun listed hp hs => by
  simp only [planM, Bool.and_eq_true, beq_iff_eq] at hp
  refine wpAnyH_all hp.1.1 (by simp) fun x hx => ?_
  have hx : x = i ∨ x = j ∨ x = k ∨ x = n := by simpa using hx
  rcases hx with rfl | rfl | rfl | rfl
  · exact wpOp_FM h1 g1 hp.2.1 hs
  · have := wpOp_FM h2 g2 hp.2.2.1 hs
    rwa [← hp.1.2.1] at this
  · have := wpOp_FM h3 g3 hp.2.2.2.1 hs
    rwa [← hp.1.2.2.1] at this
  · have := wpOp_FM h4 g4 hp.2.2.2.2 hs
    rwa [← hp.1.2.2.2] at this⟩
theorem N_f (h : ∀ Q', (∀ l' w', WM P ops Q p l' ds w' → Wx Q' .normal l' ds w') → (∀ c w', Wx Q (.panic c) l ds w' → Wx Q' (.panic c) l ds w') → WL P ops Q' [o] l ds w) : FM P ops Q p o l ds w :=
  ⟨fun listed hp hs => h _ (fun _ _ hk => ⟨hk.run _ hp hs⟩) (fun _ _ h => ⟨h.out⟩)⟩
theorem N_d {α : Type} {F : Nat → Prop} {w0 : World} {post : α → Fm → Fm} {rs2 : α → List Res} {l0 : Fm} (s : α) (hS : St F w0 (rs2 s) w) (hl : l.toList = (post s l0).toList := by rfl) : WM P ops (Meet F w0 post rs2 l0 ds) .done l ds w :=
  ⟨fun listed hp _ => ⟨by simpa [planM] using hp, P_meet s hl hS⟩⟩
theorem C_N {α : Type} {F : Nat → Prop} {w0 : World} {rs : List Res} {id : Nat} {l' : List Oper} (p : PlanM) (post : α → Fm → Fm) (rs2 : α → List Res) (hS : St F w0 rs w)
    (k1 : ∀ w, St F w0 rs w → WM P l'.toArray (Meet F w0 post rs2 l ds) p l ds w) (k2 : ∀ s w, St F w0 (rs2 s) w → Wx Q .normal (post s l) ds w) (hm : P.follows .mixedOrders = true := by kernel_rfl)
    (hp : (planM l'.toArray p (Array.replicate l'.toArray.size false) && Region.noSelect l'.toArray && p.len == l'.toArray.size) = true := by kernel_rfl) : Wc P (.region id l'.toArray true) Q l ds w := ⟨by
  simp only [Bool.and_eq_true, beq_iff_eq] at hp
  refine wp_mono (Q := Meet F w0 post rs2 l ds) ?_ ?_
  · refine wp_region_held (S := Any) hm ?_
    have := (k1 _ (hS.call (Fr.of ((Below.refl _ _).drew)))).run _ hp.1.1 hp.1.2
    rw [hp.2] at this
    exact this
  · rintro e a w' ⟨rfl, s, rfl, hs⟩
    exact (k2 s w' hs).out⟩
end
end Go.Proofs.Ytijmggoikieelaa
