/-
  Regions that draw their order and whose calls or allocations make memory: walked in an order that the proof chooses; what only reads is taken first. Nothing here names a function of the program.
-/
import Derived.Test.YtfdfnamkkepbiaaWalk5
import Derived.OrdersHeld
namespace Go.Proofs.Ytfdfnamkkepbiaa
open Go.RowKit

/-- an order for a region: number i is taken first (true: it only reads), or it alone may come up (false) -/
def planB (ops : Array Oper) : List (Nat × Bool) → Array Bool → Bool
  | [], listed => (Region.ready .any ops listed).isEmpty
  | (i, t) :: π, listed => (bif t then Region.free .any ops listed i && (Region.ready .any ops listed).contains i else Region.ready .any ops listed == [i]) && planB ops π (listed.setIfInBounds i true)
structure WH (P : Program) (ops : Array Oper) (Q : Exit → Act → World → Prop) (S : World → Prop) (π : List (Nat × Bool)) (l : Fm) (ds : List Deferred) (w : World) : Prop where
  run : ∀ listed, planB ops π listed = true → Region.noSelect ops = true → wpAnyH P .any ops Q S π.length listed ⟨l.arr, ds⟩ w
structure HT (P : Program) (ops : Array Oper) (Q : Exit → Act → World → Prop) (S : World → Prop) (π : List (Nat × Bool)) (i : Nat) (o : Oper) (l : Fm) (ds : List Deferred) (w : World) : Prop where
  run : nthO ops.toList i = some o → WH P ops Q S ((i, true) :: π) l ds w
/-- what stands behind an operation that is carried out -/
def HQ (P : Program) (ops : Array Oper) (Q : Exit → Act → World → Prop) (S : World → Prop) (π : List (Nat × Bool)) (listed : Array Bool) : Exit → Act → World → Prop
  | .normal, a, w => S w ∧ wpAnyH P .any ops Q S π.length listed a w
  | e, a, w => Q e a w
structure HF (P : Program) (ops : Array Oper) (Q : Exit → Act → World → Prop) (S : World → Prop) (π : List (Nat × Bool)) (i : Nat) (o : Oper) (l : Fm) (ds : List Deferred) (w : World) : Prop where
  run : ∀ listed, planB ops π listed = true → Region.noSelect ops = true → WL P ops (HQ P ops Q S π listed) [o] l ds w
section
variable {P : Program} {ops : Array Oper} {Q : Exit → Act → World → Prop} {S : World → Prop} {π : List (Nat × Bool)} {i d : Nat} {o : Oper} {l : Fm} {ds : List Deferred} {w : World}
theorem nthO_get (h : nthO ops.toList i = some o) : ops[i]? = some o := by rw [nthO_eq] at h; simpa using h
theorem H_t (hi : nthO ops.toList i = some o) (h : HT P ops Q S π i o l ds w) : WH P ops Q S ((i, true) :: π) l ds w := h.run hi
theorem HT_yes {v : Value} (hw : wantF ops l o = true) (hd : o.dst = some d) (hS : S w) (hQ : ∀ c a w, Q (.panic c) (a.put (some d) v) w → Q (.panic c) a w) (he : ∀ w, S w → Ex P l ds o w v) (k : WH P ops Q S π (l.upd d v) ds w) : HT P ops Q S π i o l ds w := ⟨fun hi => ⟨fun listed hp hs => by
  simp only [planB, cond_true, Bool.and_eq_true] at hp
  refine wpAnyH_take (nthO_get hi) hs hp.1.1 hp.1.2 (by rw [hd]; exact hQ) (.inl ⟨wantF_eq.trans hw, fun w hS => he w hS⟩) hS ?_
  rw [hd, put_mk]
  exact k.run _ hp.2 hs⟩⟩
theorem HT_no (hw : wantF ops l o = false) (hd : o.dst = some d) (hS : S w) (hQ : ∀ c a w, Q (.panic c) (a.put (some d) undef) w → Q (.panic c) a w) (k : WH P ops Q S π (l.upd d undef) ds w) : HT P ops Q S π i o l ds w := ⟨fun hi => ⟨fun listed hp hs => by
  simp only [planB, cond_true, Bool.and_eq_true] at hp
  refine wpAnyH_take (nthO_get hi) hs hp.1.1 hp.1.2 (by rw [hd]; exact hQ) (.inr ⟨wantF_eq.trans hw, rfl⟩) hS ?_
  rw [hd, put_mk]
  exact k.run _ hp.2 hs⟩⟩
theorem wp_HQ {listed : Array Bool} {a : Act} (h : o.wp P a w (wpList P ops (HQ P ops Q S π listed) []) (HQ P ops Q S π listed)) : o.wp P a w (fun a' w' => S w' ∧ wpAnyH P .any ops Q S π.length listed a' w') Q := by
  unfold Oper.wp at *
  generalize (execOp a.eval o).run P w = r at h ⊢
  cases r with
  | ok n w' =>
    cases n <;> simp only [Oper.upon] at h ⊢ <;> try exact h
  | halt x w' => cases x <;> simp only [Oper.upon] at h ⊢ <;> try exact h
theorem H_f (hi : nthO ops.toList i = some o) (h : HF P ops Q S π i o l ds w) : WH P ops Q S ((i, false) :: π) l ds w := ⟨fun listed hp hs => by
  simp only [planB, cond_false, Bool.and_eq_true, beq_iff_eq] at hp
  refine wpAnyH_all hp.1 (by simp) fun j hj => ?_
  obtain rfl : j = i := by simpa using hj
  have h1 := (h.run _ hp.2 hs).out
  unfold wpOp
  rw [nthO_get hi]
  simp only
  unfold wpList at h1
  split
  · rename_i hw
    rw [if_pos hw] at h1
    rcases h1 with h1 | ⟨h1, h2⟩
    · exact .inl (wp_HQ h1)
    · exact .inr ⟨h1, by obtain ⟨a', w3, h3⟩ := h2; exact ⟨a', w3, h3⟩⟩
  · rename_i hw
    rw [if_neg hw] at h1
    exact h1⟩
theorem HF_mk (h : ∀ Q', (∀ l' w', S w' → WH P ops Q S π l' ds w' → Q' .normal ⟨l'.arr, ds⟩ w') → WL P ops Q' [o] l ds w) : HF P ops Q S π i o l ds w :=
  ⟨fun listed hp hs => h _ fun l' w' hS hk => ⟨hS, hk.run _ hp hs⟩⟩
theorem H_nil (hS : Q .normal ⟨l.arr, ds⟩ w) : WH P ops Q S [] l ds w := ⟨fun listed hp _ => ⟨by simpa [planB] using hp, hS⟩⟩
theorem W_held {F : Nat → Prop} {w0 : World} {rs : List Res} {id : Nat} {l' : List Oper} (π : List (Nat × Bool)) (hS : St F w0 rs w) (hm : P.follows .mixedOrders = true)
    (hp : (planB l'.toArray π (Array.replicate l'.toArray.size false) && Region.noSelect l'.toArray && π.length == l'.toArray.size) = true)
    (k : ∀ w, St F w0 rs w → WH P l'.toArray Q (St F w0 rs) π l ds w) : (Code.region id l'.toArray true).wp P Q ⟨l.arr, ds⟩ w := by
  simp only [Bool.and_eq_true, beq_iff_eq] at hp
  refine wp_region_held (S := St F w0 rs) hm ?_
  have := (k _ (hS.call (Fr.of ((Below.refl _ _).drew)))).run _ hp.1.1 hp.1.2
  rw [hp.2] at this
  exact this
end
end Go.Proofs.Ytfdfnamkkepbiaa
