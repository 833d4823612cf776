/-
  Blocks and reversal of trees. No program in sight.
-/
import Derived.Test.YtebdkmfgfjanoaaRX
namespace Go.Proofs.Ytebdkmfgfjanoaa

/-- the subtree whose root has number i: where it begins, and the tree -/
def T.sub (k : Nat) : T → Nat → Nat × T
  | .un op a, i => if i = k + a.size then (k, .un op a) else a.sub k i
  | .bin op a b, i => if i = k + a.size + b.size then (k, .bin op a b) else if i < k + a.size then a.sub k i else b.sub (k + a.size) i
  | t, _ => (k, t)
theorem drop_take_left {α : Type} {l m : List α} {a b : Nat} (h : a + b ≤ l.length) : ((l ++ m).drop a).take b = (l.drop a).take b := by
  rw [List.drop_append_of_le_length (by omega), List.take_append_of_le_length (by simp; omega)]
theorem drop_take_right {α : Type} {l m : List α} {a b : Nat} (h : l.length ≤ a) : ((l ++ m).drop a).take b = (m.drop (a - l.length)).take b := by
  rw [List.drop_append, List.drop_of_length_le h, List.nil_append]
theorem sub_at : ∀ (t : T) (k i : Nat), k ≤ i → i < k + t.size → k ≤ (t.sub k i).1 ∧ i + 1 = (t.sub k i).1 + (t.sub k i).2.size ∧ (t.firsts k)[i - k]? = some (t.sub k i).1 ∧
    ((t.flat k).drop ((t.sub k i).1 - k)).take (t.sub k i).2.size = (t.sub k i).2.flat (t.sub k i).1
  | .none, k, i, h1, h2 => by simp [T.size] at h2; obtain rfl : i = k := by omega
                              simp [T.sub, T.size, T.firsts, T.flat]
  | .empty, k, i, h1, h2 => by simp [T.size] at h2; obtain rfl : i = k := by omega
                               simp [T.sub, T.size, T.firsts, T.flat]
  | .letter p n, k, i, h1, h2 => by simp [T.size] at h2; obtain rfl : i = k := by omega
                                    simp [T.sub, T.size, T.firsts, T.flat]
  | .un op a, k, i, h1, h2 => by
    have hf := T.flat_len k a
    have hg := T.firsts_len k a
    simp only [T.size] at h2
    simp only [T.sub]
    by_cases e : i = k + a.size
    · rw [if_pos e]
      refine ⟨Nat.le_refl _, by simp only [T.size]; omega, ?_, ?_⟩
      · subst e
        simp only [T.firsts]
        rw [List.getElem?_append_right (by omega)]
        simp [hg]
      · simp only [Nat.sub_self, List.drop_zero]
        exact List.take_of_length_le (by rw [T.flat_len]; exact Nat.le_refl _)
    · rw [if_neg e]
      obtain ⟨ih1, ih2, ih3, ih4⟩ := sub_at a k i h1 (by omega)
      refine ⟨ih1, ih2, ?_, ?_⟩
      · simp only [T.firsts]
        rw [List.getElem?_append_left (by omega)]; exact ih3
      · simp only [T.flat]
        rw [drop_take_left (by omega)]; exact ih4
  | .bin op a b, k, i, h1, h2 => by
    have hf := T.flat_len k a
    have hg := T.firsts_len k a
    have hf' := T.flat_len (k + a.size) b
    have hg' := T.firsts_len (k + a.size) b
    simp only [T.size] at h2
    simp only [T.sub]
    by_cases e : i = k + a.size + b.size
    · rw [if_pos e]
      refine ⟨Nat.le_refl _, by simp only [T.size]; omega, ?_, ?_⟩
      · subst e
        simp only [T.firsts]
        rw [List.getElem?_append_right (by omega), List.getElem?_append_right (by omega)]
        simp [hg, hg', Nat.add_assoc]
      · simp only [Nat.sub_self, List.drop_zero]
        exact List.take_of_length_le (by rw [T.flat_len]; exact Nat.le_refl _)
    · rw [if_neg e]
      by_cases e2 : i < k + a.size
      · rw [if_pos e2]
        obtain ⟨ih1, ih2, ih3, ih4⟩ := sub_at a k i h1 e2
        refine ⟨ih1, ih2, ?_, ?_⟩
        · simp only [T.firsts]
          rw [List.getElem?_append_left (by omega)]; exact ih3
        · simp only [T.flat]
          rw [drop_take_left (by omega)]; exact ih4
      · rw [if_neg e2]
        obtain ⟨ih1, ih2, ih3, ih4⟩ := sub_at b (k + a.size) i (by omega) (by omega)
        refine ⟨by omega, ih2, ?_, ?_⟩
        · simp only [T.firsts]
          rw [List.getElem?_append_right (by omega), List.getElem?_append_left (by omega), hg, show i - k - a.size = i - (k + a.size) by omega]; exact ih3
        · simp only [T.flat]
          rw [drop_take_right (by omega), hf, drop_take_left (by omega), show (b.sub (k + a.size) i).1 - k - a.size = (b.sub (k + a.size) i).1 - (k + a.size) by omega]; exact ih4
theorem sub_whole (t : T) (k : Nat) : t.sub k (k + t.size - 1) = (k, t) := by
  cases t with
  | un op a => simp [T.sub, T.size, Nat.add_assoc]
  | bin op a b =>
    have e : k + (T.bin op a b).size - 1 = k + a.size + b.size := by simp only [T.size]; omega
    rw [e]; simp [T.sub]
  | _ => rfl
/-- whatever holds of a tree and passes down holds of its subtrees -/
theorem sub_prop {R : T → Prop} (h1 : ∀ op a, R (.un op a) → R a) (h2 : ∀ op a b, R (.bin op a b) → R a ∧ R b) : ∀ (t : T) (k i : Nat), R t → R (t.sub k i).2
  | .none, _, _, h => h
  | .empty, _, _, h => h
  | .letter _ _, _, _, h => h
  | .un op a, k, i, h => by
    simp only [T.sub]; split
    · exact h
    · exact sub_prop h1 h2 a k i (h1 _ _ h)
  | .bin op a b, k, i, h => by
    simp only [T.sub]; split
    · exact h
    · split
      · exact sub_prop h1 h2 a k i (h2 _ _ _ h).1
      · exact sub_prop h1 h2 b _ i (h2 _ _ _ h).2
theorem sub_wf {v : Int} {t : T} (k i : Nat) (h : t.wf v) : (t.sub k i).2.wf v := sub_prop (R := fun t => t.wf v) (fun _ _ h => h.2) (fun _ _ _ h => h.2) t k i h
theorem sub_size (t : T) (k i : Nat) : (t.sub k i).2.size ≤ t.size := by
  refine sub_prop (R := fun u => u.size ≤ t.size) (fun _ _ h => ?_) (fun _ _ _ h => ?_) t k i (Nat.le_refl _)
  · simp only [T.size] at h; omega
  · simp only [T.size] at h; omega
theorem sub_text (t : T) (k i : Nat) : ∃ x y, t.text = x ++ ((t.sub k i).2.text ++ y) := by
  refine sub_prop (R := fun u => ∃ x y, t.text = x ++ (u.text ++ y)) (fun op a h => ?_) (fun op a b h => ?_) t k i ⟨[], [], by simp⟩
  · obtain ⟨x, y, h⟩ := h
    exact ⟨x ++ opB op, opM op ++ opA op ++ y, by rw [h]; simp [T.text]⟩
  · obtain ⟨x, y, h⟩ := h
    refine ⟨⟨x ++ opB op, opM op ++ (b.text ++ opA op) ++ y, by rw [h]; simp [T.text]⟩, ⟨x ++ opB op ++ a.text ++ opM op, opA op ++ y, by rw [h]; simp [T.text]⟩⟩
/-- no look-around -/
def T.plain : T → Bool
  | .un op a => !isLook op && a.plain
  | .bin op a b => !isLook op && (a.plain && b.plain)
  | _ => true
theorem sub_plain {t : T} (k i : Nat) (h : t.plain = true) : (t.sub k i).2.plain = true := by
  refine sub_prop (R := fun u => u.plain = true) (fun _ _ h => ?_) (fun _ _ _ h => ?_) t k i h
  · simp only [T.plain, Bool.and_eq_true] at h; exact h.2
  · simp only [T.plain, Bool.and_eq_true] at h; exact h.2
theorem plain_free : ∀ (t : T) (f : Bool), t.plain = true → t.free f = true
  | .none, _, _ => rfl
  | .empty, _, _ => rfl
  | .letter _ _, _, _ => rfl
  | .un op a, f, h => by
    simp only [T.plain, Bool.and_eq_true, isLook, Bool.not_eq_true'] at h
    simp only [T.free, h.1, Bool.not_false, Bool.or_true, Bool.true_and]
    exact plain_free a _ h.2
  | .bin op a b, f, h => by
    simp only [T.plain, Bool.and_eq_true] at h
    simp only [T.free, Bool.and_eq_true]
    exact ⟨plain_free a _ h.2.1, plain_free b _ h.2.2⟩
theorem plnB_append (L M : List Pc) : plnB (L ++ M) = (plnB L && plnB M) := by simp [plnB]
theorem plnB_flat : ∀ (t : T) (k : Nat), plnB (t.flat k) = t.plain
  | .none, _ => rfl
  | .empty, _ => rfl
  | .letter _ _, _ => rfl
  | .un op a, k => by
    simp only [T.flat, plnB_append, plnB_flat a k, T.plain]
    simp [plnB, T.root, Bool.and_comm]
  | .bin op a b, k => by
    simp only [T.flat, plnB_append, plnB_flat a k, plnB_flat b, T.plain]
    simp only [plnB, T.root, List.all_cons, List.all_nil, Bool.and_true]
    cases a.plain <;> cases b.plain <;> cases isLook op <;> rfl
/-- pieces moved down by k -/
def shPc (k : Nat) (p : Pc) : Pc := { p with a := if 0 < kids p.op then p.a - k else p.a, b := if 1 < kids p.op then p.b - k else p.b }
theorem shift_flat {v : Int} (j : Nat) : ∀ (t : T) (k : Nat), t.wf v → (t.flat (j + k)).map (shPc j) = t.flat k
  | .none, _, _ => rfl
  | .empty, _, _ => rfl
  | .letter _ _, _, _ => rfl
  | .un op a, k, h => by
    have h1 := T.size_pos a
    simp only [T.flat, List.map_append, shift_flat j a k h.2, List.map_cons, List.map_nil]
    congr 2
    simp only [T.root, shPc, h.1]
    refine Pc.ext' rfl rfl rfl ?_ rfl
    rw [if_pos (by omega)]; simp only; omega
  | .bin op a b, k, h => by
    have h1 := T.size_pos a
    have h2 := T.size_pos b
    have e : j + k + a.size = j + (k + a.size) := by omega
    simp only [T.flat, List.map_append, shift_flat j a k h.2.1, e, shift_flat j b (k + a.size) h.2.2, List.map_cons, List.map_nil]
    congr 3
    simp only [T.root, shPc, h.1]
    refine Pc.ext' rfl rfl rfl ?_ ?_
    · rw [if_pos (by omega)]; simp only; omega
    · rw [if_pos (by omega)]; simp only; omega
/-- the pieces point into the list -/
theorem flat_low {v : Int} : ∀ (t : T) (k : Nat), t.wf v → ∀ p ∈ t.flat k, (0 < kids p.op → (k : Int) ≤ p.a) ∧ (1 < kids p.op → (k : Int) ≤ p.b)
  | .none, k, _, p, hp => by simp [T.flat, T.root] at hp; subst hp; exact ⟨fun h => by simp [kids] at h, fun h => by simp [kids] at h⟩
  | .empty, k, _, p, hp => by simp [T.flat, T.root] at hp; subst hp; exact ⟨fun h => by simp [kids] at h, fun h => by simp [kids] at h⟩
  | .letter a b, k, h, p, hp => by simp [T.flat, T.root] at hp; subst hp; exact ⟨fun h => by simp [kids] at h, fun h => by simp [kids] at h⟩
  | .un op a, k, h, p, hp => by
    have h2 := T.size_pos a
    rcases List.mem_append.1 (by simpa only [T.flat] using hp) with hp | hp
    · exact flat_low a k h.2 p hp
    · simp [T.root] at hp; subst hp; exact ⟨fun _ => by simp only; omega, fun h' => by simp only [h.1] at h'; omega⟩
  | .bin op a b, k, h, p, hp => by
    have h2 := T.size_pos a
    have h3 := T.size_pos b
    rcases List.mem_append.1 (by simpa only [T.flat] using hp) with hp | hp
    · exact flat_low a k h.2.1 p hp
    · rcases List.mem_append.1 hp with hp | hp
      · have := flat_low b (k + a.size) h.2.2 p hp
        exact ⟨fun h' => by have := this.1 h'; omega, fun h' => by have := this.2 h'; omega⟩
      · simp [T.root] at hp; subst hp; exact ⟨fun _ => by simp only; omega, fun _ => by simp only; omega⟩
/-! reversal -/
def revOp (op : Nat) : Nat := if op = 9 then 10 else if op = 10 then 9 else op
def T.rev : T → T
  | .un op a => .un (revOp op) a.rev
  | .bin op a b => if op = 4 then .bin op b.rev a.rev else .bin op a.rev b.rev
  | t => t
theorem revOp_rev (op : Nat) : revOp (revOp op) = op := by
  unfold revOp; (repeat' split) <;> omega
theorem rev_rev : ∀ t : T, t.rev.rev = t
  | .none => rfl
  | .empty => rfl
  | .letter _ _ => rfl
  | .un op a => by simp [T.rev, rev_rev a, revOp_rev]
  | .bin op a b => by
    simp only [T.rev]
    by_cases h : op = 4
    · simp [h, T.rev, rev_rev a, rev_rev b]
    · simp [h, T.rev, rev_rev a, rev_rev b]
theorem rev_size : ∀ t : T, t.rev.size = t.size
  | .none => rfl
  | .empty => rfl
  | .letter _ _ => rfl
  | .un op a => by simp [T.rev, T.size, rev_size a]
  | .bin op a b => by
    simp only [T.rev]
    split
    · simp [T.size, rev_size a, rev_size b]; omega
    · simp [T.size, rev_size a, rev_size b]
theorem kids_rev (op : Nat) : kids (revOp op) = kids op := by
  unfold revOp
  split
  · rename_i h; subst h; rfl
  · split
    · rename_i h; subst h; rfl
    · rfl
theorem rev_wf {v : Int} : ∀ t : T, t.wf v → t.rev.wf v
  | .none, _ => trivial
  | .empty, _ => trivial
  | .letter _ _, h => h
  | .un op a, h => ⟨by rw [kids_rev]; exact h.1, rev_wf a h.2⟩
  | .bin op a b, h => by
    simp only [T.rev]
    split
    · exact ⟨h.1, rev_wf b h.2.2, rev_wf a h.2.1⟩
    · exact ⟨h.1, rev_wf a h.2.1, rev_wf b h.2.2⟩
theorem look_rev (op : Nat) : isLook (revOp op) = isLook op := by
  unfold revOp
  split
  · rename_i h; subst h; rfl
  · split
    · rename_i h; subst h; rfl
    · rfl
theorem rev_plain : ∀ t : T, t.rev.plain = t.plain
  | .none => rfl
  | .empty => rfl
  | .letter _ _ => rfl
  | .un op a => by simp [T.rev, T.plain, rev_plain a, look_rev]
  | .bin op a b => by
    simp only [T.rev]
    split
    · simp [T.plain, rev_plain a, rev_plain b, Bool.and_comm]
    · simp [T.plain, rev_plain a, rev_plain b]
theorem rev_free : ∀ (t : T) (f : Bool), t.rev.free f = t.free f
  | .none, _ => rfl
  | .empty, _ => rfl
  | .letter _ _, _ => rfl
  | .un op a, f => by
    have := look_rev op
    simp only [isLook] at this
    simp [T.rev, T.free, rev_free a, this]
  | .bin op a b, f => by
    simp only [T.rev]
    split
    · simp [T.free, rev_free a, rev_free b, Bool.and_comm]
    · simp [T.free, rev_free a, rev_free b]
end Go.Proofs.Ytebdkmfgfjanoaa
