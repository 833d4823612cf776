/-
  Memory as a list of known resources, each in one block, apart from one another; the rest is as it was. Nothing here names a function of the program.
-/
import Derived.Test.YtfdfnamkkepbiaaOps
namespace Go.Proofs.Ytfdfnamkkepbiaa
open Go.RowKit

/-- Of what w0 held nothing has turned in w but in the blocks of F. -/
structure Fr (F : Nat → Prop) (w0 w : World) : Prop where
  os : w.os = w0.os
  tape : w.tape = w0.tape
  output : w.output = w0.output
  size : w0.heap.size ≤ w.heap.size
  keep : ∀ b, b < w0.heap.size → ¬ F b → w.heap[b]? = w0.heap[b]?
/-- no block -/
def Nof : Nat → Prop := fun _ => False
theorem Fr.refl (F : Nat → Prop) (w : World) : Fr F w w := ⟨rfl, rfl, rfl, Nat.le_refl _, fun _ _ _ => rfl⟩
theorem Fr.trans {F : Nat → Prop} {a b c : World} (h : Fr F a b) (k : Fr F b c) : Fr F a c :=
  ⟨k.os.trans h.os, k.tape.trans h.tape, k.output.trans h.output, Nat.le_trans h.size k.size, fun i hi hF => (k.keep i (Nat.lt_of_lt_of_le hi h.size) hF).trans (h.keep i hi hF)⟩
theorem Fr.mono {F G : Nat → Prop} {a b : World} (h : Fr F a b) (hg : ∀ i, i < a.heap.size → F i → G i) : Fr G a b :=
  ⟨h.os, h.tape, h.output, h.size, fun i hi hG => h.keep i hi fun hF => hG (hg i hi hF)⟩
theorem Fr.below {w w' : World} (h : Fr Nof w w') : Below w.heap.size w w' := ⟨h.os, h.tape, h.output, h.size, fun i hi => h.keep i hi fun h => h⟩
theorem Fr.of {w w' : World} (h : Below w.heap.size w w') : Fr Nof w w' := ⟨h.os, h.tape, h.output, h.size, fun i hi _ => h.block i hi⟩
theorem Fr.drewN (w : World) (n : Nat) : Fr Nof w (w.drewN n) := ⟨rfl, rfl, rfl, Nat.le_refl _, fun _ _ _ => rfl⟩
theorem Fr.alloc (w : World) (o : Obj) : Fr Nof w (w.alloc o) := Fr.of ((Below.refl _ _).alloc (Nat.le_refl _) o)

/-- something that holds of one block of memory -/
structure Res where
  fp : Option Nat
  ro : Bool
  holds : World → Prop
  loc : ∀ {w w' : World}, holds w → (∀ b, fp = some b → w'.heap[b]? = w.heap[b]?) → holds w'
  lt : ∀ {w : World}, holds w → ∀ b, fp = some b → b < w.heap.size
def Res.apart (r s : Res) : Prop := (r.ro = true ∧ s.ro = true) ∨ ∀ b, r.fp = some b → s.fp = some b → False
theorem Res.apart_symm {r s : Res} (h : r.apart s) : s.apart r := h.elim (fun h => .inl ⟨h.2, h.1⟩) (fun h => .inr fun b h1 h2 => h b h2 h1)

/-- the state of memory in a walk -/
structure St (F : Nat → Prop) (w0 : World) (rs : List Res) (w : World) : Prop where
  fr : Fr F w0 w
  all : ∀ r ∈ rs, r.holds w
  apart : rs.Pairwise Res.apart
  own : ∀ r ∈ rs, r.ro = false → ∀ b, r.fp = some b → F b ∨ w0.heap.size ≤ b

section
variable {F : Nat → Prop} {w0 w w' : World} {rs rs' : List Res} {r r' : Res}
theorem St.start (F : Nat → Prop) (w : World) : St F w [] w := ⟨Fr.refl _ _, fun _ h => (by cases h), List.Pairwise.nil, fun _ h => (by cases h)⟩
/-- read-only memory of the start -/
theorem St.addRo (h : St F w0 rs w) (hr : r.holds w) (hro : r.ro = true) (ha : ∀ s ∈ rs, s.ro = false → ∀ b, r.fp = some b → s.fp = some b → False) : St F w0 (r :: rs) w := by
  refine ⟨h.fr, fun s hs => ?_, List.pairwise_cons.2 ⟨fun s hs => ?_, h.apart⟩, fun s hs hn b hb => ?_⟩
  · rcases List.mem_cons.1 hs with rfl | hs
    · exact hr
    · exact h.all s hs
  · cases hs2 : s.ro with
    | true => exact .inl ⟨hro, hs2⟩
    | false => exact .inr (ha s hs hs2)
  · rcases List.mem_cons.1 hs with rfl | hs
    · rw [hro] at hn; cases hn
    · exact h.own s hs hn b hb
theorem St.drop (h : St F w0 (r :: rs) w) : St F w0 rs w := ⟨h.fr, fun s hs => h.all s (List.mem_cons_of_mem _ hs), (List.pairwise_cons.1 h.apart).2, fun s hs => h.own s (List.mem_cons_of_mem _ hs)⟩
theorem St.get (h : St F w0 rs w) (hm : r ∈ rs) : r.holds w := h.all r hm
theorem St.sub (h : St F w0 rs w) (hs : rs'.Sublist rs) : St F w0 rs' w := ⟨h.fr, fun s hm => h.all s (hs.subset hm), h.apart.sublist hs, fun s hm => h.own s (hs.subset hm)⟩
/-- what a call leaves that turned nothing -/
theorem St.call (h : St F w0 rs w) (hf : Fr Nof w w') : St F w0 rs w' := by
  refine ⟨h.fr.trans (hf.mono fun _ _ h => h.elim), fun s hs => (s.loc (h.all s hs)) fun b hb => hf.keep b (s.lt (h.all s hs) b hb) fun h => h, h.apart, h.own⟩
/-- a new resource -/
theorem St.fresh (h : St F w0 rs w) (hf : Fr Nof w w') (hr : r.holds w') (hb : ∀ b, r.fp = some b → w.heap.size ≤ b) : St F w0 (r :: rs) w' := by
  have h' := h.call hf
  refine ⟨h'.fr, fun s hs => ?_, List.pairwise_cons.2 ⟨fun s hs => .inr fun b h1 h2 => ?_, h'.apart⟩, fun s hs hn b hb' => ?_⟩
  · rcases List.mem_cons.1 hs with rfl | hs
    · exact hr
    · exact h'.all s hs
  · have := s.lt (h.all s hs) b h2
    have := hb b h1
    omega
  · rcases List.mem_cons.1 hs with rfl | hs
    · exact .inr (Nat.le_trans h.fr.size (hb b hb'))
    · exact h'.own s hs hn b hb'
theorem St.addNone (h : St F w0 rs w) (hr : r.holds w) (hfp : r.fp = none) : St F w0 (r :: rs) w := h.fresh (Fr.refl _ _) hr fun b hb => by rw [hfp] at hb; cases hb
/-- one resource turned into another -/
inductive Upd (r r' : Res) : List Res → List Res → Prop
  | here {rs : List Res} : Upd r r' (r :: rs) (r' :: rs)
  | there {s : Res} {rs rs' : List Res} : Upd r r' rs rs' → Upd r r' (s :: rs) (s :: rs')
theorem Upd.mem (h : Upd r r' rs rs') : r ∈ rs := by
  induction h with
  | here => exact List.mem_cons_self ..
  | there _ ih => exact List.mem_cons_of_mem _ ih
theorem Upd.mem' (h : Upd r r' rs rs') : ∀ s ∈ rs', s = r' ∨ s ∈ rs := by
  induction h with
  | here => intro s hs; rcases List.mem_cons.1 hs with rfl | hs
            · exact .inl rfl
            · exact .inr (List.mem_cons_of_mem _ hs)
  | there _ ih => intro s hs; rcases List.mem_cons.1 hs with rfl | hs
                  · exact .inr (List.mem_cons_self ..)
                  · exact (ih s hs).imp id (List.mem_cons_of_mem _)
/-- apart from r' (where r stood) all is as it was -/
theorem Upd.rest (hu : Upd r r' rs rs') (hap : rs.Pairwise Res.apart) (hro : r.ro = false) : ∀ s ∈ rs', s = r' ∨ (s ∈ rs ∧ ∀ b, r.fp = some b → s.fp = some b → False) := by
  have key : ∀ a b : Res, a.apart b → a.ro = false ∨ b.ro = false → ∀ i, a.fp = some i → b.fp = some i → False := fun a b h hn i h1 h2 => by
    rcases h with ⟨h3, h4⟩ | h
    · rcases hn with hn | hn
      · rw [hn] at h3; cases h3
      · rw [hn] at h4; cases h4
    · exact h i h1 h2
  induction hu with
  | here =>
    intro s hs
    rcases List.mem_cons.1 hs with rfl | hs
    · exact .inl rfl
    · exact .inr ⟨List.mem_cons_of_mem _ hs, key _ _ ((List.pairwise_cons.1 hap).1 s hs) (.inl hro)⟩
  | there hu ih =>
    intro s hs
    obtain ⟨h1, h2⟩ := List.pairwise_cons.1 hap
    rcases List.mem_cons.1 hs with rfl | hs
    · exact .inr ⟨List.mem_cons_self .., fun b hb1 hb2 => key _ _ (h1 _ hu.mem) (.inr hro) b hb2 hb1⟩
    · exact (ih h2 s hs).imp id fun ⟨h3, h4⟩ => ⟨List.mem_cons_of_mem _ h3, h4⟩
theorem Upd.apart (hu : Upd r r' rs rs') (hap : rs.Pairwise Res.apart) (hr : ∀ s ∈ rs, (r.apart s → r'.apart s)) : rs'.Pairwise Res.apart := by
  induction hu with
  | here =>
    obtain ⟨h1, h2⟩ := List.pairwise_cons.1 hap
    exact List.pairwise_cons.2 ⟨fun s hs => hr s (List.mem_cons_of_mem _ hs) (h1 s hs), h2⟩
  | there hu ih =>
    obtain ⟨h1, h2⟩ := List.pairwise_cons.1 hap
    refine List.pairwise_cons.2 ⟨fun s hs => ?_, ih h2 fun s hs => hr s (List.mem_cons_of_mem _ hs)⟩
    rcases hu.mem' s hs with rfl | hs
    · exact Res.apart_symm (hr _ (List.mem_cons_self ..) (Res.apart_symm (h1 _ hu.mem)))
    · exact h1 s hs
theorem St.upd (h : St F w0 rs w) (hu : Upd r r' rs rs') (hro : r.ro = false) (hf : Fr (fun b => r.fp = some b) w w') (hr : r'.holds w') (hfp : ∀ b, r'.fp = some b → r.fp = some b ∨ w.heap.size ≤ b) : St F w0 rs' w' := by
  have hrest := hu.rest h.apart hro
  have hown : ∀ b, r.fp = some b → F b ∨ w0.heap.size ≤ b := h.own r hu.mem hro
  refine ⟨?_, fun s hs => ?_, hu.apart h.apart fun s hs hap => ?_, fun s hs hn b hb => ?_⟩
  · refine ⟨hf.os.trans h.fr.os, hf.tape.trans h.fr.tape, hf.output.trans h.fr.output, Nat.le_trans h.fr.size hf.size, fun i hi hF => ?_⟩
    refine (hf.keep i (Nat.lt_of_lt_of_le hi h.fr.size) fun hx => ?_).trans (h.fr.keep i hi hF)
    rcases hown i hx with h1 | h1
    · exact hF h1
    · omega
  · rcases hrest s hs with rfl | ⟨hs, hne⟩
    · exact hr
    · exact s.loc (h.all s hs) fun b hb => hf.keep b (s.lt (h.all s hs) b hb) fun hx => hne b hx hb
  · refine .inr fun b h1 h2 => ?_
    have hlt := s.lt (h.all s hs) b h2
    rcases hfp b h1 with h3 | h3
    · rcases hap with ⟨h4, _⟩ | hap
      · rw [hro] at h4; cases h4
      · exact hap b h3 h2
    · omega
  · rcases hrest s hs with rfl | ⟨hs, _⟩
    · rcases hfp b hb with h3 | h3
      · exact hown b h3
      · exact .inr (Nat.le_trans h.fr.size h3)
    · exact h.own s hs hn b hb
end

/-! The resources. -/
/-- a block known whole -/
def Res.obj (b : Nat) (o : Obj) : Res where
  fp := some b
  ro := false
  holds w := w.heap[b]? = some o
  loc h hk := (hk b rfl).trans h
  lt h b' hb' := by cases hb'; exact (Array.getElem?_eq_some_iff.1 h).1
/-- a slice of memory that is read alone -/
def Res.rd (size : Nat) (A : Option Addr) (n : Nat) (xs : List Value) : Res where
  fp := if n = 0 then none else A.map (·.block)
  ro := true
  holds w := Rd w size A n xs
  loc {w w'} h hk := by
    refine ⟨h.1, fun hn => ?_⟩
    obtain ⟨ad, rfl, hb, hc⟩ := h.2 hn
    have hk' := hk ad.block (by rw [if_neg (by omega)]; rfl)
    have hlt : ad.block < w'.heap.size := by
      cases hq : w.heap[ad.block]? with
      | none => rw [Array.getElem?_eq_none_iff] at hq; omega
      | some q => rw [hq] at hk'; exact (Array.getElem?_eq_some_iff.1 hk').1
    exact ⟨ad, rfl, hlt, fun j u hu => (World.cell?_of_block (a := ad.add j) (by rw [add_block]; exact hk')).trans (hc j u hu)⟩
  lt {w} h b hb := by
    by_cases hn : n = 0
    · rw [if_pos hn] at hb; cases hb
    · rw [if_neg hn] at hb
      obtain ⟨ad, rfl, hlt, _⟩ := h.2 (by omega)
      simp at hb; omega
/-- a slice of one's own, to which one may append -/
def Res.row (e : TypeId) (size : Nat) (v : Value) (n : Nat) (xs : List Value) : Res where
  fp := v.ownBlock
  ro := false
  holds w := w.ownsRow 0 e size v n xs
  loc {w w'} h hk := by
    refine ⟨h.1, ?_⟩
    rcases h.2 with h2 | ⟨g, cap, cur, rfl, hg, hh, r⟩
    · exact .inl h2
    · exact .inr ⟨g, cap, cur, rfl, hg, (hk g rfl).trans hh, r⟩
  lt h b hb := (h.lt b hb).2
theorem row_nil (e : TypeId) (size : Nat) (w : World) : (Res.row e size (.slice none 0 0) 0 []).holds w := World.ownsRow_nil w 0 e size

section
variable {F : Nat → Prop} {w0 w w' : World} {rs rs' : List Res}
theorem St.new (h : St F w0 rs w) (o : Obj) : St F w0 (Res.obj w.heap.size o :: rs) (w.alloc o) := h.fresh (Fr.alloc w o) (heap_alloc_new w o) fun b hb => by cases hb; exact Nat.le_refl _
theorem St.rowNil (e : TypeId) (size : Nat) (h : St F w0 rs w) : St F w0 (Res.row e size (.slice none 0 0) 0 [] :: rs) w := h.addNone (row_nil e size w) rfl
theorem St.cell {b off : Nat} {c : Array Value} {t : TypeId} {fz : Nat × Nat} {v : Value} (h : St F w0 rs w) (hm : Res.obj b (.cells c t fz) ∈ rs) (hv : nth c.toList off = some v) : w.cell? ⟨b, off, none⟩ = some v := by
  have h1 : w.heap[b]? = some (.cells c t fz) := h.get hm
  rw [nth_eq] at hv
  unfold World.cell?
  simp only [h1]
  simpa using hv
theorem St.setCell {b off : Nat} {c : List Value} {t : TypeId} {v : Value} (h : St F w0 rs w) (hu : Upd (Res.obj b (.cells c.toArray t (0, 0))) (Res.obj b (.cells (c.set off v).toArray t (0, 0))) rs rs') : St F w0 rs' (w.setCell ⟨b, off, none⟩ v) := by
  have h1 : w.heap[b]? = some (.cells c.toArray t (0, 0)) := h.get hu.mem
  refine h.upd hu rfl ⟨rfl, rfl, rfl, by simp [World.setCell], fun i hi hne => ?_⟩ ?_ fun b' hb' => .inl hb'
  · exact Below.heap_setCell _ _ _ _ fun e => hne (by rw [e]; rfl)
  · show (w.setCell _ _).heap[b]? = _
    simp [World.setCell, Array.getElem?_modify, h1]
end
end Go.Proofs.Ytfdfnamkkepbiaa
