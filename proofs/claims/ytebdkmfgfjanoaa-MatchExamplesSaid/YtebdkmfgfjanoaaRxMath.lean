/-
  Plain laws of expressions: pieces, trees, the blocks of a list of pieces, texts, reversal. No program in sight.
-/
import Derived.Test.YtebdkmfgfjanoaaCB
namespace Go.Proofs.Ytebdkmfgfjanoaa

/-- a piece -/
structure Pc where
  op : Nat
  pos : Nat
  neg : Nat
  a : Int
  b : Int
theorem Pc.ext' {x y : Pc} (h1 : x.op = y.op) (h2 : x.pos = y.pos) (h3 : x.neg = y.neg) (h4 : x.a = y.a) (h5 : x.b = y.b) : x = y := by
  cases x; cases y; simp_all
instance : DecidableEq Pc := fun x y =>
  decidable_of_iff (x.op = y.op ∧ x.pos = y.pos ∧ x.neg = y.neg ∧ x.a = y.a ∧ x.b = y.b) ⟨fun ⟨h1, h2, h3, h4, h5⟩ => Pc.ext' h1 h2 h3 h4 h5, fun h => by subst h; exact ⟨rfl, rfl, rfl, rfl, rfl⟩⟩
/-- in range -/
structure Pc.ok (p : Pc) : Prop where
  op : p.op < 256
  pos : p.pos < 256
  neg : p.neg < 256
  a : -9223372036854775808 ≤ p.a ∧ p.a ≤ 9223372036854775807
  b : -9223372036854775808 ≤ p.b ∧ p.b ≤ 9223372036854775807
def kids (op : Nat) : Nat := if op = 4 ∨ op = 5 ∨ op = 6 then 2 else if op = 7 ∨ op = 8 ∨ op = 9 ∨ op = 10 then 1 else 0
theorem kids_le (op : Nat) : kids op ≤ 2 := by unfold kids; split <;> (try split) <;> omega
theorem kids_two {op : Nat} : kids op = 2 ↔ op = 4 ∨ op = 5 ∨ op = 6 := by unfold kids; split <;> (try split) <;> omega
theorem kids_one {op : Nat} : kids op = 1 ↔ op = 7 ∨ op = 8 ∨ op = 9 ∨ op = 10 := by unfold kids; split <;> (try split) <;> omega
theorem kids_zero {op : Nat} : kids op = 0 ↔ ¬ (4 ≤ op ∧ op ≤ 10) := by unfold kids; split <;> (try split) <;> omega
/-- the error of a piece by itself -/
def pcE (p : Pc) (v : Int) : Int :=
  if p.op < 1 ∨ 10 < p.op then 6
  else if (p.op ≠ 3 ∧ p.pos ||| p.neg ≠ 0) ∨ (kids p.op < 1 ∧ p.a ≠ 0) ∨ (kids p.op < 2 ∧ p.b ≠ 0) then 2
  else if p.op = 3 then chk p.pos p.neg v else 0

/-- an expression -/
inductive T where
  | none
  | empty
  | letter (p n : Nat)
  | un (op : Nat) (a : T)
  | bin (op : Nat) (a b : T)
def T.size : T → Nat
  | .un _ a => a.size + 1
  | .bin _ a b => a.size + b.size + 1
  | _ => 1
theorem T.size_pos : ∀ t : T, 0 < t.size
  | .none => Nat.one_pos
  | .empty => Nat.one_pos
  | .letter _ _ => Nat.one_pos
  | .un _ a => Nat.succ_pos _
  | .bin _ a b => Nat.succ_pos _
def T.op : T → Nat
  | .none => 1
  | .empty => 2
  | .letter _ _ => 3
  | .un op _ => op
  | .bin op _ _ => op
/-- its root, if its pieces begin at k -/
def T.root (k : Nat) : T → Pc
  | .none => ⟨1, 0, 0, 0, 0⟩
  | .empty => ⟨2, 0, 0, 0, 0⟩
  | .letter p n => ⟨3, p, n, 0, 0⟩
  | .un op a => ⟨op, 0, 0, ((k + a.size : Nat) : Int) - 1, 0⟩
  | .bin op a b => ⟨op, 0, 0, ((k + a.size : Nat) : Int) - 1, ((k + a.size + b.size : Nat) : Int) - 1⟩
/-- its pieces -/
def T.flat (k : Nat) : T → List Pc
  | .un op a => a.flat k ++ [T.root k (.un op a)]
  | .bin op a b => a.flat k ++ (b.flat (k + a.size) ++ [T.root k (.bin op a b)])
  | t => [T.root k t]
theorem T.flat_len (k : Nat) : ∀ t : T, (t.flat k).length = t.size
  | .none => rfl
  | .empty => rfl
  | .letter _ _ => rfl
  | .un _ a => by simp [T.flat, T.size, T.flat_len k a]
  | .bin _ a b => by simp [T.flat, T.size, T.flat_len k a, T.flat_len (k + a.size) b]; omega
/-- the beginnings of the blocks -/
def T.firsts (k : Nat) : T → List Nat
  | .un _ a => a.firsts k ++ [k]
  | .bin _ a b => a.firsts k ++ (b.firsts (k + a.size) ++ [k])
  | _ => [k]
theorem T.firsts_len (k : Nat) : ∀ t : T, (t.firsts k).length = t.size
  | .none => rfl
  | .empty => rfl
  | .letter _ _ => rfl
  | .un _ a => by simp [T.firsts, T.size, T.firsts_len k a]
  | .bin _ a b => by simp [T.firsts, T.size, T.firsts_len k a, T.firsts_len (k + a.size) b]; omega
theorem T.firsts_last (k : Nat) (t : T) : (t.firsts k)[t.size - 1]? = some k := by
  cases t with
  | un op a => simp [T.firsts, T.size, T.firsts_len]
  | bin op a b => 
    have h1 := T.firsts_len k a
    have h2 := T.firsts_len (k + a.size) b
    simp [T.firsts, T.size]
    rw [List.getElem?_append_right (by omega), List.getElem?_append_right (by omega)]
    simp [h1, h2]
  | _ => rfl
theorem T.flat_last (k : Nat) (t : T) : (t.flat k)[t.size - 1]? = some (t.root k) := by
  cases t with
  | un op a => simp [T.flat, T.size, T.flat_len]
  | bin op a b => 
    have h1 := T.flat_len k a
    have h2 := T.flat_len (k + a.size) b
    simp [T.flat, T.size]
    rw [List.getElem?_append_right (by omega), List.getElem?_append_right (by omega)]
    simp [h1, h2]
  | _ => rfl
theorem T.root_op (k : Nat) (t : T) : (t.root k).op = t.op := by cases t <;> rfl

/-! the blocks of a list: a stack of trees, the last one on top -/
def stkSize : List T → Nat
  | [] => 0
  | t :: S => stkSize S + t.size
def stkFlat : List T → List Pc
  | [] => []
  | t :: S => stkFlat S ++ t.flat (stkSize S)
def stkFirst : List T → List Nat
  | [] => []
  | t :: S => stkFirst S ++ t.firsts (stkSize S)
theorem stkFlat_len : ∀ S, (stkFlat S).length = stkSize S
  | [] => rfl
  | t :: S => by simp [stkFlat, stkSize, stkFlat_len S, T.flat_len]
theorem stkFirst_len : ∀ S, (stkFirst S).length = stkSize S
  | [] => rfl
  | t :: S => by simp [stkFirst, stkSize, stkFirst_len S, T.firsts_len]
theorem stkFirst_top (t : T) (S : List T) : (stkFirst (t :: S))[stkSize (t :: S) - 1]? = some (stkSize S) := by
  have h := T.size_pos t
  simp only [stkFirst, stkSize]
  rw [List.getElem?_append_right (by rw [stkFirst_len]; omega), stkFirst_len, show stkSize S + t.size - 1 - stkSize S = t.size - 1 by omega]
  exact T.firsts_last _ t
def leafT (p : Pc) : T := if p.op = 1 then .none else if p.op = 2 then .empty else .letter p.pos p.neg
def stkStep (v : Int) (S : List T) (p : Pc) : Int × List T :=
  if pcE p v ≠ 0 then (pcE p v, [])
  else if kids p.op = 1 then (match S with
    | a :: S' => if p.a = (stkSize (a :: S') : Int) - 1 then (0, .un p.op a :: S') else (8, [])
    | [] => (8, []))
  else if kids p.op = 2 then (match S with
    | b :: a :: S' => if p.b = (stkSize (b :: a :: S') : Int) - 1 ∧ p.a = (stkSize (a :: S') : Int) - 1 then (0, .bin p.op a b :: S') else (8, [])
    | _ => (8, []))
  else (0, leafT p :: S)
def stkRun (v : Int) : List Pc → List T → Int × List T
  | [], S => (0, S)
  | p :: ps, S => if (stkStep v S p).1 ≠ 0 then ((stkStep v S p).1, []) else stkRun v ps (stkStep v S p).2
/-- valid for v variables -/
def T.wf (v : Int) : T → Prop
  | .none => True
  | .empty => True
  | .letter p n => chk p n v = 0
  | .un op a => kids op = 1 ∧ a.wf v
  | .bin op a b => kids op = 2 ∧ a.wf v ∧ b.wf v
/-- look-arounds stand free -/
def T.free : Bool → T → Bool
  | f, .un op a => (f || !(op == 9 || op == 10)) && a.free false
  | f, .bin op a b => a.free (f && (op == 4 || op == 5)) && b.free (f && (op == 4 || op == 5))
  | _, _ => true
def visE (S : List T) : Int := match S with
  | [t] => if t.free true then 0 else 2
  | _ => 2
/-- what Check answers -/
def chkR (L : List Pc) (v : Int) : Int :=
  if v < 0 ∨ 6 < v then 7 else if L.length = 0 then 3 else if 64 < L.length then 4
  else if (stkRun v L []).1 ≠ 0 then (stkRun v L []).1
  else visE (stkRun v L []).2

theorem or_zero {a b : Nat} : a ||| b = 0 ↔ a = 0 ∧ b = 0 := by
  constructor
  · intro h
    have h1 : a ≤ a ||| b := Nat.left_le_or
    have h2 : b ≤ a ||| b := Nat.right_le_or
    omega
  · rintro ⟨rfl, rfl⟩; rfl
theorem pcE_zero {p : Pc} {v : Int} (h : pcE p v = 0) : 1 ≤ p.op ∧ p.op ≤ 10 ∧ (p.op ≠ 3 → p.pos = 0 ∧ p.neg = 0) ∧ (kids p.op < 1 → p.a = 0) ∧ (kids p.op < 2 → p.b = 0) ∧ (p.op = 3 → chk p.pos p.neg v = 0) := by
  unfold pcE at h
  by_cases h1 : p.op < 1 ∨ 10 < p.op
  · rw [if_pos h1] at h; cases h
  rw [if_neg h1] at h
  by_cases h2 : (p.op ≠ 3 ∧ p.pos ||| p.neg ≠ 0) ∨ (kids p.op < 1 ∧ p.a ≠ 0) ∨ (kids p.op < 2 ∧ p.b ≠ 0)
  · rw [if_pos h2] at h; cases h
  rw [if_neg h2] at h
  refine ⟨by omega, by omega, fun h3 => ?_, fun h3 => ?_, fun h3 => ?_, fun h3 => by rw [if_pos h3] at h; exact h⟩
  · refine or_zero.1 (Classical.byContradiction fun h4 => h2 (.inl ⟨h3, h4⟩))
  · exact Classical.byContradiction fun h4 => h2 (.inr (.inl ⟨h3, h4⟩))
  · exact Classical.byContradiction fun h4 => h2 (.inr (.inr ⟨h3, h4⟩))
theorem pcE_root {v : Int} {t : T} (k : Nat) (h : t.wf v) : pcE (t.root k) v = 0 := by
  cases t with
  | none => simp [pcE, T.root, kids]
  | empty => simp [pcE, T.root, kids]
  | letter p n => unfold pcE; simp [T.root, kids]; exact h
  | un op a =>
    have h1 := kids_one.1 h.1
    unfold pcE
    rw [if_neg (by simp only [T.root]; omega), if_neg (by simp [T.root, h.1]), if_neg (by simp only [T.root]; omega)]
  | bin op a b =>
    have h1 := kids_two.1 h.1
    unfold pcE
    rw [if_neg (by simp only [T.root]; omega), if_neg (by simp [T.root, h.1]), if_neg (by simp only [T.root]; omega)]
theorem leaf_root {p : Pc} {v : Int} (h : pcE p v = 0) (hk : kids p.op = 0) (k : Nat) : (leafT p).root k = p ∧ (leafT p).wf v ∧ (leafT p).flat k = [p] ∧ (leafT p).size = 1 ∧ (leafT p).firsts k = [k] := by
  obtain ⟨h1, h2, h3, h4, h5, h6⟩ := pcE_zero h
  have h7 := kids_zero.1 hk
  have ha := h4 (by omega)
  have hb := h5 (by omega)
  have : p.op = 1 ∨ p.op = 2 ∨ p.op = 3 := by omega
  rcases this with e | e | e
  · have hp := h3 (by omega)
    have : (⟨1, 0, 0, 0, 0⟩ : Pc) = p := Pc.ext' e.symm hp.1.symm hp.2.symm ha.symm hb.symm
    subst this; exact ⟨rfl, trivial, rfl, rfl, rfl⟩
  · have hp := h3 (by omega)
    have : (⟨2, 0, 0, 0, 0⟩ : Pc) = p := Pc.ext' e.symm hp.1.symm hp.2.symm ha.symm hb.symm
    subst this; exact ⟨rfl, trivial, rfl, rfl, rfl⟩
  · have : (⟨3, p.pos, p.neg, 0, 0⟩ : Pc) = p := Pc.ext' e.symm rfl rfl ha.symm hb.symm
    have hl : leafT p = .letter p.pos p.neg := by unfold leafT; rw [if_neg (by omega), if_neg (by omega)]
    rw [hl]
    exact ⟨this, h6 e, by simp [T.flat, T.root, this], rfl, rfl⟩
/-- a step that does not fail -/
theorem stkStep_ok {v : Int} {S S' : List T} {p : Pc} (h : stkStep v S p = (0, S')) (hS : ∀ t ∈ S, t.wf v) : stkFlat S' = stkFlat S ++ [p] ∧ (∀ t ∈ S', t.wf v) := by
  unfold stkStep at h
  by_cases hE : pcE p v = 0
  · rw [if_neg (by simpa using hE)] at h
    obtain ⟨h1, h2, h3, h4, h5, h6⟩ := pcE_zero hE
    by_cases hk1 : kids p.op = 1
    · rw [if_pos hk1] at h
      cases S with
      | nil => simp at h
      | cons a S0 =>
        simp only at h
        split at h
        · rename_i ha
          simp only [Prod.mk.injEq, true_and] at h
          subst h
          have := kids_one.1 hk1
          have hp := h3 (by omega)
          have hr : T.root (stkSize S0) (.un p.op a) = p := Pc.ext' rfl hp.1.symm hp.2.symm ha.symm (h5 (by omega)).symm
          refine ⟨by simp [stkFlat, T.flat, hr], fun t ht => ?_⟩
          rcases List.mem_cons.1 ht with rfl | ht
          · exact ⟨hk1, hS a (List.mem_cons_self ..)⟩
          · exact hS t (List.mem_cons_of_mem _ ht)
        · simp at h
    · rw [if_neg hk1] at h
      by_cases hk2 : kids p.op = 2
      · rw [if_pos hk2] at h
        cases S with
        | nil => simp at h
        | cons b S1 =>
          cases S1 with
          | nil => simp at h
          | cons a S0 =>
            simp only at h
            split at h
            · rename_i hab
              simp only [Prod.mk.injEq, true_and] at h
              subst h
              have := kids_two.1 hk2
              have hp := h3 (by omega)
              have hr : T.root (stkSize S0) (.bin p.op a b) = p := Pc.ext' rfl hp.1.symm hp.2.symm hab.2.symm hab.1.symm
              refine ⟨by simp [stkFlat, T.flat, hr, stkSize], fun t ht => ?_⟩
              rcases List.mem_cons.1 ht with rfl | ht
              · exact ⟨hk2, hS a (List.mem_cons_of_mem _ (List.mem_cons_self ..)), hS b (List.mem_cons_self ..)⟩
              · exact hS t (List.mem_cons_of_mem _ (List.mem_cons_of_mem _ ht))
            · simp at h
      · rw [if_neg hk2] at h
        simp only [Prod.mk.injEq, true_and] at h
        subst h
        have hk0 : kids p.op = 0 := by have := kids_le p.op; omega
        obtain ⟨_, hw, hf, _⟩ := leaf_root hE hk0 (stkSize S)
        refine ⟨by simp [stkFlat, hf], fun t ht => ?_⟩
        rcases List.mem_cons.1 ht with rfl | ht
        · exact hw
        · exact hS t ht
  · rw [if_pos hE] at h
    simp only [Prod.mk.injEq] at h
    exact absurd h.1 hE
theorem stkRun_ok {v : Int} : ∀ (ps : List Pc) (S S' : List T), stkRun v ps S = (0, S') → (∀ t ∈ S, t.wf v) → stkFlat S' = stkFlat S ++ ps ∧ (∀ t ∈ S', t.wf v)
  | [], S, S', h, hS => by
    simp only [stkRun, Prod.mk.injEq, true_and] at h
    subst h; simpa using hS
  | p :: ps, S, S', h, hS => by
    unfold stkRun at h
    by_cases h0 : (stkStep v S p).1 = 0
    · rw [if_neg (by simpa using h0)] at h
      have h1 := stkStep_ok (v := v) (S := S) (S' := (stkStep v S p).2) (p := p) (by rw [← h0]) hS
      have h2 := stkRun_ok ps _ S' h h1.2
      exact ⟨by rw [h2.1, h1.1]; simp, h2.2⟩
    · rw [if_pos h0] at h
      simp only [Prod.mk.injEq] at h
      exact absurd h.1 h0
theorem stkStep_root {v : Int} (S : List T) : ∀ t : T, t.wf v → (match t with
    | .un op a => stkStep v (a :: S) (T.root (stkSize S) (.un op a))
    | .bin op a b => stkStep v (b :: a :: S) (T.root (stkSize S) (.bin op a b))
    | t => stkStep v S (t.root (stkSize S))) = (0, t :: S)
  | .none, h => by
    have hE := pcE_root (v := v) (t := .none) (stkSize S) h
    simp only
    unfold stkStep
    rw [if_neg (by simpa using hE)]
    rfl
  | .empty, h => by
    have hE := pcE_root (v := v) (t := .empty) (stkSize S) h
    simp only
    unfold stkStep
    rw [if_neg (by simpa using hE)]
    rfl
  | .letter p n, h => by
    have hE := pcE_root (v := v) (t := .letter p n) (stkSize S) h
    simp only
    unfold stkStep
    rw [if_neg (by simpa using hE)]
    rfl
  | .un op a, h => by
    have hE := pcE_root (v := v) (t := .un op a) (stkSize S) h
    simp only
    unfold stkStep
    rw [if_neg (by simpa using hE)]
    simp [T.root, h.1, stkSize]
  | .bin op a b, h => by
    have hE := pcE_root (v := v) (t := .bin op a b) (stkSize S) h
    have h2 := h.1
    simp only
    unfold stkStep
    rw [if_neg (by simpa using hE)]
    simp [T.root, h2, stkSize]
theorem stkRun_cons {v : Int} {p : Pc} {ps : List Pc} {S S' : List T} (h : stkStep v S p = (0, S')) : stkRun v (p :: ps) S = stkRun v ps S' := by
  show (if (stkStep v S p).1 ≠ 0 then ((stkStep v S p).1, []) else stkRun v ps (stkStep v S p).2) = _
  rw [h]
  simp
theorem stkRun_tree {v : Int} : ∀ (t : T) (S : List T) (ps : List Pc), t.wf v → stkRun v (t.flat (stkSize S) ++ ps) S = stkRun v ps (t :: S)
  | .none, S, ps, h => stkRun_cons (stkStep_root S .none h)
  | .empty, S, ps, h => stkRun_cons (stkStep_root S .empty h)
  | .letter p n, S, ps, h => stkRun_cons (stkStep_root S (.letter p n) h)
  | .un op a, S, ps, h => by
    simp only [T.flat, List.append_assoc]
    rw [stkRun_tree a S _ h.2]
    exact stkRun_cons (stkStep_root S (.un op a) h)
  | .bin op a b, S, ps, h => by
    simp only [T.flat, List.append_assoc]
    rw [stkRun_tree a S _ h.2.1]
    have := stkRun_tree b (a :: S) ([T.root (stkSize S) (.bin op a b)] ++ ps) h.2.2
    simp only [stkSize] at this
    rw [this]
    exact stkRun_cons (stkStep_root S (.bin op a b) h)
/-- valid expressions are those of trees -/
theorem chkR_zero {L : List Pc} {v : Int} : chkR L v = 0 ↔ (0 ≤ v ∧ v ≤ 6) ∧ ∃ t : T, t.wf v ∧ t.free true = true ∧ t.size ≤ 64 ∧ L = t.flat 0 := by
  constructor
  · intro h
    unfold chkR at h
    split at h
    · cases h
    rename_i h1
    split at h
    · cases h
    rename_i h2
    split at h
    · cases h
    rename_i h3
    split at h
    · rename_i h4; exact absurd h h4
    rename_i h4
    have h4 : (stkRun v L []).1 = 0 := by simpa using h4
    obtain ⟨hf, hw⟩ := stkRun_ok (v := v) L [] (stkRun v L []).2 (by rw [← h4]) (fun _ h => by cases h)
    generalize (stkRun v L []).2 = S at h hf hw
    match S, h, hf, hw with
    | [t], h, hf, hw =>
      simp only [visE] at h
      split at h
      · rename_i hfr
        simp only [stkFlat, List.nil_append, stkSize] at hf
        refine ⟨by omega, t, hw t (List.mem_cons_self ..), hfr, ?_, hf.symm⟩
        have := T.flat_len 0 t
        rw [hf] at this; omega
      · cases h
    | [], h, _, _ => cases h
    | _ :: _ :: _, h, _, _ => cases h
  · rintro ⟨hv, t, hw, hf, hs, rfl⟩
    have hl := T.flat_len 0 t
    have hp := T.size_pos t
    have hr : stkRun v (t.flat 0) [] = (0, [t]) := by
      have := stkRun_tree (v := v) t [] [] hw
      simpa [stkSize, stkRun] using this
    unfold chkR
    rw [if_neg (by omega), if_neg (by omega), if_neg (by omega), hr]
    simp [hf, visE]
theorem T.flat_inj {t u : T} {v : Int} (ht : t.wf v) (hu : u.wf v) (h : t.flat 0 = u.flat 0) : t = u := by
  have h1 := stkRun_tree (v := v) t [] [] ht
  have h2 := stkRun_tree (v := v) u [] [] hu
  simp only [stkSize, List.append_nil, h] at h1 h2
  rw [h1] at h2
  simpa [stkRun] using h2
end Go.Proofs.Ytebdkmfgfjanoaa
