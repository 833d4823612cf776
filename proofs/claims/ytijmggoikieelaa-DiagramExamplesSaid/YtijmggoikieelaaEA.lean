/-
  Base lemmas of this seat's proofs: numbers, bytes, slices that read as lists. Nothing here names a function of the program.
-/
import Derived.Test.YtijmggoikieelaaRows
import Derived.WalkKit
import Derived.WalkSpells
import Derived.WalkLawsBesides
import Derived.Deep.QuietTactic
import Derived.BigQuiet
import Derived.Lib.Hide
import Derived.Maps.AppendAt
import Derived.Deep.Draws
import Derived.Deep.AppendLies
namespace Go.Proofs.Ytijmggoikieelaa
open Go.RowKit

theorem ret_int {k : IntKind} {a b : Int} (h : a = b) : Ending.returned (.int k a) = .returned (.int k b) := by rw [h]
theorem ret_bool {a b : Bool} (h : a = b) : Ending.returned (.bool a) = .returned (.bool b) := by rw [h]
theorem or_u8 {a b : Nat} (ha : a < 256) (hb : b < 256) : a ||| b < 256 := Nat.or_lt_two_pow (n := 8) ha hb
theorem and_u8 {a b : Nat} (ha : a < 256) : a &&& b < 256 := Nat.lt_of_le_of_lt Nat.and_le_left ha
theorem andNot_zero {p q : Nat} (hp : p < 256) (hq : q < 256) : p &&& (255 - q) = 0 ↔ p &&& q = p := by
  have hb : ∀ i, (255 - q).testBit i = (decide (i < 8) && !q.testBit i) := fun i => by
    have h := Nat.testBit_two_pow_sub_succ (n := 8) hq i
    rwa [show 2 ^ 8 - (q + 1) = 255 - q by omega] at h
  have hpi : ∀ i, 8 ≤ i → p.testBit i = false := fun i hi => Nat.testBit_lt_two_pow (Nat.lt_of_lt_of_le hp (Nat.pow_le_pow_right (n := 2) (i := 8) (by omega) hi))
  constructor
  · intro h
    refine Nat.eq_of_testBit_eq fun i => ?_
    have h1 := congrArg (Nat.testBit · i) h
    simp only [Nat.testBit_and, hb, Nat.zero_testBit] at h1 ⊢
    by_cases hi : i < 8
    · simp only [hi, decide_true, Bool.true_and] at h1
      cases hx : p.testBit i <;> cases hy : q.testBit i <;> simp_all
    · simp [hpi i (by omega)]
  · intro h
    refine Nat.eq_of_testBit_eq fun i => ?_
    have h1 := congrArg (Nat.testBit · i) h
    simp only [Nat.testBit_and, hb, Nat.zero_testBit] at h1 ⊢
    cases hx : p.testBit i <;> cases hy : q.testBit i <;> simp_all
/-- 2 to the power k (a plain definition: nothing opens it by itself) -/
def two (k : Nat) : Nat := 2 ^ k
theorem two_le6 {k : Nat} (h : k ≤ 6) : two k ≤ 64 := Nat.pow_le_pow_right (n := 2) (i := k) (j := 6) (by omega) h
theorem two_pos (k : Nat) : 1 ≤ two k := Nat.one_le_two_pow
theorem below_drewN {B : Nat} {a w : World} (h : Below B a w) (n : Nat) : Below B a (w.drewN n) := ⟨h.os, h.tape, h.output, h.size, h.block⟩
theorem bat {B : Nat} {w w' : World} (h : Below B w w') {b o : Nat} (hb : b < B) : w'.cell? ⟨b, o, none⟩ = w.cell? ⟨b, o, none⟩ := h.cell (p := ⟨b, o, none⟩) hb
/-- every cell and mark below the heap's size reads as it did -/
theorem bcell {W w1 : World} (hb : Below W.heap.size W w1) : (∀ b o, b < W.heap.size → w1.cell? ⟨b, o, none⟩ = W.cell? ⟨b, o, none⟩) ∧ (∀ b o, b < W.heap.size → w1.frozen? ⟨b, o, none⟩ = W.frozen? ⟨b, o, none⟩) :=
  ⟨fun b o h => hb.cell (p := ⟨b, o, none⟩) h, fun b o h => hb.frozen (p := ⟨b, o, none⟩) h⟩

theorem wrap_two {k : Nat} (h : k ≤ 6) : wrap64 ((2 : Int) ^ k) = (two k : Int) := by
  have h2 := two_le6 h
  have h3 : ((2 : Int) ^ k) = ((two k : Nat) : Int) := by simp [two]
  rw [h3]
  exact IntWalk.wrap64_in _ ⟨by omega, by omega⟩

/-- a byte as a value -/
abbrev vb (x : Nat) : Value := .int .u8 (x : Int)
/-- an int as a value -/
abbrev vi (x : Int) : Value := .int .i64 x

theorem add_block (a : Addr) (n : Nat) : (a.add n).block = a.block := by
  simp only [Addr.add]; split <;> rfl

/-- The slice '.slice A n c' holds the cells xs ('size' cells an element), in a block of w. -/
def Rd (w : World) (size : Nat) (A : Option Addr) (n : Nat) (xs : List Value) : Prop :=
  xs.length = n * size ∧ (0 < n → ∃ ad, A = some ad ∧ ad.block < w.heap.size ∧ ∀ j u, xs[j]? = some u → w.cell? (ad.add j) = some u)

section
variable {w w' : World} {size n : Nat} {A : Option Addr} {xs : List Value}
theorem Rd.nil : Rd w size A 0 [] := ⟨by simp, fun h => absurd h (Nat.lt_irrefl 0)⟩
theorem Rd.keep (h : Rd w size A n xs) (hs : w.heap.size ≤ w'.heap.size) (hk : ∀ p : Addr, p.block < w.heap.size → w'.cell? p = w.cell? p) : Rd w' size A n xs :=
  ⟨h.1, fun hn => let ⟨ad, e, hb, hc⟩ := h.2 hn; ⟨ad, e, Nat.lt_of_lt_of_le hb hs, fun j u hu => (hk _ (by rw [add_block]; exact hb)).trans (hc j u hu)⟩⟩
theorem Rd.below (h : Rd w size A n xs) (hb : Below w.heap.size w w') : Rd w' size A n xs := h.keep hb.size fun _ hp => hb.cell hp
theorem Rd.drew (h : Rd w size A n xs) : Rd w.drew size A n xs := h
theorem Rd.drewN (h : Rd w size A n xs) (k : Nat) : Rd (w.drewN k) size A n xs := h
theorem Rd.alloc (h : Rd w size A n xs) (o : Obj) : Rd (w.alloc o) size A n xs := h.keep (by simp) fun p hp => World.cell?_alloc_lt w o p hp
/-- the k-th cell -/
theorem Rd.at_ {k : Nat} (h : Rd w 1 A n xs) (hk : k < n) : ∃ ad u, A = some ad ∧ ad.block < w.heap.size ∧ xs[k]? = some u ∧ w.cell? (ad.add k) = some u := by
  obtain ⟨ad, e, hb, hc⟩ := h.2 (by omega)
  have hl : k < xs.length := by have := h.1; omega
  exact ⟨ad, xs[k], e, hb, List.getElem?_eq_getElem hl, hc k _ (List.getElem?_eq_getElem hl)⟩
end
theorem Rd.u8_at {w : World} {A : Option Addr} {n k : Nat} {l : List Nat} (h : Rd w 1 A n (l.map vb)) (hk : k < n) : ∃ ad x, A = some ad ∧ ad.block < w.heap.size ∧ l[k]? = some x ∧ w.cell? (ad.add k) = some (vb x) := by
  obtain ⟨ad, u, e, hb, hx, hc⟩ := h.at_ hk
  rw [List.getElem?_map] at hx
  cases hl : l[k]? with
  | none => rw [hl] at hx; cases hx
  | some x =>
    rw [hl] at hx
    injection hx with hx
    exact ⟨ad, x, e, hb, rfl, by rw [hx]; exact hc⟩

/-! A region that draws its order and whose calls make memory: walked once, in the order of the text. -/
/-- the worlds that come of W without turning what was there -/
def Later (W : World) : Type := { x : World // Below W.heap.size W x }
instance (W : World) : Nonempty (Later W) := ⟨⟨W, Below.refl _ _⟩⟩
theorem Later.cell {W : World} {a : Addr} {v : Value} (h : W.cell? a = some v) : ∀ x : Later W, x.1.cell? a = some v := fun x => (x.2.cell (World.block_lt_of_cell? _ _ h)).trans h
theorem Later.call {P : Program} {f : FuncId} {args : Array Value} {W : World} {x : Later W} {v : Value} (h : Calls P f args x.1 fun e w' => e = .returned v ∧ Below x.1.heap.size x.1 w') :
    Calls P f args x.1 fun e w'' => e = .returned v ∧ ∃ y : Later W, w'' = y.1 :=
  h.mono fun _ w' ⟨he, hb⟩ => ⟨he, ⟨w', x.2.trans (hb.mono x.2.size)⟩, rfl⟩
theorem Later.callN {P : Program} {f : FuncId} {args : Array Value} {W : World} {x : Later W} {v : Value} (h : Calls P f args x.1 fun e w' => e = .returned v ∧ ∃ k, w' = x.1.drewN k) :
    Calls P f args x.1 fun e w'' => e = .returned v ∧ ∃ y : Later W, w'' = y.1 :=
  Later.call (h.mono fun _ _ ⟨he, k, hk⟩ => ⟨he, by rw [hk]; exact below_drewN (Below.refl _ _) k⟩)
theorem Later.call0 {P : Program} {f : FuncId} {args : Array Value} {W : World} {x : Later W} {v : Value} (h : Calls P f args x.1 fun e w' => e = .returned v ∧ x.1 = w') :
    Calls P f args x.1 fun e w'' => e = .returned v ∧ ∃ y : Later W, w'' = y.1 :=
  Later.call (h.mono fun _ _ ⟨he, hk⟩ => ⟨he, by rw [← hk]; exact Below.refl _ _⟩)
theorem wp_region_later {P : Program} {id : Nat} {Q : Exit → Act → World → Prop} {a : Act} {w : World} {l : List Oper} (hm : P.follows .mixedOrders = true) (hB : Region.lexB .any l.toArray = true)
    (h : wpQuiet P l.toArray (fun w' => ∃ x : Later w, w' = x.1) (fun a' => ∀ x : Later w, Q .normal a' x.1) l a) : (Code.region id l.toArray true).wp P Q a w := by
  refine wp_region_quiet (C := fun w' => ∃ x : Later w, w' = x.1) hm hB ⟨⟨w.drew, (Below.refl _ _).drew⟩, rfl⟩ ?_
  have e : (fun a' => ∀ w', (∃ x : Later w, w' = x.1) → Q .normal a' w') = (fun a' => ∀ x : Later w, Q .normal a' x.1) := by
    funext a'
    exact propext ⟨fun h x => h x.1 ⟨x, rfl⟩, fun h w' ⟨x, hx⟩ => hx ▸ h x⟩
  rw [e]
  simpa using h

/-- forget how the world came about -/
theorem wp_gen {P : Program} {c : Code} {Q : Exit → Act → World → Prop} {a : Act} {w : World} (Φ : World → Prop) (h : Φ w) (hn : ∀ W, Φ W → c.wp P Q a W) : c.wp P Q a w := hn w h

/-- the cells of a new block -/
theorem cells_new (w : World) (cs : List Value) (t : TypeId) : ∀ j u, cs[j]? = some u → (w.alloc (.cells cs.toArray t)).cell? ((⟨w.heap.size, 0, none⟩ : Addr).add j) = some u := by
  intro j u hj
  have hadd : (⟨w.heap.size, 0, none⟩ : Addr).add j = ⟨w.heap.size, j, none⟩ := by unfold Addr.add; split <;> simp_all
  rw [hadd]
  rw [cell_of_row _ w.heap.size j cs.toArray t (0, 0) (heap_alloc_new w _)]
  simpa using hj
theorem Rd.new {w : World} {b n size : Nat} {cs : List Value} {t : TypeId} (hb : b = w.heap.size) (hl : cs.length = n * size) : Rd (w.alloc (.cells cs.toArray t)) size (some ⟨b, 0, none⟩) n cs := by
  subst hb
  exact ⟨hl, fun _ => ⟨_, rfl, by simp, cells_new w cs t⟩⟩
/-! append onto a row of the call's own -/
theorem ownsRow_base {w : World} {b b' : Nat} {e : TypeId} {size : Nat} {v : Value} {n : Nat} {xs : List Value} (h : w.ownsRow b e size v n xs) (hb : b' ≤ b) : w.ownsRow b' e size v n xs := by
  refine ⟨h.1, ?_⟩
  rcases h.2 with h2 | ⟨g, cap, cur, hv, hg, r⟩
  · exact .inl h2
  · exact .inr ⟨g, cap, cur, hv, Nat.le_trans hb hg, r⟩
theorem ownsRow_below {w w' : World} {b : Nat} {e : TypeId} {size : Nat} {v : Value} {n : Nat} {xs : List Value} (h : w.ownsRow b e size v n xs) (hb : Below w.heap.size w w') : w'.ownsRow b e size v n xs := by
  refine ⟨h.1, ?_⟩
  rcases h.2 with h2 | ⟨g, cap, cur, hv, hg, hh, r⟩
  · exact .inl h2
  · exact .inr ⟨g, cap, cur, hv, hg, (hb.block g (Array.getElem?_eq_some_iff.1 hh).1).trans hh, r⟩
theorem ownsRow_cells {w w' : World} {b : Nat} {e : TypeId} {size : Nat} {v : Value} {n : Nat} {xs : List Value} (h : w.ownsRow b e size v n xs) (hc : ∀ (k : Nat) (c : Array Value) (t : TypeId) (f : Nat × Nat), w.heap[k]? = some (.cells c t f) → w'.heap[k]? = some (.cells c t f)) : w'.ownsRow b e size v n xs := by
  refine ⟨h.1, ?_⟩
  rcases h.2 with h2 | ⟨g, cap, cur, hv, hg, hh, r⟩
  · exact .inl h2
  · exact .inr ⟨g, cap, cur, hv, hg, hc _ _ _ _ hh, r⟩
theorem ownsRow_rd {w : World} {b : Nat} {e : TypeId} {size n c : Nat} {A : Option Addr} {xs : List Value} (h : w.ownsRow b e size (.slice A n c) n xs) : Rd w size A n xs := by
  refine ⟨h.1, fun hn => ?_⟩
  obtain ⟨g, cap, hv, _, hlt⟩ := h.form hn
  have hA : A = some ⟨g, 0, none⟩ := by injection hv
  subst hA
  exact ⟨_, rfl, hlt, h.cells (g := g) rfl⟩
/-- an owned row is a slice -/
theorem ownsRow_slice {w : World} {b : Nat} {e : TypeId} {size n : Nat} {v : Value} {xs : List Value} (h : w.ownsRow b e size v n xs) : ∃ A c, v = .slice A n c ∧ (n = 0 → A = none ∨ True) ∧ n ≤ c := by
  rcases h.2 with ⟨rfl, rfl⟩ | ⟨g, cap, cur, rfl, _, _, hnc, _⟩
  · exact ⟨none, 0, rfl, fun _ => .inl rfl, Nat.le_refl _⟩
  · exact ⟨_, cap, rfl, fun _ => .inr trivial, hnc⟩
section
variable {P : Program} {w : World}
theorem wl_append {ops : Array Oper} {rest : List Oper} {o : Oper} {a : Act} {Q : Exit → Act → World → Prop} (hgd : o.guard = none) (s x : Operand) (t : TypeId)
    (ho : o.op = .call { callee := .builtin .append, args := #[s, x], argTypes := #[t, t] })
    (base : Nat) {e : TypeId} {i : TypeInfo} {z : Value} {size bytes : Nat} (ht : P.underlying t = some (.slice e)) (hi : P.info? e = some i) (hz : i.zero = some z)
    (hsize : i.size = size) (hby : i.bytes = bytes) (hzs : z.cells.size = size) (hsz : 0 < size)
    {v : Value} {n : Nat} {xs : List Value} (hs : a.eval s = v) (hown : w.ownsRow base e size v n xs)
    {ad : Addr} {m c : Nat} (news : List Value) (hx : a.eval x = .slice (some ad) m c) (hl : news.length = m * size) (hnews : ∀ j u, news[j]? = some u → w.cell? (ad.add j) = some u) (h1 : ∀ u ∈ news, u.oneCell' = true)
    (hbytes : (n + m) * bytes ≤ 140737488355328) (hn : n + m ≤ 140737488355328) (hbase : base ≤ w.heap.size)
    (h : ∀ v' w', w'.ownsRow base e size v' (n + m) (xs ++ news) → Below base w w' → wpList P ops Q rest (a.put o.dst v') w') : wpList P ops Q (o :: rest) a w :=
  wpList_append_own _ hgd s x t ho base e i z size bytes ht hi hz hsize hby hzs hsz v n xs hs hown ad m c news hx hl hnews h1 (by unfold maxLen; omega) hbytes hbase
    fun v' w' h2 h3 _ => h v' w' h2 ((Below.refl _ _).grown h3 hbase fun k hk => (hown.lt k hk).1)
theorem wl_appendG {ops : Array Oper} {rest : List Oper} {o : Oper} {a : Act} {Q : Exit → Act → World → Prop} (hgd : o.guard = none) (s x : Operand) (t : TypeId)
    (ho : o.op = .call { callee := .builtin .append, args := #[s, x], argTypes := #[t, t] })
    (base : Nat) {e : TypeId} {i : TypeInfo} {z : Value} {size bytes : Nat} (ht : P.underlying t = some (.slice e)) (hi : P.info? e = some i) (hz : i.zero = some z)
    (hsize : i.size = size) (hby : i.bytes = bytes) (hzs : z.cells.size = size) (hsz : 0 < size)
    {v : Value} {n : Nat} {xs : List Value} (hs : a.eval s = v) (hown : w.ownsRow base e size v n xs)
    {ad : Addr} {m c : Nat} (news : List Value) (hx : a.eval x = .slice (some ad) m c) (hl : news.length = m * size) (hnews : ∀ j u, news[j]? = some u → w.cell? (ad.add j) = some u) (h1 : ∀ u ∈ news, u.oneCell' = true)
    (hbytes : (n + m) * bytes ≤ 140737488355328) (hn : n + m ≤ 140737488355328) (hbase : base ≤ w.heap.size)
    (h : ∀ v' w', w'.ownsRow base e size v' (n + m) (xs ++ news) → Below base w w' → w.grownBy w' v.ownBlock → wpList P ops Q rest (a.put o.dst v') w') : wpList P ops Q (o :: rest) a w :=
  wpList_append_own _ hgd s x t ho base e i z size bytes ht hi hz hsize hby hzs hsz v n xs hs hown ad m c news hx hl hnews h1 (by unfold maxLen; omega) hbytes hbase
    fun v' w' h2 h3 _ => h v' w' h2 ((Below.refl _ _).grown h3 hbase fun k hk => (hown.lt k hk).1) h3
end
end Go.Proofs.Ytijmggoikieelaa
/-
  The walk by small laws: the frame as a list of values, each operation's law by itself. Nothing here names a function of the program.
-/
namespace Go.Proofs.Ytijmggoikieelaa
open Go.RowKit

/-! The frame. -/
def nth : List Value → Nat → Option Value
  | [], _ => none
  | a :: _, 0 => some a
  | _ :: l, n + 1 => nth l n
theorem nth_eq : ∀ (l : List Value) (n : Nat), nth l n = l[n]?
  | [], _ => by simp [nth]
  | a :: l, 0 => by simp [nth]
  | a :: l, n + 1 => by simp [nth, nth_eq l n]
/-- a frame: what it began with, and what has been put into it since -/
inductive Fm where
  | base (l : List Value)
  | upd (f : Fm) (d : Nat) (v : Value)
def Fm.toList : Fm → List Value
  | .base l => l
  | .upd f d v => f.toList.set d v
def Fm.arr (f : Fm) : Array Value := f.toList.toArray
def fnth : Fm → Nat → Option Value
  | .base l, t => nth l t
  | .upd f d v, t => bif Nat.beq t d then (match fnth f d with | some _ => some v | none => none) else fnth f t
theorem fnth_eq : ∀ (f : Fm) (t : Nat), fnth f t = f.toList[t]?
  | .base l, t => nth_eq l t
  | .upd f d v, t => by
    simp only [fnth, Fm.toList, fnth_eq f]
    by_cases h : t = d
    · subst h
      have hb : Nat.beq t t = true := Nat.beq_refl t
      simp only [hb, cond_true]
      by_cases hl : t < f.toList.length
      · simp [hl]
      · simp [hl]
    · have hb : Nat.beq t d = false := by
        cases hq : Nat.beq t d with
        | false => rfl
        | true => exact absurd (Nat.eq_of_beq_eq_true hq) h
      simp only [hb, cond_false]
      rw [List.getElem?_set_ne (fun e => h e.symm)]
def lk (l : Fm) : Operand → Option Value
  | .tmp t => fnth l t
  | .const v => some v
  | .global g => some (.pointer (some ⟨g, 0, none⟩))
  | .func f => some (.func (.func f) #[] #[])
theorem lk_eval {l : Fm} {ds : List Deferred} {x : Operand} {v : Value} (h : lk l x = some v) : (Act.mk l.arr ds).eval x = v := by
  cases x with
  | tmp t =>
    simp only [lk, fnth_eq] at h
    simp only [Act.eval, Fm.arr]
    rw [Array.getD_eq_getD_getElem?, List.getElem?_toArray, h]; rfl
  | const u => simpa [lk, Act.eval] using h
  | global g => simpa [lk, Act.eval] using h
  | func f => simpa [lk, Act.eval] using h
theorem put_mk {l : Fm} {ds : List Deferred} {d : Nat} {v : Value} : (Act.mk l.arr ds).put (some d) v = Act.mk (l.upd d v).arr ds := by
  simp [Act.put, Fm.arr, Fm.toList]
theorem norm_K {K : Act → World → Prop} {f : Fm} {l' : List Value} {ds : List Deferred} {w : World} (h : f.toList = l') (k : K ⟨(Fm.base l').arr, ds⟩ w) : K ⟨f.arr, ds⟩ w := by
  subst h; exact k

theorem run_v {P : Program} {s : Sem Value} {w w' : World} {v : Value} (h : s.run P w = .ok v w') : (s >>= fun x => (pure (Next.value x) : Sem Next)).run P w = .ok (.value v) w' := by
  rw [Sem.run_bind, h]; rfl
theorem run_u {P : Program} {s : Sem Unit} {w w' : World} (h : s.run P w = .ok () w') : (s >>= fun _ => (pure Next.skip : Sem Next)).run P w = .ok .skip w' := by
  rw [Sem.run_bind, h]; rfl
def nthO : List Oper → Nat → Option Oper
  | [], _ => none
  | a :: _, 0 => some a
  | _ :: l, n + 1 => nthO l n
theorem nthO_eq : ∀ (l : List Oper) (n : Nat), nthO l n = l[n]?
  | [], _ => by simp [nthO]
  | a :: l, 0 => by simp [nthO]
  | a :: l, n + 1 => by simp [nthO, nthO_eq l n]
/-- is the operation wanted (its guard)? -/
def wantF (ops : Array Oper) (l : Fm) (o : Oper) : Bool := match o.guard with
  | none => true
  | some (j, want) => match nthO ops.toList j with
    | none => false
    | some oj => match oj.dst with
      | none => false
      | some d => match fnth l d with
        | some (.bool b) => bif want then b else !b
        | _ => false
theorem wantF_eq {ops : Array Oper} {l : Fm} {o : Oper} : Region.wanted o (yielded ops l.arr) = wantF ops l o := by
  unfold Region.wanted wantF
  cases hg : o.guard with
  | none => rfl
  | some p =>
    obtain ⟨j, want⟩ := p
    simp only [yielded, nthO_eq, Array.getElem?_toList]
    cases hj : ops[j]? with
    | none => rfl
    | some oj =>
      simp only [Option.bind_some]
      cases hd : oj.dst with
      | none => rfl
      | some d =>
        simp only [Option.bind_some, fnth_eq, Fm.arr, List.getElem?_toArray]
        cases hv : l.toList[d]? with
        | none => rfl
        | some v => cases v with
          | bool b => cases b <;> cases want <;> rfl
          | _ => rfl
/-- the operation yields v and leaves the world alone -/
def Ex (P : Program) (l : Fm) (ds : List Deferred) (o : Oper) (w : World) (v : Value) : Prop := (execOp (Act.mk l.arr ds).eval o).run P w = .ok (.value v) w

section
variable {P : Program} {ops : Array Oper} {Q : Exit → Act → World → Prop} {rest : List Oper} {o : Oper} {l : Fm} {ds : List Deferred} {w : World}
/-- a list of operations still to come, in a frame -/
structure WL (P : Program) (ops : Array Oper) (Q : Exit → Act → World → Prop) (rest : List Oper) (l : Fm) (ds : List Deferred) (w : World) : Prop where
  out : wpList P ops Q rest ⟨l.arr, ds⟩ w
/-- the next operation, if its guard wants it -/
structure SStep (P : Program) (ops : Array Oper) (Q : Exit → Act → World → Prop) (rest : List Oper) (o : Oper) (l : Fm) (ds : List Deferred) (w : World) : Prop where
  run : wantF ops l o = true → WL P ops Q (o :: rest) l ds w
structure SNay (P : Program) (ops : Array Oper) (Q : Exit → Act → World → Prop) (rest : List Oper) (o : Oper) (l : Fm) (ds : List Deferred) (w : World) : Prop where
  run : wantF ops l o = false → WL P ops Q (o :: rest) l ds w
theorem S_yes (hw : wantF ops l o = true) (h : SStep P ops Q rest o l ds w) : WL P ops Q (o :: rest) l ds w := h.run hw
theorem S_nay (hw : wantF ops l o = false) (h : SNay P ops Q rest o l ds w) : WL P ops Q (o :: rest) l ds w := h.run hw
theorem WL_nil (h : Q .normal ⟨l.arr, ds⟩ w) : WL P ops Q [] l ds w := ⟨h⟩
theorem W_region {id : Nat} {l' : List Oper} (h : WL P l'.toArray Q l' l ds w) : (Code.region id l'.toArray false).wp P Q ⟨l.arr, ds⟩ w := wp_region_lit h.out
theorem S_of (h : o.wp P ⟨l.arr, ds⟩ w (wpList P ops Q rest) Q) : SStep P ops Q rest o l ds w := ⟨fun hw => ⟨by
  unfold wpList
  rw [if_pos (wantF_eq.trans hw)]
  exact .inl h⟩⟩
theorem S_ok {d : Nat} {v : Value} {w' : World} (hd : o.dst = some d) (he : (execOp (Act.mk l.arr ds).eval o).run P w = .ok (.value v) w')
    (k : WL P ops Q rest (l.upd d v) ds w') : SStep P ops Q rest o l ds w := S_of (by
  unfold Oper.wp
  rw [he]
  show wpList P ops Q rest _ w'
  rw [hd, put_mk]
  exact k.out)
theorem S_sk {w' : World} (hd : o.dst = none) (he : (execOp (Act.mk l.arr ds).eval o).run P w = .ok .skip w')
    (k : WL P ops Q rest l ds w') : SStep P ops Q rest o l ds w := S_of (by
  unfold Oper.wp
  rw [he]
  show wpList P ops Q rest _ w'
  rw [hd]
  exact k.out)
theorem S_ok0 {v : Value} {w' : World} (hd : o.dst = none) (he : (execOp (Act.mk l.arr ds).eval o).run P w = .ok (.value v) w')
    (k : WL P ops Q rest l ds w') : SStep P ops Q rest o l ds w := S_of (by
  unfold Oper.wp
  rw [he]
  show wpList P ops Q rest _ w'
  rw [hd]
  exact k.out)
theorem S_ex {d : Nat} {v : Value} (hd : o.dst = some d) (he : Ex P l ds o w v) (k : WL P ops Q rest (l.upd d v) ds w) : SStep P ops Q rest o l ds w := S_ok hd he k
theorem S_no {d : Nat} (hd : o.dst = some d) (k : WL P ops Q rest (l.upd d undef) ds w) : SNay P ops Q rest o l ds w := ⟨fun hw => ⟨by
  unfold wpList
  rw [if_neg (by rw [wantF_eq, hw]; exact Bool.false_ne_true), hd, put_mk]
  exact k.out⟩⟩
theorem S_no0 (hd : o.dst = none) (k : WL P ops Q rest l ds w) : SNay P ops Q rest o l ds w := ⟨fun hw => ⟨by
  unfold wpList
  rw [if_neg (by rw [wantF_eq, hw]; exact Bool.false_ne_true), hd]
  exact k.out⟩⟩
/-- a call that returns -/
def CallsR (P : Program) (f : FuncId) (args : Array Value) (w : World) (R : Value → World → Prop) : Prop := Calls P f args w fun e w' => ∃ v, e = .returned v ∧ R v w'
theorem CallsR.mono {f : FuncId} {args : Array Value} {R R' : Value → World → Prop} (h : CallsR P f args w R) (hr : ∀ v w', R v w' → R' v w') : CallsR P f args w R' :=
  Calls.mono h fun _ w' ⟨v, he, hv⟩ => ⟨v, he, hr v w' hv⟩
/-- the function has a body -/
def enterB (P : Program) (f : FuncId) : Bool := match P.funcs[f]? with | some fn => !(fn.name == "runtime.NumGoroutine") && fn.body.isSome | none => false
theorem callFunc_run {f : FuncId} {args : Array Value} (hb : enterB P f = true) : (callFunc f args).run P w = .ok (.enter f args) w := by
  unfold enterB at hb
  cases hf : P.funcs[f]? with
  | none => rw [hf] at hb; cases hb
  | some fn =>
    rw [hf] at hb
    simp only [Bool.and_eq_true, Bool.not_eq_true', beq_eq_false_iff_ne] at hb
    have h2 : ¬ fn.body = none := fun h => by rw [h] at hb; cases hb.2
    simp [callFunc, go_sem, hf, hb.1, h2]
end
end Go.Proofs.Ytijmggoikieelaa
/-
  The laws of single operations that leave the world alone. Nothing here names a function of the program.
-/
namespace Go.Proofs.Ytijmggoikieelaa
open Go.RowKit

section
variable {P : Program} {o : Oper} {l : Fm} {ds : List Deferred} {w : World} {x y z : Operand} {t t' : TypeId} {k : IntKind} {m n : Int}

theorem x_move {v : Value} (ho : o.op = .move x) (hx : lk l x = some v) : Ex P l ds o w v := by
  unfold Ex execOp; rw [ho]; simp only [lk_eval hx]; rfl
theorem x_assign {v : Value} (ho : o.op = .assign x) (hx : lk l x = some v) : Ex P l ds o w v := by
  unfold Ex execOp; rw [ho]; simp only [lk_eval hx]; rfl
theorem x_pick_t {u : Value} (ho : o.op = .pick x y z) (hx : lk l x = some (.bool true)) (hy : lk l y = some u) : Ex P l ds o w u := by
  unfold Ex execOp; rw [ho]; simp only [lk_eval hx, lk_eval hy]; rfl
theorem x_pick_f {v : Value} (ho : o.op = .pick x y z) (hx : lk l x = some (.bool false)) (hz : lk l z = some v) : Ex P l ds o w v := by
  unfold Ex execOp; rw [ho]; simp only [lk_eval hx, lk_eval hz]; rfl
theorem x_bin {op : BinOp} {a b v : Value} (ho : o.op = .binOp op t x y t') (hx : lk l x = some a) (hy : lk l y = some b) (hg : (eqGuard op t x y a b).run P w = .ok () w) (hv : (binOp op t a b).run P w = .ok v w) : Ex P l ds o w v := by
  unfold Ex execOp; rw [ho]; simp only [lk_eval hx, lk_eval hy]
  simp [go_sem, hg, hv]
theorem x_int {op : BinOp} {v : Value} (ho : o.op = .binOp op t x y t') (hx : lk l x = some (.int k m)) (hy : lk l y = some (.int k n)) (hv : (binOp op t (.int k m) (.int k n)).run P w = .ok v w) : Ex P l ds o w v := by
  refine x_bin ho hx hy ?_ hv
  cases op <;> rfl
/-- what an operator on two integers yields -/
structure BinS (P : Program) (op : BinOp) (k : IntKind) (m n : Int) (v : Value) : Prop where
  run : ∀ t w, (binOp op t (.int k m) (.int k n)).run P w = .ok v w
theorem B_add {r : Int} (hr : k.wrap (m + n) = r) : BinS P .add k m n (.int k r) := BinS.mk fun t w => (by simp [binOp, Op.intArith, hr, go_sem])
theorem B_sub {r : Int} (hr : k.wrap (m - n) = r) : BinS P .sub k m n (.int k r) := BinS.mk fun t w => (by simp [binOp, Op.intArith, hr, go_sem])
theorem B_mul {r : Int} (hr : k.wrap (m * n) = r) : BinS P .mul k m n (.int k r) := BinS.mk fun t w => (by simp [binOp, Op.intArith, hr, go_sem])
theorem B_eq_t (h : m = n) : BinS P .eql k m n (.bool true) := BinS.mk fun t w => (by simp [binOp, Op.intCmp, h, go_sem])
theorem B_eq_f (h : m ≠ n) : BinS P .eql k m n (.bool false) := BinS.mk fun t w => (by simp [binOp, Op.intCmp, h, go_sem])
theorem B_eq : BinS P .eql k m n (.bool (decide (m = n))) := BinS.mk fun t w => (by simp only [binOp, Op.intCmp]; by_cases h : m = n <;> simp [h, go_sem])
theorem B_ne_t (h : m ≠ n) : BinS P .neq k m n (.bool true) := BinS.mk fun t w => (by simp [binOp, Op.intCmp, h, go_sem])
theorem B_ne_f (h : m = n) : BinS P .neq k m n (.bool false) := BinS.mk fun t w => (by simp [binOp, Op.intCmp, h, go_sem])
theorem B_ne : BinS P .neq k m n (.bool (decide (m ≠ n))) := BinS.mk fun t w => (by simp only [binOp, Op.intCmp]; by_cases h : m = n <;> simp [h, go_sem])
theorem B_lt_t (h : m < n) : BinS P .lss k m n (.bool true) := BinS.mk fun t w => (by simp [binOp, Op.intCmp, h, go_sem])
theorem B_lt_f (h : ¬ m < n) : BinS P .lss k m n (.bool false) := BinS.mk fun t w => (by simp [binOp, Op.intCmp, h, go_sem])
theorem B_lt : BinS P .lss k m n (.bool (decide (m < n))) := BinS.mk fun t w => (by simp [binOp, Op.intCmp, go_sem])
theorem B_le_t (h : m ≤ n) : BinS P .leq k m n (.bool true) := BinS.mk fun t w => (by simp [binOp, Op.intCmp, h, go_sem])
theorem B_le_f (h : ¬ m ≤ n) : BinS P .leq k m n (.bool false) := BinS.mk fun t w => (by simp [binOp, Op.intCmp, h, go_sem])
theorem B_le : BinS P .leq k m n (.bool (decide (m ≤ n))) := BinS.mk fun t w => (by simp [binOp, Op.intCmp, go_sem])
theorem B_gt_t (h : n < m) : BinS P .gtr k m n (.bool true) := BinS.mk fun t w => (by simp [binOp, Op.intCmp, h, go_sem])
theorem B_gt_f (h : ¬ n < m) : BinS P .gtr k m n (.bool false) := BinS.mk fun t w => (by simp [binOp, Op.intCmp, h, go_sem])
theorem B_gt : BinS P .gtr k m n (.bool (decide (n < m))) := BinS.mk fun t w => (by simp [binOp, Op.intCmp, go_sem])
theorem B_ge_t (h : n ≤ m) : BinS P .geq k m n (.bool true) := BinS.mk fun t w => (by simp [binOp, Op.intCmp, h, go_sem])
theorem B_ge_f (h : ¬ n ≤ m) : BinS P .geq k m n (.bool false) := BinS.mk fun t w => (by simp [binOp, Op.intCmp, h, go_sem])
theorem B_ge : BinS P .geq k m n (.bool (decide (n ≤ m))) := BinS.mk fun t w => (by simp [binOp, Op.intCmp, go_sem])

/-! sums and differences that stay in range -/
theorem r_i64 {z : Int} (h : -9223372036854775808 ≤ z ∧ z ≤ 9223372036854775807) : IntKind.i64.wrap z = z := IntWalk.i64_in z h
theorem r_u8 {z : Int} (h : 0 ≤ z ∧ z ≤ 255) : IntKind.u8.wrap z = z := IntWalk.u8_in z h
theorem r_u64 {z : Int} (h : 0 ≤ z ∧ z ≤ 18446744073709551615) : IntKind.u64.wrap z = z := by
  simp [IntKind.wrap, IntKind.bits, IntKind.signed]; omega

/-! bits of bytes -/
theorem B_and8 {a b : Nat} (ha : a < 256) (hb : b < 256) : BinS P .and .u8 a b (.int .u8 ((a &&& b : Nat) : Int)) := BinS.mk fun t w => (by have h := u8_and_nat a b ha hb; rw [← h]; rfl)
theorem B_or8 {a b : Nat} (ha : a < 256) (hb : b < 256) : BinS P .or .u8 a b (.int .u8 ((a ||| b : Nat) : Int)) := BinS.mk fun t w => (by have h := u8_or_nat a b ha hb; rw [← h]; rfl)
theorem B_andNot8 {a b : Nat} (ha : a < 256) (hb : b < 256) : BinS P .andNot .u8 a b (.int .u8 ((a &&& (255 - b) : Nat) : Int)) := BinS.mk fun t w => (by have h := u8_andNot_nat a b ha hb; rw [← h]; rfl)

theorem ofInt_64 (z : Nat) (hz : z < 4611686018427387904) : (BitVec.ofInt 64 (z : Int)).toNat = z := by
  rw [BitVec.ofInt_natCast, BitVec.toNat_ofNat]; exact Nat.mod_eq_of_lt (by omega)
theorem B_and64 {a b : Nat} (ha : a < 4611686018427387904) (hb : b < 4611686018427387904) : BinS P .and .i64 a b (.int .i64 ((a &&& b : Nat) : Int)) := BinS.mk fun t w => (by
  show Result.ok (Value.int .i64 (IntKind.i64.wrap ((BitVec.ofInt 64 (a : Int) &&& BitVec.ofInt 64 (b : Int)).toNat : Int))) w = _
  have h : a &&& b < 4611686018427387904 := Nat.lt_of_le_of_lt Nat.and_le_left ha
  rw [BitVec.toNat_and, ofInt_64 a ha, ofInt_64 b hb, r_i64 (by omega)])
theorem B_or64 {a b : Nat} (ha : a < 4611686018427387904) (hb : b < 4611686018427387904) : BinS P .or .i64 a b (.int .i64 ((a ||| b : Nat) : Int)) := BinS.mk fun t w => (by
  show Result.ok (Value.int .i64 (IntKind.i64.wrap ((BitVec.ofInt 64 (a : Int) ||| BitVec.ofInt 64 (b : Int)).toNat : Int))) w = _
  have h : a ||| b < 4611686018427387904 := Nat.or_lt_two_pow (n := 62) ha hb
  rw [BitVec.toNat_or, ofInt_64 a ha, ofInt_64 b hb, r_i64 (by omega)])

/-! unary -/
theorem x_not {b : Bool} {t : TypeId} (ho : o.op = .unOp .not t x) (hx : lk l x = some (.bool b)) : Ex P l ds o w (.bool (!b)) := by
  unfold Ex execOp; rw [ho]; simp only [lk_eval hx]; rfl
theorem x_not_t {t : TypeId} (ho : o.op = .unOp .not t x) (hx : lk l x = some (.bool true)) : Ex P l ds o w (.bool false) := x_not ho hx
theorem x_not_f {t : TypeId} (ho : o.op = .unOp .not t x) (hx : lk l x = some (.bool false)) : Ex P l ds o w (.bool true) := x_not ho hx

/-! conversions of integers -/
theorem x_conv {k' : IntKind} {r : Int} (ho : o.op = .convert t t' x) (ht : P.underlying t = some (.int k)) (ht' : P.underlying t' = some (.int k')) (hx : lk l x = some (.int k m)) (hr : k'.wrap m = r) : Ex P l ds o w (.int k' r) := by
  unfold Ex execOp; rw [ho]; simp only [lk_eval hx]
  simp [convert, underlying, go_sem, ht, ht', Conv.intToInt, hr]

theorem x_bins {op : BinOp} {v : Value} (ho : o.op = .binOp op t x y t') (hx : lk l x = some (.int k m)) (hy : lk l y = some (.int k n)) (hv : BinS P op k m n v) : Ex P l ds o w v := x_int ho hx hy (hv.run t w)
/-! shifts -/
theorem x_shl1_64 {k' : IntKind} {n : Nat} (ho : o.op = .binOp .shl t x y t') (hx : lk l x = some (.int .i64 1)) (hy : lk l y = some (.int k' n)) (hn : n ≤ 62) : Ex P l ds o w (.int .i64 ((two n : Nat) : Int)) := by
  refine x_bin ho hx hy rfl ?_
  have h1 : min n 64 = n := by omega
  have h2 : (2 : Int) ^ n = ((two n : Nat) : Int) := by simp [two]
  have h3 : two n ≤ 4611686018427387904 := Nat.pow_le_pow_right (n := 2) (i := n) (j := 62) (by omega) hn
  have h4 : ¬ ((n : Int) < 0) := by omega
  simp only [binOp, Op.shift, if_neg h4, Int.toNat_natCast, IntKind.bits, h1, Int.one_mul, h2]
  rw [r_i64 (by omega)]; rfl
theorem x_shl1_8 {k' : IntKind} {n : Nat} (ho : o.op = .binOp .shl t x y t') (hx : lk l x = some (.int .u8 1)) (hy : lk l y = some (.int k' n)) (hn : n ≤ 7) : Ex P l ds o w (.int .u8 ((two n : Nat) : Int)) := by
  refine x_bin ho hx hy rfl ?_
  have h1 : min n 8 = n := by omega
  have h2 : (2 : Int) ^ n = ((two n : Nat) : Int) := by simp [two]
  have h3 : two n ≤ 128 := Nat.pow_le_pow_right (n := 2) (i := n) (j := 7) (by omega) hn
  have h4 : ¬ ((n : Int) < 0) := by omega
  simp only [binOp, Op.shift, if_neg h4, Int.toNat_natCast, IntKind.bits, h1, Int.one_mul, h2]
  rw [r_u8 (by omega)]; rfl
theorem x_shr_nat {k' : IntKind} {a n : Nat} (ho : o.op = .binOp .shr t x y t') (hx : lk l x = some (.int k a)) (hy : lk l y = some (.int k' n)) (hn : n ≤ k.bits) : Ex P l ds o w (.int k ((a / two n : Nat) : Int)) := by
  refine x_bin ho hx hy rfl ?_
  have h1 : min n k.bits = n := by omega
  have h2 : (2 : Int) ^ n = ((two n : Nat) : Int) := by simp [two]
  have h4 : ¬ ((n : Int) < 0) := by omega
  simp only [binOp, Op.shift, if_neg h4, Int.toNat_natCast, h1, h2]
  rw [Int.fdiv_eq_ediv_of_nonneg _ (by omega), ← Int.natCast_ediv]; rfl
theorem x_shl_nat64 {k' : IntKind} {a n : Nat} (ho : o.op = .binOp .shl t x y t') (hx : lk l x = some (.int .i64 a)) (hy : lk l y = some (.int k' n)) (hn : n ≤ 62) (ha : a * two n ≤ 9223372036854775807) : Ex P l ds o w (.int .i64 ((a * two n : Nat) : Int)) := by
  refine x_bin ho hx hy rfl ?_
  have h1 : min n 64 = n := by omega
  have h2 : (2 : Int) ^ n = ((two n : Nat) : Int) := by simp [two]
  have h4 : ¬ ((n : Int) < 0) := by omega
  simp only [binOp, Op.shift, if_neg h4, Int.toNat_natCast, IntKind.bits, h1, h2]
  rw [← Int.natCast_mul, r_i64 (by omega)]; rfl
theorem B_rem {a b : Nat} (hb : (b : Int) ≠ 0) : BinS P .rem k a b (.int k ((a % b : Nat) : Int)) := BinS.mk fun t w => (by simp only [binOp]; simp only [Op.intDiv, if_neg hb, ne_eq, not_true, if_false]; rw [Int.tmod_eq_emod_of_nonneg (by omega), ← Int.natCast_emod]; rfl)

theorem B_mod2 {a : Nat} : BinS P .rem k a 2 (.int k ((a % 2 : Nat) : Int)) := B_rem (a := a) (b := 2) (by omega)

/-! tuples, fields, built values -/
theorem x_extract {vs : Array Value} {i : Nat} {v : Value} (ho : o.op = .extract x i) (hx : lk l x = some (.tuple vs)) (hv : nth vs.toList i = some v) : Ex P l ds o w v := by
  unfold Ex execOp; rw [ho]; simp only [lk_eval hx]
  have : vs[i]? = some v := by rw [nth_eq] at hv; simpa using hv
  simp [Instr.extract, this, go_sem]
def flatT (P : Program) (t : TypeId) : Bool := match P.underlying t with | some (.struct _) => false | some (.array _ _) => false | some _ => true | none => false
theorem isAgg_flat (h : flatT P t = true) : (isAgg t).run P w = .ok false w := by
  unfold flatT at h
  cases hu : P.underlying t with
  | none => rw [hu] at h; cases h
  | some d => cases d <;> simp [isAgg, underlying, go_sem, hu] <;> (rw [hu] at h; cases h)
theorem x_field {cs : Array Value} {fs : Array Field} {f : Field} {i : Nat} {v : Value} (ho : o.op = .field t x i) (ht : P.underlying t = some (.struct fs)) (hf : fs.toList[i]? = some f) (hft : flatT P f.type = true)
    (hx : lk l x = some (.agg cs)) (hv : nth cs.toList f.offset = some v) : Ex P l ds o w v := by
  unfold Ex execOp; rw [ho]; simp only [lk_eval hx]
  have h1 : cs[f.offset]? = some v := by rw [nth_eq] at hv; simpa using hv
  have h2 : fs[i]? = some f := by simpa using hf
  simp [Instr.field, underlying, go_sem, ht, h2, part, isAgg_flat hft, asAgg, h1]
theorem x_nilCheck {a : Addr} (ho : o.op = .nilCheck x) (hx : lk l x = some (.pointer (some a))) : Ex P l ds o w (.pointer (some a)) := by
  unfold Ex execOp; rw [ho]; simp only [lk_eval hx]; rfl
theorem x_nilCheckF {f : FuncId} {ar cs : Array Value} (ho : o.op = .nilCheck x) (hx : lk l x = some (.func (.func f) ar cs)) : Ex P l ds o w (.func (.func f) ar cs) := by
  unfold Ex execOp; rw [ho]; simp only [lk_eval hx]; rfl
theorem x_lenSl {A : Option Addr} {n c : Nat} {e : TypeId} {ar : Array Operand} {ts : Array TypeId} (ho : o.op = .call { callee := .builtin .len, args := ar, argTypes := ts }) (ha : ar.toList = [x]) (hts : ts.toList = [t])
    (ht : P.underlying t = some (.slice e)) (hx : lk l x = some (.slice A n c)) : Ex P l ds o w (.int .i64 n) := by
  obtain rfl : ar = #[x] := by cases ar; simp_all
  obtain rfl : ts = #[t] := by cases ts; simp_all
  have e := lk_eval (ds := ds) hx
  unfold Ex
  generalize (Act.mk l.arr ds).eval = ρ at e ⊢
  unfold execOp; rw [ho]
  simp [resolve, invoke, builtin, Builtin.len_, underlying, go_sem, e, ht, goInt]
theorem x_lenStr {b : ByteArray} {r : Nat} {ar : Array Operand} {ts : Array TypeId} (ho : o.op = .call { callee := .builtin .len, args := ar, argTypes := ts }) (ha : ar.toList = [x]) (hts : ts.toList = [t])
    (ht : P.underlying t = some .string) (hx : lk l x = some (.string b)) (hr : b.size = r) : Ex P l ds o w (.int .i64 r) := by
  obtain rfl : ar = #[x] := by cases ar; simp_all
  obtain rfl : ts = #[t] := by cases ts; simp_all
  have e := lk_eval (ds := ds) hx
  unfold Ex
  generalize (Act.mk l.arr ds).eval = ρ at e ⊢
  unfold execOp; rw [ho]
  simp [resolve, invoke, builtin, Builtin.len_, underlying, go_sem, e, ht, goInt, hr]
end
end Go.Proofs.Ytijmggoikieelaa
/-
  Memory as a list of known resources, each in one block, apart from one another; the rest is as it was. Nothing here names a function of the program.
-/
namespace Go.Proofs.Ytijmggoikieelaa
open Go.RowKit

/-- Of what w0 held nothing has turned in w but in the blocks of F. -/
structure Fr (F : Nat → Prop) (w0 w : World) : Prop where
  os : w.os = w0.os
  tape : w.tape = w0.tape
  output : w.output = w0.output
  size : w0.heap.size ≤ w.heap.size
  keep : ∀ b, b < w0.heap.size → ¬ F b → w.heap[b]? = w0.heap[b]?
/-- no block -/
def Nof : Nat → Prop := fun _ => False
theorem Fr.refl (F : Nat → Prop) (w : World) : Fr F w w := ⟨rfl, rfl, rfl, Nat.le_refl _, fun _ _ _ => rfl⟩
theorem Fr.trans {F : Nat → Prop} {a b c : World} (h : Fr F a b) (k : Fr F b c) : Fr F a c :=
  ⟨k.os.trans h.os, k.tape.trans h.tape, k.output.trans h.output, Nat.le_trans h.size k.size, fun i hi hF => (k.keep i (Nat.lt_of_lt_of_le hi h.size) hF).trans (h.keep i hi hF)⟩
theorem Fr.mono {F G : Nat → Prop} {a b : World} (h : Fr F a b) (hg : ∀ i, i < a.heap.size → F i → G i) : Fr G a b :=
  ⟨h.os, h.tape, h.output, h.size, fun i hi hG => h.keep i hi fun hF => hG (hg i hi hF)⟩
theorem Fr.below {w w' : World} (h : Fr Nof w w') : Below w.heap.size w w' := ⟨h.os, h.tape, h.output, h.size, fun i hi => h.keep i hi fun h => h⟩
theorem Fr.of {w w' : World} (h : Below w.heap.size w w') : Fr Nof w w' := ⟨h.os, h.tape, h.output, h.size, fun i hi _ => h.block i hi⟩
theorem Fr.drewN (w : World) (n : Nat) : Fr Nof w (w.drewN n) := ⟨rfl, rfl, rfl, Nat.le_refl _, fun _ _ _ => rfl⟩
theorem Fr.alloc (w : World) (o : Obj) : Fr Nof w (w.alloc o) := Fr.of ((Below.refl _ _).alloc (Nat.le_refl _) o)

/-- something that holds of one block of memory -/
structure Res where
  fp : Option Nat
  ro : Bool
  holds : World → Prop
  loc : ∀ {w w' : World}, holds w → (∀ b, fp = some b → w'.heap[b]? = w.heap[b]?) → holds w'
  lt : ∀ {w : World}, holds w → ∀ b, fp = some b → b < w.heap.size
def Res.apart (r s : Res) : Prop := (r.ro = true ∧ s.ro = true) ∨ ∀ b, r.fp = some b → s.fp = some b → False
theorem Res.apart_symm {r s : Res} (h : r.apart s) : s.apart r := h.elim (fun h => .inl ⟨h.2, h.1⟩) (fun h => .inr fun b h1 h2 => h b h2 h1)

/-- the state of memory in a walk -/
structure St (F : Nat → Prop) (w0 : World) (rs : List Res) (w : World) : Prop where
  fr : Fr F w0 w
  all : ∀ r ∈ rs, r.holds w
  apart : rs.Pairwise Res.apart
  own : ∀ r ∈ rs, r.ro = false → ∀ b, r.fp = some b → F b ∨ w0.heap.size ≤ b

section
variable {F : Nat → Prop} {w0 w w' : World} {rs rs' : List Res} {r r' : Res}
theorem St.start (F : Nat → Prop) (w : World) : St F w [] w := ⟨Fr.refl _ _, fun _ h => (by cases h), List.Pairwise.nil, fun _ h => (by cases h)⟩
/-- read-only memory of the start -/
theorem St.addRo (h : St F w0 rs w) (hr : r.holds w) (hro : r.ro = true) (ha : ∀ s ∈ rs, s.ro = false → ∀ b, r.fp = some b → s.fp = some b → False) : St F w0 (r :: rs) w := by
  refine ⟨h.fr, fun s hs => ?_, List.pairwise_cons.2 ⟨fun s hs => ?_, h.apart⟩, fun s hs hn b hb => ?_⟩
  · rcases List.mem_cons.1 hs with rfl | hs
    · exact hr
    · exact h.all s hs
  · cases hs2 : s.ro with
    | true => exact .inl ⟨hro, hs2⟩
    | false => exact .inr (ha s hs hs2)
  · rcases List.mem_cons.1 hs with rfl | hs
    · rw [hro] at hn; cases hn
    · exact h.own s hs hn b hb
theorem St.drop (h : St F w0 (r :: rs) w) : St F w0 rs w := ⟨h.fr, fun s hs => h.all s (List.mem_cons_of_mem _ hs), (List.pairwise_cons.1 h.apart).2, fun s hs => h.own s (List.mem_cons_of_mem _ hs)⟩
theorem St.get (h : St F w0 rs w) (hm : r ∈ rs) : r.holds w := h.all r hm
theorem St.sub (h : St F w0 rs w) (hs : rs'.Sublist rs) : St F w0 rs' w := ⟨h.fr, fun s hm => h.all s (hs.subset hm), h.apart.sublist hs, fun s hm => h.own s (hs.subset hm)⟩
/-- what a call leaves that turned nothing -/
theorem St.call (h : St F w0 rs w) (hf : Fr Nof w w') : St F w0 rs w' := by
  refine ⟨h.fr.trans (hf.mono fun _ _ h => h.elim), fun s hs => (s.loc (h.all s hs)) fun b hb => hf.keep b (s.lt (h.all s hs) b hb) fun h => h, h.apart, h.own⟩
/-- a new resource -/
theorem St.fresh (h : St F w0 rs w) (hf : Fr Nof w w') (hr : r.holds w') (hb : ∀ b, r.fp = some b → w.heap.size ≤ b) : St F w0 (r :: rs) w' := by
  have h' := h.call hf
  refine ⟨h'.fr, fun s hs => ?_, List.pairwise_cons.2 ⟨fun s hs => .inr fun b h1 h2 => ?_, h'.apart⟩, fun s hs hn b hb' => ?_⟩
  · rcases List.mem_cons.1 hs with rfl | hs
    · exact hr
    · exact h'.all s hs
  · have := s.lt (h.all s hs) b h2
    have := hb b h1
    omega
  · rcases List.mem_cons.1 hs with rfl | hs
    · exact .inr (Nat.le_trans h.fr.size (hb b hb'))
    · exact h'.own s hs hn b hb'
theorem St.addNone (h : St F w0 rs w) (hr : r.holds w) (hfp : r.fp = none) : St F w0 (r :: rs) w := h.fresh (Fr.refl _ _) hr fun b hb => by rw [hfp] at hb; cases hb
/-- one resource turned into another -/
inductive Upd (r r' : Res) : List Res → List Res → Prop
  | here {rs : List Res} : Upd r r' (r :: rs) (r' :: rs)
  | there {s : Res} {rs rs' : List Res} : Upd r r' rs rs' → Upd r r' (s :: rs) (s :: rs')
theorem Upd.mem (h : Upd r r' rs rs') : r ∈ rs := by
  induction h with
  | here => exact List.mem_cons_self ..
  | there _ ih => exact List.mem_cons_of_mem _ ih
theorem Upd.mem' (h : Upd r r' rs rs') : ∀ s ∈ rs', s = r' ∨ s ∈ rs := by
  induction h with
  | here => intro s hs; rcases List.mem_cons.1 hs with rfl | hs
            · exact .inl rfl
            · exact .inr (List.mem_cons_of_mem _ hs)
  | there _ ih => intro s hs; rcases List.mem_cons.1 hs with rfl | hs
                  · exact .inr (List.mem_cons_self ..)
                  · exact (ih s hs).imp id (List.mem_cons_of_mem _)
/-- apart from r' (where r stood) all is as it was -/
theorem Upd.rest (hu : Upd r r' rs rs') (hap : rs.Pairwise Res.apart) (hro : r.ro = false) : ∀ s ∈ rs', s = r' ∨ (s ∈ rs ∧ ∀ b, r.fp = some b → s.fp = some b → False) := by
  have key : ∀ a b : Res, a.apart b → a.ro = false ∨ b.ro = false → ∀ i, a.fp = some i → b.fp = some i → False := fun a b h hn i h1 h2 => by
    rcases h with ⟨h3, h4⟩ | h
    · rcases hn with hn | hn
      · rw [hn] at h3; cases h3
      · rw [hn] at h4; cases h4
    · exact h i h1 h2
  induction hu with
  | here =>
    intro s hs
    rcases List.mem_cons.1 hs with rfl | hs
    · exact .inl rfl
    · exact .inr ⟨List.mem_cons_of_mem _ hs, key _ _ ((List.pairwise_cons.1 hap).1 s hs) (.inl hro)⟩
  | there hu ih =>
    intro s hs
    obtain ⟨h1, h2⟩ := List.pairwise_cons.1 hap
    rcases List.mem_cons.1 hs with rfl | hs
    · exact .inr ⟨List.mem_cons_self .., fun b hb1 hb2 => key _ _ (h1 _ hu.mem) (.inr hro) b hb2 hb1⟩
    · exact (ih h2 s hs).imp id fun ⟨h3, h4⟩ => ⟨List.mem_cons_of_mem _ h3, h4⟩
theorem Upd.apart (hu : Upd r r' rs rs') (hap : rs.Pairwise Res.apart) (hr : ∀ s ∈ rs, (r.apart s → r'.apart s)) : rs'.Pairwise Res.apart := by
  induction hu with
  | here =>
    obtain ⟨h1, h2⟩ := List.pairwise_cons.1 hap
    exact List.pairwise_cons.2 ⟨fun s hs => hr s (List.mem_cons_of_mem _ hs) (h1 s hs), h2⟩
  | there hu ih =>
    obtain ⟨h1, h2⟩ := List.pairwise_cons.1 hap
    refine List.pairwise_cons.2 ⟨fun s hs => ?_, ih h2 fun s hs => hr s (List.mem_cons_of_mem _ hs)⟩
    rcases hu.mem' s hs with rfl | hs
    · exact Res.apart_symm (hr _ (List.mem_cons_self ..) (Res.apart_symm (h1 _ hu.mem)))
    · exact h1 s hs
theorem St.upd (h : St F w0 rs w) (hu : Upd r r' rs rs') (hro : r.ro = false) (hf : Fr (fun b => r.fp = some b) w w') (hr : r'.holds w') (hfp : ∀ b, r'.fp = some b → r.fp = some b ∨ w.heap.size ≤ b) : St F w0 rs' w' := by
  have hrest := hu.rest h.apart hro
  have hown : ∀ b, r.fp = some b → F b ∨ w0.heap.size ≤ b := h.own r hu.mem hro
  refine ⟨?_, fun s hs => ?_, hu.apart h.apart fun s hs hap => ?_, fun s hs hn b hb => ?_⟩
  · refine ⟨hf.os.trans h.fr.os, hf.tape.trans h.fr.tape, hf.output.trans h.fr.output, Nat.le_trans h.fr.size hf.size, fun i hi hF => ?_⟩
    refine (hf.keep i (Nat.lt_of_lt_of_le hi h.fr.size) fun hx => ?_).trans (h.fr.keep i hi hF)
    rcases hown i hx with h1 | h1
    · exact hF h1
    · omega
  · rcases hrest s hs with rfl | ⟨hs, hne⟩
    · exact hr
    · exact s.loc (h.all s hs) fun b hb => hf.keep b (s.lt (h.all s hs) b hb) fun hx => hne b hx hb
  · refine .inr fun b h1 h2 => ?_
    have hlt := s.lt (h.all s hs) b h2
    rcases hfp b h1 with h3 | h3
    · rcases hap with ⟨h4, _⟩ | hap
      · rw [hro] at h4; cases h4
      · exact hap b h3 h2
    · omega
  · rcases hrest s hs with rfl | ⟨hs, _⟩
    · rcases hfp b hb with h3 | h3
      · exact hown b h3
      · exact .inr (Nat.le_trans h.fr.size h3)
    · exact h.own s hs hn b hb
end

/-! The resources. -/
/-- a block known whole -/
def Res.obj (b : Nat) (o : Obj) : Res where
  fp := some b
  ro := false
  holds w := w.heap[b]? = some o
  loc h hk := (hk b rfl).trans h
  lt h b' hb' := by cases hb'; exact (Array.getElem?_eq_some_iff.1 h).1
/-- a slice of memory that is read alone -/
def Res.rd (size : Nat) (A : Option Addr) (n : Nat) (xs : List Value) : Res where
  fp := if n = 0 then none else A.map (·.block)
  ro := true
  holds w := Rd w size A n xs
  loc {w w'} h hk := by
    refine ⟨h.1, fun hn => ?_⟩
    obtain ⟨ad, rfl, hb, hc⟩ := h.2 hn
    have hk' := hk ad.block (by rw [if_neg (by omega)]; rfl)
    have hlt : ad.block < w'.heap.size := by
      cases hq : w.heap[ad.block]? with
      | none => rw [Array.getElem?_eq_none_iff] at hq; omega
      | some q => rw [hq] at hk'; exact (Array.getElem?_eq_some_iff.1 hk').1
    exact ⟨ad, rfl, hlt, fun j u hu => (World.cell?_of_block (a := ad.add j) (by rw [add_block]; exact hk')).trans (hc j u hu)⟩
  lt {w} h b hb := by
    by_cases hn : n = 0
    · rw [if_pos hn] at hb; cases hb
    · rw [if_neg hn] at hb
      obtain ⟨ad, rfl, hlt, _⟩ := h.2 (by omega)
      simp at hb; omega
/-- a slice of one's own, to which one may append -/
def Res.row (e : TypeId) (size : Nat) (v : Value) (n : Nat) (xs : List Value) : Res where
  fp := v.ownBlock
  ro := false
  holds w := w.ownsRow 0 e size v n xs
  loc {w w'} h hk := by
    refine ⟨h.1, ?_⟩
    rcases h.2 with h2 | ⟨g, cap, cur, rfl, hg, hh, r⟩
    · exact .inl h2
    · exact .inr ⟨g, cap, cur, rfl, hg, (hk g rfl).trans hh, r⟩
  lt h b hb := (h.lt b hb).2
theorem row_nil (e : TypeId) (size : Nat) (w : World) : (Res.row e size (.slice none 0 0) 0 []).holds w := World.ownsRow_nil w 0 e size

section
variable {F : Nat → Prop} {w0 w w' : World} {rs rs' : List Res}
theorem St.new (h : St F w0 rs w) (o : Obj) : St F w0 (Res.obj w.heap.size o :: rs) (w.alloc o) := h.fresh (Fr.alloc w o) (heap_alloc_new w o) fun b hb => by cases hb; exact Nat.le_refl _
theorem St.rowNil (e : TypeId) (size : Nat) (h : St F w0 rs w) : St F w0 (Res.row e size (.slice none 0 0) 0 [] :: rs) w := h.addNone (row_nil e size w) rfl
theorem St.cell {b off : Nat} {c : Array Value} {t : TypeId} {fz : Nat × Nat} {v : Value} (h : St F w0 rs w) (hm : Res.obj b (.cells c t fz) ∈ rs) (hv : nth c.toList off = some v) : w.cell? ⟨b, off, none⟩ = some v := by
  have h1 : w.heap[b]? = some (.cells c t fz) := h.get hm
  rw [nth_eq] at hv
  unfold World.cell?
  simp only [h1]
  simpa using hv
theorem St.setCell {b off : Nat} {c : List Value} {t : TypeId} {v : Value} (h : St F w0 rs w) (hu : Upd (Res.obj b (.cells c.toArray t (0, 0))) (Res.obj b (.cells (c.set off v).toArray t (0, 0))) rs rs') : St F w0 rs' (w.setCell ⟨b, off, none⟩ v) := by
  have h1 : w.heap[b]? = some (.cells c.toArray t (0, 0)) := h.get hu.mem
  refine h.upd hu rfl ⟨rfl, rfl, rfl, by simp [World.setCell], fun i hi hne => ?_⟩ ?_ fun b' hb' => .inl hb'
  · exact Below.heap_setCell _ _ _ _ fun e => hne (by rw [e]; rfl)
  · show (w.setCell _ _).heap[b]? = _
    simp [World.setCell, Array.getElem?_modify, h1]
end
end Go.Proofs.Ytijmggoikieelaa
