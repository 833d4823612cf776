/-
  cube.Cover: the prime cubes of a set of letters.
-/
import Derived.Test.YtfdfnamkkepbiaaInside
import Derived.Laws.EntriesVeiled
namespace Go.Proofs.Ytfdfnamkkepbiaa
open Go.RowKit Go.Shelf
attribute [local go_sem] Oper.semAt_some
attribute [local go_sem] u8_and_nat u8_or_nat u8_xor_nat u8_andNot_nat

set_option maxHeartbeats 400000 in
set_option maxRecDepth 100000 in
theorem cover_vars (A : Option Addr) (n c : Nat) (v : Int) (w : World) (h : v < 0 ∨ 6 < v) :
    Calls Try.prog 25 #[.slice A n c, .int .i64 v] w fun e w' => e = .returned (.tuple #[.slice none 0 0, .int .i64 7]) ∧ Below w.heap.size w w' := by
  rcases h with h | h
  · go_enter Try.func25, Try.ntmps25
    go_wp2
    go_ret2; exact ⟨rfl, (by repeat (first | exact Below.refl _ _ | assumption | refine Below.drew ?_ | refine below_drewN ?_ _ | refine Below.alloc ?_ (by simp <;> omega) _ | refine Below.setCell ?_ (by simp <;> omega) _))⟩
  · have h' : ¬ v < 0 := by omega
    go_enter Try.func25, Try.ntmps25
    go_wp2
    go_ret2; exact ⟨rfl, (by repeat (first | exact Below.refl _ _ | assumption | refine Below.drew ?_ | refine below_drewN ?_ _ | refine Below.alloc ?_ (by simp <;> omega) _ | refine Below.setCell ?_ (by simp <;> omega) _))⟩

/-- the i-th letter is below two k and above the one before it -/
def okAt (k : Nat) (l : List Nat) (i : Nat) : Bool := match l[i]? with
  | none => true
  | some x => decide (x < two k) && (i == 0 || match l[i - 1]? with | none => true | some y => decide (y < x))
def okTo (k : Nat) (l : List Nat) (j : Nat) : Bool := (List.range j).all (okAt k l)
theorem okTo_succ (k : Nat) (l : List Nat) (j : Nat) : okTo k l (j + 1) = (okTo k l j && okAt k l j) := by simp [okTo, List.range_succ, List.all_append]
theorem okTo_false {k : Nat} {l : List Nat} {i j : Nat} (h : i < j) (hi : okAt k l i = false) : okTo k l j = false := by
  rw [okTo, List.all_eq_false]; exact ⟨i, List.mem_range.2 h, by simp [hi]⟩
def lastAt (l : List Nat) (j : Nat) : Int := if j = 0 then -1 else ((l[j - 1]?.getD 0 : Nat) : Int)

/-- block I is the array of the marks of the letters of l -/
def InArr (w : World) (I : Nat) (l : List Nat) : Prop := ∃ arr, w.heap[I]? = some (.cells arr 73 (0, 0)) ∧ arr.size = 64 ∧ ∀ x, x < 64 → arr[x]? = some (.bool (decide (x ∈ l)))
theorem InArr.new (w : World) (I : Nat) (hI : I = w.heap.size) (arr : Array Value) (harr : arr = Array.replicate 64 (.bool false)) : InArr (w.alloc (.cells arr 73)) I [] := by
  subst hI harr
  refine ⟨_, World.alloc_heap_new _ _, by simp, fun x hx => ?_⟩
  rw [Array.getElem?_replicate, if_pos hx]
  simp
theorem InArr.cell {w : World} {I : Nat} {l : List Nat} (h : InArr w I l) (x : Nat) (hx : x < 64) : w.cell? ⟨I, x, none⟩ = some (.bool (decide (x ∈ l))) := by
  obtain ⟨arr, hh, _, ha⟩ := h
  rw [Lib.cell_of_heap hh]; exact ha x hx
theorem InArr.frozen {w : World} {I : Nat} {l : List Nat} (h : InArr w I l) (x : Nat) : w.frozen? ⟨I, x, none⟩ = false := by
  obtain ⟨arr, hh, _, _⟩ := h
  exact Lib.frozen_of_heap hh x
theorem InArr.set {w : World} {I : Nat} {l : List Nat} (h : InArr w I l) (x : Nat) (hx : x < 64) : InArr (w.setCell ⟨I, x, none⟩ (.bool true)) I (l ++ [x]) := by
  obtain ⟨arr, hh, hs, ha⟩ := h
  refine ⟨arr.setIfInBounds x (.bool true), ?_, by simp [hs], fun y hy => ?_⟩
  · simp [World.setCell, Array.getElem?_modify, hh]
  · rw [Array.getElem?_setIfInBounds]
    by_cases e : x = y
    · subst e; simp [hs, hx]
    · rw [if_neg e, ha y hy]
      have : (y ∈ l ++ [x]) ↔ y ∈ l := by simp; intro h'; exact absurd h'.symm e
      simp [this]
theorem InArr.below {w w' : World} {I : Nat} {l : List Nat} (h : InArr w I l) (hb : Below w.heap.size w w') : InArr w' I l := by
  obtain ⟨arr, hh, r⟩ := h
  exact ⟨arr, (hb.block I (Array.getElem?_eq_some_iff.1 hh).1).trans hh, r⟩

theorem info_cube : (Try.prog.info? 23).map (fun i => (i.zero, i.size, i.bytes)) = some (some (.agg #[.int .u8 0, .int .u8 0]), 2, 2) := by kernel_rfl
theorem lastAt_succ {l : List Nat} {j x : Nat} (hx : l[j]? = some x) : lastAt l (j + 1) = (x : Int) := by simp [lastAt, hx]
theorem okAt_eq (k : Nat) {l : List Nat} {j x : Nat} (hx : l[j]? = some x) : okAt k l j = decide (x < two k ∧ lastAt l j < (x : Int)) := by
  unfold okAt lastAt
  rw [hx]
  by_cases hj : j = 0
  · subst hj; simp; omega
  · cases hy : l[j - 1]? with
    | none =>
      have h1 : l.length ≤ j - 1 := by simpa using hy
      have h2 : j < l.length := (List.getElem?_eq_some_iff.1 hx).1
      omega
    | some y => simp [hj, beq_eq_false_iff_ne.2 hj]

theorem i64_and {a b : Nat} (ha : a < 4611686018427387904) (hb : b < 4611686018427387904) : bits .and .i64 (a : Int) (b : Int) = ((a &&& b : Nat) : Int) := by
  have e : ∀ z : Nat, z < 4611686018427387904 → (BitVec.ofInt 64 (z : Int)).toNat = z := fun z hz => by
    rw [BitVec.ofInt_natCast, BitVec.toNat_ofNat]; exact Nat.mod_eq_of_lt (by omega)
  have hx : a &&& b < 4611686018427387904 := Nat.lt_of_le_of_lt Nat.and_le_left ha
  show IntKind.i64.wrap ((BitVec.ofInt 64 (a : Int) &&& BitVec.ofInt 64 (b : Int)).toNat : Int) = _
  rw [BitVec.toNat_and, e a ha, e b hb, IntKind.wrap_i64]
  omega

/-- the marks that ranges over functions leave for the function's end -/
def Marks (B : Nat) (W : World) (ds : List Deferred) : Prop :=
  ∃ Ds : List Nat, ds = Ds.map (fun D => { target := .collected D, args := #[] }) ∧ Ds.Nodup ∧ ∀ D ∈ Ds, B ≤ D ∧ W.heap[D]? = some (.deferred (some []))
theorem Marks.nil (B : Nat) (W : World) : Marks B W [] := ⟨[], rfl, List.nodup_nil, fun _ h => by cases h⟩
theorem Marks.below {B : Nat} {W W' : World} {ds : List Deferred} (h : Marks B W ds) (hb : Below W.heap.size W W') : Marks B W' ds := by
  obtain ⟨Ds, rfl, hn, hD⟩ := h
  exact ⟨Ds, rfl, hn, fun D hd => ⟨(hD D hd).1, (hb.block D (Array.getElem?_eq_some_iff.1 (hD D hd).2).1).trans (hD D hd).2⟩⟩
theorem Marks.kept {B : Nat} {W W' : World} {ds : List Deferred} (h : Marks B W ds) (hb : KeepsOthers W W') : Marks B W' ds := by
  obtain ⟨Ds, rfl, hn, hD⟩ := h
  exact ⟨Ds, rfl, hn, fun D hd => ⟨(hD D hd).1, hb.same D _ (hD D hd).2 rfl⟩⟩
theorem Marks.cons {B D : Nat} {W : World} {ds : List Deferred} (h : Marks B W ds) (hB : B ≤ D) (hD : W.heap[D]? = some (.deferred (some []))) (hlt : ∀ d ∈ ds, d.target ≠ .collected D) : Marks B W ({ target := .collected D, args := #[] } :: ds) := by
  obtain ⟨Ds, rfl, hn, hDs⟩ := h
  refine ⟨D :: Ds, rfl, List.nodup_cons.2 ⟨fun hm => ?_, hn⟩, fun d hd => ?_⟩
  · exact hlt { target := .collected D, args := #[] } (List.mem_map.2 ⟨D, hm, rfl⟩) rfl
  · cases List.mem_cons.1 hd with
    | inl e => subst e; exact ⟨hB, hD⟩
    | inr e => exact hDs d e
theorem Marks.old {B : Nat} {W : World} {ds : List Deferred} (h : Marks B W ds) {D : Nat} (hD : W.heap.size ≤ D) : ∀ d ∈ ds, d.target ≠ .collected D := by
  obtain ⟨Ds, rfl, _, hDs⟩ := h
  intro d hd he
  obtain ⟨D', hm, rfl⟩ := List.mem_map.1 hd
  injection he with he
  subst he
  have := (Array.getElem?_eq_some_iff.1 (hDs _ hm).2).1
  omega
/-- at the function's end the marks are taken, one by one: cells stay -/
theorem leaves_marks {n : Nat} {P : Program} {fn : Func} {tmps : Array Value} {R : Ending → World → Prop} {B : Nat} : ∀ (ds : List Deferred) (W : World), Marks B W ds →
    (∀ W', Below B W W' → (∀ (k : Nat) (o : Obj), W.heap[k]? = some o → o.isCells = true → W'.heap[k]? = some o) → LeavesIn Fence.wide n P fn tmps R [] .returning W') → LeavesInM Fence.wide n P fn tmps R ds .returning W := by
  intro ds
  induction ds with
  | nil => intro W _ h; exact h W (Below.refl _ _) (fun _ _ h _ => h)
  | cons d ds ih =>
    rintro W ⟨Ds, he, hn, hD⟩ h
    cases Ds with
    | nil => cases he
    | cons D Ds =>
      simp only [List.map_cons, List.cons.injEq] at he
      obtain ⟨rfl, rfl⟩ := he
      have hDD := hD D (List.mem_cons_self ..)
      refine ⟨by simp, .inl ⟨D, _, rfl, run_takeDeferred hDD.2, ih _ ?_ ?_⟩⟩
      · refine ⟨Ds, rfl, (List.nodup_cons.1 hn).2, fun D' hd => ⟨(hD D' (List.mem_cons_of_mem _ hd)).1, ?_⟩⟩
        rw [World.putObj_heap_other (fun e => by subst e; exact (List.nodup_cons.1 hn).1 hd)]
        exact (hD D' (List.mem_cons_of_mem _ hd)).2
      · intro W' hb hc
        have hDB := hDD.1
        have hb0 : Below B W (W.putObj D (.deferred none)) := ⟨rfl, rfl, rfl, by simp, fun i hi => World.putObj_heap_other (by omega)⟩
        refine h W' (hb0.trans hb) (fun k o hk ho => hc k o ?_ ho)
        rw [World.putObj_heap_other (fun e => by subst e; rw [hDD.2] at hk; injection hk with hk; subst hk; cases ho)]
        exact hk

def insL (l : List Nat) (k p q : Nat) : Bool := insTo (fun x => decide (x ∈ l)) p q (two k)
/-- the cube without the literal of a variable -/
def clr (p : Nat) (i : Nat) : Nat := p &&& (255 - two i)
def primeB (l : List Nat) (k p q : Nat) : Bool := (p &&& q == 0) && (insL l k p q && (lits p q).all fun x => !insL l k (clr p x.1.val) (clr q x.1.val))
def rowTo (l : List Nat) (k p j : Nat) : List (Nat × Nat) := ((List.range j).filter (primeB l k p ·)).map fun q => (p, q)
def primesTo (l : List Nat) (k : Nat) : Nat → List (Nat × Nat)
  | 0 => []
  | i + 1 => primesTo l k i ++ rowTo l k i (two k)
def primes (l : List Nat) (k : Nat) : List (Nat × Nat) := primesTo l k (two k)
def cubeCells (l : List (Nat × Nat)) : List Value := l.flatMap fun c => [vb c.1, vb c.2]
-- BEGIN DEFS
/-- the outer loop's invariant; y: what the other slots hold -/
def CoverO (w0 : Nat) (A : Option Addr) (n c k Fb : Nat) (l : List Nat) (W2 : World) (y : Nat → Value) (a : Act) (wo : World) : Prop :=
  ∃ (i : Nat) (v : Value) (ds : List Deferred), a = { tmps := #[.slice A n c, .int .i64 k, undef, .pointer (some ⟨w0, 0, none⟩), v, .int .i64 0, .pointer (some ⟨w0 + 1, 0, none⟩), y 7, undef, y 9, .pointer (some ⟨Fb, 0, none⟩), y 11, y 12, y 13, y 14, y 15, y 16, y 17, y 18, y 19, y 20, y 21, y 22, y 23, y 24, y 25, y 26, y 27, y 28, y 29, y 30, y 31, y 32, y 33, y 34, y 35, y 36, y 37, y 38, y 39, y 40, y 41, y 42, y 43, y 44, y 45, .int .i64 (two k), .int .i64 i, y 48, y 49, y 50, y 51, y 52, y 53, y 54, y 55, y 56, y 57, y 58, y 59, y 60, y 61, y 62, y 63, y 64, y 65, y 66, y 67, y 68, y 69, y 70, y 71, y 72, y 73, y 74, y 75, y 76, y 77, y 78, y 79, y 80, y 81, y 82, y 83, y 84, y 85, y 86, y 87, y 88, y 89, y 90, y 91, y 92, y 93], defers := ds } ∧ i ≤ two k ∧
    wo.ownsRow W2.heap.size 23 2 v (primesTo l k i).length (cubeCells (primesTo l k i)) ∧ Marks W2.heap.size wo ds ∧ Below W2.heap.size W2 wo
/-- the inner loop's -/
def CoverI (w0 : Nat) (A : Option Addr) (n c k Fb i : Nat) (l : List Nat) (W2 : World) (y : Nat → Value) (a : Act) (wo : World) : Prop :=
  ∃ (j : Nat) (v : Value) (ds : List Deferred), a = { tmps := #[.slice A n c, .int .i64 k, undef, .pointer (some ⟨w0, 0, none⟩), v, .int .i64 0, .pointer (some ⟨w0 + 1, 0, none⟩), y 7, undef, y 9, .pointer (some ⟨Fb, 0, none⟩), .int .i64 i, y 12, y 13, y 14, y 15, y 16, y 17, y 18, y 19, y 20, y 21, y 22, y 23, y 24, y 25, y 26, y 27, y 28, y 29, y 30, y 31, y 32, y 33, y 34, y 35, y 36, y 37, y 38, y 39, y 40, y 41, y 42, y 43, y 44, y 45, .int .i64 (two k), .int .i64 i, y 48, y 49, y 50, .int .i64 (two k), .int .i64 j, y 53, y 54, y 55, y 56, y 57, y 58, y 59, y 60, y 61, y 62, y 63, y 64, y 65, y 66, y 67, y 68, y 69, y 70, y 71, y 72, y 73, y 74, y 75, y 76, y 77, y 78, y 79, y 80, y 81, y 82, y 83, y 84, y 85, y 86, y 87, y 88, y 89, y 90, y 91, y 92, y 93], defers := ds } ∧ j ≤ two k ∧
    wo.ownsRow W2.heap.size 23 2 v (primesTo l k i ++ rowTo l k i j).length (cubeCells (primesTo l k i ++ rowTo l k i j)) ∧ Marks W2.heap.size wo ds ∧ Below W2.heap.size W2 wo
/-- what the body of the range over the literals reads of the frame -/
def CoverB (Fb Cb : Nat) (x : Litl) (y : Nat → Value) (a : Act) (_w : World) : Prop := a = { tmps := #[y 0, y 1, y 2, y 3, y 4, y 5, y 6, y 7, y 8, y 9, .pointer (some ⟨Fb, 0, none⟩), y 11, y 12, .pointer (some ⟨Cb, 0, none⟩), .int .i64 x.1.val, y 15, y 16, y 17, y 18, y 19, y 20, y 21, y 22, y 23, y 24, y 25, y 26, y 27, y 28, y 29, y 30, y 31, y 32, y 33, y 34, y 35, y 36, y 37, y 38, y 39, y 40, y 41, y 42, y 43, y 44, y 45, y 46, y 47, y 48, y 49, y 50, y 51, y 52, y 53, y 54, y 55, y 56, y 57, y 58, y 59, y 60, y 61, y 62, y 63, y 64, y 65, y 66, y 67, y 68, y 69, y 70, y 71, y 72, y 73, y 74, y 75, y 76, y 77, y 78, y 79, y 80, y 81, y 82, y 83, y 84, y 85, y 86, y 87, y 88, y 89, y 90, y 91, y 92, y 93], defers := [] }
theorem pickY {Φ : (Nat → Value) → Act → World → Prop} {a : Act} {w : World} (h : Φ (fun m => a.tmps.getD m undef) a w) : ∃ y, Φ y a w := ⟨_, h⟩
theorem rowTo_succ (l : List Nat) (k p j : Nat) : rowTo l k p (j + 1) = rowTo l k p j ++ if primeB l k p j then [(p, j)] else [] := by
  simp only [rowTo, List.range_succ, List.filter_append, List.filter_cons, List.filter_nil, List.map_append]
  split <;> rfl
theorem rowTo_len (l : List Nat) (k p j : Nat) : (rowTo l k p j).length ≤ j := by
  have := List.length_filter_le (primeB l k p ·) (List.range j)
  simpa [rowTo] using this
theorem primesTo_len (l : List Nat) (k i : Nat) : (primesTo l k i).length ≤ i * two k := by
  induction i with
  | zero => simp [primesTo]
  | succ i ih =>
    have := rowTo_len l k i (two k)
    simp only [primesTo, List.length_append, Nat.succ_mul]
    omega
-- END DEFS
def CoverPost (k : Nat) (l : List Nat) (w : World) (e : Ending) (w' : World) : Prop :=
  (okTo k l l.length = true → ∃ v, e = .returned (.tuple #[v, .int .i64 0]) ∧ w'.ownsRow w.heap.size 23 2 v (primes l k).length (cubeCells (primes l k))) ∧
  (okTo k l l.length = false → e = .returned (.tuple #[.slice none 0 0, .int .i64 1])) ∧ Below w.heap.size w w'
theorem coverPost_err {k : Nat} {l : List Nat} {w w' : World} (h : okTo k l l.length = false) (hb : Below w.heap.size w w') : CoverPost k l w (.returned (.tuple #[.slice none 0 0, .int .i64 1])) w' :=
  ⟨fun h' => (by rw [h] at h'; cases h'), fun _ => rfl, hb⟩

set_option maxHeartbeats 2000000 in
theorem cover_in (A : Option Addr) (n c k : Nat) (l : List Nat) (hk : k ≤ 6) (w : World) (hA : Rd w 1 A n (l.map vb)) (hl : ∀ x ∈ l, x < 256) (hn : n ≤ 9223372036854775807) :
    Calls Try.prog 25 #[.slice A n c, .int .i64 k] w (CoverPost k l w) := by
  have h2 := two_le6 hk
  have h3 := wrap_two hk
  have hll : l.length = n := by simpa using hA.1
  have HLL := Lib.hid hll; clear hll
  have HL := Lib.hid hl; clear hl
  have HA := Lib.hid hA; clear hA
  obtain ⟨ic, hic, hzc0, hzc1, hzc2⟩ := info_parts info_cube
  have hd0 : decide ((k : Int) < 0) = false := decide_eq_false (by omega)
  have hd6 : decide (6 < (k : Int)) = false := decide_eq_false (by omega)
  refine (callsIn_wide (n := 3)).1 (callsIn_of_wp_marks Try.func25 rfl trivial (wpIn_wide.2 ?_) rfl)
  simp only [Try.ntmps25, List.size_toArray, List.length_cons, List.length_nil, Nat.reduceAdd, Nat.reduceSub, Array.replicate_succ, Array.replicate_zero, List.push_toArray, List.append_toArray, List.nil_append, List.cons_append]
  go_wp2
  refine wp_gen (fun W => W.heap[w.heap.size]? = some (.cells #[.int .i64 k] 3 (0, 0)) ∧ InArr W (w.heap.size + 1) [] ∧ W.heap.size = w.heap.size + 2 ∧ Below w.heap.size w W) ?facts ?_
  case facts =>
    refine ⟨?_, ?_, by simp, (by repeat (first | exact Below.refl _ _ | assumption | refine Below.drew ?_ | refine below_drewN ?_ _ | refine Below.alloc ?_ (by simp <;> omega) _ | refine Below.setCell ?_ (by simp <;> omega) _))⟩
    · rw [Below.heap_alloc _ _ _ (by simp)]; exact World.alloc_heap_new _ _
    · exact InArr.new _ _ (by simp) _ rfl
  rintro W1 ⟨hV1, hI1, hsz1, hbW1⟩
  have hV1c : W1.cell? ⟨w.heap.size, 0, none⟩ = some (.int .i64 k) := by rw [Lib.cell_of_heap hV1]; rfl
  have HSZ1 := Lib.hid hsz1; clear hsz1
  have HV1 := Lib.hid hV1; clear hV1
  have HI1 := Lib.hid hI1; clear hI1
  go_loopw [4, 5, 7, 24] (fun pr er la i wr => ∃ j : Nat, j ≤ n ∧ pr = .slice none 0 0 ∧ er = .int .i64 0 ∧ i = .int .i64 j ∧ la = .int .i64 (lastAt l j) ∧ okTo k l j = true ∧ InArr wr (w.heap.size + 1) (l.take j) ∧ Below (w.heap.size + 1) W1 wr) (fun _ _ _ i _ => n - (intOf i).toNat)
  case atStart => exact ⟨0, Nat.zero_le _, rfl, rfl, rfl, rfl, rfl, HI1.out, Below.refl _ _⟩
  case round =>
    obtain ⟨j, hj, rfl, rfl, rfl, rfl, hok, hin, hbw⟩ := hrel
    have HOK := Lib.hid hok; clear hok
    have HIN := Lib.hid hin; clear hin
    have hVr : wr.cell? ⟨w.heap.size, 0, none⟩ = some (.int .i64 k) := (bat hbw (by omega)).trans hV1c
    have hVlt : w.heap.size < wr.heap.size := by have := hbw.size; have := HSZ1.out; omega
    by_cases hlt : j < n
    · obtain ⟨ad, x, rfl, hadb, hx, hcx⟩ := HA.out.u8_at hlt
      have hx256 : x < 256 := HL.out x (List.mem_of_getElem? hx)
      have hcr : wr.cell? (ad.add j) = some (vb x) := by
        rw [hbw.cell (by rw [add_block]; omega), hbW1.cell (by rw [add_block]; exact hadb)]; exact hcx
      clear hcx hV1c
      have hlast := lastAt_succ hx
      have hokA := okAt_eq k hx
      have HX := Lib.hid hx; clear hx
      have HLA := Lib.hid hlast; clear hlast
      have HOA := Lib.hid hokA; clear hokA
      have hbelow : Below w.heap.size w wr := hbW1.trans (hbw.mono (by omega))
      by_cases h1 : (x : Int) ≤ lastAt l j
      · go_wp2
        refine ⟨_, results_tmp2 rfl _ _ _, ?_⟩
        exact coverPost_err (by rw [HLL.out]; exact okTo_false hlt (by rw [HOA.out]; simp; omega)) hbelow
      · by_cases h4 : two k ≤ x
        · go_wp2
          refine ⟨_, results_tmp2 rfl _ _ _, ?_⟩
          exact coverPost_err (by rw [HLL.out]; exact okTo_false hlt (by rw [HOA.out]; simp; omega)) hbelow
        · have hcI := HIN.out.cell x (by omega)
          have hfI := HIN.out.frozen x
          go_wp2
          go_roundw
          case rel =>
            refine ⟨j + 1, by omega, rfl, rfl, by go_num, by rw [HLA.out], by rw [okTo_succ, HOK.out, HOA.out]; simp; omega, ?_, hbw.setCell (p := ⟨w.heap.size + 1, x, none⟩) (Nat.le_refl _) _⟩
            have := HIN.out.set x (by omega)
            rwa [List.take_add_one, HX.out]
          case measure => simp [intOf]; omega
    · obtain rfl : n = j := by omega
      go_wp2
      rw [h3]
-- BEGIN GEN
      obtain ⟨Fb, hFb⟩ : ∃ Fb, wr.heap.size = Fb := ⟨_, rfl⟩
      rw [hFb]
      refine wp_gen (fun W => W.cell? ⟨w.heap.size, 0, none⟩ = some (.int .i64 k) ∧ InArr W (w.heap.size + 1) l ∧ W.cell? ⟨Fb, 0, none⟩ = some (.func (.func 41) #[] #[.pointer (some ⟨w.heap.size, 0, none⟩), .pointer (some ⟨w.heap.size + 1, 0, none⟩)]) ∧ Below w.heap.size w W) ?facts2 ?_
      case facts2 =>
        refine ⟨?_, ?_, ?_, (hbW1.trans (hbw.mono (by omega))).alloc (by omega) _⟩
        · rw [World.cell?_alloc_lt _ _ _ hVlt]; exact hVr
        · have := HIN.out.below ((Below.refl _ wr).alloc (Nat.le_refl _) (.cells #[.func (.func 41) #[] #[.pointer (some ⟨w.heap.size, 0, none⟩), .pointer (some ⟨w.heap.size + 1, 0, none⟩)]] 74))
          rwa [List.take_of_length_le (by rw [HLL.out]; omega)] at this
        · rw [← hFb]; simp [go_sem]
      rintro W2 ⟨hV2, hI2, hF2, hbW2⟩
      have hOK : okTo k l l.length = true := by rw [HLL.out]; exact HOK.out
      have HOKL := Lib.hid hOK; clear hOK
      have HI2 := Lib.hid hI2; clear hI2
      clear hVr hVlt hV1c hbw HOK HIN hFb hbW1 HSZ1 HV1 HI1
      refine wp_loop (fun a wo => ∃ y, CoverO w.heap.size A n c k Fb l W2 y a wo) (fun a _ => two k - (intOf (a.tmps.getD 47 undef)).toNat) ?start ?round
      case start =>
        exact pickY (Φ := CoverO w.heap.size A n c k Fb l W2) ⟨0, .slice none 0 0, [], rfl, Nat.zero_le _, World.ownsRow_nil _ _ _ _, Marks.nil _ _, Below.refl _ _⟩
      case round =>
        rintro a wo ⟨y, i, v, ds, rfl, hi, hown, hmk, hbo⟩
        have HM := Lib.hid hmk; clear hmk
        have hVo : wo.cell? ⟨w.heap.size, 0, none⟩ = some (.int .i64 k) := (bat hbo (World.block_lt_of_cell? _ _ hV2)).trans hV2
        by_cases hilt : i < two k
        · go_wp2
          refine wp_scope_straight ?_
          go_wp2
          refine wp_label ?_
          go_wp2
          rw [h3]
          refine wp_loop (fun a wo => ∃ y, CoverI w.heap.size A n c k Fb i l W2 y a wo) (fun a _ => two k - (intOf (a.tmps.getD 52 undef)).toNat) ?start2 ?round2
          case start2 =>
            exact pickY (Φ := CoverI w.heap.size A n c k Fb i l W2) ⟨0, v, ds, rfl, Nat.zero_le _, by simpa [rowTo] using hown, HM.out, hbo⟩
          case round2 =>
            clear hown HM hbo hVo
            rintro a wi ⟨y, j, v, ds, rfl, hj, hown, hmk, hbi⟩
            have HM := Lib.hid hmk; clear hmk
            by_cases hjlt : j < two k
            · have hVlt2 : w.heap.size < W2.heap.size := World.block_lt_of_cell? _ _ hV2
              have hFlt2 : Fb < W2.heap.size := World.block_lt_of_cell? _ _ hF2
              have hszi := hbi.size
              have hVi : wi.cell? ⟨w.heap.size, 0, none⟩ = some (.int .i64 k) := (bat hbi hVlt2).trans hV2
              have hFi : wi.cell? ⟨Fb, 0, none⟩ = some (.func (.func 41) #[] #[.pointer (some ⟨w.heap.size, 0, none⟩), .pointer (some ⟨w.heap.size + 1, 0, none⟩)]) := (bat hbi hFlt2).trans hF2
              have hVlti : w.heap.size < wi.heap.size := by omega
              have hIi : InArr wi (w.heap.size + 1) l := by
                obtain ⟨arr, hh, r⟩ := HI2.out
                exact ⟨arr, (hbi.block _ (Array.getElem?_eq_some_iff.1 hh).1).trans hh, r⟩
              have HIi := Lib.hid hIi; clear hIi
              have hFlti : Fb < wi.heap.size := by omega
              have hi256 : i < 256 := by omega
              have hj256 : j < 256 := by omega
              have hand := i64_and (a := i) (b := j) (by omega) (by omega)
              by_cases hd : i &&& j = 0
              · have hz : (((i &&& j : Nat) : Int) != 0) = false := by rw [hd]; rfl
                have HD := Lib.hid hd; clear hd
                by_cases hin : insL l k i j = true
                · go_wp2_with (go_at_call 41; refine (inside_any i j k w.heap.size (w.heap.size + 1) (fun x => decide (x ∈ l)) hi256 hj256 hk _ ?cv ?ci).mono ?_)
                  case cv => rw [World.cell?_alloc_lt _ _ _ hVlti]; exact hVi
                  case ci => exact fun x hx => (HIi.out.below ((Below.refl _ wi).alloc (Nat.le_refl _) _)).cell x hx
                  rintro e w3 ⟨rfl, hb3⟩
                  rw [show insTo (fun x => decide (x ∈ l)) i j (two k) = true from hin]
                  obtain ⟨hbc3, hbf3⟩ := bcell hb3
                  have hc30 : w3.cell? ⟨wi.heap.size, 0, none⟩ = some (vb i) := by rw [hbc3 _ _ (by simp)]; simp [go_sem]
                  have hc31 : w3.cell? ⟨wi.heap.size, 1, none⟩ = some (vb j) := by rw [hbc3 _ _ (by simp)]; simp [go_sem]
                  clear hbc3 hbf3
                  have hsz3 : wi.heap.size < w3.heap.size := by have := hb3.size; simp at this; omega
                  go_wp2_with (go_at_call 34; refine (literals_any i j _).mono ?_)
                  rintro e w4 ⟨rfl, rfl⟩
                  go_wp2
                  refine wp_gen (fun W => Below w3.heap.size w3 W ∧ W.cell? ⟨w3.heap.size, 0, none⟩ = some (vb i) ∧ W.cell? ⟨w3.heap.size, 1, none⟩ = some (vb j)) ⟨(Below.refl _ _).alloc (Nat.le_refl _) _, by simp [go_sem], by simp [go_sem]⟩ ?_
                  rintro w4 ⟨hb4, hc40, hc41⟩
                  have hV4 : w4.cell? ⟨w.heap.size, 0, none⟩ = some (.int .i64 k) := (bat hb4 (by omega)).trans ((bat hb3 (by simp; omega)).trans ((World.cell?_alloc_lt _ _ _ hVlti).trans hVi))
                  have hF4 : w4.cell? ⟨Fb, 0, none⟩ = some (.func (.func 41) #[] #[.pointer (some ⟨w.heap.size, 0, none⟩), .pointer (some ⟨w.heap.size + 1, 0, none⟩)]) := (bat hb4 (by omega)).trans ((bat hb3 (by simp; omega)).trans ((World.cell?_alloc_lt _ _ _ hFlti).trans hFi))
                  have hI4 : InArr w4 (w.heap.size + 1) l := ((HIi.out.below ((Below.refl _ wi).alloc (Nat.le_refl _) (.cells #[vb i, vb j] 23))).below hb3).below hb4
                  have hd40 : w4.cell? ⟨wi.heap.size, 0, none⟩ = some (vb i) := (bat hb4 hsz3).trans hc30
                  have hd41 : w4.cell? ⟨wi.heap.size, 1, none⟩ = some (vb j) := (bat hb4 hsz3).trans hc31
                  have hbi4 : Below wi.heap.size wi w4 := ((Below.refl _ _).alloc (Nat.le_refl _) _).trans ((hb3.mono (by simp)).trans (hb4.mono (by omega)))
                  have hsz4 := hb4.size
                  have HI4 := Lib.hid hI4; clear hI4
                  clear hc30 hc31 hVi hFi
                  refine wpIn_wide.1 (wpIn_rangeFunc_ownH (F := Fence.wide) (n := 3) rfl (by omega) (gf := 43) (lb := #[.pointer (some ⟨w3.heap.size, 0, none⟩)]) (by simp [go_sem]) trivial (enters_of Try.func43 (by kernel_rfl) rfl)
                    (lits_stops 2 w3.heap.size i j (by omega) hi256 hj256 w4 (World.block_lt_of_cell? _ _ hc40) hc40 hc41) (fun h1 h2 => h2.trans h1) ?kb (Below.refl _ _) (fun _ => rfl)
                    (fun pre W => Below w4.heap.size w4 W ∧ ∀ x ∈ pre, insL l k (clr i x.1.val) (clr j x.1.val) = false)
                    (fun cd pre W => cd = .exit 5 ∧ Below w4.heap.size w4 W ∧ ∃ x ∈ pre, insL l k (clr i x.1.val) (clr j x.1.val) = true) ?hI ?hIx ⟨Below.refl _ _, fun _ h => by cases h⟩
                    (fun x a' W => ∃ y, CoverB Fb wi.heap.size x y a' W) (fun _ _ _ _ _ _ hs _ _ => hs) ?assign ?body ?done ?stop)
                  case kb => intro W l' o o' hl' _ _ _; exact World.putObj_heap_other (by have := World.block_lt_of_cell? _ _ hc40; simp at this; omega)
                  case hI => exact fun s X Y row hs hg hr => ⟨hs.1.grown hg hs.1.size (fun k' e => (hr k' e).1), hs.2⟩
                  case hIx => exact fun cd s X Y row hs hg hr => ⟨hs.1, hs.2.1.grown hg hs.2.1.size (fun k' e => (hr k' e).1), hs.2.2⟩
                  case assign =>
                    intro l' pre x W K hI' hK
                    gi_wp2
                    exact hK _ _ (KeepsFrom.refl _ _) rfl hI' (pickY (Φ := CoverB Fb wi.heap.size x) rfl)
                  case body =>
                    rintro l' pre ⟨x, val⟩ a' W hl' hlr ⟨hbW, hall⟩ ⟨y, rfl⟩ hlen
                    have hx8 : x.val < 8 := x.2
                    have ht128 : two x.val ≤ 128 := Nat.pow_le_pow_right (n := 2) (i := x.val) (j := 7) (by omega) (by omega)
                    have ht : two x.val < 256 := by omega
                    have hsh : (2 : Int) ^ x.val % 256 = ((two x.val : Nat) : Int) := by
                      have h2 : ((2 : Int) ^ x.val) = ((two x.val : Nat) : Int) := by simp [two]
                      rw [h2]; omega
                    have hFW := (bat hbW (by omega)).trans hF4
                    have hVW := (bat hbW (by omega)).trans hV4
                    have hcW0 := (bat hbW (by omega)).trans hd40
                    have hcW1 := (bat hbW (by omega)).trans hd41
                    have hclri : clr i x.val < 256 := Nat.lt_of_le_of_lt Nat.and_le_left hi256
                    have hclrj : clr j x.val < 256 := Nat.lt_of_le_of_lt Nat.and_le_left hj256
                    have HALL := Lib.hid hall; clear hall
                    have HLR := Lib.hid hlr; clear hlr
                    gi_wp2_with (refine ⟨trivial, ?_⟩; gi_at_call 41; refine (CallsIn.inRound l' (callsIn_wide.2 (inside_any (clr i x.val) (clr j x.val) k w.heap.size (w.heap.size + 1) (fun x => decide (x ∈ l)) hclri hclrj hk _ hVW ?ci2))).mono ?_)
                    case ci2 => exact fun x hx => (HI4.out.below hbW).cell x hx
                    rintro e W5 ⟨rfl, hb5⟩
                    have hkf : KeepsFrom w4.heap.size W W5 := ⟨hb5.size, fun k' o _ hk' _ => (hb5.block k' (Array.getElem?_eq_some_iff.1 hk').1).trans hk'⟩
                    have hbn : W5.heap[w3.heap.size]? = W.heap[w3.heap.size]? := hb5.block _ (by have := World.block_lt_of_cell? _ _ hc40; have := hbW.size; simp at *; omega)
                    have hb45 : Below w4.heap.size w4 W5 := hbW.trans (hb5.mono hbW.size)
                    by_cases hb : insL l k (clr i x.val) (clr j x.val) = true
                    · rw [show insTo (fun x => decide (x ∈ l)) (clr i x.val) (clr j x.val) (two k) = true from hb]
                      gi_wp2
                      exact ⟨hkf, rfl, hb45, (x, val), by simp, hb⟩
                    · have hb' : insL l k (clr i x.val) (clr j x.val) = false := by simpa using hb
                      rw [show insTo (fun x => decide (x ∈ l)) (clr i x.val) (clr j x.val) (two k) = false from hb']
                      gi_wp2
                      refine ⟨hkf, hbn, hb45, fun z hz => ?_⟩
                      rcases List.mem_append.1 hz with h | h
                      · exact HALL.out z h
                      · obtain rfl : z = (x, val) := by simpa using h
                        exact hb'
                  case done =>
                    rintro D xs W hD rfl ⟨hbW, hall⟩ hK
                    have hpB : primeB l k i j = true := by
                      rw [primeB, Bool.and_eq_true, Bool.and_eq_true]
                      refine ⟨by simpa using HD.out, hin, List.all_eq_true.2 fun x hx => ?_⟩
                      simp [hall x hx]
                    have hbiW : Below wi.heap.size wi W := hbi4.trans (hbW.mono (by omega))
                    have hcW0 := (bat hbW (by omega)).trans hd40
                    have hcW1 := (bat hbW (by omega)).trans hd41
                    have hrl := rowTo_len l k i j
                    have hpl := primesTo_len l k i
                    have hpl2 : i * two k ≤ 64 * 64 := Nat.mul_le_mul (by omega) h2
                    have HPB := Lib.hid hpB; clear hpB
                    have HALL := Lib.hid hall; clear hall
                    have HK := Lib.hid hK; clear hK
                    have hownW := ownsRow_below hown hbiW
                    go_wp2_with (at_builtin; refine wl_appendG rfl (.tmp 87) (.tmp 89) _ rfl W2.heap.size Try.underlying38 hic hzc0 hzc1 hzc2 rfl (by decide) rfl (hownW.alloc _) [vb i, vb j] rfl rfl ?d1 ?d2 ?d3 ?d4 ?d5 ?_)
                    case d1 => exact cells_new W [vb i, vb j] _
                    case d2 => intro u hu; simp at hu; rcases hu with rfl | rfl <;> rfl
                    case d3 => simp only [List.length_append]; omega
                    case d4 => simp only [List.length_append]; omega
                    case d5 => have := hbiW.size; simp; omega
                    intro v6 W6 hown6 hb6 hg6
                    have hbW6 : Below W2.heap.size W W6 := ((Below.refl _ _).alloc (by have := hbiW.size; omega) _).trans hb6
                    have hko : KeepsOthers (W.alloc (.cells #[vb i, vb j] 23)) W6 := by
                      refine ⟨hg6.size, fun k' o hk' ho => (hg6.block k' (Array.getElem?_eq_some_iff.1 hk').1 (fun e => ?_)).trans hk'⟩
                      rcases (hownW.alloc (.cells #[vb i, vb j] 23)).2 with ⟨rfl, _⟩ | ⟨g, cap, cur, rfl, _, hgg, _⟩
                      · simp [Value.ownBlock] at e
                      · obtain rfl : k' = g := by simpa [Value.ownBlock] using e
                        rw [hgg] at hk'; injection hk' with hk'; subst hk'; cases ho
                    have hmk6 := (((HM.out.below hbiW).cons (by omega) HK.out (HM.out.old (by omega))).kept (KeepsOthers.alloc _ (.cells #[vb i, vb j] 23))).kept hko
                    have HM6 := Lib.hid hmk6; clear hmk6
                    clear hko hg6
                    go_wp2
                    refine ⟨?_, ?_⟩
                    · refine pickY (Φ := CoverI w.heap.size A n c k Fb i l W2) ⟨j + 1, v6, _, rfl, by omega, ?_, HM6.out, (hbi.trans (hbiW.mono hszi)).trans hbW6⟩
                      rw [rowTo_succ, HPB.out]
                      have e1 : (primesTo l k i ++ (rowTo l k i j ++ if true = true then [(i, j)] else [])).length = (primesTo l k i).length + (rowTo l k i j).length + 1 := by simp; omega
                      have e2 : cubeCells (primesTo l k i ++ (rowTo l k i j ++ if true = true then [(i, j)] else [])) = cubeCells (primesTo l k i ++ rowTo l k i j) ++ [vb i, vb j] := by simp [cubeCells]
                      rw [e1, e2]
                      exact hown6
                    · simp [intOf]; omega
                  case stop =>
                    rintro D cd pre W hD hpre ⟨rfl, hbW, x, hx, hxt⟩ hK
                    have hpB : primeB l k i j = false := by
                      rw [primeB, Bool.and_eq_false_iff]
                      refine .inr ?_
                      rw [Bool.and_eq_false_iff]
                      refine .inr (List.all_eq_false.2 ⟨x, hpre.subset hx, ?_⟩)
                      simp [hxt]
                    have hbiW : Below wi.heap.size wi W := hbi4.trans (hbW.mono (by omega))
                    have HPB := Lib.hid hpB; clear hpB
                    have HK := Lib.hid hK; clear hK
                    clear hxt
                    refine wpIn_wide.2 (wp_exit ?_)
                    go_wp2
                    refine ⟨?_, ?_⟩
                    · refine pickY (Φ := CoverI w.heap.size A n c k Fb i l W2) ⟨j + 1, v, _, rfl, by omega, ?_, (HM.out.below hbiW).cons (by omega) HK.out (HM.out.old (by omega)), hbi.trans (hbiW.mono hszi)⟩
                      rw [rowTo_succ, HPB.out]
                      simpa using ownsRow_below hown hbiW
                    · simp [intOf]; omega
                · have hin' : insL l k i j = false := by simpa using hin
                  have hpB : primeB l k i j = false := by rw [primeB, hin']; simp
                  have HPB := Lib.hid hpB; clear hpB
                  go_wp2_with (go_at_call 41; refine (inside_any i j k w.heap.size (w.heap.size + 1) (fun x => decide (x ∈ l)) hi256 hj256 hk _ ?cv ?ci).mono ?_)
                  case cv => rw [World.cell?_alloc_lt _ _ _ hVlti]; exact hVi
                  case ci => exact fun x hx => (HIi.out.below ((Below.refl _ wi).alloc (Nat.le_refl _) _)).cell x hx
                  rintro e w3 ⟨rfl, hb3⟩
                  rw [show insTo (fun x => decide (x ∈ l)) i j (two k) = false from hin']
                  have hbiW : Below wi.heap.size wi w3 := ((Below.refl _ _).alloc (Nat.le_refl _) _).trans (hb3.mono (by simp))
                  go_wp2
                  refine ⟨?_, ?_⟩
                  · refine pickY (Φ := CoverI w.heap.size A n c k Fb i l W2) ⟨j + 1, v, _, rfl, by omega, ?_, HM.out.below hbiW, hbi.trans (hbiW.mono hszi)⟩
                    rw [rowTo_succ, HPB.out]
                    simpa using ownsRow_below hown hbiW
                  · simp [intOf]; omega
              · have hz : (((i &&& j : Nat) : Int) != 0) = true := by rw [bne_iff_ne]; omega
                have hpB : primeB l k i j = false := by rw [primeB, beq_eq_false_iff_ne.2 hd]; rfl
                have HPB := Lib.hid hpB; clear hpB
                have HD := Lib.hid hd; clear hd
                have hbiW : Below wi.heap.size wi (wi.alloc (.cells #[vb i, vb j] 23)) := (Below.refl _ _).alloc (Nat.le_refl _) _
                go_wp2
                refine ⟨?_, ?_⟩
                · refine pickY (Φ := CoverI w.heap.size A n c k Fb i l W2) ⟨j + 1, v, _, rfl, by omega, ?_, HM.out.below hbiW, hbi.trans (hbiW.mono hszi)⟩
                  rw [rowTo_succ, HPB.out]
                  simpa using ownsRow_below hown hbiW
                · simp [intOf]; omega
            · obtain rfl : j = two k := by omega
              go_wp2
              simp only [Exit.noGoto, Exit.inBlock, Exit.then]
              go_wp2
              refine ⟨?_, ?_⟩
              · exact pickY (Φ := CoverO w.heap.size A n c k Fb l W2) ⟨i + 1, v, ds, rfl, by omega, hown, HM.out, hbi⟩
              · simp [intOf]; omega
        · obtain rfl : i = two k := by omega
          go_wp2
          refine leaves_marks _ _ HM.out ?_
          intro W' hb' hc'
          refine ⟨_, results_tmp2 rfl _ _ _, ?_⟩
          refine ⟨fun _ => ⟨v, rfl, ownsRow_base (ownsRow_cells hown (fun k' c' t' f' hk' => hc' k' _ hk' rfl)) hbW2.size⟩, fun h' => (by rw [HOKL.out] at h'; cases h'), hbW2.trans ((hbo.mono hbW2.size).trans (hb'.mono hbW2.size))⟩
-- END GEN
end Go.Proofs.Ytfdfnamkkepbiaa
