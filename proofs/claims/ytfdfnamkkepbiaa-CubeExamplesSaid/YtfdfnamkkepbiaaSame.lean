/-
  sentinelref02.Same, sentinelkit.CopyBytes and OverBytes, sentinelref02.Intersect.
-/
import Derived.Test.YtfdfnamkkepbiaaParse
namespace Go.Proofs.Ytfdfnamkkepbiaa
open Go.RowKit
attribute [local go_sem] u8_and_nat u8_or_nat u8_xor_nat u8_andNot_nat

theorem cube_eql (a b c d : Nat) (w : World) : (binOp .eql 23 (.agg #[.int .u8 a, .int .u8 b]) (.agg #[.int .u8 c, .int .u8 d])).run Try.prog w = .ok (.bool (decide (a = c ∧ b = d))) w := by
  by_cases h1 : a = c
  · subst h1
    by_cases h2 : b = d
    · subst h2; simp [go_sem]
    · have h2' : ((b : Int) == d) = false := by rw [beq_eq_false_iff_ne]; omega
      simp [go_sem, h2, h2']
  · have h1' : ((a : Int) == c) = false := by rw [beq_eq_false_iff_ne]; omega
    simp [go_sem, h1, h1']
theorem cube_neq (a b c d : Nat) (w : World) : (binOp .neq 23 (.agg #[.int .u8 a, .int .u8 b]) (.agg #[.int .u8 c, .int .u8 d])).run Try.prog w = .ok (.bool (decide (¬ (a = c ∧ b = d)))) w := by
  by_cases h1 : a = c
  · subst h1
    by_cases h2 : b = d
    · subst h2; simp [go_sem]
    · have h2' : ((b : Int) == d) = false := by rw [beq_eq_false_iff_ne]; omega
      simp [go_sem, h2, h2']
  · have h1' : ((a : Int) == c) = false := by rw [beq_eq_false_iff_ne]; omega
    simp [go_sem, h1, h1']
attribute [local go_sem ↓] cube_eql cube_neq
theorem cubeCells_len (l : List (Nat × Nat)) : (cubeCells l).length = l.length * 2 := by
  induction l with
  | nil => rfl
  | cons x l ih => simp only [cubeCells, List.flatMap_cons, List.length_append, List.length_cons, List.length_nil] at *; omega
theorem cubeCells_at (l : List (Nat × Nat)) (k : Nat) (x : Nat × Nat) (h : l[k]? = some x) : (cubeCells l)[k * 2]? = some (vb x.1) ∧ (cubeCells l)[k * 2 + 1]? = some (vb x.2) := by
  induction l generalizing k with
  | nil => simp at h
  | cons y l ih =>
    cases k with
    | zero => simp at h; subst h; exact ⟨rfl, rfl⟩
    | succ k =>
      have := ih k (by simpa using h)
      have e : (k + 1) * 2 = k * 2 + 1 + 1 := by omega
      rw [e]
      exact this
theorem add_add (a : Addr) (i j : Nat) : (a.add i).add j = a.add (i + j) := by
  unfold Addr.add
  by_cases hi : i = 0 <;> by_cases hj : j = 0 <;> simp [hi, hj, Nat.add_assoc]
theorem Rd.cube_at {w : World} {A : Option Addr} {n k : Nat} {l : List (Nat × Nat)} (h : Rd w 2 A n (cubeCells l)) (hk : k < n) : ∃ ad x, A = some ad ∧ ad.block < w.heap.size ∧ l[k]? = some x ∧ w.cell? (ad.add (k * 2)) = some (vb x.1) ∧ w.cell? ⟨(ad.add (k * 2)).block, (ad.add (k * 2)).off + 1, none⟩ = some (vb x.2) := by
  obtain ⟨ad, e, hb, hc⟩ := h.2 (by omega)
  have hl : k < l.length := by have := h.1; rw [cubeCells_len] at this; omega
  obtain ⟨c0, c1⟩ := cubeCells_at l k l[k] (List.getElem?_eq_getElem hl)
  exact ⟨ad, l[k], e, hb, List.getElem?_eq_getElem hl, hc _ _ c0, by rw [← hc _ _ c1, ← add_add]; rfl⟩

set_option maxHeartbeats 1000000 in
theorem same_any (A B : Option Addr) (n m c d : Nat) (xs ys : List (Nat × Nat)) (w : World) (ha : Rd w 2 A n (cubeCells xs)) (hb : Rd w 2 B m (cubeCells ys)) (hn : n ≤ 9223372036854775807) (hm : m ≤ 9223372036854775807) :
    Calls Try.prog 26 #[.slice A n c, .slice B m d] w fun e w' => e = .returned (.bool (decide (xs = ys))) ∧ ∃ k, w' = w.drewN k := by
  have hxl : xs.length = n := by have := ha.1; rw [cubeCells_len] at this; omega
  have hyl : ys.length = m := by have := hb.1; rw [cubeCells_len] at this; omega
  by_cases hnm : n = m
  · subst hnm
    have HX := Lib.hid hxl; clear hxl
    have HY := Lib.hid hyl; clear hyl
    go_enter Try.func26, Try.ntmps26
    go_wp2
    go_loopw [5] (fun i wr => ∃ k : Nat, k ≤ n ∧ i = .int .i64 k ∧ xs.take k = ys.take k ∧ ∃ q, wr = w.drewN q) (fun i _ => n - (intOf i).toNat)
    case atStart => exact ⟨0, Nat.zero_le _, rfl, rfl, 0, rfl⟩
    case round =>
      obtain ⟨k, hk, rfl, hpre, q, rfl⟩ := hrel
      have HP := Lib.hid hpre; clear hpre
      by_cases hlt : k < n
      · obtain ⟨ad, ⟨x0, x1⟩, rfl, _, hx, hcx0, hcx1⟩ := ha.cube_at hlt
        obtain ⟨bd, ⟨y0, y1⟩, rfl, _, hy, hcy0, hcy1⟩ := hb.cube_at hlt
        have HXX := Lib.hid hx; clear hx
        have HYY := Lib.hid hy; clear hy
        by_cases hxy : x0 = y0 ∧ x1 = y1
        · obtain ⟨rfl, rfl⟩ := hxy
          go_wp2
          go_quiet (fail)
          go_wp2
          go_roundw
          case rel => exact ⟨k + 1, by omega, by go_num, take_eq_succ HXX.out HYY.out HP.out, _, rfl⟩
          case measure => simp [intOf]; omega
        · have HXY := Lib.hid hxy
          by_cases hx0 : x0 = y0
          · have hx1 : ¬ x1 = y1 := fun e => hxy ⟨hx0, e⟩
            clear hxy
            subst hx0
            go_wp2
            go_quiet (fail)
            go_wp2
            go_ret
            refine ⟨ret_bool ?_, _, World.drewN_drewN _ _ _⟩
            symm
            refine decide_eq_false fun h => ?_
            subst h
            have := HXX.out.symm.trans HYY.out
            injection this with this
            injection this with h0 h1
            exact hx1 h1
          · clear hxy
            go_wp2
            go_quiet (fail)
            go_wp2
            go_ret
            refine ⟨ret_bool ?_, _, World.drewN_drewN _ _ _⟩
            symm
            refine decide_eq_false fun h => ?_
            subst h
            have := HXX.out.symm.trans HYY.out
            injection this with this
            injection this with h0 h1
            exact HXY.out ⟨h0, h1⟩
      · go_wp2
        go_ret
        refine ⟨ret_bool ?_, _, rfl⟩
        symm
        refine decide_eq_true ?_
        have := HP.out
        rwa [List.take_of_length_le (by rw [HX.out]; omega), List.take_of_length_le (by rw [HY.out]; omega)] at this
  · have hne : ((n : Int) != (m : Int)) = true := by rw [bne_iff_ne]; omega
    have HXY := Lib.hid hnm; clear hnm
    have HX := Lib.hid hxl; clear hxl
    have HY := Lib.hid hyl; clear hyl
    go_enter Try.func26, Try.ntmps26
    go_wp2
    go_ret
    refine ⟨ret_bool ?_, 0, rfl⟩
    symm
    refine decide_eq_false fun h => HXY.out ?_
    rw [← HX.out, ← HY.out, h]

set_option maxHeartbeats 400000 in
set_option maxRecDepth 100000 in
theorem copyBytes_any (A : Option Addr) (n c : Nat) (xs : List Nat) (w : World) (ha : Rd w 1 A n (xs.map vb)) (hn : n ≤ 140737488355328) :
    Calls Try.prog 23 #[.slice A n c] w fun e w' => ∃ v, e = .returned v ∧ w'.ownsRow w.heap.size 5 1 v n (xs.map vb) ∧ Below w.heap.size w w' := by
  obtain ⟨i0, hi, hz0, hz1, hz2⟩ := info_parts info_u8
  cases A with
  | none =>
    have h0 : n = 0 := by
      rcases Nat.eq_zero_or_pos n with h | h
      · exact h
      · obtain ⟨ad, h', _⟩ := ha.2 h; cases h'
    subst h0
    obtain rfl : xs = [] := by have := ha.1; simpa using this
    go_enter Try.func23, Try.ntmps23
    go_wp2
    go_ret
    exact ⟨_, rfl, World.ownsRow_nil _ _ _ _, Below.refl _ _⟩
  | some ad =>
    have hcells : ∀ j u, (xs.map vb)[j]? = some u → w.cell? (ad.add j) = some u := by
      intro j u hu
      rcases Nat.eq_zero_or_pos n with h | h
      · obtain rfl : xs = [] := by have := ha.1; rw [h] at this; simpa using this
        simp at hu
      · obtain ⟨ad', h', _, hc⟩ := ha.2 h
        injection h' with h'
        subst h'
        exact hc j u hu
    have HC := Lib.hid hcells; clear hcells
    go_enter Try.func23, Try.ntmps23
    go_wp2_with (at_builtin; refine wl_append rfl (.const (.slice none 0 0)) (.tmp 3) _ rfl w.heap.size Try.underlying26 hi hz0 hz1 hz2 rfl (by decide) rfl (World.ownsRow_nil _ _ _ _) (xs.map vb) rfl ha.1 HC.out ?c2 ?c3 ?c4 (Nat.le_refl _) ?_)
    case c2 => intro u hu; obtain ⟨x, _, rfl⟩ := List.mem_map.1 hu; rfl
    case c3 => omega
    case c4 => omega
    intro v w1 hown hb
    go_wp2
    go_ret
    exact ⟨_, rfl, by simpa using hown, hb⟩

/-- a store into an owned row of one-cell elements -/
theorem ownsRow_set {w : World} {b : Nat} {e : TypeId} {g n c : Nat} {xs : List Value} (h : w.ownsRow b e 1 (.slice (some ⟨g, 0, none⟩) n c) n xs) (k : Nat) (u : Value) : (w.setCell ⟨g, k, none⟩ u).ownsRow b e 1 (.slice (some ⟨g, 0, none⟩) n c) n (xs.set k u) := by
  refine ⟨by rw [List.length_set]; exact h.1, ?_⟩
  rcases h.2 with ⟨h1, _⟩ | ⟨g', cap, cur, hv, hg, hh, hnc, hcm, hcs, htk⟩
  · cases h1
  · injection hv with h1 h2 h3
    injection h1 with h1
    injection h1 with h1
    subst h1 h3
    refine .inr ⟨g, c, cur.setIfInBounds k u, rfl, hg, ?_, hnc, hcm, by simpa using hcs, ?_⟩
    · simp [World.setCell, Array.getElem?_modify, hh]
    · rw [← htk, Array.toList_setIfInBounds, List.take_set]
theorem ownsRow_frozen {w : World} {b : Nat} {e : TypeId} {size g n c : Nat} {xs : List Value} (h : w.ownsRow b e size (.slice (some ⟨g, 0, none⟩) n c) n xs) (k : Nat) : w.frozen? ⟨g, k, none⟩ = false := by
  rcases h.2 with ⟨h1, _⟩ | ⟨g', cap, cur, hv, hg, hh, _⟩
  · cases h1
  · injection hv with h1 h2 h3
    injection h1 with h1
    injection h1 with h1
    subst h1
    exact Lib.frozen_of_heap hh k

set_option maxHeartbeats 400000 in
set_option maxRecDepth 100000 in
theorem overBytes_any (b : Nat) (v : Value) (n : Nat) (xs : List Value) (w : World) (hown : w.ownsRow b 5 1 v n xs) (hn : n ≤ 9223372036854775807) :
    Calls Try.prog 21 #[v] w fun e w' => e = .returned (.tuple #[]) ∧ Below b w w' := by
  rcases Nat.eq_zero_or_pos n with h0 | h0
  · obtain ⟨A, c, rfl, _, _⟩ := ownsRow_slice hown
    subst h0
    go_enter Try.func21, Try.ntmps21
    go_wp2
    go_loopw [2] (fun i wr => i = .int .i64 0 ∧ wr = w) (fun i _ => 0)
    case atStart => exact ⟨rfl, rfl⟩
    case round =>
      obtain ⟨rfl, rfl⟩ := hrel
      go_wp2
      go_end0
      exact ⟨rfl, Below.refl _ _⟩
  · obtain ⟨g, cap, rfl, hgb, hglt⟩ := hown.form h0
    have HO := Lib.hid hown; clear hown
    go_enter Try.func21, Try.ntmps21
    go_wp2
    go_loopw [2] (fun i wr => ∃ k : Nat, k ≤ n ∧ i = .int .i64 k ∧ (∃ ys, wr.ownsRow b 5 1 (.slice (some ⟨g, 0, none⟩) n cap) n ys) ∧ Below b w wr) (fun i _ => n - (intOf i).toNat)
    case atStart => exact ⟨0, Nat.zero_le _, rfl, ⟨_, HO.out⟩, Below.refl _ _⟩
    case round =>
      obtain ⟨k, hk, rfl, ⟨ys, hy⟩, hbw⟩ := hrel
      by_cases hlt : k < n
      · have hf := ownsRow_frozen hy k
        obtain ⟨u, hu⟩ : ∃ u, ys[k]? = some u := ⟨_, List.getElem?_eq_getElem (by have := hy.1; omega)⟩
        have hc := hy.cells (g := g) rfl k u hu
        have hadd : (⟨g, 0, none⟩ : Addr).add k = ⟨g, k, none⟩ := by unfold Addr.add; split <;> simp_all
        rw [hadd] at hc
        have HU := Lib.hid hu; clear hu
        have HAD := Lib.hid hadd; clear hadd
        have HY := Lib.hid hy; clear hy
        go_wp2
        go_roundw
        case rel => exact ⟨k + 1, by omega, by go_num, ⟨_, ownsRow_set HY.out k _⟩, hbw.setCell (p := ⟨g, k, none⟩) hgb _⟩
        case measure => simp [intOf]; omega
      · go_wp2
        go_end0
        exact ⟨rfl, hbw⟩

set_option maxHeartbeats 400000 in
set_option maxRecDepth 100000 in
theorem rintersect_any (p n q m : Nat) (hp : p < 256) (hn : n < 256) (hq : q < 256) (hm : m < 256) (w : World) :
    Calls Try.prog 30 #[.agg #[.int .u8 p, .int .u8 n], .agg #[.int .u8 q, .int .u8 m]] w fun e w' =>
      e = .returned (if (p ||| q) &&& (n ||| m) = 0 then .tuple #[.agg #[vb (p ||| q), vb (n ||| m)], .bool true] else .tuple #[.agg #[vb 0, vb 0], .bool false]) ∧ Below w.heap.size w w' := by
  have h1 := or_u8 hp hq
  have h2 := or_u8 hn hm
  by_cases hd : (p ||| q) &&& (n ||| m) = 0
  · rw [if_pos hd]
    have hz : ((((p ||| q) &&& (n ||| m) : Nat) : Int) != 0) = false := by rw [hd]; rfl
    have HD := Lib.hid hd; clear hd
    go_enter Try.func30, Try.ntmps30
    go_wp2
    exact bodyPost_ret (v := .tuple #[.agg #[vb (p ||| q), vb (n ||| m)], .bool true]) (by simp [results, Try.results30, go_sem]) rfl ⟨rfl, (by repeat (first | exact Below.refl _ _ | assumption | refine Below.drew ?_ | refine below_drewN ?_ _ | refine Below.alloc ?_ (by simp <;> omega) _ | refine Below.setCell ?_ (by simp <;> omega) _))⟩
  · rw [if_neg hd]
    have hz : ((((p ||| q) &&& (n ||| m) : Nat) : Int) != 0) = true := by rw [bne_iff_ne]; omega
    have HD := Lib.hid hd; clear hd
    go_enter Try.func30, Try.ntmps30
    go_wp2
    exact bodyPost_ret (v := .tuple #[.agg #[vb 0, vb 0], .bool false]) (by simp [results, Try.results30, go_sem]) rfl ⟨rfl, (by repeat (first | exact Below.refl _ _ | assumption | refine Below.drew ?_ | refine below_drewN ?_ _ | refine Below.alloc ?_ (by simp <;> omega) _ | refine Below.setCell ?_ (by simp <;> omega) _))⟩
end Go.Proofs.Ytfdfnamkkepbiaa
