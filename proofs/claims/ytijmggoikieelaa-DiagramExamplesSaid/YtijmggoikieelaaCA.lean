/-
  The helpers of package sentinelkit: EqualBytes, CopyBytes, OverBytes, Letters, Letter.
-/
import Derived.Test.YtijmggoikieelaaEA
namespace Go.Proofs.Ytijmggoikieelaa
open Go.RowKit
attribute [local go_sem] u8_and_nat u8_or_nat u8_xor_nat u8_andNot_nat

theorem take_eq_succ {α : Type} {l m : List α} {k : Nat} {x : α} (hl : l[k]? = some x) (hm : m[k]? = some x) (h : l.take k = m.take k) : l.take (k + 1) = m.take (k + 1) := by
  rw [List.take_add_one, List.take_add_one, hl, hm, h]

set_option maxHeartbeats 400000 in
set_option maxRecDepth 100000 in
theorem kitLetters_any (v : Int) (w : World) (h0 : 0 ≤ v) (h6 : v ≤ 6) :
    Calls Try.prog 37 #[.int .i64 v] w fun e w' => e = .returned (.int .i64 (two v.toNat : Int)) ∧ w = w' := by
  obtain ⟨k, rfl⟩ := Int.eq_ofNat_of_zero_le h0
  go_enter Try.func37, Try.ntmps37
  go_wp2
  go_ret
  exact ⟨ret_int (wrap_two (by omega)), rfl⟩

def hasB (p n x : Nat) : Bool := (x &&& p == p) && (x &&& n == 0)
set_option maxHeartbeats 400000 in
set_option maxRecDepth 100000 in
theorem kitLetter_any (p n x : Nat) (hp : p < 256) (hn : n < 256) (hx : x < 256) (w : World) :
    Calls Try.prog 72 #[.int .u8 x, .int .u8 p, .int .u8 n] w fun e w' => e = .returned (.bool (hasB p n x)) ∧ w = w' := by
  go_enter Try.func72, Try.ntmps72
  go_wp2
  all_goals go_ret
  all_goals refine ⟨ret_bool ?_, rfl⟩
  all_goals (simp only [hasB]; rw [Bool.eq_iff_iff]; simp_all; try omega)
end Go.Proofs.Ytijmggoikieelaa
/-
  Package cube and its reference: Check, Has, Covers, Intersect.
-/
namespace Go.Proofs.Ytijmggoikieelaa
open Go.RowKit
attribute [local go_sem] u8_and_nat u8_or_nat u8_xor_nat u8_andNot_nat

def chk (p n : Nat) (v : Int) : Int := if v < 0 ∨ 6 < v then 7 else if two v.toNat ≤ p ||| n then 7 else if p &&& n ≠ 0 then 2 else 0
theorem chk_out {p n : Nat} {v : Int} (h : v < 0 ∨ 6 < v) : chk p n v = 7 := if_pos h
theorem chk_in {p n k : Nat} (h : k ≤ 6) : chk p n k = if two k ≤ p ||| n then 7 else if p &&& n ≠ 0 then 2 else 0 := by
  rw [chk, if_neg (by omega)]; rfl

set_option maxHeartbeats 400000 in
set_option maxRecDepth 100000 in
theorem check_out (p n : Nat) (v : Int) (w : World) (h : v < 0 ∨ 6 < v) :
    Calls Try.prog 56 #[.agg #[.int .u8 p, .int .u8 n], .int .i64 v] w fun e w' => e = .returned (.int .i64 (chk p n v)) ∧ Below w.heap.size w w' := by
  rw [chk_out h]
  rcases h with h | h
  · go_enter Try.func56, Try.ntmps56
    go_wp2
    all_goals (go_ret; exact ⟨rfl, (by repeat (first | exact Below.refl _ _ | assumption | refine Below.drew ?_ | refine below_drewN ?_ _ | refine Below.alloc ?_ (by simp <;> omega) _ | refine Below.setCell ?_ (by simp <;> omega) _))⟩)
  · have h' : ¬ v < 0 := by omega
    go_enter Try.func56, Try.ntmps56
    go_wp2
    all_goals (go_ret; exact ⟨rfl, (by repeat (first | exact Below.refl _ _ | assumption | refine Below.drew ?_ | refine below_drewN ?_ _ | refine Below.alloc ?_ (by simp <;> omega) _ | refine Below.setCell ?_ (by simp <;> omega) _))⟩)

set_option maxHeartbeats 400000 in
set_option maxRecDepth 100000 in
theorem check_in (p n k : Nat) (hp : p < 256) (hn : n < 256) (hk : k ≤ 6) (w : World) :
    Calls Try.prog 56 #[.agg #[.int .u8 p, .int .u8 n], .int .i64 k] w fun e w' => e = .returned (.int .i64 (chk p n k)) ∧ Below w.heap.size w w' := by
  have h1 := or_u8 hp hn
  have h2 := two_le6 hk
  have h3 := wrap_two hk
  go_enter Try.func56, Try.ntmps56
  go_wp2
  go_quiet (fail)
  go_wp2
  all_goals go_ret
  all_goals refine ⟨ret_int ?_, (by repeat (first | exact Below.refl _ _ | assumption | refine Below.drew ?_ | refine below_drewN ?_ _ | refine Below.alloc ?_ (by simp <;> omega) _ | refine Below.setCell ?_ (by simp <;> omega) _))⟩
  all_goals (rw [chk_in hk]; clear h3; (split <;> try split) <;> first | rfl | (exfalso; simp at *; omega))

theorem check_any (p n : Nat) (v : Int) (hp : p < 256) (hn : n < 256) (w : World) :
    Calls Try.prog 56 #[.agg #[.int .u8 p, .int .u8 n], .int .i64 v] w fun e w' => e = .returned (.int .i64 (chk p n v)) ∧ Below w.heap.size w w' := by
  by_cases h : v < 0 ∨ 6 < v
  · exact check_out p n v w h
  · obtain ⟨k, rfl⟩ := Int.eq_ofNat_of_zero_le (show 0 ≤ v by omega)
    exact check_in p n k hp hn (by omega) w

set_option maxHeartbeats 400000 in
set_option maxRecDepth 100000 in
theorem has_any (p n x : Nat) (hp : p < 256) (hn : n < 256) (hx : x < 256) (w : World) :
    Calls Try.prog 58 #[.agg #[.int .u8 p, .int .u8 n], .int .u8 x] w fun e w' => e = .returned (.bool (hasB p n x)) ∧ Below w.heap.size w w' := by
  go_enter Try.func58, Try.ntmps58
  go_wp2
  all_goals go_ret
  all_goals refine ⟨ret_bool ?_, (by repeat (first | exact Below.refl _ _ | assumption | refine Below.drew ?_ | refine below_drewN ?_ _ | refine Below.alloc ?_ (by simp <;> omega) _ | refine Below.setCell ?_ (by simp <;> omega) _))⟩
  all_goals (simp only [hasB]; rw [Bool.eq_iff_iff]; simp_all; try omega)

def covB (p n q m : Nat) : Bool := (p &&& q == p) && (n &&& m == n)
end Go.Proofs.Ytijmggoikieelaa
/-
  The reference of package cube: Check, Has, Covers, Intersect.
-/
namespace Go.Proofs.Ytijmggoikieelaa
open Go.RowKit
attribute [local go_sem] u8_and_nat u8_or_nat u8_xor_nat u8_andNot_nat

set_option maxHeartbeats 400000 in
set_option maxRecDepth 100000 in
theorem rcheck_out (p n : Nat) (v : Int) (w : World) (h : v < 0 ∨ 6 < v) :
    Calls Try.prog 38 #[.agg #[.int .u8 p, .int .u8 n], .int .i64 v] w fun e w' => e = .returned (.int .i64 (chk p n v)) ∧ Below w.heap.size w w' := by
  rw [chk_out h]
  rcases h with h | h
  · go_enter Try.func38, Try.ntmps38
    go_wp2
    all_goals (go_ret; exact ⟨rfl, (by repeat (first | exact Below.refl _ _ | assumption | refine Below.drew ?_ | refine below_drewN ?_ _ | refine Below.alloc ?_ (by simp <;> omega) _ | refine Below.setCell ?_ (by simp <;> omega) _))⟩)
  · have h' : ¬ v < 0 := by omega
    go_enter Try.func38, Try.ntmps38
    go_wp2
    all_goals (go_ret; exact ⟨rfl, (by repeat (first | exact Below.refl _ _ | assumption | refine Below.drew ?_ | refine below_drewN ?_ _ | refine Below.alloc ?_ (by simp <;> omega) _ | refine Below.setCell ?_ (by simp <;> omega) _))⟩)

theorem two_le_or {k p n : Nat} : two k ≤ p ||| n ↔ two k ≤ p ∨ two k ≤ n := by
  constructor
  · intro h
    by_cases hp : two k ≤ p
    · exact .inl hp
    · by_cases hn : two k ≤ n
      · exact .inr hn
      · exact absurd (Nat.or_lt_two_pow (n := k) (x := p) (y := n) (by simpa [two] using hp) (by simpa [two] using hn)) (Nat.not_lt.2 h)
  · rintro (h | h)
    · exact Nat.le_trans h Nat.left_le_or
    · exact Nat.le_trans h Nat.right_le_or

set_option maxHeartbeats 400000 in
set_option maxRecDepth 100000 in
theorem rcheck_in (p n k : Nat) (hp : p < 256) (hn : n < 256) (hk : k ≤ 6) (w : World) :
    Calls Try.prog 38 #[.agg #[.int .u8 p, .int .u8 n], .int .i64 k] w fun e w' => e = .returned (.int .i64 (chk p n k)) ∧ Below w.heap.size w w' := by
  have h1 := or_u8 hp hn
  have h2 := two_le6 hk
  go_enter Try.func38, Try.ntmps38
  go_wp2_with (go_at_call 37; refine (kitLetters_any _ _ (by omega) (by omega)).mono ?_; rintro e w' ⟨rfl, rfl⟩; rw [Int.toNat_natCast])
  all_goals go_ret
  all_goals refine ⟨ret_int ?_, (by repeat (first | exact Below.refl _ _ | assumption | refine Below.drew ?_ | refine below_drewN ?_ _ | refine Below.alloc ?_ (by simp <;> omega) _ | refine Below.setCell ?_ (by simp <;> omega) _))⟩
  all_goals (rw [chk_in hk]; simp only [two_le_or]; (split <;> try split) <;> first | rfl | (exfalso; simp at *; omega))

theorem rcheck_any (p n : Nat) (v : Int) (hp : p < 256) (hn : n < 256) (w : World) :
    Calls Try.prog 38 #[.agg #[.int .u8 p, .int .u8 n], .int .i64 v] w fun e w' => e = .returned (.int .i64 (chk p n v)) ∧ Below w.heap.size w w' := by
  by_cases h : v < 0 ∨ 6 < v
  · exact rcheck_out p n v w h
  · obtain ⟨k, rfl⟩ := Int.eq_ofNat_of_zero_le (show 0 ≤ v by omega)
    exact rcheck_in p n k hp hn (by omega) w

set_option maxHeartbeats 400000 in
set_option maxRecDepth 100000 in
theorem rhas_any (p n x : Nat) (hp : p < 256) (hn : n < 256) (hx : x < 256) (w : World) :
    Calls Try.prog 60 #[.agg #[.int .u8 p, .int .u8 n], .int .u8 x] w fun e w' => e = .returned (.bool (hasB p n x)) ∧ Below w.heap.size w w' := by
  go_enter Try.func60, Try.ntmps60
  go_wp2_with (go_at_call 72; refine (kitLetter_any p n x hp hn hx _).mono ?_; rintro e w' ⟨rfl, rfl⟩)
  all_goals go_ret
  all_goals exact ⟨rfl, (by repeat (first | exact Below.refl _ _ | assumption | refine Below.drew ?_ | refine below_drewN ?_ _ | refine Below.alloc ?_ (by simp <;> omega) _ | refine Below.setCell ?_ (by simp <;> omega) _))⟩

end Go.Proofs.Ytijmggoikieelaa
/-
  cube.Letters and its reference: the letters of a cube in ascending order.
-/
namespace Go.Proofs.Ytijmggoikieelaa
open Go.RowKit
attribute [local go_sem] u8_and_nat u8_or_nat u8_xor_nat u8_andNot_nat

theorem info_u8 : (Try.prog.info? 5).map (fun i => (i.zero, i.size, i.bytes)) = some (some (.int .u8 0), 1, 1) := by kernel_rfl

/-- the letters below k that belong to the cube -/
def letTo (p n k : Nat) : List Nat := (List.range k).filter (hasB p n ·)
theorem letTo_succ (p n k : Nat) : letTo p n (k + 1) = letTo p n k ++ if hasB p n k then [k] else [] := by
  simp only [letTo, List.range_succ, List.filter_append, List.filter_cons, List.filter_nil]
  try split <;> rfl
theorem letTo_len (p n k : Nat) : (letTo p n k).length ≤ k := by
  have := List.length_filter_le (hasB p n ·) (List.range k)
  simpa [letTo] using this

end Go.Proofs.Ytijmggoikieelaa
