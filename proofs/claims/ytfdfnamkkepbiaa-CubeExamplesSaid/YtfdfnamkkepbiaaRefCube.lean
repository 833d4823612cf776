/-
  The reference of package cube: Check, Has, Covers, Intersect.
-/
import Derived.Test.YtfdfnamkkepbiaaCube
namespace Go.Proofs.Ytfdfnamkkepbiaa
open Go.RowKit
attribute [local go_sem] u8_and_nat u8_or_nat u8_xor_nat u8_andNot_nat

set_option maxHeartbeats 400000 in
set_option maxRecDepth 100000 in
theorem rcheck_out (p n : Nat) (v : Int) (w : World) (h : v < 0 ∨ 6 < v) :
    Calls Try.prog 12 #[.agg #[.int .u8 p, .int .u8 n], .int .i64 v] w fun e w' => e = .returned (.int .i64 (chk p n v)) ∧ Below w.heap.size w w' := by
  rw [chk_out h]
  rcases h with h | h
  · go_enter Try.func12, Try.ntmps12
    go_wp2
    all_goals (go_ret; exact ⟨rfl, (by repeat (first | exact Below.refl _ _ | assumption | refine Below.drew ?_ | refine below_drewN ?_ _ | refine Below.alloc ?_ (by simp <;> omega) _ | refine Below.setCell ?_ (by simp <;> omega) _))⟩)
  · have h' : ¬ v < 0 := by omega
    go_enter Try.func12, Try.ntmps12
    go_wp2
    all_goals (go_ret; exact ⟨rfl, (by repeat (first | exact Below.refl _ _ | assumption | refine Below.drew ?_ | refine below_drewN ?_ _ | refine Below.alloc ?_ (by simp <;> omega) _ | refine Below.setCell ?_ (by simp <;> omega) _))⟩)

theorem two_le_or {k p n : Nat} : two k ≤ p ||| n ↔ two k ≤ p ∨ two k ≤ n := by
  constructor
  · intro h
    by_cases hp : two k ≤ p
    · exact .inl hp
    · by_cases hn : two k ≤ n
      · exact .inr hn
      · exact absurd (Nat.or_lt_two_pow (n := k) (x := p) (y := n) (by simpa [two] using hp) (by simpa [two] using hn)) (Nat.not_lt.2 h)
  · rintro (h | h)
    · exact Nat.le_trans h Nat.left_le_or
    · exact Nat.le_trans h Nat.right_le_or

set_option maxHeartbeats 400000 in
set_option maxRecDepth 100000 in
theorem rcheck_in (p n k : Nat) (hp : p < 256) (hn : n < 256) (hk : k ≤ 6) (w : World) :
    Calls Try.prog 12 #[.agg #[.int .u8 p, .int .u8 n], .int .i64 k] w fun e w' => e = .returned (.int .i64 (chk p n k)) ∧ Below w.heap.size w w' := by
  have h1 := or_u8 hp hn
  have h2 := two_le6 hk
  go_enter Try.func12, Try.ntmps12
  go_wp2_with (go_at_call 33; refine (kitLetters_any _ _ (by omega) (by omega)).mono ?_; rintro e w' ⟨rfl, rfl⟩; rw [Int.toNat_natCast])
  all_goals go_ret
  all_goals refine ⟨ret_int ?_, (by repeat (first | exact Below.refl _ _ | assumption | refine Below.drew ?_ | refine below_drewN ?_ _ | refine Below.alloc ?_ (by simp <;> omega) _ | refine Below.setCell ?_ (by simp <;> omega) _))⟩
  all_goals (rw [chk_in hk]; simp only [two_le_or]; (split <;> try split) <;> first | rfl | (exfalso; simp at *; omega))

theorem rcheck_any (p n : Nat) (v : Int) (hp : p < 256) (hn : n < 256) (w : World) :
    Calls Try.prog 12 #[.agg #[.int .u8 p, .int .u8 n], .int .i64 v] w fun e w' => e = .returned (.int .i64 (chk p n v)) ∧ Below w.heap.size w w' := by
  by_cases h : v < 0 ∨ 6 < v
  · exact rcheck_out p n v w h
  · obtain ⟨k, rfl⟩ := Int.eq_ofNat_of_zero_le (show 0 ≤ v by omega)
    exact rcheck_in p n k hp hn (by omega) w

set_option maxHeartbeats 400000 in
set_option maxRecDepth 100000 in
theorem rhas_any (p n x : Nat) (hp : p < 256) (hn : n < 256) (hx : x < 256) (w : World) :
    Calls Try.prog 19 #[.agg #[.int .u8 p, .int .u8 n], .int .u8 x] w fun e w' => e = .returned (.bool (hasB p n x)) ∧ Below w.heap.size w w' := by
  go_enter Try.func19, Try.ntmps19
  go_wp2_with (go_at_call 38; refine (kitLetter_any p n x hp hn hx _).mono ?_; rintro e w' ⟨rfl, rfl⟩)
  all_goals go_ret
  all_goals exact ⟨rfl, (by repeat (first | exact Below.refl _ _ | assumption | refine Below.drew ?_ | refine below_drewN ?_ _ | refine Below.alloc ?_ (by simp <;> omega) _ | refine Below.setCell ?_ (by simp <;> omega) _))⟩

set_option maxHeartbeats 400000 in
set_option maxRecDepth 100000 in
theorem rcovers_any (p n q m : Nat) (hp : p < 256) (hn : n < 256) (hq : q < 256) (hm : m < 256) (w : World) :
    Calls Try.prog 32 #[.agg #[.int .u8 p, .int .u8 n], .agg #[.int .u8 q, .int .u8 m]] w fun e w' => e = .returned (.bool (covB p n q m)) ∧ Below w.heap.size w w' := by
  go_enter Try.func32, Try.ntmps32
  go_wp2
  all_goals go_ret
  all_goals refine ⟨ret_bool ?_, (by repeat (first | exact Below.refl _ _ | assumption | refine Below.drew ?_ | refine below_drewN ?_ _ | refine Below.alloc ?_ (by simp <;> omega) _ | refine Below.setCell ?_ (by simp <;> omega) _))⟩
  all_goals (simp only [covB]; rw [Bool.eq_iff_iff]; simp_all; try omega)
end Go.Proofs.Ytfdfnamkkepbiaa
