/-
  Package cube and its reference: Check, Has, Covers, Intersect.
-/
import Derived.Test.YtfdfnamkkepbiaaKit
namespace Go.Proofs.Ytfdfnamkkepbiaa
open Go.RowKit
attribute [local go_sem] u8_and_nat u8_or_nat u8_xor_nat u8_andNot_nat

def chk (p n : Nat) (v : Int) : Int := if v < 0 ∨ 6 < v then 7 else if two v.toNat ≤ p ||| n then 7 else if p &&& n ≠ 0 then 2 else 0
theorem chk_out {p n : Nat} {v : Int} (h : v < 0 ∨ 6 < v) : chk p n v = 7 := if_pos h
theorem chk_in {p n k : Nat} (h : k ≤ 6) : chk p n k = if two k ≤ p ||| n then 7 else if p &&& n ≠ 0 then 2 else 0 := by
  rw [chk, if_neg (by omega)]; rfl

set_option maxHeartbeats 400000 in
set_option maxRecDepth 100000 in
theorem check_out (p n : Nat) (v : Int) (w : World) (h : v < 0 ∨ 6 < v) :
    Calls Try.prog 17 #[.agg #[.int .u8 p, .int .u8 n], .int .i64 v] w fun e w' => e = .returned (.int .i64 (chk p n v)) ∧ Below w.heap.size w w' := by
  rw [chk_out h]
  rcases h with h | h
  · go_enter Try.func17, Try.ntmps17
    go_wp2
    all_goals (go_ret; exact ⟨rfl, (by repeat (first | exact Below.refl _ _ | assumption | refine Below.drew ?_ | refine below_drewN ?_ _ | refine Below.alloc ?_ (by simp <;> omega) _ | refine Below.setCell ?_ (by simp <;> omega) _))⟩)
  · have h' : ¬ v < 0 := by omega
    go_enter Try.func17, Try.ntmps17
    go_wp2
    all_goals (go_ret; exact ⟨rfl, (by repeat (first | exact Below.refl _ _ | assumption | refine Below.drew ?_ | refine below_drewN ?_ _ | refine Below.alloc ?_ (by simp <;> omega) _ | refine Below.setCell ?_ (by simp <;> omega) _))⟩)

set_option maxHeartbeats 400000 in
set_option maxRecDepth 100000 in
theorem check_in (p n k : Nat) (hp : p < 256) (hn : n < 256) (hk : k ≤ 6) (w : World) :
    Calls Try.prog 17 #[.agg #[.int .u8 p, .int .u8 n], .int .i64 k] w fun e w' => e = .returned (.int .i64 (chk p n k)) ∧ Below w.heap.size w w' := by
  have h1 := or_u8 hp hn
  have h2 := two_le6 hk
  have h3 := wrap_two hk
  go_enter Try.func17, Try.ntmps17
  go_wp2
  go_quiet (fail)
  go_wp2
  all_goals go_ret
  all_goals refine ⟨ret_int ?_, (by repeat (first | exact Below.refl _ _ | assumption | refine Below.drew ?_ | refine below_drewN ?_ _ | refine Below.alloc ?_ (by simp <;> omega) _ | refine Below.setCell ?_ (by simp <;> omega) _))⟩
  all_goals (rw [chk_in hk]; clear h3; (split <;> try split) <;> first | rfl | (exfalso; simp at *; omega))

theorem check_any (p n : Nat) (v : Int) (hp : p < 256) (hn : n < 256) (w : World) :
    Calls Try.prog 17 #[.agg #[.int .u8 p, .int .u8 n], .int .i64 v] w fun e w' => e = .returned (.int .i64 (chk p n v)) ∧ Below w.heap.size w w' := by
  by_cases h : v < 0 ∨ 6 < v
  · exact check_out p n v w h
  · obtain ⟨k, rfl⟩ := Int.eq_ofNat_of_zero_le (show 0 ≤ v by omega)
    exact check_in p n k hp hn (by omega) w

set_option maxHeartbeats 400000 in
set_option maxRecDepth 100000 in
theorem has_any (p n x : Nat) (hp : p < 256) (hn : n < 256) (hx : x < 256) (w : World) :
    Calls Try.prog 18 #[.agg #[.int .u8 p, .int .u8 n], .int .u8 x] w fun e w' => e = .returned (.bool (hasB p n x)) ∧ Below w.heap.size w w' := by
  go_enter Try.func18, Try.ntmps18
  go_wp2
  all_goals go_ret
  all_goals refine ⟨ret_bool ?_, (by repeat (first | exact Below.refl _ _ | assumption | refine Below.drew ?_ | refine below_drewN ?_ _ | refine Below.alloc ?_ (by simp <;> omega) _ | refine Below.setCell ?_ (by simp <;> omega) _))⟩
  all_goals (simp only [hasB]; rw [Bool.eq_iff_iff]; simp_all; try omega)

def covB (p n q m : Nat) : Bool := (p &&& q == p) && (n &&& m == n)
set_option maxHeartbeats 400000 in
set_option maxRecDepth 100000 in
theorem covers_any (p n q m : Nat) (hp : p < 256) (hn : n < 256) (hq : q < 256) (hm : m < 256) (w : World) :
    Calls Try.prog 31 #[.agg #[.int .u8 p, .int .u8 n], .agg #[.int .u8 q, .int .u8 m]] w fun e w' => e = .returned (.bool (covB p n q m)) ∧ Below w.heap.size w w' := by
  go_enter Try.func31, Try.ntmps31
  go_wp2
  all_goals go_ret
  all_goals refine ⟨ret_bool ?_, (by repeat (first | exact Below.refl _ _ | assumption | refine Below.drew ?_ | refine below_drewN ?_ _ | refine Below.alloc ?_ (by simp <;> omega) _ | refine Below.setCell ?_ (by simp <;> omega) _))⟩
  all_goals have h1 := andNot_zero hp hq
  all_goals have h2 := andNot_zero hn hm
  all_goals (simp only [covB]; rw [Bool.eq_iff_iff]; simp_all; try omega)

set_option maxHeartbeats 400000 in
set_option maxRecDepth 100000 in
theorem intersect_any (p n q m : Nat) (hp : p < 256) (hn : n < 256) (hq : q < 256) (hm : m < 256) (w : World) :
    Calls Try.prog 29 #[.agg #[.int .u8 p, .int .u8 n], .agg #[.int .u8 q, .int .u8 m]] w fun e w' =>
      e = .returned (if (p ||| q) &&& (n ||| m) = 0 then .tuple #[.agg #[vb (p ||| q), vb (n ||| m)], .bool true] else .tuple #[.agg #[vb 0, vb 0], .bool false]) ∧ Below w.heap.size w w' := by
  have h1 := or_u8 hp hq
  have h2 := or_u8 hn hm
  by_cases hd : (p ||| q) &&& (n ||| m) = 0
  · rw [if_pos hd]
    have hz : ((((p ||| q) &&& (n ||| m) : Nat) : Int) != 0) = false := by rw [hd]; rfl
    have HD := Lib.hid hd; clear hd
    go_enter Try.func29, Try.ntmps29
    go_wp2
    exact bodyPost_ret (v := .tuple #[.agg #[vb (p ||| q), vb (n ||| m)], .bool true]) (by simp [results, Try.results29, go_sem]) rfl ⟨rfl, (by repeat (first | exact Below.refl _ _ | assumption | refine Below.drew ?_ | refine below_drewN ?_ _ | refine Below.alloc ?_ (by simp <;> omega) _ | refine Below.setCell ?_ (by simp <;> omega) _))⟩
  · rw [if_neg hd]
    have hz : ((((p ||| q) &&& (n ||| m) : Nat) : Int) != 0) = true := by rw [bne_iff_ne]; omega
    have HD := Lib.hid hd; clear hd
    go_enter Try.func29, Try.ntmps29
    go_wp2
    exact bodyPost_ret (v := .tuple #[.agg #[vb 0, vb 0], .bool false]) (by simp [results, Try.results29, go_sem]) rfl ⟨rfl, (by repeat (first | exact Below.refl _ _ | assumption | refine Below.drew ?_ | refine below_drewN ?_ _ | refine Below.alloc ?_ (by simp <;> omega) _ | refine Below.setCell ?_ (by simp <;> omega) _))⟩
end Go.Proofs.Ytfdfnamkkepbiaa
