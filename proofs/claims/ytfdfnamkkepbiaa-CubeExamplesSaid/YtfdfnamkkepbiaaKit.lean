/-
  The helpers of package sentinelkit: EqualBytes, CopyBytes, OverBytes, Letters, Letter.
-/
import Derived.Test.YtfdfnamkkepbiaaBase
namespace Go.Proofs.Ytfdfnamkkepbiaa
open Go.RowKit
attribute [local go_sem] u8_and_nat u8_or_nat u8_xor_nat u8_andNot_nat

theorem take_eq_succ {α : Type} {l m : List α} {k : Nat} {x : α} (hl : l[k]? = some x) (hm : m[k]? = some x) (h : l.take k = m.take k) : l.take (k + 1) = m.take (k + 1) := by
  rw [List.take_add_one, List.take_add_one, hl, hm, h]

set_option maxHeartbeats 400000 in
set_option maxRecDepth 100000 in
theorem equalBytes_any (A B : Option Addr) (n m c d : Nat) (xs ys : List Nat) (w : World) (ha : Rd w 1 A n (xs.map vb)) (hb : Rd w 1 B m (ys.map vb)) (hn : n ≤ 9223372036854775807) (hm : m ≤ 9223372036854775807) :
    Calls Try.prog 20 #[.slice A n c, .slice B m d] w fun e w' => e = .returned (.bool (decide (xs = ys))) ∧ ∃ k, w' = w.drewN k := by
  have hxl : xs.length = n := by simpa using ha.1
  have hyl : ys.length = m := by simpa using hb.1
  by_cases hnm : n = m
  · subst hnm
    have HX := Lib.hid hxl; clear hxl
    have HY := Lib.hid hyl; clear hyl
    go_enter Try.func20, Try.ntmps20
    go_wp2
    go_loopw [5] (fun i wr => ∃ k : Nat, k ≤ n ∧ i = .int .i64 k ∧ xs.take k = ys.take k ∧ ∃ q, wr = w.drewN q) (fun i _ => n - (intOf i).toNat)
    case atStart => exact ⟨0, Nat.zero_le _, rfl, rfl, 0, rfl⟩
    case round =>
      obtain ⟨k, hk, rfl, hpre, q, rfl⟩ := hrel
      have HP := Lib.hid hpre; clear hpre
      by_cases hlt : k < n
      · obtain ⟨ad, x, rfl, _, hx, hcx⟩ := ha.u8_at hlt
        obtain ⟨bd, y, rfl, _, hy, hcy⟩ := hb.u8_at hlt
        have HXX := Lib.hid hx; clear hx
        have HYY := Lib.hid hy; clear hy
        by_cases hxy : x = y
        · subst hxy
          go_wp2
          go_quiet (fail)
          go_wp2
          go_roundw
          case rel => exact ⟨k + 1, by omega, by go_num, take_eq_succ HXX.out HYY.out HP.out, _, rfl⟩
          case measure => simp [intOf]; omega
        · have hne : ((x : Int) != (y : Int)) = true := by rw [bne_iff_ne]; omega
          have HXY := Lib.hid hxy; clear hxy
          go_wp2
          go_quiet (fail)
          go_wp2
          go_ret
          refine ⟨ret_bool ?_, _, World.drewN_drewN _ _ _⟩
          symm
          refine decide_eq_false fun h => ?_
          subst h
          have := HXX.out.symm.trans HYY.out
          injection this with this
          exact HXY.out this
      · go_wp2
        go_ret
        refine ⟨ret_bool ?_, _, rfl⟩
        symm
        refine decide_eq_true ?_
        have := HP.out
        rwa [List.take_of_length_le (by rw [HX.out]; omega), List.take_of_length_le (by rw [HY.out]; omega)] at this
  · have hne : ((n : Int) != (m : Int)) = true := by rw [bne_iff_ne]; omega
    have HXY := Lib.hid hnm; clear hnm
    have HX := Lib.hid hxl; clear hxl
    have HY := Lib.hid hyl; clear hyl
    go_enter Try.func20, Try.ntmps20
    go_wp2
    go_ret
    refine ⟨ret_bool ?_, 0, rfl⟩
    symm
    refine decide_eq_false fun h => HXY.out ?_
    rw [← HX.out, ← HY.out, h]

set_option maxHeartbeats 400000 in
set_option maxRecDepth 100000 in
theorem kitLetters_any (v : Int) (w : World) (h0 : 0 ≤ v) (h6 : v ≤ 6) :
    Calls Try.prog 33 #[.int .i64 v] w fun e w' => e = .returned (.int .i64 (two v.toNat : Int)) ∧ w = w' := by
  obtain ⟨k, rfl⟩ := Int.eq_ofNat_of_zero_le h0
  go_enter Try.func33, Try.ntmps33
  go_wp2
  go_ret
  exact ⟨ret_int (wrap_two (by omega)), rfl⟩

def hasB (p n x : Nat) : Bool := (x &&& p == p) && (x &&& n == 0)
set_option maxHeartbeats 400000 in
set_option maxRecDepth 100000 in
theorem kitLetter_any (p n x : Nat) (hp : p < 256) (hn : n < 256) (hx : x < 256) (w : World) :
    Calls Try.prog 38 #[.int .u8 x, .int .u8 p, .int .u8 n] w fun e w' => e = .returned (.bool (hasB p n x)) ∧ w = w' := by
  go_enter Try.func38, Try.ntmps38
  go_wp2
  all_goals go_ret
  all_goals refine ⟨ret_bool ?_, rfl⟩
  all_goals (simp only [hasB]; rw [Bool.eq_iff_iff]; simp_all; try omega)
end Go.Proofs.Ytfdfnamkkepbiaa
