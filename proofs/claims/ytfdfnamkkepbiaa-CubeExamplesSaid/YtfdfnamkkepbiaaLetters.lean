/-
  cube.Letters and its reference: the letters of a cube in ascending order.
-/
import Derived.Test.YtfdfnamkkepbiaaRefCube
namespace Go.Proofs.Ytfdfnamkkepbiaa
open Go.RowKit
attribute [local go_sem] u8_and_nat u8_or_nat u8_xor_nat u8_andNot_nat

theorem info_u8 : (Try.prog.info? 5).map (fun i => (i.zero, i.size, i.bytes)) = some (some (.int .u8 0), 1, 1) := by kernel_rfl

/-- the letters below k that belong to the cube -/
def letTo (p n k : Nat) : List Nat := (List.range k).filter (hasB p n ·)
theorem letTo_succ (p n k : Nat) : letTo p n (k + 1) = letTo p n k ++ if hasB p n k then [k] else [] := by
  simp only [letTo, List.range_succ, List.filter_append, List.filter_cons, List.filter_nil]
  try split <;> rfl
theorem letTo_len (p n k : Nat) : (letTo p n k).length ≤ k := by
  have := List.length_filter_le (hasB p n ·) (List.range k)
  simpa [letTo] using this

set_option maxHeartbeats 400000 in
set_option maxRecDepth 100000 in
theorem letters_in (p n k : Nat) (hp : p < 256) (hn : n < 256) (hk : k ≤ 6) (hc : chk p n k = 0) (w : World) :
    Calls Try.prog 15 #[.agg #[.int .u8 p, .int .u8 n], .int .i64 k] w fun e w' => ∃ v, e = .returned (.tuple #[v, .int .i64 0]) ∧
      w'.ownsRow w.heap.size 5 1 v (letTo p n (two k)).length ((letTo p n (two k)).map vb) ∧ Below w.heap.size w w' := by
  have h2 := two_le6 hk
  have h3 := wrap_two hk
  obtain ⟨i0, hi, hz0, hz1, hz2⟩ := info_parts info_u8
  have HC := Lib.hid hc; clear hc
  go_enter Try.func15, Try.ntmps15
  go_wp2_with (go_at_call 17; refine (check_any p n k hp hn _).mono ?_; rintro e w1 ⟨rfl, hb1⟩; rw [HC.out])
  rw [h3]
  clear h3
  obtain ⟨hc1, hf1⟩ := bcell hb1
  have hcell0 : w1.cell? ⟨w.heap.size, 0, none⟩ = some (vb p) := by rw [hc1 _ _ (by simp)]; simp [go_sem]
  have hcell1 : w1.cell? ⟨w.heap.size, 1, none⟩ = some (vb n) := by rw [hc1 _ _ (by simp)]; simp [go_sem]
  have hsz : w.heap.size < w1.heap.size := by have := hb1.size; simp at this; omega
  clear hc1 hf1
  go_loopw [4, 16] (fun v i wr => ∃ j : Nat, j ≤ two k ∧ i = .int .i64 j ∧ wr.ownsRow w1.heap.size 5 1 v (letTo p n j).length ((letTo p n j).map vb) ∧ Below w1.heap.size w1 wr) (fun _ i _ => two k - (intOf i).toNat)
  case atStart => exact ⟨0, Nat.zero_le _, rfl, World.ownsRow_nil _ _ _ _, Below.refl _ _⟩
  case round =>
    obtain ⟨j, hj, rfl, hown, hbw⟩ := hrel
    have hl := letTo_len p n j
    by_cases hlt : j < two k
    · have hr0 := (hbw.cell (p := ⟨w.heap.size, 0, none⟩) hsz).trans hcell0
      have hr1 := (hbw.cell (p := ⟨w.heap.size, 1, none⟩) hsz).trans hcell1
      by_cases hh : hasB p n j = true
      · go_wp2_with (first
          | (go_at_call 18; refine (has_any p n j hp hn (by omega) _).mono ?_; rintro e w2 ⟨rfl, hb2⟩)
          | (at_builtin; refine wl_append rfl (.tmp 23) (.tmp 26) _ rfl w1.heap.size Try.underlying26 hi hz0 hz1 hz2 rfl (by decide) rfl ((ownsRow_below hown hb2).alloc _) [vb j] rfl rfl (cell_one_new _ _ _) ?c2 ?c3 ?c4 ?c5 ?_; (case c2 => simp [Value.oneCell']); (case c3 => omega); (case c4 => omega); (case c5 => have := hbw.size; have := hb2.size; simp; omega); intro v' w3 hown3 hb3))
        go_roundw
        case rel =>
          refine ⟨j + 1, by omega, by go_num, ?_, hbw.trans ((hb2.mono hbw.size).trans (((Below.refl _ _).alloc ?_ _).trans hb3))⟩
          · rw [letTo_succ, if_pos hh, List.length_append, List.map_append]; exact hown3
          · have := hbw.size; have := hb2.size; omega
        case measure => simp [intOf]; omega
      · go_wp2_with (first
          | (go_at_call 18; refine (has_any p n j hp hn (by omega) _).mono ?_; rintro e w2 ⟨rfl, hb2⟩))
        go_roundw
        case rel =>
          refine ⟨j + 1, by omega, by go_num, ?_, hbw.trans (hb2.mono hbw.size)⟩
          rw [letTo_succ, if_neg hh, List.append_nil]; exact ownsRow_below hown hb2
        case measure => simp [intOf]; omega
    · obtain rfl : j = two k := by omega
      go_wp2
      go_ret2
      exact ⟨_, rfl, ownsRow_base hown (by omega), ((Below.refl _ _).alloc (Nat.le_refl _) _).trans ((hb1.mono (by simp)).trans (hbw.mono (by omega)))⟩

set_option maxHeartbeats 400000 in
set_option maxRecDepth 100000 in
theorem letters_bad (p n : Nat) (v : Int) (hp : p < 256) (hn : n < 256) (hc : chk p n v ≠ 0) (w : World) :
    Calls Try.prog 15 #[.agg #[.int .u8 p, .int .u8 n], .int .i64 v] w fun e w' => e = .returned (.tuple #[.slice none 0 0, .int .i64 (chk p n v)]) ∧ Below w.heap.size w w' := by
  generalize hx : chk p n v = x at hc
  have HX := Lib.hid hx; clear hx
  have hne : (x != 0) = true := by rw [bne_iff_ne]; exact hc
  go_enter Try.func15, Try.ntmps15
  go_wp2_with (go_at_call 17; refine (check_any p n v hp hn _).mono ?_; rintro e w1 ⟨rfl, hb1⟩; rw [HX.out])
  go_ret2
  exact ⟨rfl, ((Below.refl _ _).alloc (Nat.le_refl _) _).trans (hb1.mono (by simp))⟩

set_option maxHeartbeats 400000 in
set_option maxRecDepth 100000 in
theorem rletters_in (p n k : Nat) (hp : p < 256) (hn : n < 256) (hk : k ≤ 6) (w : World) :
    Calls Try.prog 13 #[.agg #[.int .u8 p, .int .u8 n], .int .i64 k] w fun e w' => ∃ v, e = .returned v ∧
      w'.ownsRow w.heap.size 5 1 v (letTo p n (two k)).length ((letTo p n (two k)).map vb) ∧ Below w.heap.size w w' := by
  have h2 := two_le6 hk
  obtain ⟨i0, hi, hz0, hz1, hz2⟩ := info_parts info_u8
  go_enter Try.func13, Try.ntmps13
  go_wp2
  obtain ⟨w1, hw1⟩ : ∃ w1, w.alloc (.cells #[vb p, vb n] 23) = w1 := ⟨_, rfl⟩
  have hcell0 : w1.cell? ⟨w.heap.size, 0, none⟩ = some (vb p) := by rw [← hw1]; simp [go_sem]
  have hcell1 : w1.cell? ⟨w.heap.size, 1, none⟩ = some (vb n) := by rw [← hw1]; simp [go_sem]
  have hsz : w.heap.size < w1.heap.size := by rw [← hw1]; simp
  have hb1 : Below w.heap.size w w1 := by rw [← hw1]; exact (Below.refl _ _).alloc (Nat.le_refl _) _
  rw [hw1]
  clear hw1
  go_loopw [5, 6] (fun v i wr => ∃ j : Nat, j ≤ two k ∧ i = .int .i64 j ∧ wr.ownsRow w1.heap.size 5 1 v (letTo p n j).length ((letTo p n j).map vb) ∧ Below w1.heap.size w1 wr) (fun _ i _ => two k - (intOf i).toNat)
  case atStart => exact ⟨0, Nat.zero_le _, rfl, World.ownsRow_nil _ _ _ _, Below.refl _ _⟩
  case round =>
    obtain ⟨j, hj, rfl, hown, hbw⟩ := hrel
    have hl := letTo_len p n j
    by_cases hlt : j < two k
    · have hr0 := (hbw.cell (p := ⟨w.heap.size, 0, none⟩) hsz).trans hcell0
      have hr1 := (hbw.cell (p := ⟨w.heap.size, 1, none⟩) hsz).trans hcell1
      by_cases hh : hasB p n j = true
      · go_wp2_with (first
          | (go_at_call 33; refine (kitLetters_any _ _ (by omega) (by omega)).mono ?_; rintro e w' ⟨rfl, rfl⟩; rw [Int.toNat_natCast])
          | (go_at_call 19; refine (rhas_any p n j hp hn (by omega) _).mono ?_; rintro e w2 ⟨rfl, hb2⟩)
          | (at_builtin; refine wl_append rfl (.tmp 17) (.tmp 20) _ rfl w1.heap.size Try.underlying26 hi hz0 hz1 hz2 rfl (by decide) rfl ((ownsRow_below hown hb2).alloc _) [vb j] rfl rfl (cell_one_new _ _ _) ?c2 ?c3 ?c4 ?c5 ?_; (case c2 => simp [Value.oneCell']); (case c3 => omega); (case c4 => omega); (case c5 => have := hbw.size; have := hb2.size; simp; omega); intro v' w3 hown3 hb3))
        go_roundw
        case rel =>
          refine ⟨j + 1, by omega, by go_num, ?_, hbw.trans ((hb2.mono hbw.size).trans (((Below.refl _ _).alloc ?_ _).trans hb3))⟩
          · rw [letTo_succ, if_pos hh, List.length_append, List.map_append]; exact hown3
          · have := hbw.size; have := hb2.size; omega
        case measure => simp [intOf]; omega
      · go_wp2_with (first
          | (go_at_call 33; refine (kitLetters_any _ _ (by omega) (by omega)).mono ?_; rintro e w' ⟨rfl, rfl⟩; rw [Int.toNat_natCast])
          | (go_at_call 19; refine (rhas_any p n j hp hn (by omega) _).mono ?_; rintro e w2 ⟨rfl, hb2⟩))
        go_roundw
        case rel =>
          refine ⟨j + 1, by omega, by go_num, ?_, hbw.trans (hb2.mono hbw.size)⟩
          rw [letTo_succ, if_neg hh, List.append_nil]; exact ownsRow_below hown hb2
        case measure => simp [intOf]; omega
    · obtain rfl : j = two k := by omega
      go_wp2_with (go_at_call 33; refine (kitLetters_any _ _ (by omega) (by omega)).mono ?_; rintro e w' ⟨rfl, rfl⟩; rw [Int.toNat_natCast])
      go_ret
      exact ⟨_, rfl, ownsRow_base hown (by omega), hb1.trans (hbw.mono (by omega))⟩
end Go.Proofs.Ytfdfnamkkepbiaa
