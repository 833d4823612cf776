/-
  cube.Cover's closure 'inside': are all letters of a cube in the set?
-/
import Derived.Test.YtfdfnamkkepbiaaFormat
namespace Go.Proofs.Ytfdfnamkkepbiaa
open Go.RowKit

/-- all letters below m of the cube lie in f -/
def insTo (f : Nat → Bool) (p n m : Nat) : Bool := (List.range m).all fun x => !hasB p n x || f x
theorem insTo_succ (f : Nat → Bool) (p n m : Nat) : insTo f p n (m + 1) = (insTo f p n m && (!hasB p n m || f m)) := by
  simp [insTo, List.range_succ, List.all_append]
theorem insTo_false {f : Nat → Bool} {p n j m : Nat} (hj : j < m) (h : hasB p n j = true) (hf : f j = false) : insTo f p n m = false := by
  rw [insTo, List.all_eq_false]
  exact ⟨j, List.mem_range.2 hj, by simp [h, hf]⟩

set_option maxHeartbeats 1000000 in
theorem inside_any (p n k V I : Nat) (f : Nat → Bool) (hp : p < 256) (hn : n < 256) (hk : k ≤ 6) (w : World) (hV : w.cell? ⟨V, 0, none⟩ = some (.int .i64 k)) (hI : ∀ x, x < 64 → w.cell? ⟨I, x, none⟩ = some (.bool (f x))) :
    Calls Try.prog 41 #[.agg #[.int .u8 p, .int .u8 n], .pointer (some ⟨V, 0, none⟩), .pointer (some ⟨I, 0, none⟩)] w fun e w' => e = .returned (.bool (insTo f p n (two k))) ∧ Below w.heap.size w w' := by
  have h2 := two_le6 hk
  have h3 := wrap_two hk
  have hVlt : V < w.heap.size := World.block_lt_of_cell? _ _ hV
  have hIlt : I < w.heap.size := World.block_lt_of_cell? _ _ (hI 0 (by omega))
  have HI := Lib.hid hI; clear hI
  have HV := Lib.hid hV
  have hV' : (w.alloc (.cells #[.int .u8 p, .int .u8 n] 23)).cell? ⟨V, 0, none⟩ = some (.int .i64 k) := (World.cell?_alloc_lt w _ _ hVlt).trans hV
  clear hV
  go_enter Try.func41, Try.ntmps41
  go_wp2
  rw [h3]
  obtain ⟨w1, hw1⟩ : ∃ w1, w.alloc (.cells #[vb p, vb n] 23) = w1 := ⟨_, rfl⟩
  have hcell0 : w1.cell? ⟨w.heap.size, 0, none⟩ = some (vb p) := by rw [← hw1]; simp [go_sem]
  have hcell1 : w1.cell? ⟨w.heap.size, 1, none⟩ = some (vb n) := by rw [← hw1]; simp [go_sem]
  have hsz : w.heap.size < w1.heap.size := by rw [← hw1]; simp
  have hb1 : Below w.heap.size w w1 := by rw [← hw1]; exact (Below.refl _ _).alloc (Nat.le_refl _) _
  rw [hw1]
  clear hw1 hV' h3
  go_loopw [8] (fun i wr => ∃ j : Nat, j ≤ two k ∧ i = .int .i64 j ∧ insTo f p n j = true ∧ Below w1.heap.size w1 wr) (fun i _ => two k - (intOf i).toNat)
  case atStart => exact ⟨0, Nat.zero_le _, rfl, rfl, Below.refl _ _⟩
  case round =>
    obtain ⟨j, hj, rfl, hall, hbw⟩ := hrel
    have HA := Lib.hid hall; clear hall
    by_cases hlt : j < two k
    · have hr0 := (hbw.cell (p := ⟨w.heap.size, 0, none⟩) hsz).trans hcell0
      have hr1 := (hbw.cell (p := ⟨w.heap.size, 1, none⟩) hsz).trans hcell1
      by_cases hh : hasB p n j = true
      · go_wp2_with (go_at_call 18; refine (has_any p n j hp hn (by omega) _).mono ?_)
        rintro e w2 ⟨rfl, hb2⟩
        rw [hh]
        have hcj : w2.cell? ⟨I, j, none⟩ = some (.bool (f j)) := (bat hb2 (by have := hbw.size; omega)).trans ((bat hbw (by omega)).trans ((bat hb1 hIlt).trans (HI.out j (by omega))))
        by_cases hf : f j = true
        · rw [hf] at hcj
          go_wp2
          go_roundw
          case rel => exact ⟨j + 1, by omega, by go_num, by rw [insTo_succ, HA.out, hh, hf]; rfl, hbw.trans (hb2.mono hbw.size)⟩
          case measure => simp [intOf]; omega
        · have hf' : f j = false := by simpa using hf
          rw [hf'] at hcj
          go_wp2
          go_ret
          exact ⟨ret_bool (insTo_false hlt hh hf').symm, hb1.trans ((hbw.mono (by omega)).trans (hb2.mono (by have := hbw.size; omega)))⟩
      · have hh' : hasB p n j = false := by simpa using hh
        go_wp2_with (go_at_call 18; refine (has_any p n j hp hn (by omega) _).mono ?_)
        rintro e w2 ⟨rfl, hb2⟩
        rw [hh']
        go_wp2
        go_roundw
        case rel => exact ⟨j + 1, by omega, by go_num, by rw [insTo_succ, HA.out, hh']; rfl, hbw.trans (hb2.mono hbw.size)⟩
        case measure => simp [intOf]; omega
    · obtain rfl : j = two k := by omega
      go_wp2
      go_ret
      exact ⟨ret_bool HA.out.symm, hb1.trans (hbw.mono (by omega))⟩
end Go.Proofs.Ytfdfnamkkepbiaa
