/-
  sentinelref02.Format: the text of a cube, as the reference writes it.
-/
import Derived.Test.YtfdfnamkkepbiaaBits
import Derived.Test.YtfdfnamkkepbiaaFormat
namespace Go.Proofs.Ytfdfnamkkepbiaa
open Go.RowKit

theorem and_two {p j : Nat} : p &&& two j = 0 ↔ p.testBit j = false := by
  rw [dis_iff]
  simp only [two, Nat.testBit_two_pow, decide_eq_true_eq]
  exact ⟨fun h => h j rfl, fun h i e => e ▸ h⟩
theorem chk_zero {p n k : Nat} (hk : k ≤ 6) (h : chk p n k = 0) : p < two k ∧ n < two k ∧ p &&& n = 0 := by
  rw [chk_in hk] at h
  have h1 := two_le_or (k := k) (p := p) (n := n)
  by_cases h2 : two k ≤ p ||| n
  · rw [if_pos h2] at h; cases h
  · rw [if_neg h2] at h
    by_cases h3 : p &&& n = 0
    · exact ⟨by omega, by omega, h3⟩
    · rw [if_pos h3] at h; cases h
theorem small_bit {p k i : Nat} (h : p < two k) (hi : k ≤ i) : p &&& two i = 0 :=
  and_two.2 (Nat.testBit_lt_two_pow (Nat.lt_of_lt_of_le h (Nat.pow_le_pow_right (n := 2) (by omega) hi)))
theorem litTo_stop {p n k : Nat} (hp : p < two k) (hn : n < two k) : ∀ d, litTo p n (k + d) = litTo p n k
  | 0 => rfl
  | d + 1 => by
    have ih := litTo_stop hp hn d
    rw [← Nat.add_assoc, litTo, ih]
    split
    · simp [litAt, small_bit hp (Nat.le_add_right k d), small_bit hn (Nat.le_add_right k d)]
    · simp
theorem lits_valid {p n k : Nat} (hk : k ≤ 6) (h : chk p n k = 0) : lits p n = litTo p n k := by
  obtain ⟨h1, h2, _⟩ := chk_zero hk h
  have := litTo_stop h1 h2 (8 - k)
  rwa [show k + (8 - k) = 8 by omega] at this
theorem bit_test (p j : Nat) : (((p : Int) / 2 ^ j).tmod 2 == 1) = decide (p &&& two j ≠ 0) := by
  have h1 : ((p : Int) / 2 ^ j) = ((p / 2 ^ j : Nat) : Int) := by simp
  rw [h1, Int.tmod_eq_emod_of_nonneg (Int.natCast_nonneg _)]
  have h2 : ((((p / 2 ^ j : Nat) : Int) % 2 == 1)) = decide (p / 2 ^ j % 2 = 1) := by
    rw [Bool.eq_iff_iff]; simp; omega
  rw [h2, ← Nat.testBit_eq_decide_div_mod_eq]
  have h3 := and_two (p := p) (j := j)
  cases hb : p.testBit j with
  | false => rw [hb] at h3; simp [h3.2 rfl]
  | true => rw [hb] at h3; simp; exact fun h => by have := h3.1 h; cases this
/-- string of one new byte -/
theorem conv1 (z : Int) (W : World) : (convert 26 9 (.slice (some ⟨W.heap.size, 0, none⟩) 1 1)).run Try.prog (W.alloc (.cells #[.int .u8 z] 5)) = .ok (.string ⟨#[UInt8.ofNat z.toNat]⟩) (W.alloc (.cells #[.int .u8 z] 5)) := by
  have h := run_convert_bytes_arg (P := Try.prog) (W.alloc (.cells #[.int .u8 z] 5)) 26 5 Try.underlying26 Try.underlying5 W.heap.size 0 1 1 [z] rfl
    (fun i hi => by
      obtain rfl : i = 0 := by omega
      simp [go_sem]) 9 Try.underlying9
  rw [h]
  rfl

set_option maxHeartbeats 1000000 in
theorem rformat_in (p n k : Nat) (hp : p < 256) (hn : n < 256) (hk : k ≤ 6) (hc : chk p n k = 0) (w : World) :
    Calls Try.prog 14 #[.agg #[.int .u8 p, .int .u8 n], .int .i64 k] w fun e w' => e = .returned (.tuple #[.string ⟨(fmtText p n).toArray⟩, .int .i64 0]) ∧ Below w.heap.size w w' := by
  have HC := Lib.hid hc; clear hc
  go_enter Try.func14, Try.ntmps14
  go_wp2_with fail
  refine (rcheck_any p n k hp hn _).mono ?_
  rintro e w1 ⟨rfl, hb1⟩
  rw [HC.out]
  have h10 : w1.cell? ⟨w.heap.size, 0, none⟩ = some (vb p) := by rw [bat hb1 (by simp)]; simp [go_sem]
  have h11 : w1.cell? ⟨w.heap.size, 1, none⟩ = some (vb n) := by rw [bat hb1 (by simp)]; simp [go_sem]
  have hs1 : w.heap.size < w1.heap.size := World.block_lt_of_cell? _ _ h10
  go_wp2_with fail
  go_loopw [7, 8] (fun s i wr => ∃ j : Nat, j ≤ k ∧ i = .int .i64 j ∧ s = .string ⟨(litsText (litTo p n j)).toArray⟩ ∧ Below w1.heap.size w1 wr) (fun _ i _ => k - (intOf i).toNat)
  case atStart => exact ⟨0, Nat.zero_le _, rfl, rfl, Below.refl _ _⟩
  case round =>
    obtain ⟨j, hj, rfl, rfl, hbw⟩ := hrel
    have hr0 := (bat hbw hs1).trans h10
    have hr1 := (bat hbw hs1).trans h11
    by_cases hlt : j < k
    · have hcv := conv1 (97 + (j : Int))
      have hszr : w.heap.size < wr.heap.size := Nat.lt_of_lt_of_le hs1 hbw.size
      have hl1 := litsText_len (litTo p n j)
      have hl2 := litTo_len p n j
      have hlen : (litsText (litTo p n j)).length ≤ 64 := by omega
      have hj8 : j < 8 := by omega
      have hstep : litsText (litTo p n (j + 1)) = litsText (litTo p n j) ++ litsText (litAt p n ⟨j, hj8⟩) := by
        simp [litTo, hj8, litsText]
      have HS := Lib.hid hstep; clear hstep
      have HB : Below w1.heap.size w1 (wr.alloc (.cells #[.int .u8 (97 + (j : Int))] 5)) := hbw.alloc hbw.size _
      have hbp := bit_test p j
      have hbn := bit_test n j
      clear hl1 hl2
      by_cases hP : p &&& two j = 0 <;> by_cases hN : n &&& two j = 0
      all_goals
        simp only [hP, hN, ne_eq, not_true_eq_false, not_false_eq_true, decide_true, decide_false] at hbp hbn
        have HP := Lib.hid hP; clear hP
        have HN := Lib.hid hN; clear hN
        go_wp2_with fail
        go_roundw
        case rel =>
          refine ⟨j + 1, by omega, by go_num, ?_, HB⟩
          have h1 := HP.out
          have h2 := HN.out
          rw [HS.out]
          refine congrArg Value.string (ByteArray.ext ?_)
          simp [litAt, h1, h2, litsText, litText, UInt8.ofNat_add]
        case measure => simp [intOf]; omega
    · obtain rfl : k = j := by omega
      have hbf : Below w.heap.size w wr := ((Below.refl _ _).alloc (Nat.le_refl _) _).trans ((hb1.mono (by simp)).trans (hbw.mono (by omega)))
      have hlv := lits_valid hk HC.out
      have hft : fmtText p n = if litsText (litTo p n k) = [] then [42] else litsText (litTo p n k) := by rw [fmtText, hlv]
      have HFT := Lib.hid hft; clear hft
      clear hlv
      by_cases he : litsText (litTo p n k) = []
      · have hem : (litsText (litTo p n k)).isEmpty = true := by rw [he]; rfl
        have HE := Lib.hid he; clear he
        go_wp2_with fail
        go_ret2
        exact ⟨by rw [HFT.out, if_pos HE.out]; rfl, hbf⟩
      · have hem : (litsText (litTo p n k)).isEmpty = false := by simpa using he
        have HE := Lib.hid he; clear he
        go_wp2_with fail
        go_ret2
        exact ⟨by rw [HFT.out, if_neg HE.out]; rfl, hbf⟩

set_option maxHeartbeats 400000 in
set_option maxRecDepth 100000 in
theorem rformat_bad (p n : Nat) (v : Int) (hp : p < 256) (hn : n < 256) (hc : chk p n v ≠ 0) (w : World) :
    Calls Try.prog 14 #[.agg #[.int .u8 p, .int .u8 n], .int .i64 v] w fun e w' => e = .returned (.tuple #[.string ⟨#[]⟩, .int .i64 (chk p n v)]) ∧ Below w.heap.size w w' := by
  generalize hx : chk p n v = x at hc
  have HX := Lib.hid hx; clear hx
  have hne : (x != 0) = true := by rw [bne_iff_ne]; exact hc
  go_enter Try.func14, Try.ntmps14
  go_wp2_with (go_at_call 12; refine (rcheck_any p n v hp hn _).mono ?_; rintro e w1 ⟨rfl, hb1⟩; rw [HX.out])
  go_ret2
  exact ⟨rfl, ((Below.refl _ _).alloc (Nat.le_refl _) _).trans (hb1.mono (by simp))⟩
end Go.Proofs.Ytfdfnamkkepbiaa
