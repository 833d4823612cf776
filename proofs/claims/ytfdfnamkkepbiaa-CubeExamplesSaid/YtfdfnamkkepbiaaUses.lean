/-
  Letters and Format (the program's and the reference's) for every cube, in one contract each.
-/
import Derived.Test.YtfdfnamkkepbiaaRefFormat
namespace Go.Proofs.Ytfdfnamkkepbiaa
open Go.RowKit

/-- the letters and the text of a cube; nothing for an invalid one -/
def letU (p n : Nat) (v : Int) : List Nat := if chk p n v = 0 then letTo p n (two v.toNat) else []
def txtU (p n : Nat) (v : Int) : List UInt8 := if chk p n v = 0 then fmtText p n else []
theorem letU_len (p n : Nat) (v : Int) : (letU p n v).length ≤ 64 := by
  unfold letU
  by_cases h : chk p n v = 0
  · rw [if_pos h]
    have h1 : ¬ (v < 0 ∨ 6 < v) := fun h' => by rw [chk_out h'] at h; cases h
    have := letTo_len p n (two v.toNat)
    have := two_le6 (k := v.toNat) (by omega)
    omega
  · rw [if_neg h]; simp

theorem letters_u (p n : Nat) (v : Int) (hp : p < 256) (hn : n < 256) (w : World) :
    Calls Try.prog 15 #[.agg #[.int .u8 p, .int .u8 n], .int .i64 v] w fun e w' => ∃ A c, e = .returned (.tuple #[.slice A (letU p n v).length c, .int .i64 (chk p n v)]) ∧
      w'.ownsRow w.heap.size 5 1 (.slice A (letU p n v).length c) (letU p n v).length ((letU p n v).map vb) ∧ Below w.heap.size w w' := by
  by_cases h : chk p n v = 0
  · have h1 : ¬ (v < 0 ∨ 6 < v) := fun h' => by rw [chk_out h'] at h; cases h
    obtain ⟨k, rfl⟩ := Int.eq_ofNat_of_zero_le (show 0 ≤ v by omega)
    refine (letters_in p n k hp hn (by omega) h w).mono ?_
    rintro e w' ⟨x, rfl, hown, hb⟩
    have hL : letU p n k = letTo p n (two k) := by rw [letU, if_pos h]; rfl
    rw [← hL] at hown
    obtain ⟨A, c, rfl, _, _⟩ := ownsRow_slice hown
    exact ⟨A, c, by rw [h], hown, hb⟩
  · refine (letters_bad p n v hp hn h w).mono ?_
    rintro e w' ⟨rfl, hb⟩
    have hL : letU p n v = [] := if_neg h
    rw [hL]
    exact ⟨none, 0, rfl, World.ownsRow_nil _ _ _ _, hb⟩
theorem format_u (p n : Nat) (v : Int) (hp : p < 256) (hn : n < 256) (w : World) :
    Calls Try.prog 16 #[.agg #[.int .u8 p, .int .u8 n], .int .i64 v] w fun e w' => e = .returned (.tuple #[.string ⟨(txtU p n v).toArray⟩, .int .i64 (chk p n v)]) ∧ Below w.heap.size w w' := by
  by_cases h : chk p n v = 0
  · exact (format_in p n v hp hn h w).mono fun e w' ⟨he, hb⟩ => ⟨by rw [he, txtU, if_pos h, h], hb⟩
  · exact (format_bad p n v hp hn h w).mono fun e w' ⟨he, hb⟩ => ⟨by rw [he, txtU, if_neg h], hb⟩
theorem rformat_u (p n : Nat) (v : Int) (hp : p < 256) (hn : n < 256) (w : World) :
    Calls Try.prog 14 #[.agg #[.int .u8 p, .int .u8 n], .int .i64 v] w fun e w' => e = .returned (.tuple #[.string ⟨(txtU p n v).toArray⟩, .int .i64 (chk p n v)]) ∧ Below w.heap.size w w' := by
  by_cases h : chk p n v = 0
  · have h1 : ¬ (v < 0 ∨ 6 < v) := fun h' => by rw [chk_out h'] at h; cases h
    obtain ⟨k, rfl⟩ := Int.eq_ofNat_of_zero_le (show 0 ≤ v by omega)
    exact (rformat_in p n k hp hn (by omega) h w).mono fun e w' ⟨he, hb⟩ => ⟨by rw [he, txtU, if_pos h, h], hb⟩
  · exact (rformat_bad p n v hp hn h w).mono fun e w' ⟨he, hb⟩ => ⟨by rw [he, txtU, if_neg h], hb⟩

theorem rletters_u (p n : Nat) (v : Int) (hp : p < 256) (hn : n < 256) (h : chk p n v = 0) (w : World) :
    Calls Try.prog 13 #[.agg #[.int .u8 p, .int .u8 n], .int .i64 v] w fun e w' => ∃ A c, e = .returned (.slice A (letU p n v).length c) ∧ Rd w' 1 A (letU p n v).length ((letU p n v).map vb) ∧ Below w.heap.size w w' := by
  have h1 : ¬ (v < 0 ∨ 6 < v) := fun h' => by rw [chk_out h'] at h; cases h
  obtain ⟨k, rfl⟩ := Int.eq_ofNat_of_zero_le (show 0 ≤ v by omega)
  refine (rletters_in p n k hp hn (by omega) w).mono ?_
  rintro e w' ⟨x, rfl, hown, hb⟩
  have hL : letU p n k = letTo p n (two k) := by rw [letU, if_pos h]; rfl
  rw [← hL] at hown
  obtain ⟨A, c, rfl, _, _⟩ := ownsRow_slice hown
  exact ⟨A, c, rfl, ownsRow_rd hown, hb⟩
theorem Rd.later {W : World} {size n : Nat} {A : Option Addr} {xs : List Value} (h : Rd W size A n xs) (x : Later W) : Rd x.1 size A n xs := h.below x.2
end Go.Proofs.Ytfdfnamkkepbiaa
