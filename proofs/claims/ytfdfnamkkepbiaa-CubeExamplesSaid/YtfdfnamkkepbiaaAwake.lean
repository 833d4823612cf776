/-
  sentinellaw02.awake returns true: the chapter's examples.
-/
import Derived.Test.YtfdfnamkkepbiaaSame
namespace Go.Proofs.Ytfdfnamkkepbiaa
open Go.RowKit
attribute [local go_sem ↓] cube_eql cube_neq

theorem aw1 (w : World) : Calls Try.prog 15 #[.agg #[.int .u8 1, .int .u8 0], .int .i64 2] w fun e w' => ∃ A c, e = .returned (.tuple #[.slice A 2 c, .int .i64 0]) ∧ Rd w' 1 A 2 ([1, 3].map vb) ∧ Below w.heap.size w w' := by
  refine (letters_in 1 0 2 (by omega) (by omega) (by omega) (by decide) w).mono ?_
  rintro e w' ⟨v, rfl, hown, hb⟩
  obtain ⟨A, c, rfl, _, _⟩ := ownsRow_slice hown
  exact ⟨A, c, rfl, ownsRow_rd hown, hb⟩
theorem aw5 (w : World) : Calls Try.prog 15 #[.agg #[.int .u8 0, .int .u8 0], .int .i64 0] w fun e w' => ∃ A c, e = .returned (.tuple #[.slice A 1 c, .int .i64 0]) ∧ Rd w' 1 A 1 ([0].map vb) ∧ Below w.heap.size w w' := by
  refine (letters_in 0 0 0 (by omega) (by omega) (by omega) (by decide) w).mono ?_
  rintro e w' ⟨v, rfl, hown, hb⟩
  obtain ⟨A, c, rfl, _, _⟩ := ownsRow_slice hown
  exact ⟨A, c, rfl, ownsRow_rd hown, hb⟩
theorem aw2 (w : World) : Calls Try.prog 16 #[.agg #[.int .u8 1, .int .u8 2], .int .i64 2] w fun e w' => e = .returned (.tuple #[.string ⟨#[97, 33, 98]⟩, .int .i64 0]) ∧ Below w.heap.size w w' :=
  (format_in 1 2 2 (by omega) (by omega) (by decide) w).mono fun e w' ⟨he, hb⟩ => ⟨by rw [he, show fmtText 1 2 = [97, 33, 98] by decide], hb⟩
theorem aw3 (w : World) : Calls Try.prog 29 #[.agg #[.int .u8 1, .int .u8 2], .agg #[.int .u8 2, .int .u8 0]] w fun e w' => e = .returned (.tuple #[.agg #[.int .u8 0, .int .u8 0], .bool false]) ∧ Below w.heap.size w w' :=
  (intersect_any 1 2 2 0 (by omega) (by omega) (by omega) (by omega) w).mono fun e w' ⟨he, hb⟩ => ⟨by rw [he]; rfl, hb⟩
theorem aw4 (A : Option Addr) (w : World) (hA : Rd w 1 A 3 ([1, 2, 3].map vb)) : Calls Try.prog 25 #[.slice A 3 3, .int .i64 2] w fun e w' => ∃ B c, e = .returned (.tuple #[.slice B 2 c, .int .i64 0]) ∧ Rd w' 2 B 2 (cubeCells [(1, 0), (2, 0)]) ∧ Below w.heap.size w w' := by
  refine (cover_in A 3 3 2 [1, 2, 3] (by omega) w hA (by simp) (by omega)).mono ?_
  rintro e w' ⟨h1, _, hb⟩
  obtain ⟨v, rfl, hown⟩ := h1 (by decide)
  rw [show primes [1, 2, 3] 2 = [(1, 0), (2, 0)] by decide] at hown
  obtain ⟨B, c, rfl, _, _⟩ := ownsRow_slice hown
  exact ⟨B, c, rfl, ownsRow_rd hown, hb⟩
theorem aw6 (w : World) : Calls Try.prog 27 #[.string ⟨#[33, 97]⟩, .int .i64 1] w fun e w' => e = .returned (.tuple #[.agg #[.int .u8 0, .int .u8 1], .int .i64 0]) ∧ Below w.heap.size w w' :=
  (parse_any [33, 97] 1 w).mono fun e w' ⟨he, hb⟩ => ⟨by rw [he, show parseV [33, 97] 1 = (0, 1, 0) by decide]; rfl, hb⟩
theorem aw7 (w : World) : Calls Try.prog 27 #[.string ⟨#[98, 97]⟩, .int .i64 2] w fun e w' => e = .returned (.tuple #[.agg #[.int .u8 0, .int .u8 0], .int .i64 2]) ∧ Below w.heap.size w w' :=
  (parse_any [98, 97] 2 w).mono fun e w' ⟨he, hb⟩ => ⟨by rw [he, show parseV [98, 97] 2 = (0, 0, 2) by decide]; rfl, hb⟩

set_option maxHeartbeats 1000000 in
set_option maxRecDepth 100000 in
theorem awake_any (w : World) : Calls Try.prog 22 #[] w fun e w' => e = .returned (.bool true) ∧ Below w.heap.size w w' := by
  go_enter Try.func22, Try.ntmps22
  go_wp2_with fail
  refine (aw1 _).mono ?_
  rintro e w1 ⟨A1, c1, rfl, hr1, hb1⟩
  go_wp2_with fail
  refine (aw2 _).mono ?_
  rintro e w2 ⟨rfl, hb2⟩
  go_wp2_with fail
  refine (aw3 _).mono ?_
  rintro e w3 ⟨rfl, hb3⟩
  go_wp2_with fail
  refine (aw4 _ _ (Rd.new (cs := [vb 1, vb 2, vb 3]) (by simp) rfl)).mono ?_
  rintro e w4 ⟨A4, c4, rfl, hr4, hb4⟩
  go_wp2_with fail
  refine (aw5 _).mono ?_
  rintro e w5 ⟨A5, c5, rfl, hr5, hb5⟩
  go_wp2_with fail
  refine (aw6 _).mono ?_
  rintro e w6 ⟨rfl, hb6⟩
  go_wp2_with fail
  refine (aw7 _).mono ?_
  rintro e w7 ⟨rfl, hb7⟩
  have hc70 : w7.cell? ⟨w6.heap.size, 0, none⟩ = some (.int .u8 0) := by rw [bat hb7 (by simp)]; simp [go_sem]
  have hc71 : w7.cell? ⟨w6.heap.size, 1, none⟩ = some (.int .u8 1) := by rw [bat hb7 (by simp)]; simp [go_sem]
  have hbA : Below w1.heap.size w1 w3 := hb2.trans (hb3.mono hb2.size)
  have hbB : Below w3.heap.size w3 w4 := (((Below.refl _ _).alloc (Nat.le_refl _) _).alloc (by simp) _).trans (hb4.mono (by simp; omega))
  have hbC : Below w4.heap.size w4 w7 := hb5.trans ((hb6.mono hb5.size).trans (((Below.refl _ _).alloc (by have := hb5.size; have := hb6.size; omega) _).trans (hb7.mono (by have := hb5.size; have := hb6.size; simp; omega))))
  have hbD : Below w5.heap.size w5 w7 := hb6.trans (((Below.refl _ _).alloc (by have := hb6.size; omega) _).trans (hb7.mono (by have := hb6.size; simp; omega)))
  have hA7 := (((hr1.below hbA).below hbB).below hbC)
  have h47 := hr4.below hbC
  have h57 := hr5.below hbD
  have hb07 : Below w.heap.size w w7 := hb1.trans (((hbA.mono hb1.size).trans (hbB.mono (Nat.le_trans hb1.size hbA.size))).trans (hbC.mono (Nat.le_trans hb1.size (Nat.le_trans hbA.size hbB.size))))
  clear hr1 hr4 hr5 hbA hbB hbC hbD hb1 hb2 hb3 hb4 hb5 hb6 hb7
  go_wp2_with fail
  refine (equalBytes_any _ _ _ _ _ _ [1, 3] [1, 3] _ ((hA7.alloc _).alloc _) (Rd.new (cs := [vb 1, vb 3]) (by simp) rfl) (by omega) (by omega)).mono ?_
  rintro e w8 ⟨rfl, k8, rfl⟩
  go_wp2_with fail
  refine (same_any _ _ _ _ _ _ [(1, 0), (2, 0)] [(1, 0), (2, 0)] _ (((((h47.alloc _).alloc _).drewN _).alloc _)) ?rd (by omega) (by omega)).mono ?_
  case rd => exact Rd.new (cs := [vb 1, vb 0, vb 2, vb 0]) (by simp) rfl
  rintro e w9 ⟨rfl, k9, rfl⟩
  go_wp2_with fail
  refine (equalBytes_any _ _ _ _ _ _ [0] [0] _ ((((((h57.alloc _).alloc _).drewN _).alloc _).drewN _).alloc _) (Rd.new (cs := [vb 0]) (by simp) rfl) (by omega) (by omega)).mono ?_
  rintro e w10 ⟨rfl, k10, rfl⟩
  have hlt67 : w6.heap.size < w7.heap.size := World.block_lt_of_cell? _ _ hc70
  have hch : ∀ (o1 o2 o3 o4 : Obj) (a b j : Nat), ((((((w7.alloc o1).alloc o2).drewN a).alloc o3).drewN b).alloc o4).cell? ⟨w6.heap.size, j, none⟩ = w7.cell? ⟨w6.heap.size, j, none⟩ := fun o1 o2 o3 o4 a b j => by
    rw [World.cell?_alloc_lt _ _ _ (by simp; omega)]
    show (((((w7.alloc o1).alloc o2).drewN a).alloc o3)).cell? _ = _
    rw [World.cell?_alloc_lt _ _ _ (by simp; omega)]
    show ((w7.alloc o1).alloc o2).cell? _ = _
    rw [World.cell?_alloc_lt _ _ _ (by simp; omega), World.cell?_alloc_lt _ _ _ hlt67]
  go_wp2_with fail
  go_ret
  exact ⟨rfl, by
    refine below_drewN (Below.alloc (below_drewN (Below.alloc (below_drewN (Below.alloc (Below.alloc hb07 hb07.size _) ?_ _) _) ?_ _) _) ?_ _) _
    all_goals (have := hb07.size; simp; omega)⟩
end Go.Proofs.Ytfdfnamkkepbiaa
