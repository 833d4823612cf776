/-
  CubePairs: Intersect and Covers return what the reference returns, for all pairs of cubes. No conditions.
-/
import Derived.Test.YtfdfnamkkepbiaaOpen
namespace Go.Proofs.Ytfdfnamkkepbiaa
open Go.RowKit
attribute [local go_sem] u8_and_nat u8_or_nat u8_xor_nat u8_andNot_nat
attribute [local go_sem ↓] cube_eql cube_neq

set_option maxHeartbeats 1000000 in
theorem pairs_walk (p n q m : Nat) (w : World) (hp : p < 256) (hn : n < 256) (hq : q < 256) (hm : m < 256) :
    Calls Try.prog 8 #[.agg #[.int .u8 p, .int .u8 n], .agg #[.int .u8 q, .int .u8 m]] w fun e w' => e = .returned (.bool true) ∧ Below w.heap.size w w' := by
  have hi : ∃ (a b : Nat) (t : Bool), (if (p ||| q) &&& (n ||| m) = 0 then Value.tuple #[.agg #[vb (p ||| q), vb (n ||| m)], .bool true] else .tuple #[.agg #[vb 0, vb 0], .bool false]) = .tuple #[.agg #[vb a, vb b], .bool t] := by
    by_cases h : (p ||| q) &&& (n ||| m) = 0
    · exact ⟨_, _, _, if_pos h⟩
    · exact ⟨_, _, _, if_neg h⟩
  obtain ⟨a, b, t, hi⟩ := hi
  have HI := Lib.hid hi; clear hi
  go_enter Try.func8, Try.ntmps8
  go_wp2_with fail
  refine (intersect_any p n q m hp hn hq hm _).mono ?_
  rintro e w1 ⟨rfl, hb1⟩
  rw [HI.out]
  have h10 : w1.cell? ⟨w.heap.size, 0, none⟩ = some (vb p) := by rw [bat hb1 (by simp <;> omega)]; simp [go_sem]
  have h11 : w1.cell? ⟨w.heap.size, 1, none⟩ = some (vb n) := by rw [bat hb1 (by simp <;> omega)]; simp [go_sem]
  have h12 : w1.cell? ⟨w.heap.size + 1, 0, none⟩ = some (vb q) := by rw [bat hb1 (by simp <;> omega)]; simp [go_sem]
  have h13 : w1.cell? ⟨w.heap.size + 1, 1, none⟩ = some (vb m) := by rw [bat hb1 (by simp <;> omega)]; simp [go_sem]
  have hs1 : w.heap.size + 1 < w1.heap.size := by have := hb1.size; simp at this; omega
  have hs1' : w.heap.size < w1.heap.size := by omega
  go_wp2_with fail
  refine (rintersect_any p n q m hp hn hq hm _).mono ?_
  rintro e w2 ⟨rfl, hb2⟩
  rw [HI.out]
  have h20 : w2.cell? ⟨w.heap.size, 0, none⟩ = some (vb p) := by rw [bat hb2 (by simp; omega), World.cell?_alloc_lt _ _ _ hs1']; exact h10
  have h21 : w2.cell? ⟨w.heap.size, 1, none⟩ = some (vb n) := by rw [bat hb2 (by simp; omega), World.cell?_alloc_lt _ _ _ hs1']; exact h11
  have h22 : w2.cell? ⟨w.heap.size + 1, 0, none⟩ = some (vb q) := by rw [bat hb2 (by simp; omega), World.cell?_alloc_lt _ _ _ hs1]; exact h12
  have h23 : w2.cell? ⟨w.heap.size + 1, 1, none⟩ = some (vb m) := by rw [bat hb2 (by simp; omega), World.cell?_alloc_lt _ _ _ hs1]; exact h13
  have h24 : w2.cell? ⟨w1.heap.size, 0, none⟩ = some (vb a) := by rw [bat hb2 (by simp)]; simp [go_sem]
  have h25 : w2.cell? ⟨w1.heap.size, 1, none⟩ = some (vb b) := by rw [bat hb2 (by simp)]; simp [go_sem]
  have hs2 : w1.heap.size < w2.heap.size := World.block_lt_of_cell? _ _ h24
  have hbw2 : Below w.heap.size w w2 := (((Below.refl _ _).alloc (Nat.le_refl _) _).alloc (by simp) _).trans ((hb1.mono (by simp; omega)).trans (((Below.refl _ _).alloc (by omega) _).trans (hb2.mono (by simp; omega))))
  clear h10 h11 h12 h13
  go_wp2_with fail
  refine wp_gen (fun W => W.cell? ⟨w.heap.size, 0, none⟩ = some (vb p) ∧ W.cell? ⟨w.heap.size, 1, none⟩ = some (vb n) ∧ W.cell? ⟨w.heap.size + 1, 0, none⟩ = some (vb q) ∧ W.cell? ⟨w.heap.size + 1, 1, none⟩ = some (vb m) ∧
    W.cell? ⟨w1.heap.size, 0, none⟩ = some (vb a) ∧ W.cell? ⟨w1.heap.size, 1, none⟩ = some (vb b) ∧ W.cell? ⟨w2.heap.size, 0, none⟩ = some (vb a) ∧ W.cell? ⟨w2.heap.size, 1, none⟩ = some (vb b) ∧ Below w.heap.size w W) ?facts ?_
  case facts =>
    refine ⟨?_, ?_, ?_, ?_, ?_, ?_, by simp [go_sem], by simp [go_sem], hbw2.alloc hbw2.size _⟩
    · rw [alc _ _ (by omega)]; exact h20
    · rw [alc _ _ (by omega)]; exact h21
    · rw [alc _ _ (by omega)]; exact h22
    · rw [alc _ _ (by omega)]; exact h23
    · rw [World.cell?_alloc_lt _ _ _ hs2]; exact h24
    · rw [World.cell?_alloc_lt _ _ _ hs2]; exact h25
  clear h20 h21 h22 h23 h24 h25
  rintro W ⟨g0, g1, g2, g3, g4, g5, g6, g7, hbW⟩
  have l0 := Later.cell g0
  have l1 := Later.cell g1
  have l2 := Later.cell g2
  have l3 := Later.cell g3
  have l4 := Later.cell g4
  have l5 := Later.cell g5
  have l6 := Later.cell g6
  have l7 := Later.cell g7
  refine wp_region_later (by kernel_rfl) (by kernel_rfl) ?_
  repeat (go_big_quiet_step (first
    | (go_at_call 31; exact Later.call (covers_any p n q m hp hn hq hm _))
    | (go_at_call 32; exact Later.call (rcovers_any p n q m hp hn hq hm _))
    | (go_at_call 22; exact Later.call (awake_any _))))
  refine wpQuiet_nil ?_
  rintro ⟨W2, hb2⟩
  go_wp2
  go_ret
  exact ⟨rfl, Below.from_later hbW hb2⟩

namespace cubePairs
open Go.ChangeShapes Go.WideShapes Go.ChangeAt Go.RowKit Go.Joins
set_option maxRecDepth 100000 in
theorem lifted (os : Os) (started : os.Started) (H : Type) (enc : TypeId × Value → H) :
    ReturnsInHanded {} Try.checked os 8 .any (Rows.cubePairsSpec.pre6 enc Try.prog Try.f8 Rows.cubePairsRow.domain false) (Rows.cubePairsSpec.post enc Try.prog Try.f8 false true false false) := by
  refine returnsInHanded_of_change (C := Try.checked) own started (by kernel_rfl) Try.func8
    (ChangeSpec.witness6 (enc := enc) (C := Try.checked) false ⟨#[], #[.agg #[.int .u8 0, .int .u8 0], .agg #[.int .u8 0, .int .u8 0]], []⟩ 8 (by kernel_rfl) (by kernel_rfl) (by kernel_rfl) (by kernel_rfl)) ?_
  intro W base args ds gs before hval0 hW hcnd _
  have hval : ∀ (j : Nat) t v, Try.f8.params[j]? = some t → args[j]? = some v → Value.okWide Try.prog W .any base t v := hval0
  have hW' := hW
  obtain ⟨p, q, hA0, hV, rfl, hfz, hnd⟩ := hW
  have hA : DataW.TrodAll enc Try.prog W 0 (fun _ => true) true Try.f8.params.toList args.toList ds p := hA0
  rw [Try.params8] at hA hval
  obtain ⟨v0, vs0, d0, ds0, p0, q0, hargs, rfl, rfl, h0, r0⟩ := trodAll_cons hA
  obtain ⟨v1, vs1, d1, ds1, p1, q1, rfl, rfl, rfl, h1, r1⟩ := trodAll_cons r0
  obtain ⟨rfl, rfl, rfl⟩ := trodAll_nil r1
  obtain rfl : args = #[v0, v1] := by cases args; simp_all
  obtain ⟨rfl, rfl⟩ := trodVars_none hV
  obtain ⟨a_0, b_0, rfl, ha_0, hb_0⟩ := open_cube (hval 0 _ _ rfl rfl) h0
  obtain ⟨a_1, b_1, rfl, ha_1, hb_1⟩ := open_cube (hval 1 _ _ rfl rfl) h1
  simp only [List.append_nil] at hW'
  exact (pairs_walk a_0 b_0 a_1 b_1 W ha_0 hb_0 ha_1 hb_1).mono fun e W' ⟨he, hbl⟩ => ⟨_, he, law_post laidOut (readable_all (by kernel_rfl)) rfl Try.underlying4 rfl rfl hW' hbl⟩

theorem over : Rows.cubePairsRow.holds Try.pinned (OpenSpec.ofChange Rows.cubePairsSpec) :=
  OpenClaim.holds_of_wide 8 Try.f8 rfl rfl rfl rfl rfl rfl rfl ⟨rfl, rfl, rfl, rfl, rfl⟩ rfl rfl rfl rfl rfl (by kernel_rfl) Try.func8 (by kernel_rfl)
    (of_decide_eq_true (by kernel_rfl)) (by unfold Func.isWrapper; first | (rw [if_pos (by decide +kernel)]; kernel_rfl) | (rw [if_neg (by decide +kernel)]; exact ⟨rfl, rfl⟩))
    (fun os started H enc _ => lifted os started H enc)
end cubePairs

theorem cubePairs_proved : Rows.CubePairsSaid := cubePairs.over
#print axioms cubePairs_proved
end Go.Proofs.Ytfdfnamkkepbiaa
