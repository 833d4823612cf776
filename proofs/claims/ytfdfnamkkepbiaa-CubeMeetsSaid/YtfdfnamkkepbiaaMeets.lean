/-
  CubeMeets: a letter belongs to the intersection of two cubes exactly if it belongs to both. No conditions.
-/
import Derived.Test.YtfdfnamkkepbiaaBits
namespace Go.Proofs.Ytfdfnamkkepbiaa
open Go.RowKit
attribute [local go_sem ↓] cube_eql cube_neq

set_option maxHeartbeats 1000000 in
theorem meets_walk (p n q m x : Nat) (w : World) (hp : p < 256) (hn : n < 256) (hq : q < 256) (hm : m < 256) (hx : x < 256) :
    Calls Try.prog 9 #[.agg #[.int .u8 p, .int .u8 n], .agg #[.int .u8 q, .int .u8 m], .int .u8 x] w fun e w' => e = .returned (.bool true) ∧ Below w.heap.size w w' := by
  have hpq := or_u8 hp hq
  have hnm := or_u8 hn hm
  have hi : ∃ (a b : Nat) (t : Bool), (if (p ||| q) &&& (n ||| m) = 0 then Value.tuple #[.agg #[vb (p ||| q), vb (n ||| m)], .bool true] else .tuple #[.agg #[vb 0, vb 0], .bool false]) = .tuple #[.agg #[vb a, vb b], .bool t] ∧ a < 256 ∧ b < 256 ∧
      (t = true → a = p ||| q ∧ b = n ||| m) ∧ (t = false → a = 0 ∧ b = 0 ∧ (hasB p n x && hasB q m x) = false) := by
    by_cases h : (p ||| q) &&& (n ||| m) = 0
    · exact ⟨_, _, _, if_pos h, hpq, hnm, fun _ => ⟨rfl, rfl⟩, (fun h => by cases h)⟩
    · refine ⟨_, _, _, if_neg h, by omega, by omega, (fun h => by cases h), fun _ => ⟨rfl, rfl, ?_⟩⟩
      rw [← hasB_or]
      cases hb : hasB (p ||| q) (n ||| m) x with
      | false => rfl
      | true => exact absurd (hasB_disj hb) h
  obtain ⟨a, b, t, hi, ha, hb, ht, hf⟩ := hi
  have HI := Lib.hid hi; clear hi
  have HT := Lib.hid ht; clear ht
  have HF := Lib.hid hf; clear hf
  go_enter Try.func9, Try.ntmps9
  go_wp2_with fail
  refine (intersect_any p n q m hp hn hq hm _).mono ?_
  rintro e w1 ⟨rfl, hb1⟩
  rw [HI.out]
  have h10 : w1.cell? ⟨w.heap.size, 0, none⟩ = some (vb p) := by rw [bat hb1 (by simp <;> omega)]; simp [go_sem]
  have h11 : w1.cell? ⟨w.heap.size, 1, none⟩ = some (vb n) := by rw [bat hb1 (by simp <;> omega)]; simp [go_sem]
  have h12 : w1.cell? ⟨w.heap.size + 1, 0, none⟩ = some (vb q) := by rw [bat hb1 (by simp)]; simp [go_sem]
  have h13 : w1.cell? ⟨w.heap.size + 1, 1, none⟩ = some (vb m) := by rw [bat hb1 (by simp)]; simp [go_sem]
  have hs1 : w.heap.size + 1 < w1.heap.size := by have := hb1.size; simp at this; omega
  have hs1' : w.heap.size < w1.heap.size := by omega
  have hbw1 : Below w.heap.size w w1 := (((Below.refl _ _).alloc (Nat.le_refl _) _).alloc (by simp) _).trans (hb1.mono (by simp; omega))
  clear hb1
  -- has(a, x)
  go_wp2_with fail
  refine (has_any p n x hp hn hx _).mono ?_
  rintro e w2 ⟨rfl, hb2⟩
  have f2 : ∀ b j, b < w1.heap.size → w2.cell? ⟨b, j, none⟩ = w1.cell? ⟨b, j, none⟩ := fun b j h => by rw [bat hb2 (by simp; omega), alc _ _ h]
  have h24 : w2.cell? ⟨w1.heap.size, 0, none⟩ = some (vb a) := by rw [bat hb2 (by simp)]; simp [go_sem]
  have h25 : w2.cell? ⟨w1.heap.size, 1, none⟩ = some (vb b) := by rw [bat hb2 (by simp)]; simp [go_sem]
  have hs2 : w1.heap.size < w2.heap.size := World.block_lt_of_cell? _ _ h24
  have hbw2 : Below w.heap.size w w2 := hbw1.trans (((Below.refl _ _).alloc hbw1.size _).trans (hb2.mono (by simp; omega)))
  have h20 := (f2 _ 0 hs1').trans h10
  have h21 := (f2 _ 1 hs1').trans h11
  have h22 := (f2 _ 0 hs1).trans h12
  have h23 := (f2 _ 1 hs1).trans h13
  clear h10 h11 h12 h13 f2 hb2
  cases t with
  | false =>
    obtain ⟨rfl, rfl, hno⟩ := HF.out rfl
    have HNO := Lib.hid hno; clear hno
    cases hA : hasB p n x with
    | false =>
      go_wp2_with fail
      refine (awake_any _).mono ?_
      rintro e w3 ⟨rfl, hb3⟩
      go_wp2_with fail
      go_ret
      exact ⟨rfl, Below.from_later hbw2 hb3⟩
    | true =>
      have hB : hasB q m x = false := by have := HNO.out; rw [hA] at this; simpa using this
      go_wp2_with fail
      refine (has_any q m x hq hm hx _).mono ?_
      rintro e w3 ⟨rfl, hb3⟩
      rw [hB]
      have h34 := (bat hb3 hs2).trans h24
      have h35 := (bat hb3 hs2).trans h25
      go_wp2_with fail
      refine (awake_any _).mono ?_
      rintro e w4 ⟨rfl, hb4⟩
      go_wp2_with fail
      go_ret
      exact ⟨rfl, Below.from_later (Below.from_later hbw2 hb3) hb4⟩
  | true =>
    obtain ⟨rfl, rfl⟩ := HT.out rfl
    have hor := hasB_or (p := p) (n := n) (q := q) (m := m) (x := x)
    have HOR := Lib.hid hor; clear hor
    -- what is left behind 'both' is the same on each way
    cases hA : hasB p n x with
    | false =>
      have hC : hasB (p ||| q) (n ||| m) x = false := by rw [HOR.out, hA]; rfl
      go_wp2_with fail
      refine (has_any _ _ x ha hb hx _).mono ?_
      rintro e w3 ⟨rfl, hb3⟩
      rw [hC]
      have hs32 := Nat.lt_of_lt_of_le hs2 hb3.size
      have h30 := (bat hb3 (by omega)).trans h20
      have h31 := (bat hb3 (by omega)).trans h21
      have h32 := (bat hb3 (by omega)).trans h22
      have h33 := (bat hb3 (by omega)).trans h23
      have h34 := (bat hb3 hs2).trans h24
      have h35 := (bat hb3 hs2).trans h25
      go_wp2_with fail
      refine (covers_any p n _ _ hp hn ha hb _).mono ?_
      rintro e w4 ⟨rfl, hb4⟩
      rw [covB_or_left]
      have h42 := (bat hb4 (by omega)).trans h32
      have h43 := (bat hb4 (by omega)).trans h33
      have h44 := (bat hb4 hs32).trans h34
      have h45 := (bat hb4 hs32).trans h35
      go_wp2_with fail
      refine (covers_any q m _ _ hq hm ha hb _).mono ?_
      rintro e w5 ⟨rfl, hb5⟩
      rw [covB_or_right]
      go_wp2_with fail
      refine (awake_any _).mono ?_
      rintro e w6 ⟨rfl, hb6⟩
      go_wp2_with fail
      go_ret
      exact ⟨rfl, Below.from_later (Below.from_later (Below.from_later (Below.from_later hbw2 hb3) hb4) hb5) hb6⟩
    | true =>
      go_wp2_with fail
      refine (has_any q m x hq hm hx _).mono ?_
      rintro e w2' ⟨rfl, hb2'⟩
      have hs22 := Nat.lt_of_lt_of_le hs2 hb2'.size
      have g20 := (bat hb2' (by omega)).trans h20
      have g21 := (bat hb2' (by omega)).trans h21
      have g22 := (bat hb2' (by omega)).trans h22
      have g23 := (bat hb2' (by omega)).trans h23
      have g24 := (bat hb2' hs2).trans h24
      have g25 := (bat hb2' hs2).trans h25
      have hC : hasB (p ||| q) (n ||| m) x = hasB q m x := by rw [HOR.out, hA]; rfl
      cases hB : hasB q m x with
      | false | true =>
        rw [hB] at hC
        go_wp2_with fail
        refine (has_any _ _ x ha hb hx _).mono ?_
        rintro e w3 ⟨rfl, hb3⟩
        rw [hC]
        have hs32 := Nat.lt_of_lt_of_le hs22 hb3.size
        have h30 := (bat hb3 (by omega)).trans g20
        have h31 := (bat hb3 (by omega)).trans g21
        have h32 := (bat hb3 (by omega)).trans g22
        have h33 := (bat hb3 (by omega)).trans g23
        have h34 := (bat hb3 hs22).trans g24
        have h35 := (bat hb3 hs22).trans g25
        go_wp2_with fail
        refine (covers_any p n _ _ hp hn ha hb _).mono ?_
        rintro e w4 ⟨rfl, hb4⟩
        rw [covB_or_left]
        have h42 := (bat hb4 (by omega)).trans h32
        have h43 := (bat hb4 (by omega)).trans h33
        have h44 := (bat hb4 hs32).trans h34
        have h45 := (bat hb4 hs32).trans h35
        go_wp2_with fail
        refine (covers_any q m _ _ hq hm ha hb _).mono ?_
        rintro e w5 ⟨rfl, hb5⟩
        rw [covB_or_right]
        go_wp2_with fail
        refine (awake_any _).mono ?_
        rintro e w6 ⟨rfl, hb6⟩
        go_wp2_with fail
        go_ret
        exact ⟨rfl, Below.from_later (Below.from_later (Below.from_later (Below.from_later (Below.from_later hbw2 hb2') hb3) hb4) hb5) hb6⟩

namespace cubeMeets
open Go.ChangeShapes Go.WideShapes Go.ChangeAt Go.RowKit Go.Joins
set_option maxRecDepth 100000 in
theorem lifted (os : Os) (started : os.Started) (H : Type) (enc : TypeId × Value → H) :
    ReturnsInHanded {} Try.checked os 9 .any (Rows.cubeMeetsSpec.pre6 enc Try.prog Try.f9 Rows.cubeMeetsRow.domain false) (Rows.cubeMeetsSpec.post enc Try.prog Try.f9 false true false false) := by
  refine returnsInHanded_of_change (C := Try.checked) own started (by kernel_rfl) Try.func9
    (ChangeSpec.witness6 (enc := enc) (C := Try.checked) false ⟨#[], #[.agg #[.int .u8 0, .int .u8 0], .agg #[.int .u8 0, .int .u8 0], .int .u8 0], []⟩ 8 (by kernel_rfl) (by kernel_rfl) (by kernel_rfl) (by kernel_rfl)) ?_
  intro W base args ds gs before hval0 hW hcnd _
  have hval : ∀ (j : Nat) t v, Try.f9.params[j]? = some t → args[j]? = some v → Value.okWide Try.prog W .any base t v := hval0
  have hW' := hW
  obtain ⟨p, q, hA0, hV, rfl, hfz, hnd⟩ := hW
  have hA : DataW.TrodAll enc Try.prog W 0 (fun _ => true) true Try.f9.params.toList args.toList ds p := hA0
  rw [Try.params9] at hA hval
  obtain ⟨v0, vs0, d0, ds0, p0, q0, hargs, rfl, rfl, h0, r0⟩ := trodAll_cons hA
  obtain ⟨v1, vs1, d1, ds1, p1, q1, rfl, rfl, rfl, h1, r1⟩ := trodAll_cons r0
  obtain ⟨v2, vs2, d2, ds2, p2, q2, rfl, rfl, rfl, h2, r2⟩ := trodAll_cons r1
  obtain ⟨rfl, rfl, rfl⟩ := trodAll_nil r2
  obtain rfl : args = #[v0, v1, v2] := by cases args; simp_all
  obtain ⟨rfl, rfl⟩ := trodVars_none hV
  obtain ⟨a_0, b_0, rfl, ha_0, hb_0⟩ := open_cube (hval 0 _ _ rfl rfl) h0
  obtain ⟨a_1, b_1, rfl, ha_1, hb_1⟩ := open_cube (hval 1 _ _ rfl rfl) h1
  obtain ⟨a_2, rfl, ha_2⟩ := open_byte (hval 2 _ _ rfl rfl) h2
  simp only [List.append_nil] at hW'
  exact (meets_walk a_0 b_0 a_1 b_1 a_2 W ha_0 hb_0 ha_1 hb_1 ha_2).mono fun e W' ⟨he, hbl⟩ => ⟨_, he, law_post laidOut (readable_all (by kernel_rfl)) rfl Try.underlying4 rfl rfl hW' hbl⟩

theorem over : Rows.cubeMeetsRow.holds Try.pinned (OpenSpec.ofChange Rows.cubeMeetsSpec) :=
  OpenClaim.holds_of_wide 9 Try.f9 rfl rfl rfl rfl rfl rfl rfl ⟨rfl, rfl, rfl, rfl, rfl⟩ rfl rfl rfl rfl rfl (by kernel_rfl) Try.func9 (by kernel_rfl)
    (of_decide_eq_true (by kernel_rfl)) (by unfold Func.isWrapper; first | (rw [if_pos (by decide +kernel)]; kernel_rfl) | (rw [if_neg (by decide +kernel)]; exact ⟨rfl, rfl⟩))
    (fun os started H enc _ => lifted os started H enc)
end cubeMeets

theorem cubeMeets_proved : Rows.CubeMeetsSaid := cubeMeets.over
#print axioms cubeMeets_proved
end Go.Proofs.Ytfdfnamkkepbiaa
