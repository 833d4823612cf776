/-
  CubeMatches: Check, Has, Letters and Format return what the reference returns, for every cube, letter and number of variables. No conditions.
-/
import Derived.Test.YtfdfnamkkepbiaaRefFormat
namespace Go.Proofs.Ytfdfnamkkepbiaa
open Go.RowKit

/-- the letters and the text of a cube; nothing for an invalid one -/
def letU (p n : Nat) (v : Int) : List Nat := if chk p n v = 0 then letTo p n (two v.toNat) else []
def txtU (p n : Nat) (v : Int) : List UInt8 := if chk p n v = 0 then fmtText p n else []
theorem letU_len (p n : Nat) (v : Int) : (letU p n v).length ≤ 64 := by
  unfold letU
  by_cases h : chk p n v = 0
  · rw [if_pos h]
    have h1 : ¬ (v < 0 ∨ 6 < v) := fun h' => by rw [chk_out h'] at h; cases h
    have := letTo_len p n (two v.toNat)
    have := two_le6 (k := v.toNat) (by omega)
    omega
  · rw [if_neg h]; simp

theorem letters_u (p n : Nat) (v : Int) (hp : p < 256) (hn : n < 256) (w : World) :
    Calls Try.prog 15 #[.agg #[.int .u8 p, .int .u8 n], .int .i64 v] w fun e w' => ∃ A c, e = .returned (.tuple #[.slice A (letU p n v).length c, .int .i64 (chk p n v)]) ∧
      w'.ownsRow w.heap.size 5 1 (.slice A (letU p n v).length c) (letU p n v).length ((letU p n v).map vb) ∧ Below w.heap.size w w' := by
  by_cases h : chk p n v = 0
  · have h1 : ¬ (v < 0 ∨ 6 < v) := fun h' => by rw [chk_out h'] at h; cases h
    obtain ⟨k, rfl⟩ := Int.eq_ofNat_of_zero_le (show 0 ≤ v by omega)
    refine (letters_in p n k hp hn (by omega) h w).mono ?_
    rintro e w' ⟨x, rfl, hown, hb⟩
    have hL : letU p n k = letTo p n (two k) := by rw [letU, if_pos h]; rfl
    rw [← hL] at hown
    obtain ⟨A, c, rfl, _, _⟩ := ownsRow_slice hown
    exact ⟨A, c, by rw [h], hown, hb⟩
  · refine (letters_bad p n v hp hn h w).mono ?_
    rintro e w' ⟨rfl, hb⟩
    have hL : letU p n v = [] := if_neg h
    rw [hL]
    exact ⟨none, 0, rfl, World.ownsRow_nil _ _ _ _, hb⟩
theorem format_u (p n : Nat) (v : Int) (hp : p < 256) (hn : n < 256) (w : World) :
    Calls Try.prog 16 #[.agg #[.int .u8 p, .int .u8 n], .int .i64 v] w fun e w' => e = .returned (.tuple #[.string ⟨(txtU p n v).toArray⟩, .int .i64 (chk p n v)]) ∧ Below w.heap.size w w' := by
  by_cases h : chk p n v = 0
  · exact (format_in p n v hp hn h w).mono fun e w' ⟨he, hb⟩ => ⟨by rw [he, txtU, if_pos h, h], hb⟩
  · exact (format_bad p n v hp hn h w).mono fun e w' ⟨he, hb⟩ => ⟨by rw [he, txtU, if_neg h], hb⟩
theorem rformat_u (p n : Nat) (v : Int) (hp : p < 256) (hn : n < 256) (w : World) :
    Calls Try.prog 14 #[.agg #[.int .u8 p, .int .u8 n], .int .i64 v] w fun e w' => e = .returned (.tuple #[.string ⟨(txtU p n v).toArray⟩, .int .i64 (chk p n v)]) ∧ Below w.heap.size w w' := by
  by_cases h : chk p n v = 0
  · have h1 : ¬ (v < 0 ∨ 6 < v) := fun h' => by rw [chk_out h'] at h; cases h
    obtain ⟨k, rfl⟩ := Int.eq_ofNat_of_zero_le (show 0 ≤ v by omega)
    exact (rformat_in p n k hp hn (by omega) h w).mono fun e w' ⟨he, hb⟩ => ⟨by rw [he, txtU, if_pos h, h], hb⟩
  · exact (rformat_bad p n v hp hn h w).mono fun e w' ⟨he, hb⟩ => ⟨by rw [he, txtU, if_neg h], hb⟩

theorem rletters_u (p n : Nat) (v : Int) (hp : p < 256) (hn : n < 256) (h : chk p n v = 0) (w : World) :
    Calls Try.prog 13 #[.agg #[.int .u8 p, .int .u8 n], .int .i64 v] w fun e w' => ∃ A c, e = .returned (.slice A (letU p n v).length c) ∧ Rd w' 1 A (letU p n v).length ((letU p n v).map vb) ∧ Below w.heap.size w w' := by
  have h1 : ¬ (v < 0 ∨ 6 < v) := fun h' => by rw [chk_out h'] at h; cases h
  obtain ⟨k, rfl⟩ := Int.eq_ofNat_of_zero_le (show 0 ≤ v by omega)
  refine (rletters_in p n k hp hn (by omega) w).mono ?_
  rintro e w' ⟨x, rfl, hown, hb⟩
  have hL : letU p n k = letTo p n (two k) := by rw [letU, if_pos h]; rfl
  rw [← hL] at hown
  obtain ⟨A, c, rfl, _, _⟩ := ownsRow_slice hown
  exact ⟨A, c, rfl, ownsRow_rd hown, hb⟩
theorem Rd.later {W : World} {size n : Nat} {A : Option Addr} {xs : List Value} (h : Rd W size A n xs) (x : Later W) : Rd x.1 size A n xs := h.below x.2
/-- what a round of the law needs: the cube's box, and the letters that the reference gave -/
def MRel (p n : Nat) (v : Int) (w W : World) (b : Nat) (A : Option Addr) : Prop :=
  W.cell? ⟨b, 0, none⟩ = some (vb p) ∧ W.cell? ⟨b, 1, none⟩ = some (vb n) ∧ Rd W 1 A (letU p n v).length ((letU p n v).map vb) ∧ Below w.heap.size w W
theorem MRel.below {p n : Nat} {v : Int} {w W W' : World} {b : Nat} {A : Option Addr} (h : MRel p n v w W b A) (hb : Below W.heap.size W W') : MRel p n v w W' b A :=
  ⟨(bat hb (World.block_lt_of_cell? _ _ h.1)).trans h.1, (bat hb (World.block_lt_of_cell? _ _ h.1)).trans h.2.1, h.2.2.1.below hb, Below.from_later h.2.2.2 hb⟩

set_option maxHeartbeats 2000000 in
theorem matches_walk (p n x : Nat) (v : Int) (w : World) (hp : p < 256) (hn : n < 256) (hx : x < 256) (_hlo : -9223372036854775808 ≤ v) (_hhi : v ≤ 9223372036854775807) :
    Calls Try.prog 3 #[.agg #[.int .u8 p, .int .u8 n], .int .u8 x, .int .i64 v] w fun e w' => e = .returned (.bool true) ∧ Below w.heap.size w w' := by
  have hlen := letU_len p n v
  go_enter Try.func3, Try.ntmps3
  go_wp2_with fail
  refine (rcheck_any p n v hp hn _).mono ?_
  rintro e w1 ⟨rfl, hb1⟩
  have h10 : w1.cell? ⟨w.heap.size, 0, none⟩ = some (vb p) := by rw [bat hb1 (by simp)]; simp [go_sem]
  have h11 : w1.cell? ⟨w.heap.size, 1, none⟩ = some (vb n) := by rw [bat hb1 (by simp)]; simp [go_sem]
  have hbw1 : Below w.heap.size w w1 := ((Below.refl _ _).alloc (Nat.le_refl _) _).trans (hb1.mono (by simp))
  clear hb1
  by_cases hz : chk p n v = 0
  · have hb0 : (chk p n v == 0) = true := by rw [hz]; rfl
    have HZ := Lib.hid hz; clear hz
    go_wp2_with fail
    refine (rletters_u p n v hp hn HZ.out _).mono ?_
    rintro e w2 ⟨A0, c0, rfl, hr2, hb2⟩
    have hM : MRel p n v w w2 w.heap.size A0 := ⟨(bat hb2 (World.block_lt_of_cell? _ _ h10)).trans h10, (bat hb2 (World.block_lt_of_cell? _ _ h10)).trans h11, hr2, Below.from_later hbw1 hb2⟩
    have g0 := hM.1
    have g1 := hM.2.1
    go_wp2_with fail
    refine (rformat_u p n v hp hn _).mono ?_
    rintro e w3 ⟨rfl, hb3⟩
    have hM3 := hM.below hb3
    clear hM hb3
    go_wp2_with fail
    have HM3 := Lib.hid hM3; clear hM3
    go_loopw [11] (fun i wr => ∃ r : Nat, r ≤ 2 ∧ i = .int .i64 r ∧ MRel p n v w wr w.heap.size A0) (fun i _ => 2 - (intOf i).toNat)
    case atStart => exact ⟨0, by omega, rfl, HM3.out⟩
    case round =>
      obtain ⟨r, hr, rfl, hMr⟩ := hrel
      by_cases hlt : r < 2
      · have hr0 := hMr.1
        have hr1 := hMr.2.1
        have HMR := Lib.hid hMr; clear hMr
        go_wp2_with fail
        refine (letters_u p n v hp hn _).mono ?_
        rintro e w4 ⟨A4, c4, rfl, hown4, hb4⟩
        have hM4 := HMR.out.below hb4
        have g0 := hM4.1
        have g1 := hM4.2.1
        have HM4 := Lib.hid hM4; clear hM4
        have HO4 := Lib.hid hown4; clear hown4
        go_wp2_with fail
        refine (format_u p n v hp hn _).mono ?_
        rintro e w5 ⟨rfl, hb5⟩
        have hM5 := HM4.out.below hb5
        have hown5 := ownsRow_below HO4.out hb5
        have hrd5 := ownsRow_rd hown5
        have hrw5 := hM5.2.2.1
        have l0 := Later.cell hM5.1
        have l1 := Later.cell hM5.2.1
        have HO5 := Lib.hid hown5; clear hown5
        have HM5 := Lib.hid hM5; clear hM5
        have HRD := Lib.hid hrd5; clear hrd5
        have HRW := Lib.hid hrw5; clear hrw5
        go_wp2_with fail
        refine wp_region_later (by kernel_rfl) (by kernel_rfl) ?_
        repeat (go_big_quiet_step (first
          | (go_at_call 17; exact Later.call (check_any p n v hp hn _))
          | (go_at_call 18; exact Later.call (has_any p n x hp hn hx _))
          | (go_at_call 19; exact Later.call (rhas_any p n x hp hn hx _))
          | (go_at_call 20; exact Later.callN (equalBytes_any _ _ _ _ _ _ (letU p n v) (letU p n v) _ (HRD.out.later _) (HRW.out.later _) (by omega) (by omega)))))
        refine wpQuiet_nil ?_
        rintro ⟨w6, hb6⟩
        clear l0 l1
        go_wp2_with fail
        refine (overBytes_any wr.heap.size _ (letU p n v).length _ _ (ownsRow_below HO5.out hb6) (by omega)).mono ?_
        rintro e w7 ⟨rfl, hb7⟩
        have hbr : Below wr.heap.size wr w7 := hb4.trans ((hb5.mono hb4.size).trans ((hb6.mono (Nat.le_trans hb4.size hb5.size)).trans hb7))
        clear hb4 hb5 hb6 hb7
        go_wp2_with fail
        go_roundw
        case rel => exact ⟨r + 1, by omega, by go_num, HMR.out.below hbr⟩
        case measure => simp [intOf]; omega
      · obtain rfl : r = 2 := by omega
        have HMR := Lib.hid hMr; clear hMr
        go_wp2_with fail
        refine (awake_any _).mono ?_
        rintro e w4 ⟨rfl, hb4⟩
        go_wp2_with fail
        go_ret
        exact ⟨rfl, Below.from_later HMR.out.2.2.2 hb4⟩
  · have hb0 : (chk p n v == 0) = false := by rw [beq_eq_false_iff_ne]; exact hz
    have hL0 : letU p n v = [] := if_neg hz
    have hM : MRel p n v w w1 w.heap.size none := ⟨h10, h11, by rw [hL0]; exact Rd.nil, hbw1⟩
    have HL0 := Lib.hid hL0; clear hL0
    have HZ := Lib.hid hz; clear hz
    go_wp2_with fail
    refine (rformat_u p n v hp hn _).mono ?_
    rintro e w3 ⟨rfl, hb3⟩
    have hM3 := hM.below hb3
    clear hM hb3
    go_wp2_with fail
    have HM3 := Lib.hid hM3; clear hM3
    go_loopw [11] (fun i wr => ∃ r : Nat, r ≤ 2 ∧ i = .int .i64 r ∧ MRel p n v w wr w.heap.size none) (fun i _ => 2 - (intOf i).toNat)
    case atStart => exact ⟨0, by omega, rfl, HM3.out⟩
    case round =>
      obtain ⟨r, hr, rfl, hMr⟩ := hrel
      by_cases hlt : r < 2
      · have hr0 := hMr.1
        have hr1 := hMr.2.1
        have HMR := Lib.hid hMr; clear hMr
        go_wp2_with fail
        refine (letters_u p n v hp hn _).mono ?_
        rintro e w4 ⟨A4, c4, rfl, hown4, hb4⟩
        have hM4 := HMR.out.below hb4
        have g0 := hM4.1
        have g1 := hM4.2.1
        have HM4 := Lib.hid hM4; clear hM4
        have HO4 := Lib.hid hown4; clear hown4
        go_wp2_with fail
        refine (format_u p n v hp hn _).mono ?_
        rintro e w5 ⟨rfl, hb5⟩
        have hM5 := HM4.out.below hb5
        have hown5 := ownsRow_below HO4.out hb5
        have hrd5 := ownsRow_rd hown5
        have hrw5 : Rd w5 1 none 0 ((letU p n v).map vb) := by rw [HL0.out]; exact Rd.nil
        have l0 := Later.cell hM5.1
        have l1 := Later.cell hM5.2.1
        have HO5 := Lib.hid hown5; clear hown5
        have HM5 := Lib.hid hM5; clear hM5
        have HRD := Lib.hid hrd5; clear hrd5
        have HRW := Lib.hid hrw5; clear hrw5
        go_wp2_with fail
        refine wp_region_later (by kernel_rfl) (by kernel_rfl) ?_
        repeat (go_big_quiet_step (first
          | (go_at_call 17; exact Later.call (check_any p n v hp hn _))
          | (go_at_call 18; exact Later.call (has_any p n x hp hn hx _))
          | (go_at_call 19; exact Later.call (rhas_any p n x hp hn hx _))
          | (go_at_call 20; exact Later.callN (equalBytes_any _ _ _ _ _ _ (letU p n v) (letU p n v) _ (HRD.out.later _) (HRW.out.later _) (by omega) (by omega)))))
        refine wpQuiet_nil ?_
        rintro ⟨w6, hb6⟩
        clear l0 l1
        go_wp2_with fail
        refine (overBytes_any wr.heap.size _ (letU p n v).length _ _ (ownsRow_below HO5.out hb6) (by omega)).mono ?_
        rintro e w7 ⟨rfl, hb7⟩
        have hbr : Below wr.heap.size wr w7 := hb4.trans ((hb5.mono hb4.size).trans ((hb6.mono (Nat.le_trans hb4.size hb5.size)).trans hb7))
        clear hb4 hb5 hb6 hb7
        go_wp2_with fail
        go_roundw
        case rel => exact ⟨r + 1, by omega, by go_num, HMR.out.below hbr⟩
        case measure => simp [intOf]; omega
      · obtain rfl : r = 2 := by omega
        have HMR := Lib.hid hMr; clear hMr
        go_wp2_with fail
        refine (awake_any _).mono ?_
        rintro e w4 ⟨rfl, hb4⟩
        go_wp2_with fail
        go_ret
        exact ⟨rfl, Below.from_later HMR.out.2.2.2 hb4⟩

namespace cubeMatches
open Go.ChangeShapes Go.WideShapes Go.ChangeAt Go.RowKit Go.Joins
set_option maxRecDepth 100000 in
theorem lifted (os : Os) (started : os.Started) (H : Type) (enc : TypeId × Value → H) :
    ReturnsInHanded {} Try.checked os 3 .any (Rows.cubeMatchesSpec.pre6 enc Try.prog Try.f3 Rows.cubeMatchesRow.domain false) (Rows.cubeMatchesSpec.post enc Try.prog Try.f3 false true false false) := by
  refine returnsInHanded_of_change (C := Try.checked) own started (by kernel_rfl) Try.func3
    (ChangeSpec.witness6 (enc := enc) (C := Try.checked) false ⟨#[], #[.agg #[.int .u8 0, .int .u8 0], .int .u8 0, .int .i64 0], []⟩ 8 (by kernel_rfl) (by kernel_rfl) (by kernel_rfl) (by kernel_rfl)) ?_
  intro W base args ds gs before hval0 hW hcnd _
  have hval : ∀ (j : Nat) t v, Try.f3.params[j]? = some t → args[j]? = some v → Value.okWide Try.prog W .any base t v := hval0
  have hW' := hW
  obtain ⟨p, q, hA0, hV, rfl, hfz, hnd⟩ := hW
  have hA : DataW.TrodAll enc Try.prog W 0 (fun _ => true) true Try.f3.params.toList args.toList ds p := hA0
  rw [Try.params3] at hA hval
  obtain ⟨v0, vs0, d0, ds0, p0, q0, hargs, rfl, rfl, h0, r0⟩ := trodAll_cons hA
  obtain ⟨v1, vs1, d1, ds1, p1, q1, rfl, rfl, rfl, h1, r1⟩ := trodAll_cons r0
  obtain ⟨v2, vs2, d2, ds2, p2, q2, rfl, rfl, rfl, h2, r2⟩ := trodAll_cons r1
  obtain ⟨rfl, rfl, rfl⟩ := trodAll_nil r2
  obtain rfl : args = #[v0, v1, v2] := by cases args; simp_all
  obtain ⟨rfl, rfl⟩ := trodVars_none hV
  obtain ⟨a_0, b_0, rfl, ha_0, hb_0⟩ := open_cube (hval 0 _ _ rfl rfl) h0
  obtain ⟨a_1, rfl, ha_1⟩ := open_byte (hval 1 _ _ rfl rfl) h1
  obtain ⟨z_2, rfl, hlo_2, hhi_2⟩ := open_i64 (hval 2 _ _ rfl rfl) h2
  simp only [List.append_nil] at hW'
  exact (matches_walk a_0 b_0 a_1 z_2 W ha_0 hb_0 ha_1 hlo_2 hhi_2).mono fun e W' ⟨he, hbl⟩ => ⟨_, he, law_post laidOut (readable_all (by kernel_rfl)) rfl Try.underlying4 rfl rfl hW' hbl⟩

theorem over : Rows.cubeMatchesRow.holds Try.pinned (OpenSpec.ofChange Rows.cubeMatchesSpec) :=
  OpenClaim.holds_of_wide 3 Try.f3 rfl rfl rfl rfl rfl rfl rfl ⟨rfl, rfl, rfl, rfl, rfl⟩ rfl rfl rfl rfl rfl (by kernel_rfl) Try.func3 (by kernel_rfl)
    (of_decide_eq_true (by kernel_rfl)) (by unfold Func.isWrapper; first | (rw [if_pos (by decide +kernel)]; kernel_rfl) | (rw [if_neg (by decide +kernel)]; exact ⟨rfl, rfl⟩))
    (fun os started H enc _ => lifted os started H enc)
end cubeMatches

theorem cubeMatches_proved : Rows.CubeMatchesSaid := cubeMatches.over
#print axioms cubeMatches_proved
end Go.Proofs.Ytfdfnamkkepbiaa
