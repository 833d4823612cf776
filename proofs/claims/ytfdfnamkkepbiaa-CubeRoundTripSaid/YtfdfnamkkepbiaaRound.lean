/-
  CubeRoundTrip: Parse inverts Format, Format inverts Parse: any cube, any string, any number of variables.
-/
import Derived.Test.YtfdfnamkkepbiaaRoundMath
namespace Go.Proofs.Ytfdfnamkkepbiaa
open Go.RowKit
section
open Go.ChangeShapes Go.WideShapes Go.ChangeAt Go.Joins
open Go.ChangeMaps (open_string)
theorem open_str {H : Type} {enc : TypeId × Value → H} {w : World} {spare : Nat → Bool} {held : Bool} {r : Reach} {b0 base : Nat} {v : Value} {d : DataW H} {p : List MemPlace} (hv : Value.okWide Try.prog w r b0 9 v) (h : DataW.Trod enc Try.prog w base spare held 9 v d p) : ∃ l : List UInt8, v = .string ⟨l.toArray⟩ ∧ l.length ≤ maxLen := by
  obtain ⟨s, rfl, _, _, hs⟩ := open_string Try.underlying9 hv h
  exact ⟨s.data.toList, by simp, by simpa using hs⟩
end
attribute [local go_sem ↓] cube_eql cube_neq

set_option maxHeartbeats 2000000 in
theorem round_walk (p n : Nat) (l : List UInt8) (v : Int) (w : World) (hp : p < 256) (hn : n < 256) (hl : l.length ≤ maxLen) (_hlo : -9223372036854775808 ≤ v) (_hhi : v ≤ 9223372036854775807) :
    Calls Try.prog 7 #[.agg #[.int .u8 p, .int .u8 n], .string ⟨l.toArray⟩, .int .i64 v] w fun e w' => e = .returned (.bool true) ∧ Below w.heap.size w w' := by
  go_enter Try.func7, Try.ntmps7
  by_cases h200 : 200 < l.length
  · have hd : decide (200 < (l.length : Int)) = true := decide_eq_true (by omega)
    go_wp2_with fail
    refine (awake_any _).mono ?_
    rintro e w1 ⟨rfl, hb1⟩
    go_wp2_with fail
    go_ret
    exact ⟨rfl, ((Below.refl _ _).alloc (Nat.le_refl _) _).trans (hb1.mono (by simp))⟩
  · have hd : decide (200 < (l.length : Int)) = false := decide_eq_false (by omega)
    go_wp2_with fail
    refine (format_u p n v hp hn _).mono ?_
    rintro e w1 ⟨rfl, hb1⟩
    have h10 : w1.cell? ⟨w.heap.size, 0, none⟩ = some (vb p) := by rw [bat hb1 (by simp)]; simp [go_sem]
    have h11 : w1.cell? ⟨w.heap.size, 1, none⟩ = some (vb n) := by rw [bat hb1 (by simp)]; simp [go_sem]
    have hbw1 : Below w.heap.size w w1 := ((Below.refl _ _).alloc (Nat.le_refl _) _).trans (hb1.mono (by simp))
    clear hb1
    by_cases hz : chk p n v = 0
    · have hb0 : (chk p n v == 0) = true := by rw [hz]; rfl
      have hT : txtU p n v = fmtText p n := if_pos hz
      have hP := parse_format hz
      have HZ := Lib.hid hz; clear hz
      have HT := Lib.hid hT; clear hT
      have HP := Lib.hid hP; clear hP
      go_wp2_with fail
      refine (parse_any _ v _).mono ?_
      rintro e w2 ⟨rfl, hb2⟩
      rw [HT.out, HP.out]
      have hbw2 := Below.from_later hbw1 hb2
      have h20 := (bat hb2 (World.block_lt_of_cell? _ _ h10)).trans h10
      have h21 := (bat hb2 (World.block_lt_of_cell? _ _ h10)).trans h11
      have hs2 := World.block_lt_of_cell? _ _ h20
      have h30 := (alc w2 (Obj.cells #[.int .u8 p, .int .u8 n] 23) (j := 0) hs2).trans h20
      have h31 := (alc w2 (Obj.cells #[.int .u8 p, .int .u8 n] 23) (j := 1) hs2).trans h21
      clear h10 h11 hb2
      go_wp2_with fail
      refine (parse_any l v _).mono ?_
      rintro e w3 ⟨rfl, hb3⟩
      have hbw3 : Below w.heap.size w w3 := (hbw2.alloc (by have := hbw2.size; omega) _).trans (hb3.mono (by simp <;> omega))
      clear hb3
      by_cases hf : (parseV l v).2.2 = 0
      · obtain ⟨g1, g2, g3, g4⟩ := format_parse hf
        have hf0 : ((parseV l v).2.2 == 0) = true := by rw [hf]; rfl
        have hc0 : (chk (parseV l v).1 (parseV l v).2.1 v == 0) = true := by rw [g1]; rfl
        have hT : txtU (parseV l v).1 (parseV l v).2.1 v = l := by rw [txtU, if_pos g1, g2]
        generalize (parseV l v).1 = P at *
        generalize (parseV l v).2.1 = N at *
        generalize (parseV l v).2.2 = F at *
        have HT := Lib.hid hT; clear hT
        have HF := Lib.hid hf; clear hf
        have HG := Lib.hid g1; clear g1
        have HG2 := Lib.hid g2; clear g2
        go_wp2_with fail
        refine (format_u P N v g3 g4 _).mono ?_
        rintro e w4 ⟨rfl, hb4⟩
        rw [HT.out]
        have hbw4 : Below w.heap.size w w4 := (hbw3.alloc (by have := hbw3.size; omega) _).trans (hb4.mono (by have := hbw3.size; simp; omega))
        clear hb4
        go_wp2_with fail
        refine (awake_any _).mono ?_
        rintro e w5 ⟨rfl, hb5⟩
        go_wp2_with fail
        go_ret
        exact ⟨rfl, Below.from_later hbw4 hb5⟩
      · obtain ⟨g1, g2⟩ := parse_zero hf
        have hf0 : ((parseV l v).2.2 == 0) = false := by rw [beq_eq_false_iff_ne]; exact hf
        rw [g1, g2]
        generalize (parseV l v).2.2 = F at *
        have HF := Lib.hid hf; clear hf
        clear g1 g2
        go_wp2_with fail
        refine (awake_any _).mono ?_
        rintro e w5 ⟨rfl, hb5⟩
        go_wp2_with fail
        go_ret
        exact ⟨rfl, (hbw3.alloc (by have := hbw3.size; omega) _).trans (hb5.mono (by have := hbw3.size; simp; omega))⟩
    · have hb0 : (chk p n v == 0) = false := by rw [beq_eq_false_iff_ne]; exact hz
      have HZ := Lib.hid hz; clear hz
      go_wp2_with fail
      refine (parse_any l v _).mono ?_
      rintro e w3 ⟨rfl, hb3⟩
      have hbw3 : Below w.heap.size w w3 := (hbw1).trans (hb3.mono hbw1.size)
      clear hb3
      by_cases hf : (parseV l v).2.2 = 0
      · obtain ⟨g1, g2, g3, g4⟩ := format_parse hf
        have hf0 : ((parseV l v).2.2 == 0) = true := by rw [hf]; rfl
        have hc0 : (chk (parseV l v).1 (parseV l v).2.1 v == 0) = true := by rw [g1]; rfl
        have hT : txtU (parseV l v).1 (parseV l v).2.1 v = l := by rw [txtU, if_pos g1, g2]
        generalize (parseV l v).1 = P at *
        generalize (parseV l v).2.1 = N at *
        generalize (parseV l v).2.2 = F at *
        have HT := Lib.hid hT; clear hT
        have HF := Lib.hid hf; clear hf
        have HG := Lib.hid g1; clear g1
        have HG2 := Lib.hid g2; clear g2
        go_wp2_with fail
        refine (format_u P N v g3 g4 _).mono ?_
        rintro e w4 ⟨rfl, hb4⟩
        rw [HT.out]
        have hbw4 : Below w.heap.size w w4 := (hbw3.alloc (by have := hbw3.size; omega) _).trans (hb4.mono (by have := hbw3.size; simp; omega))
        clear hb4
        go_wp2_with fail
        refine (awake_any _).mono ?_
        rintro e w5 ⟨rfl, hb5⟩
        go_wp2_with fail
        go_ret
        exact ⟨rfl, Below.from_later hbw4 hb5⟩
      · obtain ⟨g1, g2⟩ := parse_zero hf
        have hf0 : ((parseV l v).2.2 == 0) = false := by rw [beq_eq_false_iff_ne]; exact hf
        rw [g1, g2]
        generalize (parseV l v).2.2 = F at *
        have HF := Lib.hid hf; clear hf
        clear g1 g2
        go_wp2_with fail
        refine (awake_any _).mono ?_
        rintro e w5 ⟨rfl, hb5⟩
        go_wp2_with fail
        go_ret
        exact ⟨rfl, (hbw3.alloc (by have := hbw3.size; omega) _).trans (hb5.mono (by have := hbw3.size; simp; omega))⟩

namespace cubeRoundTrip
open Go.ChangeShapes Go.WideShapes Go.ChangeAt Go.RowKit Go.Joins
set_option maxRecDepth 100000 in
theorem lifted (os : Os) (started : os.Started) (H : Type) (enc : TypeId × Value → H) :
    ReturnsInHanded {} Try.checked os 7 .any (Rows.cubeRoundTripSpec.pre6 enc Try.prog Try.f7 Rows.cubeRoundTripRow.domain false) (Rows.cubeRoundTripSpec.post enc Try.prog Try.f7 false true false false) := by
  refine returnsInHanded_of_change (C := Try.checked) own started (by kernel_rfl) Try.func7
    (ChangeSpec.witness6 (enc := enc) (C := Try.checked) false ⟨#[], #[.agg #[.int .u8 0, .int .u8 0], .string ⟨#[]⟩, .int .i64 0], []⟩ 8 (by kernel_rfl) (by kernel_rfl) (by kernel_rfl) (by kernel_rfl)) ?_
  intro W base args ds gs before hval0 hW hcnd _
  have hval : ∀ (j : Nat) t v, Try.f7.params[j]? = some t → args[j]? = some v → Value.okWide Try.prog W .any base t v := hval0
  have hW' := hW
  obtain ⟨p, q, hA0, hV, rfl, hfz, hnd⟩ := hW
  have hA : DataW.TrodAll enc Try.prog W 0 (fun _ => true) true Try.f7.params.toList args.toList ds p := hA0
  rw [Try.params7] at hA hval
  obtain ⟨v0, vs0, d0, ds0, p0, q0, hargs, rfl, rfl, h0, r0⟩ := trodAll_cons hA
  obtain ⟨v1, vs1, d1, ds1, p1, q1, rfl, rfl, rfl, h1, r1⟩ := trodAll_cons r0
  obtain ⟨v2, vs2, d2, ds2, p2, q2, rfl, rfl, rfl, h2, r2⟩ := trodAll_cons r1
  obtain ⟨rfl, rfl, rfl⟩ := trodAll_nil r2
  obtain rfl : args = #[v0, v1, v2] := by cases args; simp_all
  obtain ⟨rfl, rfl⟩ := trodVars_none hV
  obtain ⟨a_0, b_0, rfl, ha_0, hb_0⟩ := open_cube (hval 0 _ _ rfl rfl) h0
  obtain ⟨l_1, rfl, hl_1⟩ := open_str (hval 1 _ _ rfl rfl) h1
  obtain ⟨z_2, rfl, hlo_2, hhi_2⟩ := open_i64 (hval 2 _ _ rfl rfl) h2
  simp only [List.append_nil] at hW'
  exact (round_walk a_0 b_0 l_1 z_2 W ha_0 hb_0 hl_1 hlo_2 hhi_2).mono fun e W' ⟨he, hbl⟩ => ⟨_, he, law_post laidOut (readable_all (by kernel_rfl)) rfl Try.underlying4 rfl rfl hW' hbl⟩

theorem over : Rows.cubeRoundTripRow.holds Try.pinned (OpenSpec.ofChange Rows.cubeRoundTripSpec) :=
  OpenClaim.holds_of_wide 7 Try.f7 rfl rfl rfl rfl rfl rfl rfl ⟨rfl, rfl, rfl, rfl, rfl⟩ rfl rfl rfl rfl rfl (by kernel_rfl) Try.func7 (by kernel_rfl)
    (of_decide_eq_true (by kernel_rfl)) (by unfold Func.isWrapper; first | (rw [if_pos (by decide +kernel)]; kernel_rfl) | (rw [if_neg (by decide +kernel)]; exact ⟨rfl, rfl⟩))
    (fun os started H enc _ => lifted os started H enc)
end cubeRoundTrip

theorem cubeRoundTrip_proved : Rows.CubeRoundTripSaid := cubeRoundTrip.over
#print axioms cubeRoundTrip_proved
end Go.Proofs.Ytfdfnamkkepbiaa
