/-
  The reference's fixed, nodes, Nodes, Size.
-/
import Derived.Test.YtijmggoikieelaaRgKit
namespace Go.Proofs.Ytijmggoikieelaa
open Go.RowKit

theorem low_bit {k j : Nat} : (two k - 1).testBit j = decide (j < k) := by simp [two, Nat.testBit_two_pow_sub_one]
/-- the index of fixed -/
theorem fix_idx {k x y : Nat} (hx : x < 2 ^ k) (hk : k ≤ 6) (hy : y < 64) : andN y (two k - 1) ||| (x &&& (two k - 1)) = Dg.mix k x y := by
  have h64 := two_le6 hk
  apply Nat.eq_of_testBit_eq
  intro j
  rw [Dg.mix_bit hx, Nat.testBit_or, Nat.testBit_and, andN_bit (by omega) (by omega), low_bit]
  by_cases hj : j < k
  · rw [if_pos hj, decide_eq_true hj]; simp
  · rw [if_neg hj, decide_eq_false hj]; simp
section
variable {F : Nat → Prop} {w0 w : World} {rs : List Res}
def fixP (m : Nat) (t : List Int) (k x j : Nat) : List Int := (List.range j).map fun y => t.getD (Dg.mix k x y) 0
theorem fixP_succ (m : Nat) (t : List Int) (k x j : Nat) : fixP m t k x (j + 1) = fixP m t k x j ++ [t.getD (Dg.mix k x j) 0] := by simp [fixP, List.range_succ]
theorem fixP_len (m : Nat) (t : List Int) (k x j : Nat) : (fixP m t k x j).length = j := by simp [fixP]
set_option maxHeartbeats 4000000 in
set_option maxRecDepth 100000 in
theorem rfixR {A : Option Addr} {n c m k x : Nat} {t : List Int} (hm : m ≤ 6) (hn : n = two m) (hk : k ≤ m) (hx : x < 2 ^ k) (hA : HasSl rs A n 1 (t.map iv)) (hS : St F w0 rs w) :
    CallsR Try.prog 71 #[.slice A n c, .int .i64 (k : Nat), .int .i64 (x : Nat)] w fun r w' => ∃ A' c', r = .slice A' n c' ∧ St F w0 (Res.row 3 1 (.slice A' n c') n ((Dg.fixT m t k x).map iv) :: rs) w' := by
  have hl : t.length = n := by have := (hA.rd hS).1; simpa using this
  have h64 := two_le6 hm
  have hk64 : two k ≤ 64 := two_le6 (by omega)
  have hkp := two_pos k
  have hx64 : x < 64 := Nat.lt_of_lt_of_le hx hk64
  have hsub : ((two k : Nat) : Int) - 1 = ((two k - 1 : Nat) : Int) := by omega
  obtain ⟨low, hlow⟩ : ∃ l, l = two k - 1 := ⟨_, rfl⟩
  rw [← hlow] at hsub
  have hand : x &&& low ≤ x := Nat.and_le_left
  refine E_r (m := 31) ?_ Try.func71 rfl Try.ntmps71 rfl; refine C_ft ?_
  repeat (first | (refine S_w ?_; first | (refine S_d hS ?_) | (refine S_y hS ?_) | ((first | refine M_bA hS ?_ | refine M_b1 hS ?_ | refine M_aA hS ?_ | refine M_a1 hS ?_ | refine M_sl hS ?_ | refine M_s1 hS ?_ | refine M_mm hS ?_); clear hS; intro b w hS) | ((first | refine M_st hS ?_ | refine M_sA hS ?_ | refine M_in hS ?_ | refine M_sR hS ?_); clear hS; intro w hS; (try simp only [List.set_cons_zero, List.set_cons_succ, Nat.zero_add] at hS)) | (refine M_ap hS ?_; clear hS; intro g cap w hS) | refine M_pn ?_ | ((first | refine M_im hS ?_ | refine M_ii hS ?_ | refine M_dl hS ?_); clear hS; intro w hS)) | refine X_k (by (try simp only [Fm.toList, List.set_cons_succ, List.set_cons_zero]); exact rfl) ?_ | refine S_u ?_ | refine S_v ?_ | refine C_sq ?_ | refine C_rg ?_ | refine L_nil ?_ | refine C_bk ?_ | refine C_ct ?_ | refine C_cf ?_ | refine C_sk ?_ | refine C_ex ?_ | refine C_rt ?_ | refine X_e ?_ | refine X_r ?_ | refine X_bh ?_ | refine X_be ?_ | refine X_br ?_ | refine X_bn ?_ | refine X_p ?_ | refine X_bp ?_)
  have hS := hS.rowNil 3 1
  refine C_lp [7, 1, 1, 1, 4, 19, 1] (fun s : Nat × Option Addr × Nat => [(9, .int .i64 (s.1 : Nat)), (7, .slice s.2.1 s.1 s.2.2)]) (fun s w' => s.1 ≤ n ∧ St F w0 (Res.row 3 1 (.slice s.2.1 s.1 s.2.2) s.1 ((fixP m t k x s.1).map iv) :: rs) w') (fun s => n - s.1) (0, none, 0) ⟨Nat.zero_le _, hS⟩ ?_
  clear hS
  rintro ⟨j, A2, c2⟩ y w ⟨hj, hS⟩
  simp only at hj hS
  refine C_fs ?_
  by_cases hlt : j < n
  · have hix := fix_idx (k := k) (x := x) (y := j) hx (by omega) (by omega)
    rw [← hlow] at hix
    have hmx : Dg.mix k x j < n := by rw [hn]; exact Dg.mix_lt (m := m) hx hk (show j < two m by omega)
    have hgt := iv_get (getD_get (xs := t) (i := Dg.mix k x j) (by omega))
    have hanl : andN j low ≤ j := Nat.and_le_left
    generalize hmi : Dg.mix k x j = mi at hix hmx hgt
    have hixc : ((andN j low ||| (x &&& low) : Nat) : Int) = ((mi : Nat) : Int) := by rw [hix]
    repeat (first | (refine S_w ?_; first | (refine S_d hS ?_) | (refine S_y hS ?_) | ((first | refine M_bA hS ?_ | refine M_b1 hS ?_ | refine M_aA hS ?_ | refine M_a1 hS ?_ | refine M_sl hS ?_ | refine M_s1 hS ?_ | refine M_mm hS ?_); clear hS; intro b w hS) | ((first | refine M_st hS ?_ | refine M_sA hS ?_ | refine M_in hS ?_ | refine M_sR hS ?_); clear hS; intro w hS; (try simp only [List.set_cons_zero, List.set_cons_succ, Nat.zero_add] at hS)) | (refine M_ap hS ?_; clear hS; intro g cap w hS) | refine M_pn ?_ | ((first | refine M_im hS ?_ | refine M_ii hS ?_ | refine M_dl hS ?_); clear hS; intro w hS)) | refine X_k (by (try simp only [Fm.toList, List.set_cons_succ, List.set_cons_zero]); exact rfl) ?_ | refine S_u ?_ | refine S_v ?_ | refine C_sq ?_ | refine C_rg ?_ | refine L_nil ?_ | refine C_bk ?_ | refine C_ct ?_ | refine C_cf ?_ | refine C_sk ?_ | refine C_ex ?_ | refine C_rt ?_ | refine X_e ?_ | refine X_r ?_ | refine X_bh ?_ | refine X_be ?_ | refine X_br ?_ | refine X_bn ?_ | refine X_p ?_ | refine X_bp ?_)
    refine R_e (j + 1, some ⟨g, 0, none⟩, cap) ⟨by simp only; omega, ?_⟩ (by simp only; omega)
    simp only
    rw [fixP_succ, hmi, List.map_append]
    exact hS.sb
  · obtain rfl : n = j := by omega
    subst hn
    repeat (first | (refine S_w ?_; first | (refine S_d hS ?_) | (refine S_y hS ?_) | ((first | refine M_bA hS ?_ | refine M_b1 hS ?_ | refine M_aA hS ?_ | refine M_a1 hS ?_ | refine M_sl hS ?_ | refine M_s1 hS ?_ | refine M_mm hS ?_); clear hS; intro b w hS) | ((first | refine M_st hS ?_ | refine M_sA hS ?_ | refine M_in hS ?_ | refine M_sR hS ?_); clear hS; intro w hS; (try simp only [List.set_cons_zero, List.set_cons_succ, Nat.zero_add] at hS)) | (refine M_ap hS ?_; clear hS; intro g cap w hS) | refine M_pn ?_ | ((first | refine M_im hS ?_ | refine M_ii hS ?_ | refine M_dl hS ?_); clear hS; intro w hS)) | refine X_k (by (try simp only [Fm.toList, List.set_cons_succ, List.set_cons_zero]); exact rfl) ?_ | refine S_u ?_ | refine S_v ?_ | refine C_sq ?_ | refine C_rg ?_ | refine L_nil ?_ | refine C_bk ?_ | refine C_ct ?_ | refine C_cf ?_ | refine C_sk ?_ | refine C_ex ?_ | refine C_rt ?_ | refine X_e ?_ | refine X_r ?_ | refine X_bh ?_ | refine X_be ?_ | refine X_br ?_ | refine X_bn ?_ | refine X_p ?_ | refine X_bp ?_)
    refine V_1 ⟨A2, c2, rfl, hS⟩
theorem fixT_len {m : Nat} {t : List Int} {k x : Nat} : (Dg.fixT m t k x).length = two m := by simp [Dg.fixT, two]
/-- what nodes has collected -/
structure NdS where
  O : List Tb
  A : Option Addr
  c : Nat
  T : List Res
structure NdI (F : Nat → Prop) (w0 : World) (rs : List Res) (m : Nat) (D : List (List Int)) (s : NdS) (w : World) : Prop where
  eq : s.O.map Tb.xs = D
  len : ∀ t ∈ s.O, t.xs.length = two m
  mem : ∀ t ∈ s.O, t.res ∈ s.T
  st : St F w0 (Res.row 29 1 (.slice s.A s.O.length s.c) s.O.length (s.O.map Tb.val) :: (s.T ++ rs)) w
set_option maxHeartbeats 8000000 in
set_option maxRecDepth 100000 in
theorem rnodesR {A : Option Addr} {n c m : Nat} {L : List Tb} (hm : m ≤ 6) (hn : n ≤ 1000) (hlen : ∀ t ∈ L, t.xs.length = two m) (hA : HasSl rs A n 1 (L.map Tb.val)) (hL : ∀ t ∈ L, t.res ∈ rs) (hS : St F w0 rs w) :
    CallsR Try.prog 55 #[.slice A n c, .int .i64 (m : Nat)] w fun r w' => ∃ B d, r = .slice B (Dg.ddT m [] (L.map Tb.xs)).length d ∧ St F w0 rs w' := by
  have hl : L.length = n := by have := (hA.rd hS).1; simpa using this
  have h64 := two_le6 hm
  have h128 : 2 ^ (m + 1) ≤ 128 := Nat.pow_le_pow_right (n := 2) (i := m + 1) (j := 7) (by omega) (by omega)
  refine E_r (m := 42) ?_ Try.func55 rfl Try.ntmps55 rfl; refine C_ft ?_
  repeat (first | (refine S_w ?_; first | (refine S_d hS ?_) | (refine S_y hS ?_) | ((first | refine M_bA hS ?_ | refine M_b1 hS ?_ | refine M_aA hS ?_ | refine M_a1 hS ?_ | refine M_sl hS ?_ | refine M_s1 hS ?_ | refine M_mm hS ?_); clear hS; intro b w hS) | ((first | refine M_st hS ?_ | refine M_sA hS ?_ | refine M_in hS ?_ | refine M_sR hS ?_); clear hS; intro w hS; (try simp only [List.set_cons_zero, List.set_cons_succ, Nat.zero_add] at hS)) | (refine M_ap hS ?_; clear hS; intro g cap w hS) | refine M_pn ?_ | ((first | refine M_im hS ?_ | refine M_ii hS ?_ | refine M_dl hS ?_); clear hS; intro w hS)) | refine X_k (by (try simp only [Fm.toList, List.set_cons_succ, List.set_cons_zero]); exact rfl) ?_ | refine S_u ?_ | refine S_v ?_ | refine C_sq ?_ | refine C_rg ?_ | refine L_nil ?_ | refine C_bk ?_ | refine C_ct ?_ | refine C_cf ?_ | refine C_sk ?_ | refine C_ex ?_ | refine C_rt ?_ | refine X_e ?_ | refine X_r ?_ | refine X_bh ?_ | refine X_be ?_ | refine X_br ?_ | refine X_bn ?_ | refine X_p ?_ | refine X_bp ?_)
  have hS := hS.rowNil 29 1
  refine C_lp [5, 38, 1] (fun s : Nat × NdS => [(6, .int .i64 (s.1 : Nat)), (5, .slice s.2.A s.2.O.length s.2.c)]) (fun s w' => s.1 ≤ n ∧ NdI F w0 rs m (Dg.ddT m [] ((L.take s.1).map Tb.xs)) s.2 w') (fun s => n - s.1) (0, ⟨[], none, 0, []⟩) ⟨Nat.zero_le _, rfl, fun t h => (by cases h), fun t h => (by cases h), hS⟩ ?_
  clear hS
  rintro ⟨i, O, A2, c2, T⟩ y w ⟨hi, hO, hOl, hOm, hS⟩
  simp only at hi hO hOl hOm hS
  refine C_fs ?_
  by_cases hlt : i < n
  · obtain ⟨t, ht⟩ : ∃ t, L[i]? = some t := ⟨L[i]'(by omega), List.getElem?_eq_getElem _⟩
    have htm := List.mem_of_getElem? ht
    have htl := hlen t htm
    have hv : (L.map Tb.val)[i]? = some (.slice t.A t.xs.length t.c) := by rw [List.getElem?_map, ht]; rfl
    have hti : HasSl rs t.A t.xs.length 1 (t.xs.map iv) := ⟨fun h => h.get (hL t htm)⟩
    have hDl : (Dg.ddT m [] ((L.take i).map Tb.xs)).length ≤ 1000 * 128 := by
      have h1 := Dg.ddT_len (m := m) ((L.take i).map Tb.xs) (out := [])
      rw [List.length_map, List.length_take, List.length_nil] at h1
      have h2 : min i L.length * 2 ^ (m + 1) ≤ 1000 * 128 := Nat.mul_le_mul (by omega) h128
      omega
    repeat (first | (refine S_w ?_; first | (refine S_d hS ?_) | (refine S_y hS ?_) | ((first | refine M_bA hS ?_ | refine M_b1 hS ?_ | refine M_aA hS ?_ | refine M_a1 hS ?_ | refine M_sl hS ?_ | refine M_s1 hS ?_ | refine M_mm hS ?_); clear hS; intro b w hS) | ((first | refine M_st hS ?_ | refine M_sA hS ?_ | refine M_in hS ?_ | refine M_sR hS ?_); clear hS; intro w hS; (try simp only [List.set_cons_zero, List.set_cons_succ, Nat.zero_add] at hS)) | (refine M_ap hS ?_; clear hS; intro g cap w hS) | refine M_pn ?_ | ((first | refine M_im hS ?_ | refine M_ii hS ?_ | refine M_dl hS ?_); clear hS; intro w hS)) | refine X_k (by (try simp only [Fm.toList, List.set_cons_succ, List.set_cons_zero]); exact rfl) ?_ | refine S_u ?_ | refine S_v ?_ | refine C_sq ?_ | refine C_rg ?_ | refine L_nil ?_ | refine C_bk ?_ | refine C_ct ?_ | refine C_cf ?_ | refine C_sk ?_ | refine C_ex ?_ | refine C_rt ?_ | refine X_e ?_ | refine X_r ?_ | refine X_bh ?_ | refine X_be ?_ | refine X_br ?_ | refine X_bn ?_ | refine X_p ?_ | refine X_bp ?_)
    refine C_lp [5, 1, 1, 3, 6, 27, 1] (fun s : Nat × NdS => [(7, .int .i64 (s.1 : Nat)), (5, .slice s.2.A s.2.O.length s.2.c)]) (fun s w' => s.1 ≤ m + 1 ∧ NdI F w0 rs m (Dg.ddK m t.xs (Dg.ddT m [] ((L.take i).map Tb.xs)) s.1) s.2 w') (fun s => m + 1 - s.1) (0, ⟨O, A2, c2, T⟩) ⟨Nat.zero_le _, hO, hOl, hOm, hS⟩ ?_
    clear hO hOl hOm hS
    rintro ⟨k, O, A2, c2, T⟩ y2 w ⟨hk, hO, hOl, hOm, hS⟩
    simp only at hk hO hOl hOm hS
    refine C_fs ?_
    by_cases hlt2 : k ≤ m
    · have hk64 : two k ≤ 64 := two_le6 (by omega)
      have hKl := Dg.ddK_len (m := m) (t := t.xs) (out := Dg.ddT m [] ((L.take i).map Tb.xs)) k
      have hk2 : 2 ^ k ≤ 64 := hk64
      repeat (first | (refine S_w ?_; first | (refine S_d hS ?_) | (refine S_y hS ?_) | ((first | refine M_bA hS ?_ | refine M_b1 hS ?_ | refine M_aA hS ?_ | refine M_a1 hS ?_ | refine M_sl hS ?_ | refine M_s1 hS ?_ | refine M_mm hS ?_); clear hS; intro b w hS) | ((first | refine M_st hS ?_ | refine M_sA hS ?_ | refine M_in hS ?_ | refine M_sR hS ?_); clear hS; intro w hS; (try simp only [List.set_cons_zero, List.set_cons_succ, Nat.zero_add] at hS)) | (refine M_ap hS ?_; clear hS; intro g cap w hS) | refine M_pn ?_ | ((first | refine M_im hS ?_ | refine M_ii hS ?_ | refine M_dl hS ?_); clear hS; intro w hS)) | refine X_k (by (try simp only [Fm.toList, List.set_cons_succ, List.set_cons_zero]); exact rfl) ?_ | refine S_u ?_ | refine S_v ?_ | refine C_sq ?_ | refine C_rg ?_ | refine L_nil ?_ | refine C_bk ?_ | refine C_ct ?_ | refine C_cf ?_ | refine C_sk ?_ | refine C_ex ?_ | refine C_rt ?_ | refine X_e ?_ | refine X_r ?_ | refine X_bh ?_ | refine X_be ?_ | refine X_br ?_ | refine X_bn ?_ | refine X_p ?_ | refine X_bp ?_)
      refine C_lp [5, 1, 2, 2, 11, 22, 1] (fun s : Nat × NdS => [(8, .int .i64 (s.1 : Nat)), (5, .slice s.2.A s.2.O.length s.2.c)]) (fun s w' => s.1 ≤ two k ∧ NdI F w0 rs m (Dg.ddX m t.xs k (Dg.ddK m t.xs (Dg.ddT m [] ((L.take i).map Tb.xs)) k) s.1) s.2 w') (fun s => two k - s.1) (0, ⟨O, A2, c2, T⟩) ⟨Nat.zero_le _, hO, hOl, hOm, hS⟩ ?_
      clear hO hOl hOm hS
      rintro ⟨x, O, A2, c2, T⟩ y3 w ⟨hx, hO, hOl, hOm, hS⟩
      simp only at hx hO hOl hOm hS
      refine C_fs ?_
      by_cases hlt3 : x < two k
      · have hXl := Dg.ddX_len (m := m) (t := t.xs) (k := k) (out := Dg.ddK m t.xs (Dg.ddT m [] ((L.take i).map Tb.xs)) k) x
        have hOlen : O.length ≤ 200000 := by
          have := congrArg List.length hO
          rw [List.length_map] at this
          omega
        repeat (first | (refine S_w ?_; first | (refine M_c (rfixR (t := t.xs) hm htl hlt2 hlt3 inferInstance hS) ?_) | (refine S_d hS ?_) | (refine S_y hS ?_) | ((first | refine M_bA hS ?_ | refine M_b1 hS ?_ | refine M_aA hS ?_ | refine M_a1 hS ?_ | refine M_sl hS ?_ | refine M_s1 hS ?_ | refine M_mm hS ?_); clear hS; intro b w hS) | ((first | refine M_st hS ?_ | refine M_sA hS ?_ | refine M_in hS ?_ | refine M_sR hS ?_); clear hS; intro w hS; (try simp only [List.set_cons_zero, List.set_cons_succ, Nat.zero_add] at hS)) | (refine M_ap hS ?_; clear hS; intro g cap w hS) | refine M_pn ?_ | ((first | refine M_im hS ?_ | refine M_ii hS ?_ | refine M_dl hS ?_); clear hS; intro w hS)) | refine X_k (by (try simp only [Fm.toList, List.set_cons_succ, List.set_cons_zero]); exact rfl) ?_ | refine S_u ?_ | refine S_v ?_ | refine C_sq ?_ | refine C_rg ?_ | refine L_nil ?_ | refine C_bk ?_ | refine C_ct ?_ | refine C_cf ?_ | refine C_sk ?_ | refine C_ex ?_ | refine C_rt ?_ | refine X_e ?_ | refine X_r ?_ | refine X_bh ?_ | refine X_be ?_ | refine X_br ?_ | refine X_bn ?_ | refine X_p ?_ | refine X_bp ?_)
        rintro _ w1 ⟨A3, c3, rfl, hS⟩
        have hLi : ∀ u ∈ O, HasSl (Res.row 3 1 (.slice A3 t.xs.length c3) t.xs.length ((Dg.fixT m t.xs k x).map iv) :: Res.row 29 1 (.slice A2 O.length c2) O.length (O.map Tb.val) :: (T ++ rs)) u.A u.xs.length 1 (u.xs.map iv) := fun u hu => ⟨fun h => h.get (.tail _ (.tail _ (List.mem_append_left _ (hOm u hu))))⟩
        repeat (first | (refine S_w ?_; first | (refine M_c (rfindR (A := A2) (B := A3) (n := O.length) (k := t.xs.length) (ys := Dg.fixT m t.xs k x) (L := O) (by omega) (by omega) (fun u hu => by have := hOl u hu; omega) inferInstance hLi inferInstance hS) ?_) | (refine S_d hS ?_) | (refine S_y hS ?_) | ((first | refine M_bA hS ?_ | refine M_b1 hS ?_ | refine M_aA hS ?_ | refine M_a1 hS ?_ | refine M_sl hS ?_ | refine M_s1 hS ?_ | refine M_mm hS ?_); clear hS; intro b w hS) | ((first | refine M_st hS ?_ | refine M_sA hS ?_ | refine M_in hS ?_ | refine M_sR hS ?_); clear hS; intro w hS; (try simp only [List.set_cons_zero, List.set_cons_succ, Nat.zero_add] at hS)) | (refine M_ap hS ?_; clear hS; intro g cap w hS) | refine M_pn ?_ | ((first | refine M_im hS ?_ | refine M_ii hS ?_ | refine M_dl hS ?_); clear hS; intro w hS)) | refine X_k (by (try simp only [Fm.toList, List.set_cons_succ, List.set_cons_zero]); exact rfl) ?_ | refine S_u ?_ | refine S_v ?_ | refine C_sq ?_ | refine C_rg ?_ | refine L_nil ?_ | refine C_bk ?_ | refine C_ct ?_ | refine C_cf ?_ | refine C_sk ?_ | refine C_ex ?_ | refine C_rt ?_ | refine X_e ?_ | refine X_r ?_ | refine X_bh ?_ | refine X_be ?_ | refine X_br ?_ | refine X_bn ?_ | refine X_p ?_ | refine X_bp ?_)
        rintro _ w2 ⟨⟨z, rfl, hz⟩, hS⟩
        rw [hO] at hz
        by_cases hnew : 0 ≤ z
        · have hin := hz.1 hnew
          repeat (first | (refine S_w ?_; first | (refine S_d hS ?_) | (refine S_y hS ?_) | ((first | refine M_bA hS ?_ | refine M_b1 hS ?_ | refine M_aA hS ?_ | refine M_a1 hS ?_ | refine M_sl hS ?_ | refine M_s1 hS ?_ | refine M_mm hS ?_); clear hS; intro b w hS) | ((first | refine M_st hS ?_ | refine M_sA hS ?_ | refine M_in hS ?_ | refine M_sR hS ?_); clear hS; intro w hS; (try simp only [List.set_cons_zero, List.set_cons_succ, Nat.zero_add] at hS)) | (refine M_ap hS ?_; clear hS; intro g cap w hS) | refine M_pn ?_ | ((first | refine M_im hS ?_ | refine M_ii hS ?_ | refine M_dl hS ?_); clear hS; intro w hS)) | refine X_k (by (try simp only [Fm.toList, List.set_cons_succ, List.set_cons_zero]); exact rfl) ?_ | refine S_u ?_ | refine S_v ?_ | refine C_sq ?_ | refine C_rg ?_ | refine L_nil ?_ | refine C_bk ?_ | refine C_ct ?_ | refine C_cf ?_ | refine C_sk ?_ | refine C_ex ?_ | refine C_rt ?_ | refine X_e ?_ | refine X_r ?_ | refine X_bh ?_ | refine X_be ?_ | refine X_br ?_ | refine X_bn ?_ | refine X_p ?_ | refine X_bp ?_)
          refine R_e (x + 1, ⟨O, A2, c2, T⟩) ⟨by simp only; omega, ?_, hOl, hOm, hS.drop⟩ (by simp only; omega)
          simp only
          rw [Dg.ddX_succ, Dg.dd, if_pos hin]
          exact hO
        · have hin := fun h => hnew (hz.2 h)
          repeat (first | (refine S_w ?_; first | (refine S_d hS ?_) | (refine S_y hS ?_) | ((first | refine M_bA hS ?_ | refine M_b1 hS ?_ | refine M_aA hS ?_ | refine M_a1 hS ?_ | refine M_sl hS ?_ | refine M_s1 hS ?_ | refine M_mm hS ?_); clear hS; intro b w hS) | ((first | refine M_st hS ?_ | refine M_sA hS ?_ | refine M_in hS ?_ | refine M_sR hS ?_); clear hS; intro w hS; (try simp only [List.set_cons_zero, List.set_cons_succ, Nat.zero_add] at hS)) | (refine M_ap hS ?_; clear hS; intro g cap w hS) | refine M_pn ?_ | ((first | refine M_im hS ?_ | refine M_ii hS ?_ | refine M_dl hS ?_); clear hS; intro w hS)) | refine X_k (by (try simp only [Fm.toList, List.set_cons_succ, List.set_cons_zero]); exact rfl) ?_ | refine S_u ?_ | refine S_v ?_ | refine C_sq ?_ | refine C_rg ?_ | refine L_nil ?_ | refine C_bk ?_ | refine C_ct ?_ | refine C_cf ?_ | refine C_sk ?_ | refine C_ex ?_ | refine C_rt ?_ | refine X_e ?_ | refine X_r ?_ | refine X_bh ?_ | refine X_be ?_ | refine X_br ?_ | refine X_bn ?_ | refine X_p ?_ | refine X_bp ?_)
          have hS : St F w0 (Res.row 3 1 (.slice A3 t.xs.length c3) t.xs.length ((Dg.fixT m t.xs k x).map iv) :: Res.row 29 1 (.slice (some ⟨g, 0, none⟩) (O.length + 1) cap) (O.length + 1) (O.map Tb.val ++ [.slice A3 t.xs.length c3]) :: (T ++ rs)) w := hS.sb
          have hS := hS.rowRd.prm (List.Perm.swap _ _ _)
          have hfl : (Dg.fixT m t.xs k x).length = t.xs.length := by rw [fixT_len, htl]
          have hOl2 : O.length + 1 = (O ++ [(⟨A3, c3, Dg.fixT m t.xs k x⟩ : Tb)]).length := by simp
          have hOv : O.map Tb.val ++ [.slice A3 t.xs.length c3] = (O ++ [(⟨A3, c3, Dg.fixT m t.xs k x⟩ : Tb)]).map Tb.val := by simp [Tb.val, hfl]
          have hres : Res.rd 1 A3 t.xs.length ((Dg.fixT m t.xs k x).map iv) = (⟨A3, c3, Dg.fixT m t.xs k x⟩ : Tb).res := by simp [Tb.res, hfl]
          rw [hOv, hOl2, hres] at hS
          rw [hOl2]
          refine R_e (x + 1, ⟨O ++ [⟨A3, c3, Dg.fixT m t.xs k x⟩], some ⟨g, 0, none⟩, cap, (⟨A3, c3, Dg.fixT m t.xs k x⟩ : Tb).res :: T⟩) ⟨by simp only; omega, ?_, fun u hu => ?_, fun u hu => ?_, hS⟩ (by simp only; omega)
          · simp only
            rw [Dg.ddX_succ, Dg.dd, if_neg hin, List.map_append, hO]
            rfl
          · rcases List.mem_append.1 hu with hu | hu
            · exact hOl u hu
            · rw [List.mem_singleton.1 hu]; exact fixT_len
          · rcases List.mem_append.1 hu with hu | hu
            · exact List.mem_cons_of_mem _ (hOm u hu)
            · rw [List.mem_singleton.1 hu]; exact List.mem_cons_self ..
      · obtain rfl : two k = x := by omega
        repeat (first | (refine S_w ?_; first | (refine S_d hS ?_) | (refine S_y hS ?_) | ((first | refine M_bA hS ?_ | refine M_b1 hS ?_ | refine M_aA hS ?_ | refine M_a1 hS ?_ | refine M_sl hS ?_ | refine M_s1 hS ?_ | refine M_mm hS ?_); clear hS; intro b w hS) | ((first | refine M_st hS ?_ | refine M_sA hS ?_ | refine M_in hS ?_ | refine M_sR hS ?_); clear hS; intro w hS; (try simp only [List.set_cons_zero, List.set_cons_succ, Nat.zero_add] at hS)) | (refine M_ap hS ?_; clear hS; intro g cap w hS) | refine M_pn ?_ | ((first | refine M_im hS ?_ | refine M_ii hS ?_ | refine M_dl hS ?_); clear hS; intro w hS)) | refine X_k (by (try simp only [Fm.toList, List.set_cons_succ, List.set_cons_zero]); exact rfl) ?_ | refine S_u ?_ | refine S_v ?_ | refine C_sq ?_ | refine C_rg ?_ | refine L_nil ?_ | refine C_bk ?_ | refine C_ct ?_ | refine C_cf ?_ | refine C_sk ?_ | refine C_ex ?_ | refine C_rt ?_ | refine X_e ?_ | refine X_r ?_ | refine X_bh ?_ | refine X_be ?_ | refine X_br ?_ | refine X_bn ?_ | refine X_p ?_ | refine X_bp ?_)
        refine R_e (k + 1, ⟨O, A2, c2, T⟩) ⟨by simp only; omega, ?_, hOl, hOm, hS⟩ (by simp only; omega)
        simp only
        rw [Dg.ddK_succ]
        exact hO
    · obtain rfl : k = m + 1 := by omega
      repeat (first | (refine S_w ?_; first | (refine S_d hS ?_) | (refine S_y hS ?_) | ((first | refine M_bA hS ?_ | refine M_b1 hS ?_ | refine M_aA hS ?_ | refine M_a1 hS ?_ | refine M_sl hS ?_ | refine M_s1 hS ?_ | refine M_mm hS ?_); clear hS; intro b w hS) | ((first | refine M_st hS ?_ | refine M_sA hS ?_ | refine M_in hS ?_ | refine M_sR hS ?_); clear hS; intro w hS; (try simp only [List.set_cons_zero, List.set_cons_succ, Nat.zero_add] at hS)) | (refine M_ap hS ?_; clear hS; intro g cap w hS) | refine M_pn ?_ | ((first | refine M_im hS ?_ | refine M_ii hS ?_ | refine M_dl hS ?_); clear hS; intro w hS)) | refine X_k (by (try simp only [Fm.toList, List.set_cons_succ, List.set_cons_zero]); exact rfl) ?_ | refine S_u ?_ | refine S_v ?_ | refine C_sq ?_ | refine C_rg ?_ | refine L_nil ?_ | refine C_bk ?_ | refine C_ct ?_ | refine C_cf ?_ | refine C_sk ?_ | refine C_ex ?_ | refine C_rt ?_ | refine X_e ?_ | refine X_r ?_ | refine X_bh ?_ | refine X_be ?_ | refine X_br ?_ | refine X_bn ?_ | refine X_p ?_ | refine X_bp ?_)
      refine R_e (i + 1, ⟨O, A2, c2, T⟩) ⟨by simp only; omega, ?_, hOl, hOm, hS⟩ (by simp only; omega)
      simp only
      rw [List.take_add_one, ht, List.map_append]
      exact hO.trans (Dg.ddT_snoc m [] _ _).symm
  · obtain rfl : n = i := by omega
    rw [List.take_of_length_le (by omega)] at hO
    repeat (first | (refine S_w ?_; first | (refine S_d hS ?_) | (refine S_y hS ?_) | ((first | refine M_bA hS ?_ | refine M_b1 hS ?_ | refine M_aA hS ?_ | refine M_a1 hS ?_ | refine M_sl hS ?_ | refine M_s1 hS ?_ | refine M_mm hS ?_); clear hS; intro b w hS) | ((first | refine M_st hS ?_ | refine M_sA hS ?_ | refine M_in hS ?_ | refine M_sR hS ?_); clear hS; intro w hS; (try simp only [List.set_cons_zero, List.set_cons_succ, Nat.zero_add] at hS)) | (refine M_ap hS ?_; clear hS; intro g cap w hS) | refine M_pn ?_ | ((first | refine M_im hS ?_ | refine M_ii hS ?_ | refine M_dl hS ?_); clear hS; intro w hS)) | refine X_k (by (try simp only [Fm.toList, List.set_cons_succ, List.set_cons_zero]); exact rfl) ?_ | refine S_u ?_ | refine S_v ?_ | refine C_sq ?_ | refine C_rg ?_ | refine L_nil ?_ | refine C_bk ?_ | refine C_ct ?_ | refine C_cf ?_ | refine C_sk ?_ | refine C_ex ?_ | refine C_rt ?_ | refine X_e ?_ | refine X_r ?_ | refine X_bh ?_ | refine X_be ?_ | refine X_br ?_ | refine X_bn ?_ | refine X_p ?_ | refine X_bp ?_)
    have hOl2 : O.length = (Dg.ddT m [] (L.map Tb.xs)).length := by rw [← hO, List.length_map]
    refine V_1 ⟨A2, c2, by rw [← hOl2], hS.drop.sub (List.sublist_append_right _ _)⟩
end
end Go.Proofs.Ytijmggoikieelaa
