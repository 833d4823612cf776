/-
  A reference that a run did not return.
-/
import Derived.Test.YtijmggoikieelaaDgOps
namespace Go.Proofs.Ytijmggoikieelaa
open Go.RowKit

theorem pigeon {R : List Nat} {k : Int} {i : Nat} (h : ∀ i', i' < i → ∃ r ∈ R, (r : Int) = k + (i' : Nat)) : i ≤ R.length := by
  have hn : ((List.range i).map fun j => (k + (j : Nat)).toNat).Nodup := by
    rw [List.Nodup, List.pairwise_map]
    refine List.Pairwise.imp_of_mem ?_ List.nodup_range
    intro a b ha hb hab he
    obtain ⟨r, _, h1⟩ := h a (List.mem_range.1 ha)
    obtain ⟨q, _, h2⟩ := h b (List.mem_range.1 hb)
    omega
  have := Dg.nodup_len hn (l' := R) fun a ha => by
    obtain ⟨j, hj, rfl⟩ := List.mem_map.1 ha
    obtain ⟨r, hr, h1⟩ := h j (List.mem_range.1 hj)
    rw [← h1]
    exact hr
  simpa using this
section
variable {F : Nat → Prop} {w0 w : World} {rs : List Res}
set_option maxHeartbeats 8000000 in
set_option maxRecDepth 100000 in
theorem foreignR {rb sb mb cr nT ct : Nat} {Ar At : Option Addr} {R : List Nat} (k : Int) (hk : inI k) (hR : R.length ≤ 100000) (hb : ∀ r ∈ R, r ≤ 100000) (h1 : HasObj rs rb (rnO sb mb R.length Ar cr nT At ct)) (h2 : HasSl rs Ar R.length 1 (qv R)) (hS : St F w0 rs w) :
    CallsR Try.prog 23 #[.pointer (some ⟨rb, 0, none⟩), .int .i64 k] w fun v w' => ∃ z, v = .int .i64 z ∧ inI z ∧ (∀ r ∈ R, (r : Int) ≠ z) ∧ St F w0 rs w' := by
  obtain ⟨hk1, hk2⟩ := hk
  refine E_r (m := 43) ?_ Try.func23 rfl Try.ntmps23 rfl; refine C_ft ?_
  repeat (first | (refine S_w ?_; first | (refine S_d hS ?_) | (refine S_y hS ?_) | ((first | refine M_bA hS ?_ | refine M_b1 hS ?_ | refine M_aA hS ?_ | refine M_a1 hS ?_ | refine M_sl hS ?_ | refine M_s1 hS ?_ | refine M_mm hS ?_); clear hS; intro b w hS) | ((first | refine M_st hS ?_ | refine M_sA hS ?_ | refine M_in hS ?_ | refine M_sR hS ?_); clear hS; intro w hS; (try simp only [List.set_cons_zero, List.set_cons_succ, Nat.zero_add] at hS)) | (refine M_ap hS ?_; clear hS; intro g cap w hS) | refine M_pn ?_ | ((first | refine M_im hS ?_ | refine M_ii hS ?_ | refine M_dl hS ?_); clear hS; intro w hS)) | refine X_k (by (try simp only [Fm.toList, List.set_cons_succ, List.set_cons_zero]); exact rfl) ?_ | refine S_u ?_ | refine S_v ?_ | refine C_sq ?_ | refine C_rg ?_ | refine L_nil ?_ | refine C_bk ?_ | refine C_ct ?_ | refine C_cf ?_ | refine C_sk ?_ | refine C_ex ?_ | refine C_rt ?_ | refine X_e ?_ | refine X_r ?_ | refine X_bh ?_ | refine X_be ?_ | refine X_br ?_ | refine X_bn ?_ | refine X_p ?_ | refine X_bp ?_)
  refine C_lp [5, 4, 1, 34, 1] (fun y : Nat × Int => [(5, .int .i64 y.2), (6, .int .i64 (y.1 : Nat))]) (fun y w' => (y.1 ≤ R.length ∧ inI y.2) ∧ y.2 = k + (y.1 : Nat) ∧ (∀ i', i' < y.1 → ∃ r ∈ R, (r : Int) = k + (i' : Nat)) ∧ St F w0 rs w') (fun y => R.length + 1 - y.1) (0, k) ⟨⟨Nat.zero_le _, hk1, hk2⟩, by simp, fun i h => absurd h (Nat.not_lt_zero _), hS⟩ ?_
  clear hS
  rintro ⟨i, x⟩ y w ⟨⟨hi, hx1, hx2⟩, hx, hpi, hS⟩
  refine C_fs ?_
  simp only at hi hx1 hx2 hx hpi
  repeat (first | (refine S_w ?_; first | (refine S_d hS ?_) | (refine S_y hS ?_) | ((first | refine M_bA hS ?_ | refine M_b1 hS ?_ | refine M_aA hS ?_ | refine M_a1 hS ?_ | refine M_sl hS ?_ | refine M_s1 hS ?_ | refine M_mm hS ?_); clear hS; intro b w hS) | ((first | refine M_st hS ?_ | refine M_sA hS ?_ | refine M_in hS ?_ | refine M_sR hS ?_); clear hS; intro w hS; (try simp only [List.set_cons_zero, List.set_cons_succ, Nat.zero_add] at hS)) | (refine M_ap hS ?_; clear hS; intro g cap w hS) | refine M_pn ?_ | ((first | refine M_im hS ?_ | refine M_ii hS ?_ | refine M_dl hS ?_); clear hS; intro w hS)) | refine X_k (by (try simp only [Fm.toList, List.set_cons_succ, List.set_cons_zero]); exact rfl) ?_ | refine S_u ?_ | refine S_v ?_ | refine C_sq ?_ | refine C_rg ?_ | refine L_nil ?_ | refine C_bk ?_ | refine C_ct ?_ | refine C_cf ?_ | refine C_sk ?_ | refine C_ex ?_ | refine C_rt ?_ | refine X_e ?_ | refine X_r ?_ | refine X_bh ?_ | refine X_be ?_ | refine X_br ?_ | refine X_bn ?_ | refine X_p ?_ | refine X_bp ?_)
  refine C_lp [7, 2, 10, 21, 5] (fun y : Nat × Bool => [(7, .bool y.2), (8, .int .i64 (y.1 : Nat))]) (fun y w' => y.1 ≤ R.length ∧ y.2 = (R.take y.1).any (fun r => decide ((r : Int) = x)) ∧ St F w0 rs w') (fun y => R.length - y.1) (0, false) ⟨Nat.zero_le _, rfl, hS⟩ ?_
  clear hS
  rintro ⟨j, b⟩ y w ⟨hj, hbe, hS⟩
  refine C_fs ?_
  simp only at hj hbe
  by_cases hjl : j < R.length
  · obtain ⟨r, hr⟩ : ∃ r, R[j]? = some r := ⟨R[j]'(by omega), List.getElem?_eq_getElem _⟩
    have hra : (qv R)[j]? = some (.int .i64 (r : Nat)) := by simp only [qv, List.getElem?_map, hr]; rfl
    have hnx : (R.take (j + 1)).any (fun r => decide ((r : Int) = x)) = (b || decide ((r : Int) = x)) := by
      rw [List.take_add_one, hr, List.any_append, ← hbe]; simp
    cases b with
    | true =>
      repeat (first | (refine S_w ?_; first | (refine S_d hS ?_) | (refine S_y hS ?_) | ((first | refine M_bA hS ?_ | refine M_b1 hS ?_ | refine M_aA hS ?_ | refine M_a1 hS ?_ | refine M_sl hS ?_ | refine M_s1 hS ?_ | refine M_mm hS ?_); clear hS; intro b w hS) | ((first | refine M_st hS ?_ | refine M_sA hS ?_ | refine M_in hS ?_ | refine M_sR hS ?_); clear hS; intro w hS; (try simp only [List.set_cons_zero, List.set_cons_succ, Nat.zero_add] at hS)) | (refine M_ap hS ?_; clear hS; intro g cap w hS) | refine M_pn ?_ | ((first | refine M_im hS ?_ | refine M_ii hS ?_ | refine M_dl hS ?_); clear hS; intro w hS)) | refine X_k (by (try simp only [Fm.toList, List.set_cons_succ, List.set_cons_zero]); exact rfl) ?_ | refine S_u ?_ | refine S_v ?_ | refine C_sq ?_ | refine C_rg ?_ | refine L_nil ?_ | refine C_bk ?_ | refine C_ct ?_ | refine C_cf ?_ | refine C_sk ?_ | refine C_ex ?_ | refine C_rt ?_ | refine X_e ?_ | refine X_r ?_ | refine X_bh ?_ | refine X_be ?_ | refine X_br ?_ | refine X_bn ?_ | refine X_p ?_ | refine X_bp ?_)
      refine R_e (j + 1, true) ⟨by simp only; omega, by simp only; rw [hnx]; rfl, hS⟩ (by simp only; omega)
    | false =>
      by_cases e : (r : Int) = x
      · rw [decide_eq_true e] at hnx
        repeat (first | (refine S_w ?_; first | (refine S_d hS ?_) | (refine S_y hS ?_) | ((first | refine M_bA hS ?_ | refine M_b1 hS ?_ | refine M_aA hS ?_ | refine M_a1 hS ?_ | refine M_sl hS ?_ | refine M_s1 hS ?_ | refine M_mm hS ?_); clear hS; intro b w hS) | ((first | refine M_st hS ?_ | refine M_sA hS ?_ | refine M_in hS ?_ | refine M_sR hS ?_); clear hS; intro w hS; (try simp only [List.set_cons_zero, List.set_cons_succ, Nat.zero_add] at hS)) | (refine M_ap hS ?_; clear hS; intro g cap w hS) | refine M_pn ?_ | ((first | refine M_im hS ?_ | refine M_ii hS ?_ | refine M_dl hS ?_); clear hS; intro w hS)) | refine X_k (by (try simp only [Fm.toList, List.set_cons_succ, List.set_cons_zero]); exact rfl) ?_ | refine S_u ?_ | refine S_v ?_ | refine C_sq ?_ | refine C_rg ?_ | refine L_nil ?_ | refine C_bk ?_ | refine C_ct ?_ | refine C_cf ?_ | refine C_sk ?_ | refine C_ex ?_ | refine C_rt ?_ | refine X_e ?_ | refine X_r ?_ | refine X_bh ?_ | refine X_be ?_ | refine X_br ?_ | refine X_bn ?_ | refine X_p ?_ | refine X_bp ?_)
        refine R_e (j + 1, true) ⟨by simp only; omega, by simp only; rw [hnx]; rfl, hS⟩ (by simp only; omega)
      · rw [decide_eq_false e] at hnx
        repeat (first | (refine S_w ?_; first | (refine S_d hS ?_) | (refine S_y hS ?_) | ((first | refine M_bA hS ?_ | refine M_b1 hS ?_ | refine M_aA hS ?_ | refine M_a1 hS ?_ | refine M_sl hS ?_ | refine M_s1 hS ?_ | refine M_mm hS ?_); clear hS; intro b w hS) | ((first | refine M_st hS ?_ | refine M_sA hS ?_ | refine M_in hS ?_ | refine M_sR hS ?_); clear hS; intro w hS; (try simp only [List.set_cons_zero, List.set_cons_succ, Nat.zero_add] at hS)) | (refine M_ap hS ?_; clear hS; intro g cap w hS) | refine M_pn ?_ | ((first | refine M_im hS ?_ | refine M_ii hS ?_ | refine M_dl hS ?_); clear hS; intro w hS)) | refine X_k (by (try simp only [Fm.toList, List.set_cons_succ, List.set_cons_zero]); exact rfl) ?_ | refine S_u ?_ | refine S_v ?_ | refine C_sq ?_ | refine C_rg ?_ | refine L_nil ?_ | refine C_bk ?_ | refine C_ct ?_ | refine C_cf ?_ | refine C_sk ?_ | refine C_ex ?_ | refine C_rt ?_ | refine X_e ?_ | refine X_r ?_ | refine X_bh ?_ | refine X_be ?_ | refine X_br ?_ | refine X_bn ?_ | refine X_p ?_ | refine X_bp ?_)
        refine R_e (j + 1, false) ⟨by simp only; omega, by simp only; rw [hnx]; rfl, hS⟩ (by simp only; omega)
  · obtain rfl : R.length = j := by omega
    rw [List.take_length] at hbe
    cases b with
    | false =>
      have hno : ∀ r ∈ R, (r : Int) ≠ x := fun r hr e => by
        have := List.any_eq_false.1 hbe.symm r hr
        simp [e] at this
      repeat (first | (refine S_w ?_; first | (refine S_d hS ?_) | (refine S_y hS ?_) | ((first | refine M_bA hS ?_ | refine M_b1 hS ?_ | refine M_aA hS ?_ | refine M_a1 hS ?_ | refine M_sl hS ?_ | refine M_s1 hS ?_ | refine M_mm hS ?_); clear hS; intro b w hS) | ((first | refine M_st hS ?_ | refine M_sA hS ?_ | refine M_in hS ?_ | refine M_sR hS ?_); clear hS; intro w hS; (try simp only [List.set_cons_zero, List.set_cons_succ, Nat.zero_add] at hS)) | (refine M_ap hS ?_; clear hS; intro g cap w hS) | refine M_pn ?_ | ((first | refine M_im hS ?_ | refine M_ii hS ?_ | refine M_dl hS ?_); clear hS; intro w hS)) | refine X_k (by (try simp only [Fm.toList, List.set_cons_succ, List.set_cons_zero]); exact rfl) ?_ | refine S_u ?_ | refine S_v ?_ | refine C_sq ?_ | refine C_rg ?_ | refine L_nil ?_ | refine C_bk ?_ | refine C_ct ?_ | refine C_cf ?_ | refine C_sk ?_ | refine C_ex ?_ | refine C_rt ?_ | refine X_e ?_ | refine X_r ?_ | refine X_bh ?_ | refine X_be ?_ | refine X_br ?_ | refine X_bn ?_ | refine X_p ?_ | refine X_bp ?_)
      refine V_1 ⟨x, rfl, ⟨hx1, hx2⟩, hno, hS⟩
    | true =>
      obtain ⟨r, hr, e⟩ := List.any_eq_true.1 hbe.symm
      have e := of_decide_eq_true e
      have hr2 := hb r hr
      have hpn : ∀ i', i' < i + 1 → ∃ r ∈ R, (r : Int) = k + (i' : Nat) := fun i' h => by
        by_cases e2 : i' < i
        · exact hpi i' e2
        · obtain rfl : i' = i := by omega
          exact ⟨r, hr, by rw [e, hx]⟩
      have hil := pigeon hpn
      repeat (first | (refine S_w ?_; first | (refine S_d hS ?_) | (refine S_y hS ?_) | ((first | refine M_bA hS ?_ | refine M_b1 hS ?_ | refine M_aA hS ?_ | refine M_a1 hS ?_ | refine M_sl hS ?_ | refine M_s1 hS ?_ | refine M_mm hS ?_); clear hS; intro b w hS) | ((first | refine M_st hS ?_ | refine M_sA hS ?_ | refine M_in hS ?_ | refine M_sR hS ?_); clear hS; intro w hS; (try simp only [List.set_cons_zero, List.set_cons_succ, Nat.zero_add] at hS)) | (refine M_ap hS ?_; clear hS; intro g cap w hS) | refine M_pn ?_ | ((first | refine M_im hS ?_ | refine M_ii hS ?_ | refine M_dl hS ?_); clear hS; intro w hS)) | refine X_k (by (try simp only [Fm.toList, List.set_cons_succ, List.set_cons_zero]); exact rfl) ?_ | refine S_u ?_ | refine S_v ?_ | refine C_sq ?_ | refine C_rg ?_ | refine L_nil ?_ | refine C_bk ?_ | refine C_ct ?_ | refine C_cf ?_ | refine C_sk ?_ | refine C_ex ?_ | refine C_rt ?_ | refine X_e ?_ | refine X_r ?_ | refine X_bh ?_ | refine X_be ?_ | refine X_br ?_ | refine X_bn ?_ | refine X_p ?_ | refine X_bp ?_)
      refine R_e (i + 1, x + 1) ⟨⟨by simp only; omega, by constructor <;> simp only <;> omega⟩, by simp only; omega, hpn, hS⟩ (by simp only; omega)
end
end Go.Proofs.Ytijmggoikieelaa
