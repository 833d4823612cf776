/-
  diagram's eval, build, insert.
-/
import Derived.Test.YtijmggoikieelaaDgSto
namespace Go.Proofs.Ytijmggoikieelaa
open Go.RowKit

theorem bit_and (x k : Nat) : x / two k &&& 1 = if x.testBit k then 1 else 0 := by
  rw [Nat.and_one_is_mod, Nat.testBit_eq_decide_div_mod_eq]
  unfold two
  rcases Nat.mod_two_eq_zero_or_one (x / 2 ^ k) with h | h <;> simp [h]
section
variable {F : Nat → Prop} {w0 w : World} {rs : List Res} {sb m cp bi bk c : Nat} {A : Option Addr} {N : List Dg.Nd} {kn : List Nat}
set_option maxHeartbeats 4000000 in
set_option maxRecDepth 100000 in
theorem devalR (r x : Nat) (hok : Dg.Ok m N) (hr : r < N.length) (hx : x < 1000000) (hm : m ≤ 6) (h1 : HasObj rs sb (stO m cp N.length A c bi bk)) (h2 : HasSl rs A N.length 4 (cellsN N)) (hS : St F w0 rs w) :
    CallsR Try.prog 46 #[.pointer (some ⟨sb, 0, none⟩), .int .i64 (r : Nat), .int .i64 (x : Nat)] w fun v w' => v = .int .i64 (Dg.ev N r x) ∧ St F w0 rs w' := by
  obtain ⟨n0, hn0⟩ : ∃ n, N[r]? = some n := ⟨N[r], List.getElem?_eq_getElem hr⟩
  have hdd := cellsN_drop hn0
  simp only [ndL] at hdd
  refine E_r (m := 34) ?_ Try.func46 rfl Try.ntmps46 rfl; refine C_ft ?_
  repeat (first | (refine S_w ?_; first | (refine S_d hS ?_) | (refine S_y hS ?_) | ((first | refine M_bA hS ?_ | refine M_b1 hS ?_ | refine M_aA hS ?_ | refine M_a1 hS ?_ | refine M_sl hS ?_ | refine M_s1 hS ?_ | refine M_mm hS ?_); clear hS; intro b w hS) | ((first | refine M_st hS ?_ | refine M_sA hS ?_ | refine M_in hS ?_ | refine M_sR hS ?_); clear hS; intro w hS; (try simp only [List.set_cons_zero, List.set_cons_succ, Nat.zero_add] at hS)) | (refine M_ap hS ?_; clear hS; intro g cap w hS) | refine M_pn ?_ | ((first | refine M_im hS ?_ | refine M_ii hS ?_ | refine M_dl hS ?_); clear hS; intro w hS)) | refine X_k (by (try simp only [Fm.toList, List.set_cons_succ, List.set_cons_zero]); exact rfl) ?_ | refine S_u ?_ | refine S_v ?_ | refine C_sq ?_ | refine C_rg ?_ | refine L_nil ?_ | refine C_bk ?_ | refine C_ct ?_ | refine C_cf ?_ | refine C_sk ?_ | refine C_ex ?_ | refine C_rt ?_ | refine X_e ?_ | refine X_r ?_ | refine X_bh ?_ | refine X_be ?_ | refine X_br ?_ | refine X_bn ?_ | refine X_p ?_ | refine X_bp ?_)
  refine C_lp [1, 1, 13, 20, 2] (fun s : Nat × Dg.Nd => [(1, .int .i64 (s.1 : Nat))]) (fun s w' => N[s.1]? = some s.2 ∧ Dg.ev N s.1 x = Dg.ev N r x ∧ St F w0 (Res.obj b (.cells (ndL s.2).toArray 100 (0, 0)) :: rs) w') (fun s => s.1) (r, n0) ⟨hn0, rfl, hS⟩ ?_
  clear hS hdd
  rintro ⟨r', n⟩ y w ⟨hn, he, hS⟩
  simp only at hn he hS
  refine C_fs ?_
  cases n with
  | leaf z =>
    have hS : St F w0 (Res.obj b (.cells [.int .i64 (-1), .int .i64 z, .int .i64 0, .int .i64 0].toArray 100 (0, 0)) :: rs) w := hS
    rw [Dg.ev_leaf hn] at he
    subst he
    repeat (first | (refine S_w ?_; first | (refine S_d hS ?_) | (refine S_y hS ?_) | ((first | refine M_bA hS ?_ | refine M_b1 hS ?_ | refine M_aA hS ?_ | refine M_a1 hS ?_ | refine M_sl hS ?_ | refine M_s1 hS ?_ | refine M_mm hS ?_); clear hS; intro b w hS) | ((first | refine M_st hS ?_ | refine M_sA hS ?_ | refine M_in hS ?_ | refine M_sR hS ?_); clear hS; intro w hS; (try simp only [List.set_cons_zero, List.set_cons_succ, Nat.zero_add] at hS)) | (refine M_ap hS ?_; clear hS; intro g cap w hS) | refine M_pn ?_ | ((first | refine M_im hS ?_ | refine M_ii hS ?_ | refine M_dl hS ?_); clear hS; intro w hS)) | refine X_k (by (try simp only [Fm.toList, List.set_cons_succ, List.set_cons_zero]); exact rfl) ?_ | refine S_u ?_ | refine S_v ?_ | refine C_sq ?_ | refine C_rg ?_ | refine L_nil ?_ | refine C_bk ?_ | refine C_ct ?_ | refine C_cf ?_ | refine C_sk ?_ | refine C_ex ?_ | refine C_rt ?_ | refine X_e ?_ | refine X_r ?_ | refine X_bh ?_ | refine X_be ?_ | refine X_br ?_ | refine X_bn ?_ | refine X_p ?_ | refine X_bp ?_)
    refine V_1 ⟨rfl, hS.sb⟩
  | test k lo hi =>
    have hS : St F w0 (Res.obj b (.cells [.int .i64 (k : Nat), .int .i64 0, .int .i64 (lo : Nat), .int .i64 (hi : Nat)].toArray 100 (0, 0)) :: rs) w := hS
    obtain ⟨g0, g1, g2, _⟩ := hok.low _ _ _ _ hn
    have hrl := (List.getElem?_eq_some_iff.1 hn).1
    rw [Dg.ev_test hok hn] at he
    have hb := bit_and x k
    have hdv : x / two k ≤ x := Nat.div_le_self _ _
    by_cases hbit : x.testBit k = true
    · rw [if_pos hbit] at hb he
      obtain ⟨n2, hn2⟩ : ∃ n, N[hi]? = some n := ⟨N[hi]'(by omega), List.getElem?_eq_getElem _⟩
      have hdd := cellsN_drop hn2
      simp only [ndL] at hdd
      repeat (first | (refine S_w ?_; first | (refine S_d hS ?_) | (refine S_y hS ?_) | ((first | refine M_bA hS ?_ | refine M_b1 hS ?_ | refine M_aA hS ?_ | refine M_a1 hS ?_ | refine M_sl hS ?_ | refine M_s1 hS ?_ | refine M_mm hS ?_); clear hS; intro b w hS) | ((first | refine M_st hS ?_ | refine M_sA hS ?_ | refine M_in hS ?_ | refine M_sR hS ?_); clear hS; intro w hS; (try simp only [List.set_cons_zero, List.set_cons_succ, Nat.zero_add] at hS)) | (refine M_ap hS ?_; clear hS; intro g cap w hS) | refine M_pn ?_ | ((first | refine M_im hS ?_ | refine M_ii hS ?_ | refine M_dl hS ?_); clear hS; intro w hS)) | refine X_k (by (try simp only [Fm.toList, List.set_cons_succ, List.set_cons_zero]); exact rfl) ?_ | refine S_u ?_ | refine S_v ?_ | refine C_sq ?_ | refine C_rg ?_ | refine L_nil ?_ | refine C_bk ?_ | refine C_ct ?_ | refine C_cf ?_ | refine C_sk ?_ | refine C_ex ?_ | refine C_rt ?_ | refine X_e ?_ | refine X_r ?_ | refine X_bh ?_ | refine X_be ?_ | refine X_br ?_ | refine X_bn ?_ | refine X_p ?_ | refine X_bp ?_)
      refine R_e (hi, n2) ⟨hn2, he, hS⟩ (by simp only; omega)
    · rw [if_neg hbit] at hb he
      obtain ⟨n2, hn2⟩ : ∃ n, N[lo]? = some n := ⟨N[lo]'(by omega), List.getElem?_eq_getElem _⟩
      have hdd := cellsN_drop hn2
      simp only [ndL] at hdd
      repeat (first | (refine S_w ?_; first | (refine S_d hS ?_) | (refine S_y hS ?_) | ((first | refine M_bA hS ?_ | refine M_b1 hS ?_ | refine M_aA hS ?_ | refine M_a1 hS ?_ | refine M_sl hS ?_ | refine M_s1 hS ?_ | refine M_mm hS ?_); clear hS; intro b w hS) | ((first | refine M_st hS ?_ | refine M_sA hS ?_ | refine M_in hS ?_ | refine M_sR hS ?_); clear hS; intro w hS; (try simp only [List.set_cons_zero, List.set_cons_succ, Nat.zero_add] at hS)) | (refine M_ap hS ?_; clear hS; intro g cap w hS) | refine M_pn ?_ | ((first | refine M_im hS ?_ | refine M_ii hS ?_ | refine M_dl hS ?_); clear hS; intro w hS)) | refine X_k (by (try simp only [Fm.toList, List.set_cons_succ, List.set_cons_zero]); exact rfl) ?_ | refine S_u ?_ | refine S_v ?_ | refine C_sq ?_ | refine C_rg ?_ | refine L_nil ?_ | refine C_bk ?_ | refine C_ct ?_ | refine C_cf ?_ | refine C_sk ?_ | refine C_ex ?_ | refine C_rt ?_ | refine X_e ?_ | refine X_r ?_ | refine X_bh ?_ | refine X_be ?_ | refine X_br ?_ | refine X_bn ?_ | refine X_p ?_ | refine X_bp ?_)
      refine R_e (lo, n2) ⟨hn2, he, hS⟩ (by simp only; omega)
end
end Go.Proofs.Ytijmggoikieelaa
