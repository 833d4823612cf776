/-
  The laws' runs: pick; what a step does to the two stores: plain law.
-/
import Derived.Test.YtijmggoikieelaaDgRun
namespace Go.Proofs.Ytijmggoikieelaa
open Go.RowKit

theorem tmod_low (k : Int) {n : Nat} (h : 0 < n) : -(n : Int) < k.tmod n ∧ k.tmod n < n := by
  have h1 := Int.natAbs_tmod k n
  have h2 : k.natAbs % (n : Int).natAbs < (n : Int).natAbs := Nat.mod_lt _ (by omega)
  omega
theorem pick_idx (k : Int) {n : Nat} (hn : 0 < n) : ∃ i : Nat, (k.tmod n + n).tmod n = (i : Int) ∧ i < n := by
  obtain ⟨h1, h2⟩ := tmod_low k hn
  have h3 := tmod_low (k.tmod n + n) hn
  have h4 := Int.tmod_nonneg (n : Int) (show 0 ≤ k.tmod n + n by omega)
  exact ⟨((k.tmod n + n).tmod n).toNat, by omega, by omega⟩
section
variable {F : Nat → Prop} {w0 w : World} {rs : List Res}
set_option maxHeartbeats 4000000 in
set_option maxRecDepth 100000 in
theorem pickR {rb sb mb cr ct : Nat} {Ar At : Option Addr} {R : List Nat} {TT : List Tb} (k : Int) (hk : inI k) (hl : R.length = TT.length) (hR : R.length ≤ 100000) (h1 : HasObj rs rb (rnO sb mb R.length Ar cr TT.length At ct)) (h2 : HasSl rs Ar R.length 1 (qv R)) (h3 : HasSl rs At TT.length 1 (TT.map Tb.val)) (hS : St F w0 rs w) :
    CallsR Try.prog 18 #[.pointer (some ⟨rb, 0, none⟩), .int .i64 k] w fun r w' => ((R = [] ∧ r = .tuple #[.int .i64 0, .slice none 0 0, .bool false]) ∨ (∃ (i a : Nat) (t : Tb), R[i]? = some a ∧ TT[i]? = some t ∧ r = .tuple #[.int .i64 (a : Nat), t.val, .bool true])) ∧ St F w0 rs w' := by
  refine E_r (m := 45) ?_ Try.func18 rfl Try.ntmps18 rfl; refine C_ft ?_
  cases R with
  | nil =>
    have hl0 : ([] : List Nat).length = 0 := rfl
    repeat (first | (refine S_w ?_; first | (refine S_d hS ?_) | (refine S_y hS ?_) | ((first | refine M_bA hS ?_ | refine M_b1 hS ?_ | refine M_aA hS ?_ | refine M_a1 hS ?_ | refine M_sl hS ?_ | refine M_s1 hS ?_ | refine M_mm hS ?_); clear hS; intro b w hS) | ((first | refine M_st hS ?_ | refine M_sA hS ?_ | refine M_in hS ?_ | refine M_sR hS ?_); clear hS; intro w hS; (try simp only [List.set_cons_zero, List.set_cons_succ, Nat.zero_add] at hS)) | (refine M_ap hS ?_; clear hS; intro g cap w hS) | refine M_pn ?_ | ((first | refine M_im hS ?_ | refine M_ii hS ?_ | refine M_dl hS ?_); clear hS; intro w hS)) | refine X_k (by (try simp only [Fm.toList, List.set_cons_succ, List.set_cons_zero]); exact rfl) ?_ | refine S_u ?_ | refine S_v ?_ | refine C_sq ?_ | refine C_rg ?_ | refine L_nil ?_ | refine C_bk ?_ | refine C_ct ?_ | refine C_cf ?_ | refine C_sk ?_ | refine C_ex ?_ | refine C_rt ?_ | refine X_e ?_ | refine X_r ?_ | refine X_bh ?_ | refine X_be ?_ | refine X_br ?_ | refine X_bn ?_ | refine X_p ?_ | refine X_bp ?_)
    refine ⟨W_ret3 rfl (Rv.tmp rfl) (Rv.tmp rfl) (Rv.tmp rfl) ⟨.inl ⟨rfl, rfl⟩, hS⟩⟩
  | cons r0 R =>
    have hl1 : (r0 :: R).length = R.length + 1 := rfl
    obtain ⟨n, hn⟩ : ∃ n, n = (r0 :: R).length := ⟨_, rfl⟩
    rw [← hn] at h1 h2 hl hR hl1
    obtain ⟨i, hi, hin⟩ := pick_idx k (n := n) (by omega)
    obtain ⟨hb1, hb2⟩ := tmod_low k (n := n) (by omega)
    obtain ⟨a, ha⟩ : ∃ a, (r0 :: R)[i]? = some a := ⟨(r0 :: R)[i]'(by omega), List.getElem?_eq_getElem _⟩
    obtain ⟨t, ht⟩ : ∃ t, TT[i]? = some t := ⟨TT[i]'(by omega), List.getElem?_eq_getElem _⟩
    have hra : (qv (r0 :: R))[i]? = some (.int .i64 (a : Nat)) := by simp only [qv, List.getElem?_map, ha]; rfl
    have hta : (TT.map Tb.val)[i]? = some t.val := by simp only [List.getElem?_map, ht]; rfl
    have hn1 : (r0 :: R).length = n := hn.symm
    repeat (first | (refine S_w ?_; first | (refine S_d hS ?_) | (refine S_y hS ?_) | ((first | refine M_bA hS ?_ | refine M_b1 hS ?_ | refine M_aA hS ?_ | refine M_a1 hS ?_ | refine M_sl hS ?_ | refine M_s1 hS ?_ | refine M_mm hS ?_); clear hS; intro b w hS) | ((first | refine M_st hS ?_ | refine M_sA hS ?_ | refine M_in hS ?_ | refine M_sR hS ?_); clear hS; intro w hS; (try simp only [List.set_cons_zero, List.set_cons_succ, Nat.zero_add] at hS)) | (refine M_ap hS ?_; clear hS; intro g cap w hS) | refine M_pn ?_ | ((first | refine M_im hS ?_ | refine M_ii hS ?_ | refine M_dl hS ?_); clear hS; intro w hS)) | refine X_k (by (try simp only [Fm.toList, List.set_cons_succ, List.set_cons_zero]); exact rfl) ?_ | refine S_u ?_ | refine S_v ?_ | refine C_sq ?_ | refine C_rg ?_ | refine L_nil ?_ | refine C_bk ?_ | refine C_ct ?_ | refine C_cf ?_ | refine C_sk ?_ | refine C_ex ?_ | refine C_rt ?_ | refine X_e ?_ | refine X_r ?_ | refine X_bh ?_ | refine X_be ?_ | refine X_br ?_ | refine X_bn ?_ | refine X_p ?_ | refine X_bp ?_)
    refine C_qt hS ?_
    repeat (first | (refine Q_w ?_; first | (refine Q_q Yrm ?_) | (refine Q_d ?_) | (refine Q_y ?_)) | refine Q_u ?_)
    refine Q_n ?_
    intro w hS
    rw [hi]
    repeat (first | (refine S_w ?_; first | (refine S_d hS ?_) | (refine S_y hS ?_) | ((first | refine M_bA hS ?_ | refine M_b1 hS ?_ | refine M_aA hS ?_ | refine M_a1 hS ?_ | refine M_sl hS ?_ | refine M_s1 hS ?_ | refine M_mm hS ?_); clear hS; intro b w hS) | ((first | refine M_st hS ?_ | refine M_sA hS ?_ | refine M_in hS ?_ | refine M_sR hS ?_); clear hS; intro w hS; (try simp only [List.set_cons_zero, List.set_cons_succ, Nat.zero_add] at hS)) | (refine M_ap hS ?_; clear hS; intro g cap w hS) | refine M_pn ?_ | ((first | refine M_im hS ?_ | refine M_ii hS ?_ | refine M_dl hS ?_); clear hS; intro w hS)) | refine X_k (by (try simp only [Fm.toList, List.set_cons_succ, List.set_cons_zero]); exact rfl) ?_ | refine S_u ?_ | refine S_v ?_ | refine C_sq ?_ | refine C_rg ?_ | refine L_nil ?_ | refine C_bk ?_ | refine C_ct ?_ | refine C_cf ?_ | refine C_sk ?_ | refine C_ex ?_ | refine C_rt ?_ | refine X_e ?_ | refine X_r ?_ | refine X_bh ?_ | refine X_be ?_ | refine X_br ?_ | refine X_bn ?_ | refine X_p ?_ | refine X_bp ?_)
    refine C_qt hS ?_; (repeat (first | (refine Q_w ?_; first | (refine Q_d ?_) | (refine Q_y ?_)) | refine Q_u ?_)); refine Q_n ?_; clear hS; intro w hS
    repeat (first | (refine S_w ?_; first | (refine S_d hS ?_) | (refine S_y hS ?_) | ((first | refine M_bA hS ?_ | refine M_b1 hS ?_ | refine M_aA hS ?_ | refine M_a1 hS ?_ | refine M_sl hS ?_ | refine M_s1 hS ?_ | refine M_mm hS ?_); clear hS; intro b w hS) | ((first | refine M_st hS ?_ | refine M_sA hS ?_ | refine M_in hS ?_ | refine M_sR hS ?_); clear hS; intro w hS; (try simp only [List.set_cons_zero, List.set_cons_succ, Nat.zero_add] at hS)) | (refine M_ap hS ?_; clear hS; intro g cap w hS) | refine M_pn ?_ | ((first | refine M_im hS ?_ | refine M_ii hS ?_ | refine M_dl hS ?_); clear hS; intro w hS)) | refine X_k (by (try simp only [Fm.toList, List.set_cons_succ, List.set_cons_zero]); exact rfl) ?_ | refine S_u ?_ | refine S_v ?_ | refine C_sq ?_ | refine C_rg ?_ | refine L_nil ?_ | refine C_bk ?_ | refine C_ct ?_ | refine C_cf ?_ | refine C_sk ?_ | refine C_ex ?_ | refine C_rt ?_ | refine X_e ?_ | refine X_r ?_ | refine X_bh ?_ | refine X_be ?_ | refine X_br ?_ | refine X_bn ?_ | refine X_p ?_ | refine X_bp ?_)
    refine ⟨W_ret3 rfl (Rv.tmp rfl) (Rv.tmp rfl) (Rv.tmp rfl) ⟨.inr ⟨i, a, t, ha, ht, rfl⟩, hS⟩⟩
end
end Go.Proofs.Ytijmggoikieelaa
