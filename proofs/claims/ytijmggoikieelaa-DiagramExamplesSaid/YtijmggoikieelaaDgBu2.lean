/-
  diagram's build, the closure that calls itself.
-/
import Derived.Test.YtijmggoikieelaaDgBld
namespace Go.Proofs.Ytijmggoikieelaa
open Go.RowKit

theorem add_len (N : List Dg.Nd) (n : Dg.Nd) : (Dg.add N n).2.length ≤ N.length + 1 := by
  unfold Dg.add
  split
  · simp
  · simp
theorem add_ext2 (N : List Dg.Nd) (n : Dg.Nd) : ∃ M, (Dg.add N n).2 = N ++ M := by
  rcases Dg.add_ext N n with h | ⟨h, _⟩
  · exact ⟨[], by rw [h, List.append_nil]⟩
  · exact ⟨[n], h⟩
theorem bld_ext (f : Nat → Int) : ∀ (d k x : Nat) (N : List Dg.Nd), ∃ M, (Dg.bld f d k x N).2 = N ++ M
  | 0, k, x, N => by rw [Dg.bld]; exact add_ext2 N _
  | d + 1, k, x, N => by
    obtain ⟨M1, h1⟩ := bld_ext f d (k + 1) x N
    obtain ⟨M2, h2⟩ := bld_ext f d (k + 1) (x + 2 ^ k) (Dg.bld f d (k + 1) x N).2
    rw [Dg.bld]
    split
    · exact ⟨M1 ++ M2, by rw [h2, h1, List.append_assoc]⟩
    · obtain ⟨M3, h3⟩ := add_ext2 (Dg.bld f d (k + 1) (x + 2 ^ k) (Dg.bld f d (k + 1) x N).2).2 (.test k (Dg.bld f d (k + 1) x N).1 (Dg.bld f d (k + 1) (x + 2 ^ k) (Dg.bld f d (k + 1) x N).2).1)
      exact ⟨M1 ++ (M2 ++ M3), by rw [h3, h2, h1]; simp [List.append_assoc]⟩
theorem bld_len (f : Nat → Int) : ∀ (d k x : Nat) (N : List Dg.Nd), (Dg.bld f d k x N).2.length + 1 ≤ N.length + 2 ^ (d + 1)
  | 0, k, x, N => by
    rw [Dg.bld]
    have := add_len N (.leaf (f x))
    simp; omega
  | d + 1, k, x, N => by
    have h1 := bld_len f d (k + 1) x N
    have h2 := bld_len f d (k + 1) (x + 2 ^ k) (Dg.bld f d (k + 1) x N).2
    rw [Nat.pow_succ] at h1 h2 ⊢
    rw [Nat.pow_succ]
    rw [Dg.bld]
    split
    · simp only; omega
    · have h3 := add_len (Dg.bld f d (k + 1) (x + 2 ^ k) (Dg.bld f d (k + 1) x N).2).2 (.test k (Dg.bld f d (k + 1) x N).1 (Dg.bld f d (k + 1) (x + 2 ^ k) (Dg.bld f d (k + 1) x N).2).1)
      omega
theorem or_two {x k : Nat} (h : x < 2 ^ k) : x ||| two k = x + 2 ^ k := by
  have := Nat.two_pow_add_eq_or_of_lt h 1
  rw [Nat.mul_one] at this
  unfold two
  rw [Nat.or_comm, ← this, Nat.add_comm]
/-- the three boxes of build: its own, the value's, the store's -/
abbrev bxR (b7 b3 b2 sb : Nat) (g : FuncId) (cs : List Value) (rs : List Res) : List Res :=
  Res.obj b7 (.cells [.func (.func 65) #[] #[.pointer (some ⟨b2, 0, none⟩), .pointer (some ⟨b3, 0, none⟩), .pointer (some ⟨b7, 0, none⟩)]].toArray 109 (0, 0)) ::
  Res.obj b3 (.cells #[.func (.func g) #[] cs.toArray] 75 (0, 0)) :: Res.obj b2 (.cells #[.pointer (some ⟨sb, 0, none⟩)] 36 (0, 0)) :: rs
section
variable {F : Nat → Prop} {w0 w : World} {rs : List Res} {sb m cp bi bk c : Nat} {A : Option Addr} {N0 : List Dg.Nd} {kn : List Nat} {g : FuncId} {cs : List Value} {b7 b3 b2 : Nat}
set_option maxHeartbeats 4000000 in
set_option maxRecDepth 100000 in
theorem dbuildR (f : Nat → Int) (hm : m ≤ 6) (heb : enterB Try.prog g = true)
    (hcall : ∀ M A c x w, Dg.Ok m (N0 ++ M) → x < 2 ^ m → St F w0 (stR sb m cp (N0 ++ M) kn bi bk A c (bxR b7 b3 b2 sb g cs rs)) w → CallsR Try.prog g (Value.int .i64 (x : Nat) :: cs).toArray w fun r w' => r = .int .i64 (f x) ∧ St F w0 (stR sb m cp (N0 ++ M) kn bi bk A c (bxR b7 b3 b2 sb g cs rs)) w') :
    ∀ (d k x : Nat) (M : List Dg.Nd) (A : Option Addr) (c : Nat) (w : World), Dg.Ok m (N0 ++ M) → k + d = m → x < 2 ^ k → (N0 ++ M).length + 2 ^ (d + 1) ≤ 1000000 → St F w0 (stR sb m cp (N0 ++ M) kn bi bk A c (bxR b7 b3 b2 sb g cs rs)) w →
      CallsR Try.prog 65 #[.int .i64 (k : Nat), .int .i64 (x : Nat), .pointer (some ⟨b2, 0, none⟩), .pointer (some ⟨b3, 0, none⟩), .pointer (some ⟨b7, 0, none⟩)] w fun r w' =>
        ∃ A' c', r = .int .i64 ((Dg.bld f d k x (N0 ++ M)).1 : Nat) ∧ St F w0 (stR sb m cp (Dg.bld f d k x (N0 ++ M)).2 kn bi bk A' c' (bxR b7 b3 b2 sb g cs rs)) w'
  | 0, k, x, M, A, c, w, hok, hk, hx, hlen, hS => by
    obtain rfl : k = m := by omega
    have hc1 := fun A c w h => hcall M A c x w hok hx h
    rw [Dg.bld]
    refine E_r (m := 40) ?_ Try.func65 rfl Try.ntmps65 rfl; refine C_ft ?_
    repeat (first | (refine S_w ?_; first | (refine S_d hS ?_) | (refine S_y hS ?_) | ((first | refine M_bA hS ?_ | refine M_b1 hS ?_ | refine M_aA hS ?_ | refine M_a1 hS ?_ | refine M_sl hS ?_ | refine M_s1 hS ?_ | refine M_mm hS ?_); clear hS; intro b w hS) | ((first | refine M_st hS ?_ | refine M_sA hS ?_ | refine M_in hS ?_ | refine M_sR hS ?_); clear hS; intro w hS; (try simp only [List.set_cons_zero, List.set_cons_succ, Nat.zero_add] at hS)) | (refine M_ap hS ?_; clear hS; intro g cap w hS) | refine M_pn ?_ | ((first | refine M_im hS ?_ | refine M_ii hS ?_ | refine M_dl hS ?_); clear hS; intro w hS)) | refine X_k (by (try simp only [Fm.toList, List.set_cons_succ, List.set_cons_zero]); exact rfl) ?_ | refine S_u ?_ | refine S_v ?_ | refine C_sq ?_ | refine C_rg ?_ | refine L_nil ?_ | refine C_bk ?_ | refine C_ct ?_ | refine C_cf ?_ | refine C_sk ?_ | refine C_ex ?_ | refine C_rt ?_ | refine X_e ?_ | refine X_r ?_ | refine X_bh ?_ | refine X_be ?_ | refine X_br ?_ | refine X_bn ?_ | refine X_p ?_ | refine X_bp ?_)
    refine C_ps (fun s : List Dg.Nd × Option Addr × Nat => stR sb k cp s.1 kn bi bk s.2.1 s.2.2 (bxR b7 b3 b2 sb g cs rs)) (N0 ++ M, A, c) (.take 0 (.take 1 (.take 2 (.one 3 (.one 4 (.one 5 (.one 6 .done))))))) hS ?_
    clear hS
    intro w hS
    repeat ((with_reducible apply P_t); rfl; first | (refine P_yd hS ?_) | refine P_zd hS ?_)
    (with_reducible apply P_one); rfl; refine P_f ?_; intro Q' hQ' hE'
    refine S_w ?_
    refine M_c (hb := heb) (hc1 _ _ w hS) ?_
    rintro _ w1 ⟨rfl, hS⟩
    (try refine L_nil ?_); refine hQ' _ _ ⟨(_, _, _), hS⟩ ?_; clear hQ' hE'
    (with_reducible apply P_one); rfl; refine P_f ?_; intro Q' hQ' hE'
    repeat (first | (refine S_w ?_; first | (refine S_d hS ?_) | (refine S_y hS ?_) | ((first | refine M_bA hS ?_ | refine M_b1 hS ?_ | refine M_aA hS ?_ | refine M_a1 hS ?_ | refine M_sl hS ?_ | refine M_s1 hS ?_ | refine M_mm hS ?_); clear hS; intro b w hS) | ((first | refine M_st hS ?_ | refine M_sA hS ?_ | refine M_in hS ?_ | refine M_sR hS ?_); clear hS; intro w hS; (try simp only [List.set_cons_zero, List.set_cons_succ, Nat.zero_add] at hS)) | (refine M_ap hS ?_; clear hS; intro g cap w hS) | refine M_pn ?_ | ((first | refine M_im hS ?_ | refine M_ii hS ?_ | refine M_dl hS ?_); clear hS; intro w hS)) | refine X_k (by (try simp only [Fm.toList, List.set_cons_succ, List.set_cons_zero]); exact rfl) ?_ | refine S_u ?_ | refine S_v ?_ | refine C_sq ?_ | refine C_rg ?_ | refine L_nil ?_ | refine C_bk ?_ | refine C_ct ?_ | refine C_cf ?_ | refine C_sk ?_ | refine C_ex ?_ | refine C_rt ?_ | refine X_e ?_ | refine X_r ?_ | refine X_bh ?_ | refine X_be ?_ | refine X_br ?_ | refine X_bn ?_ | refine X_p ?_ | refine X_bp ?_)
    (try refine L_nil ?_); refine hQ' _ _ ⟨(_, _, _), hS⟩ ?_; clear hQ' hE'
    (with_reducible apply P_one); rfl; refine P_f ?_; intro Q' hQ' hE'
    refine S_w ?_
    refine M_c (daddR (.leaf (f x)) hS (by omega)) ?_
    rintro _ w2 ⟨A', c', rfl, hS⟩
    (try refine L_nil ?_); refine hQ' _ _ ⟨(_, _, _), hS⟩ ?_; clear hQ' hE'
    (with_reducible apply P_one); rfl; refine P_f ?_; intro Q' hQ' hE'
    repeat (first | (refine S_w ?_; first | (refine S_d hS ?_) | (refine S_y hS ?_) | ((first | refine M_bA hS ?_ | refine M_b1 hS ?_ | refine M_aA hS ?_ | refine M_a1 hS ?_ | refine M_sl hS ?_ | refine M_s1 hS ?_ | refine M_mm hS ?_); clear hS; intro b w hS) | ((first | refine M_st hS ?_ | refine M_sA hS ?_ | refine M_in hS ?_ | refine M_sR hS ?_); clear hS; intro w hS; (try simp only [List.set_cons_zero, List.set_cons_succ, Nat.zero_add] at hS)) | (refine M_ap hS ?_; clear hS; intro g cap w hS) | refine M_pn ?_ | ((first | refine M_im hS ?_ | refine M_ii hS ?_ | refine M_dl hS ?_); clear hS; intro w hS)) | refine X_k (by (try simp only [Fm.toList, List.set_cons_succ, List.set_cons_zero]); exact rfl) ?_ | refine S_u ?_ | refine S_v ?_ | refine C_sq ?_ | refine C_rg ?_ | refine L_nil ?_ | refine C_bk ?_ | refine C_ct ?_ | refine C_cf ?_ | refine C_sk ?_ | refine C_ex ?_ | refine C_rt ?_ | refine X_e ?_ | refine X_r ?_ | refine X_bh ?_ | refine X_be ?_ | refine X_br ?_ | refine X_bn ?_ | refine X_p ?_ | refine X_bp ?_)
    (try refine L_nil ?_); refine hQ' _ _ ⟨(_, _, _), hS⟩ ?_; clear hQ' hE'
    refine P_d ?_
    repeat (first | (refine S_w ?_; first | (refine S_d hS ?_) | (refine S_y hS ?_) | ((first | refine M_bA hS ?_ | refine M_b1 hS ?_ | refine M_aA hS ?_ | refine M_a1 hS ?_ | refine M_sl hS ?_ | refine M_s1 hS ?_ | refine M_mm hS ?_); clear hS; intro b w hS) | ((first | refine M_st hS ?_ | refine M_sA hS ?_ | refine M_in hS ?_ | refine M_sR hS ?_); clear hS; intro w hS; (try simp only [List.set_cons_zero, List.set_cons_succ, Nat.zero_add] at hS)) | (refine M_ap hS ?_; clear hS; intro g cap w hS) | refine M_pn ?_ | ((first | refine M_im hS ?_ | refine M_ii hS ?_ | refine M_dl hS ?_); clear hS; intro w hS)) | refine X_k (by (try simp only [Fm.toList, List.set_cons_succ, List.set_cons_zero]); exact rfl) ?_ | refine S_u ?_ | refine S_v ?_ | refine C_sq ?_ | refine C_rg ?_ | refine L_nil ?_ | refine C_bk ?_ | refine C_ct ?_ | refine C_cf ?_ | refine C_sk ?_ | refine C_ex ?_ | refine C_rt ?_ | refine X_e ?_ | refine X_r ?_ | refine X_bh ?_ | refine X_be ?_ | refine X_br ?_ | refine X_bn ?_ | refine X_p ?_ | refine X_bp ?_)
    refine V_1 ⟨A', c', rfl, hS⟩
  | d + 1, k, x, M, A, c, w, hok, hk, hx, hlen, hS => by
    have ih := dbuildR f hm heb hcall d
    have h2k : 2 ^ k ≤ 64 := two_le6 (k := k) (by omega)
    have h64 : two k ≤ 64 := two_le6 (by omega)
    have hor : ((x ||| two k : Nat) : Int) = ((x + 2 ^ k : Nat) : Int) := by rw [or_two hx]
    have hk1 : (k : Int) + 1 = ((k + 1 : Nat) : Int) := by omega
    have hx1 : x < 2 ^ (k + 1) := by rw [Nat.pow_succ]; omega
    have hx2 : x + 2 ^ k < 2 ^ (k + 1) := by rw [Nat.pow_succ]; omega
    have hp : 2 ^ (d + 1 + 1) = 2 ^ (d + 1) + 2 ^ (d + 1) := by rw [show (2 : Nat) ^ (d + 1 + 1) = 2 ^ (d + 1) * 2 from rfl]; omega
    have hpos := Nat.two_pow_pos (d + 1)
    have hl1 := bld_len f d (k + 1) x (N0 ++ M)
    have hl2 := bld_len f d (k + 1) (x + 2 ^ k) (Dg.bld f d (k + 1) x (N0 ++ M)).2
    obtain ⟨M1, hM1⟩ := bld_ext f d (k + 1) x (N0 ++ M)
    rw [List.append_assoc] at hM1
    have hok1 : Dg.Ok m (N0 ++ (M ++ M1)) := by rw [← hM1]; exact (Dg.bld_ok f d (k + 1) x (N0 ++ M) (by omega) hx1 hok).ok
    rw [Dg.bld]
    have c1 := fun w h => ih (k + 1) x M A c w hok (by omega) hx1 (by omega) h
    have c2 : ∀ A c w, St F w0 (stR sb m cp (Dg.bld f d (k + 1) x (N0 ++ M)).2 kn bi bk A c (bxR b7 b3 b2 sb g cs rs)) w → _ := fun A c w h => ih (k + 1) (x + 2 ^ k) (M ++ M1) A c w hok1 (by omega) hx2 (by rw [← hM1]; omega) (by rw [← hM1]; exact h)
    rw [← hM1] at c2
    generalize hg1 : Dg.bld f d (k + 1) x (N0 ++ M) = p1 at c1 c2 hl1 hl2 ⊢
    generalize hg2 : Dg.bld f d (k + 1) (x + 2 ^ k) p1.2 = p2 at c2 hl2 ⊢
    obtain ⟨lo, N1⟩ := p1
    obtain ⟨hi, N2⟩ := p2
    simp only at c1 c2 hl1 hl2 ⊢
    refine E_r (m := 40) ?_ Try.func65 rfl Try.ntmps65 rfl; refine C_ft ?_
    repeat (first | (refine S_w ?_; first | (refine S_d hS ?_) | (refine S_y hS ?_) | ((first | refine M_bA hS ?_ | refine M_b1 hS ?_ | refine M_aA hS ?_ | refine M_a1 hS ?_ | refine M_sl hS ?_ | refine M_s1 hS ?_ | refine M_mm hS ?_); clear hS; intro b w hS) | ((first | refine M_st hS ?_ | refine M_sA hS ?_ | refine M_in hS ?_ | refine M_sR hS ?_); clear hS; intro w hS; (try simp only [List.set_cons_zero, List.set_cons_succ, Nat.zero_add] at hS)) | (refine M_ap hS ?_; clear hS; intro g cap w hS) | refine M_pn ?_ | ((first | refine M_im hS ?_ | refine M_ii hS ?_ | refine M_dl hS ?_); clear hS; intro w hS)) | refine X_k (by (try simp only [Fm.toList, List.set_cons_succ, List.set_cons_zero]); exact rfl) ?_ | refine S_u ?_ | refine S_v ?_ | refine C_sq ?_ | refine C_rg ?_ | refine L_nil ?_ | refine C_bk ?_ | refine C_ct ?_ | refine C_cf ?_ | refine C_sk ?_ | refine C_ex ?_ | refine C_rt ?_ | refine X_e ?_ | refine X_r ?_ | refine X_bh ?_ | refine X_be ?_ | refine X_br ?_ | refine X_bn ?_ | refine X_p ?_ | refine X_bp ?_)
    refine C_ps (fun s : List Dg.Nd × Option Addr × Nat => stR sb m cp s.1 kn bi bk s.2.1 s.2.2 (bxR b7 b3 b2 sb g cs rs)) (N0 ++ M, A, c) (.take 0 (.take 1 (.take 2 (.take 3 (.take 5 (.take 6 (.take 7 (.take 8 (.take 9 (.take 10 (.take 11 (.one 4 (.one 12 (.one 13 (.one 14 .done))))))))))))))) hS ?_
    clear hS
    intro w hS
    repeat ((with_reducible apply P_t); rfl; first | (refine P_yd hS ?_) | refine P_zd hS ?_)
    (with_reducible apply P_one); rfl; refine P_f ?_; intro Q' hQ' hE'
    refine S_w ?_
    refine M_c (c1 w hS) ?_
    rintro _ w1 ⟨A1, c1', rfl, hS⟩
    (try refine L_nil ?_); refine hQ' _ _ ⟨(_, _, _), hS⟩ ?_; clear hQ' hE'
    (with_reducible apply P_one); rfl; refine P_f ?_; intro Q' hQ' hE'
    refine S_w ?_
    refine M_c (c2 _ _ _ hS) ?_
    rintro _ w2 ⟨A2, c2', rfl, hS⟩
    (try refine L_nil ?_); refine hQ' _ _ ⟨(_, _, _), hS⟩ ?_; clear hQ' hE'
    (with_reducible apply P_one); rfl; refine P_f ?_; intro Q' hQ' hE'
    repeat (first | (refine S_w ?_; first | (refine S_d hS ?_) | (refine S_y hS ?_) | ((first | refine M_bA hS ?_ | refine M_b1 hS ?_ | refine M_aA hS ?_ | refine M_a1 hS ?_ | refine M_sl hS ?_ | refine M_s1 hS ?_ | refine M_mm hS ?_); clear hS; intro b w hS) | ((first | refine M_st hS ?_ | refine M_sA hS ?_ | refine M_in hS ?_ | refine M_sR hS ?_); clear hS; intro w hS; (try simp only [List.set_cons_zero, List.set_cons_succ, Nat.zero_add] at hS)) | (refine M_ap hS ?_; clear hS; intro g cap w hS) | refine M_pn ?_ | ((first | refine M_im hS ?_ | refine M_ii hS ?_ | refine M_dl hS ?_); clear hS; intro w hS)) | refine X_k (by (try simp only [Fm.toList, List.set_cons_succ, List.set_cons_zero]); exact rfl) ?_ | refine S_u ?_ | refine S_v ?_ | refine C_sq ?_ | refine C_rg ?_ | refine L_nil ?_ | refine C_bk ?_ | refine C_ct ?_ | refine C_cf ?_ | refine C_sk ?_ | refine C_ex ?_ | refine C_rt ?_ | refine X_e ?_ | refine X_r ?_ | refine X_bh ?_ | refine X_be ?_ | refine X_br ?_ | refine X_bn ?_ | refine X_p ?_ | refine X_bp ?_)
    (try refine L_nil ?_); refine hQ' _ _ ⟨(_, _, _), hS⟩ ?_; clear hQ' hE'
    (with_reducible apply P_one); rfl; refine P_f ?_; intro Q' hQ' hE'
    repeat (first | (refine S_w ?_; first | (refine S_d hS ?_) | (refine S_y hS ?_) | ((first | refine M_bA hS ?_ | refine M_b1 hS ?_ | refine M_aA hS ?_ | refine M_a1 hS ?_ | refine M_sl hS ?_ | refine M_s1 hS ?_ | refine M_mm hS ?_); clear hS; intro b w hS) | ((first | refine M_st hS ?_ | refine M_sA hS ?_ | refine M_in hS ?_ | refine M_sR hS ?_); clear hS; intro w hS; (try simp only [List.set_cons_zero, List.set_cons_succ, Nat.zero_add] at hS)) | (refine M_ap hS ?_; clear hS; intro g cap w hS) | refine M_pn ?_ | ((first | refine M_im hS ?_ | refine M_ii hS ?_ | refine M_dl hS ?_); clear hS; intro w hS)) | refine X_k (by (try simp only [Fm.toList, List.set_cons_succ, List.set_cons_zero]); exact rfl) ?_ | refine S_u ?_ | refine S_v ?_ | refine C_sq ?_ | refine C_rg ?_ | refine L_nil ?_ | refine C_bk ?_ | refine C_ct ?_ | refine C_cf ?_ | refine C_sk ?_ | refine C_ex ?_ | refine C_rt ?_ | refine X_e ?_ | refine X_r ?_ | refine X_bh ?_ | refine X_be ?_ | refine X_br ?_ | refine X_bn ?_ | refine X_p ?_ | refine X_bp ?_)
    (try refine L_nil ?_); refine hQ' _ _ ⟨(_, _, _), hS⟩ ?_; clear hQ' hE'
    refine P_d ?_
    by_cases he : lo = hi
    · rw [if_pos he]
      repeat (first | (refine S_w ?_; first | (refine S_d hS ?_) | (refine S_y hS ?_) | ((first | refine M_bA hS ?_ | refine M_b1 hS ?_ | refine M_aA hS ?_ | refine M_a1 hS ?_ | refine M_sl hS ?_ | refine M_s1 hS ?_ | refine M_mm hS ?_); clear hS; intro b w hS) | ((first | refine M_st hS ?_ | refine M_sA hS ?_ | refine M_in hS ?_ | refine M_sR hS ?_); clear hS; intro w hS; (try simp only [List.set_cons_zero, List.set_cons_succ, Nat.zero_add] at hS)) | (refine M_ap hS ?_; clear hS; intro g cap w hS) | refine M_pn ?_ | ((first | refine M_im hS ?_ | refine M_ii hS ?_ | refine M_dl hS ?_); clear hS; intro w hS)) | refine X_k (by (try simp only [Fm.toList, List.set_cons_succ, List.set_cons_zero]); exact rfl) ?_ | refine S_u ?_ | refine S_v ?_ | refine C_sq ?_ | refine C_rg ?_ | refine L_nil ?_ | refine C_bk ?_ | refine C_ct ?_ | refine C_cf ?_ | refine C_sk ?_ | refine C_ex ?_ | refine C_rt ?_ | refine X_e ?_ | refine X_r ?_ | refine X_bh ?_ | refine X_be ?_ | refine X_br ?_ | refine X_bn ?_ | refine X_p ?_ | refine X_bp ?_)
      refine V_1 ⟨A2, c2', rfl, hS⟩
    · rw [if_neg he]
      repeat (first | (refine S_w ?_; first | (refine M_c (daddR (.test k lo hi) hS (by omega)) ?_) | (refine S_d hS ?_) | (refine S_y hS ?_) | ((first | refine M_bA hS ?_ | refine M_b1 hS ?_ | refine M_aA hS ?_ | refine M_a1 hS ?_ | refine M_sl hS ?_ | refine M_s1 hS ?_ | refine M_mm hS ?_); clear hS; intro b w hS) | ((first | refine M_st hS ?_ | refine M_sA hS ?_ | refine M_in hS ?_ | refine M_sR hS ?_); clear hS; intro w hS; (try simp only [List.set_cons_zero, List.set_cons_succ, Nat.zero_add] at hS)) | (refine M_ap hS ?_; clear hS; intro g cap w hS) | refine M_pn ?_ | ((first | refine M_im hS ?_ | refine M_ii hS ?_ | refine M_dl hS ?_); clear hS; intro w hS)) | refine X_k (by (try simp only [Fm.toList, List.set_cons_succ, List.set_cons_zero]); exact rfl) ?_ | refine S_u ?_ | refine S_v ?_ | refine C_sq ?_ | refine C_rg ?_ | refine L_nil ?_ | refine C_bk ?_ | refine C_ct ?_ | refine C_cf ?_ | refine C_sk ?_ | refine C_ex ?_ | refine C_rt ?_ | refine X_e ?_ | refine X_r ?_ | refine X_bh ?_ | refine X_be ?_ | refine X_br ?_ | refine X_bn ?_ | refine X_p ?_ | refine X_bp ?_)
      rintro _ w3 ⟨A3, c3, rfl, hS⟩
      repeat (first | (refine S_w ?_; first | (refine S_d hS ?_) | (refine S_y hS ?_) | ((first | refine M_bA hS ?_ | refine M_b1 hS ?_ | refine M_aA hS ?_ | refine M_a1 hS ?_ | refine M_sl hS ?_ | refine M_s1 hS ?_ | refine M_mm hS ?_); clear hS; intro b w hS) | ((first | refine M_st hS ?_ | refine M_sA hS ?_ | refine M_in hS ?_ | refine M_sR hS ?_); clear hS; intro w hS; (try simp only [List.set_cons_zero, List.set_cons_succ, Nat.zero_add] at hS)) | (refine M_ap hS ?_; clear hS; intro g cap w hS) | refine M_pn ?_ | ((first | refine M_im hS ?_ | refine M_ii hS ?_ | refine M_dl hS ?_); clear hS; intro w hS)) | refine X_k (by (try simp only [Fm.toList, List.set_cons_succ, List.set_cons_zero]); exact rfl) ?_ | refine S_u ?_ | refine S_v ?_ | refine C_sq ?_ | refine C_rg ?_ | refine L_nil ?_ | refine C_bk ?_ | refine C_ct ?_ | refine C_cf ?_ | refine C_sk ?_ | refine C_ex ?_ | refine C_rt ?_ | refine X_e ?_ | refine X_r ?_ | refine X_bh ?_ | refine X_be ?_ | refine X_br ?_ | refine X_bn ?_ | refine X_p ?_ | refine X_bp ?_)
      refine V_1 ⟨A3, c3, rfl, hS⟩
end
end Go.Proofs.Ytijmggoikieelaa
