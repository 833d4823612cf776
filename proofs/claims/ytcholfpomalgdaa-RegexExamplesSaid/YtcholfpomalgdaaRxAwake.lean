/-
  sentinellaw04.awake returns true: the chapter's examples.
-/
import Derived.Test.YtcholfpomalgdaaRxRev2
import Derived.Test.YtcholfpomalgdaaRxPrs
import Derived.Test.YtcholfpomalgdaaRxKit
namespace Go.Proofs.Ytcholfpomalgdaa
open Go.RowKit

theorem prsG_text {t : T} (h : t.wf 6) : prsG t.text = .ok t [] := by
  have := pExpr_text t h (2 * t.text.length + 1) [] (by omega)
  rwa [List.append_nil] at this
theorem prs_text {v : Int} {t : T} (hv : 0 ≤ v ∧ v ≤ 6) (h1 : t.wf v) (h2 : t.free true = true) (h3 : t.size ≤ 64) : prsE t.text v = 0 ∧ prsL t.text v = t.flat 0 := by
  have hl := T.text_len t
  have hg := prsG_text (wf_up t h1)
  have hc : chkR (t.flat 0) v = 0 := chkR_zero.2 ⟨hv, t, h1, h2, h3, rfl⟩
  have hE : prsE t.text v = 0 := by rw [prsE, if_neg (by omega), if_neg (by omega), hg]; exact hc
  exact ⟨hE, by rw [prsL, if_pos hE, hg]⟩
theorem parseT (t : T) (s : List UInt8) (hs : t.text = s) (v : Int) (W : World) (hv : 0 ≤ v ∧ v ≤ 6) (h1 : t.wf v) (h2 : t.free true = true) (h3 : t.size ≤ 64) : CallsR Try.prog 26 #[.string ⟨s.toArray⟩, .int .i64 v] W fun r w' =>
    ∃ A c, r = .tuple #[.slice A t.size c, .int .i64 0] ∧ w'.ownsRow W.heap.size 34 5 (.slice A t.size c) t.size (rxCells (t.flat 0)) ∧ Fr Nof W w' := by
  obtain ⟨e1, e2⟩ := prs_text hv h1 h2 h3
  have hl := T.text_len t
  subst hs
  refine (prsR _ v W (by omega)).mono ?_
  rintro r w' ⟨A, c, rfl, hown, hf⟩
  rw [e1]
  rw [e2, T.flat_len] at hown ⊢
  exact ⟨A, c, rfl, hown, hf⟩
theorem parseE (s : List UInt8) (v e : Int) (W : World) (hs : s.length ≤ 4611686018427387904) (h : prsE s v = e) (he : e ≠ 0) : CallsR Try.prog 26 #[.string ⟨s.toArray⟩, .int .i64 v] W fun r w' => (∃ A c, r = .tuple #[.slice A 0 c, .int .i64 e]) ∧ Fr Nof W w' := by
  refine (prsR s v W hs).mono ?_
  rintro r w' ⟨A, c, rfl, _, hf⟩
  rw [h, prsL_bad (by rw [h]; exact he)]
  exact ⟨⟨A, c, rfl⟩, hf⟩
def aw1 : T := .bin 4 (.bin 4 (.un 8 (.letter 0 0)) (.letter 1 0)) (.letter 0 0)
def aw2 : T := .bin 4 (.letter 1 0) (.un 9 (.letter 0 0))
theorem aw1_ok : aw1.wf 1 ∧ aw1.free true = true ∧ aw1.size ≤ 64 := ⟨⟨rfl, ⟨rfl, ⟨rfl, (by decide : chk 0 0 1 = 0)⟩, (by decide : chk 1 0 1 = 0)⟩, (by decide : chk 0 0 1 = 0)⟩, by decide, by decide⟩
theorem aw2_ok : aw2.wf 1 ∧ aw2.free true = true ∧ aw2.size ≤ 64 := ⟨⟨rfl, (by decide : chk 1 0 1 = 0), ⟨rfl, (by decide : chk 0 0 1 = 0)⟩⟩, by decide, by decide⟩
theorem aw1_text : aw1.text = [40, 40, 40, 91, 42, 93, 42, 41, 46, 91, 97, 93, 41, 46, 91, 42, 93, 41] := by decide
theorem aw2_text : aw2.text = [40, 91, 97, 93, 46, 40, 62, 91, 42, 93, 41, 41] := by decide
theorem aw2_rev : aw2.rev.text = [40, 40, 60, 91, 42, 93, 41, 46, 91, 97, 93, 41] := by decide
theorem ae1 : prsE [40, 48, 46, 49] 0 = 3 := by decide
theorem ae2 : prsE [40, 48, 43, 49, 41] 0 = 2 := by decide
theorem ae3 : prsE [48, 49] 0 = 5 := by decide
theorem ae4 : prsE [40, 40, 62, 48, 41, 42, 41] 0 = 2 := by decide
theorem ae5 : prsE [91, 98, 93] 1 = 7 := by decide
theorem formatT (t : T) (s : List UInt8) (hs : t.text = s) (v : Int) (A : Option Addr) (n c : Nat) (W : World) (hv : 0 ≤ v ∧ v ≤ 6) (h1 : t.wf v) (h2 : t.free true = true) (h3 : t.size ≤ 64) (hn : t.size = n) (hA : Rd W 5 A n (rxCells (t.flat 0))) : CallsR Try.prog 11 #[.slice A n c, .int .i64 v] W fun r w' =>
    r = .tuple #[.string ⟨s.toArray⟩, .int .i64 0] ∧ Fr Nof W w' := by
  have hc : chkR (t.flat 0) v = 0 := chkR_zero.2 ⟨hv, t, h1, h2, h3, rfl⟩
  have hf : fmtR (t.flat 0) v = s := by rw [fmtR, fmtR_tree hv h1 h2 h3]; exact hs
  refine (formatR A n c (t.flat 0) v W hA (flat_ok t 0 (wf_up t h1) (by omega)) (by omega)).mono ?_
  rintro r w' ⟨rfl, hfr⟩
  exact ⟨by rw [hc, hf], hfr⟩
theorem reverseT (t : T) (v : Int) (A : Option Addr) (n c : Nat) (W : World) (hv : 0 ≤ v ∧ v ≤ 6) (h1 : t.wf v) (h2 : t.free true = true) (h3 : t.size ≤ 64) (hn : t.size = n) (hA : Rd W 5 A n (rxCells (t.flat 0))) : CallsR Try.prog 21 #[.slice A n c, .int .i64 v] W fun r w' =>
    ∃ A' c', r = .tuple #[.slice A' n c', .int .i64 0] ∧ w'.ownsRow W.heap.size 34 5 (.slice A' n c') n (rxCells (t.rev.flat 0)) ∧ Fr Nof W w' := by
  have hc : chkR (t.flat 0) v = 0 := chkR_zero.2 ⟨hv, t, h1, h2, h3, rfl⟩
  have hR := revL_tree hv h1 h2 h3
  have hl : (t.rev.flat 0).length = n := by rw [T.flat_len, rev_size, hn]
  refine (reverseR A n c (t.flat 0) v W hA (flat_ok t 0 (wf_up t h1) (by omega)) (by omega)).mono ?_
  rintro r w' ⟨A', c', rfl, hown, hf⟩
  rw [hc]
  rw [hR, hl] at hown ⊢
  exact ⟨A', c', rfl, hown, hf⟩
theorem equalRxT (A B : Option Addr) (n c d : Nat) (L : List Pc) (W : World) (hA : Rd W 5 A n (rxCells L)) (hB : Rd W 5 B n (rxCells L)) (hn : n ≤ 4294967296) :
    CallsR Try.prog 14 #[.slice A n c, .slice B n d] W fun r w' => r = .bool true ∧ Fr Nof W w' :=
  (equalRxR A B n n c d L L W hA hB hn hn).mono fun _ _ h => ⟨by rw [h.1, decide_eq_true rfl], h.2⟩
set_option maxHeartbeats 8000000 in
set_option maxRecDepth 100000 in
theorem awakeR (W : World) : CallsR Try.prog 10 #[] W fun r w' => r = .bool true ∧ Fr Nof W w' := by
  have hS := St.start Nof W
  obtain ⟨p1, p2, p3⟩ := aw1_ok
  obtain ⟨q1, q2, q3⟩ := aw2_ok
  have s1 : aw1.size = 6 := rfl
  have s2 : aw2.size = 4 := rfl
  refine E_r (m := 123) ?_ Try.func10 rfl Try.ntmps10 rfl; refine C_ft ?_
  repeat (first | (refine S_w ?_; first | (refine M_c (parseT aw1 [40, 40, 40, 91, 42, 93, 42, 41, 46, 91, 97, 93, 41, 46, 91, 42, 93, 41] aw1_text 1 _ (by omega) p1 p2 p3) ?_) | (refine S_y hS ?_) | ((first | refine M_bA hS ?_ | refine M_b1 hS ?_ | refine M_aA hS ?_ | refine M_a1 hS ?_ | refine M_sl hS ?_ | refine M_s1 hS ?_ | refine M_mm hS ?_); clear hS; intro b w hS) | ((first | refine M_st hS ?_ | refine M_sA hS ?_ | refine M_in hS ?_ | refine M_sR hS ?_); clear hS; intro w hS; (try simp only [List.set_cons_zero, List.set_cons_succ, Nat.zero_add] at hS)) | (refine M_ap hS ?_; clear hS; intro g cap w hS) | refine M_pn ?_) | refine X_k (by (try simp only [Fm.toList, List.set_cons_succ, List.set_cons_zero]); exact rfl) ?_ | refine S_u ?_ | refine S_v ?_ | refine C_sq ?_ | refine C_rg ?_ | refine L_nil ?_ | refine C_bk ?_ | refine C_ct ?_ | refine C_cf ?_ | refine C_sk ?_ | refine C_ex ?_ | refine C_rt ?_ | refine X_e ?_ | refine X_r ?_ | refine X_bh ?_ | refine X_be ?_ | refine X_br ?_ | refine X_bn ?_ | refine X_p ?_ | refine X_bp ?_)
  rintro _ w1 ⟨A1, c1, rfl, hown1, hb1⟩
  have hS := hS.freshRow hb1.below hown1
  repeat (first | (refine S_w ?_; first | (refine M_c (formatT aw1 _ aw1_text 1 A1 aw1.size c1 _ (by omega) p1 p2 p3 rfl hS.rowAtM) ?_) | (refine S_y hS ?_) | ((first | refine M_bA hS ?_ | refine M_b1 hS ?_ | refine M_aA hS ?_ | refine M_a1 hS ?_ | refine M_sl hS ?_ | refine M_s1 hS ?_ | refine M_mm hS ?_); clear hS; intro b w hS) | ((first | refine M_st hS ?_ | refine M_sA hS ?_ | refine M_in hS ?_ | refine M_sR hS ?_); clear hS; intro w hS; (try simp only [List.set_cons_zero, List.set_cons_succ, Nat.zero_add] at hS)) | (refine M_ap hS ?_; clear hS; intro g cap w hS) | refine M_pn ?_) | refine X_k (by (try simp only [Fm.toList, List.set_cons_succ, List.set_cons_zero]); exact rfl) ?_ | refine S_u ?_ | refine S_v ?_ | refine C_sq ?_ | refine C_rg ?_ | refine L_nil ?_ | refine C_bk ?_ | refine C_ct ?_ | refine C_cf ?_ | refine C_sk ?_ | refine C_ex ?_ | refine C_rt ?_ | refine X_e ?_ | refine X_r ?_ | refine X_bh ?_ | refine X_be ?_ | refine X_br ?_ | refine X_bn ?_ | refine X_p ?_ | refine X_bp ?_)
  rintro _ w2 ⟨rfl, hb2⟩
  have hS := hS.call hb2
  repeat (first | (refine S_w ?_; first | (refine M_c (parseE [40, 48, 46, 49] 0 3 _ (by simp) ae1 (by decide)) ?_) | (refine S_y hS ?_) | ((first | refine M_bA hS ?_ | refine M_b1 hS ?_ | refine M_aA hS ?_ | refine M_a1 hS ?_ | refine M_sl hS ?_ | refine M_s1 hS ?_ | refine M_mm hS ?_); clear hS; intro b w hS) | ((first | refine M_st hS ?_ | refine M_sA hS ?_ | refine M_in hS ?_ | refine M_sR hS ?_); clear hS; intro w hS; (try simp only [List.set_cons_zero, List.set_cons_succ, Nat.zero_add] at hS)) | (refine M_ap hS ?_; clear hS; intro g cap w hS) | refine M_pn ?_) | refine X_k (by (try simp only [Fm.toList, List.set_cons_succ, List.set_cons_zero]); exact rfl) ?_ | refine S_u ?_ | refine S_v ?_ | refine C_sq ?_ | refine C_rg ?_ | refine L_nil ?_ | refine C_bk ?_ | refine C_ct ?_ | refine C_cf ?_ | refine C_sk ?_ | refine C_ex ?_ | refine C_rt ?_ | refine X_e ?_ | refine X_r ?_ | refine X_bh ?_ | refine X_be ?_ | refine X_br ?_ | refine X_bn ?_ | refine X_p ?_ | refine X_bp ?_)
  rintro _ w3 ⟨⟨A3, c3, rfl⟩, hb3⟩
  have hS := hS.call hb3
  repeat (first | (refine S_w ?_; first | (refine M_c (parseE [40, 48, 43, 49, 41] 0 2 _ (by simp) ae2 (by decide)) ?_) | (refine S_y hS ?_) | ((first | refine M_bA hS ?_ | refine M_b1 hS ?_ | refine M_aA hS ?_ | refine M_a1 hS ?_ | refine M_sl hS ?_ | refine M_s1 hS ?_ | refine M_mm hS ?_); clear hS; intro b w hS) | ((first | refine M_st hS ?_ | refine M_sA hS ?_ | refine M_in hS ?_ | refine M_sR hS ?_); clear hS; intro w hS; (try simp only [List.set_cons_zero, List.set_cons_succ, Nat.zero_add] at hS)) | (refine M_ap hS ?_; clear hS; intro g cap w hS) | refine M_pn ?_) | refine X_k (by (try simp only [Fm.toList, List.set_cons_succ, List.set_cons_zero]); exact rfl) ?_ | refine S_u ?_ | refine S_v ?_ | refine C_sq ?_ | refine C_rg ?_ | refine L_nil ?_ | refine C_bk ?_ | refine C_ct ?_ | refine C_cf ?_ | refine C_sk ?_ | refine C_ex ?_ | refine C_rt ?_ | refine X_e ?_ | refine X_r ?_ | refine X_bh ?_ | refine X_be ?_ | refine X_br ?_ | refine X_bn ?_ | refine X_p ?_ | refine X_bp ?_)
  rintro _ w4 ⟨⟨A4, c4, rfl⟩, hb4⟩
  have hS := hS.call hb4
  repeat (first | (refine S_w ?_; first | (refine M_c (parseE [48, 49] 0 5 _ (by simp) ae3 (by decide)) ?_) | (refine S_y hS ?_) | ((first | refine M_bA hS ?_ | refine M_b1 hS ?_ | refine M_aA hS ?_ | refine M_a1 hS ?_ | refine M_sl hS ?_ | refine M_s1 hS ?_ | refine M_mm hS ?_); clear hS; intro b w hS) | ((first | refine M_st hS ?_ | refine M_sA hS ?_ | refine M_in hS ?_ | refine M_sR hS ?_); clear hS; intro w hS; (try simp only [List.set_cons_zero, List.set_cons_succ, Nat.zero_add] at hS)) | (refine M_ap hS ?_; clear hS; intro g cap w hS) | refine M_pn ?_) | refine X_k (by (try simp only [Fm.toList, List.set_cons_succ, List.set_cons_zero]); exact rfl) ?_ | refine S_u ?_ | refine S_v ?_ | refine C_sq ?_ | refine C_rg ?_ | refine L_nil ?_ | refine C_bk ?_ | refine C_ct ?_ | refine C_cf ?_ | refine C_sk ?_ | refine C_ex ?_ | refine C_rt ?_ | refine X_e ?_ | refine X_r ?_ | refine X_bh ?_ | refine X_be ?_ | refine X_br ?_ | refine X_bn ?_ | refine X_p ?_ | refine X_bp ?_)
  rintro _ w5 ⟨⟨A5, c5, rfl⟩, hb5⟩
  have hS := hS.call hb5
  repeat (first | (refine S_w ?_; first | (refine M_c (parseE [40, 40, 62, 48, 41, 42, 41] 0 2 _ (by simp) ae4 (by decide)) ?_) | (refine S_y hS ?_) | ((first | refine M_bA hS ?_ | refine M_b1 hS ?_ | refine M_aA hS ?_ | refine M_a1 hS ?_ | refine M_sl hS ?_ | refine M_s1 hS ?_ | refine M_mm hS ?_); clear hS; intro b w hS) | ((first | refine M_st hS ?_ | refine M_sA hS ?_ | refine M_in hS ?_ | refine M_sR hS ?_); clear hS; intro w hS; (try simp only [List.set_cons_zero, List.set_cons_succ, Nat.zero_add] at hS)) | (refine M_ap hS ?_; clear hS; intro g cap w hS) | refine M_pn ?_) | refine X_k (by (try simp only [Fm.toList, List.set_cons_succ, List.set_cons_zero]); exact rfl) ?_ | refine S_u ?_ | refine S_v ?_ | refine C_sq ?_ | refine C_rg ?_ | refine L_nil ?_ | refine C_bk ?_ | refine C_ct ?_ | refine C_cf ?_ | refine C_sk ?_ | refine C_ex ?_ | refine C_rt ?_ | refine X_e ?_ | refine X_r ?_ | refine X_bh ?_ | refine X_be ?_ | refine X_br ?_ | refine X_bn ?_ | refine X_p ?_ | refine X_bp ?_)
  rintro _ w6 ⟨⟨A6, c6, rfl⟩, hb6⟩
  have hS := hS.call hb6
  repeat (first | (refine S_w ?_; first | (refine M_c (parseE [91, 98, 93] 1 7 _ (by simp) ae5 (by decide)) ?_) | (refine S_y hS ?_) | ((first | refine M_bA hS ?_ | refine M_b1 hS ?_ | refine M_aA hS ?_ | refine M_a1 hS ?_ | refine M_sl hS ?_ | refine M_s1 hS ?_ | refine M_mm hS ?_); clear hS; intro b w hS) | ((first | refine M_st hS ?_ | refine M_sA hS ?_ | refine M_in hS ?_ | refine M_sR hS ?_); clear hS; intro w hS; (try simp only [List.set_cons_zero, List.set_cons_succ, Nat.zero_add] at hS)) | (refine M_ap hS ?_; clear hS; intro g cap w hS) | refine M_pn ?_) | refine X_k (by (try simp only [Fm.toList, List.set_cons_succ, List.set_cons_zero]); exact rfl) ?_ | refine S_u ?_ | refine S_v ?_ | refine C_sq ?_ | refine C_rg ?_ | refine L_nil ?_ | refine C_bk ?_ | refine C_ct ?_ | refine C_cf ?_ | refine C_sk ?_ | refine C_ex ?_ | refine C_rt ?_ | refine X_e ?_ | refine X_r ?_ | refine X_bh ?_ | refine X_be ?_ | refine X_br ?_ | refine X_bn ?_ | refine X_p ?_ | refine X_bp ?_)
  rintro _ w7 ⟨⟨A7, c7, rfl⟩, hb7⟩
  have hS := hS.call hb7
  repeat (first | (refine S_w ?_; first | (refine M_c (parseT aw2 [40, 91, 97, 93, 46, 40, 62, 91, 42, 93, 41, 41] aw2_text 1 _ (by omega) q1 q2 q3) ?_) | (refine S_y hS ?_) | ((first | refine M_bA hS ?_ | refine M_b1 hS ?_ | refine M_aA hS ?_ | refine M_a1 hS ?_ | refine M_sl hS ?_ | refine M_s1 hS ?_ | refine M_mm hS ?_); clear hS; intro b w hS) | ((first | refine M_st hS ?_ | refine M_sA hS ?_ | refine M_in hS ?_ | refine M_sR hS ?_); clear hS; intro w hS; (try simp only [List.set_cons_zero, List.set_cons_succ, Nat.zero_add] at hS)) | (refine M_ap hS ?_; clear hS; intro g cap w hS) | refine M_pn ?_) | refine X_k (by (try simp only [Fm.toList, List.set_cons_succ, List.set_cons_zero]); exact rfl) ?_ | refine S_u ?_ | refine S_v ?_ | refine C_sq ?_ | refine C_rg ?_ | refine L_nil ?_ | refine C_bk ?_ | refine C_ct ?_ | refine C_cf ?_ | refine C_sk ?_ | refine C_ex ?_ | refine C_rt ?_ | refine X_e ?_ | refine X_r ?_ | refine X_bh ?_ | refine X_be ?_ | refine X_br ?_ | refine X_bn ?_ | refine X_p ?_ | refine X_bp ?_)
  rintro _ w8 ⟨A8, c8, rfl, hown8, hb8⟩
  have hS := hS.freshRow hb8.below hown8
  repeat (first | (refine S_w ?_; first | (refine M_c (reverseT aw2 1 A8 aw2.size c8 _ (by omega) q1 q2 q3 rfl hS.rowAtM) ?_) | (refine S_y hS ?_) | ((first | refine M_bA hS ?_ | refine M_b1 hS ?_ | refine M_aA hS ?_ | refine M_a1 hS ?_ | refine M_sl hS ?_ | refine M_s1 hS ?_ | refine M_mm hS ?_); clear hS; intro b w hS) | ((first | refine M_st hS ?_ | refine M_sA hS ?_ | refine M_in hS ?_ | refine M_sR hS ?_); clear hS; intro w hS; (try simp only [List.set_cons_zero, List.set_cons_succ, Nat.zero_add] at hS)) | (refine M_ap hS ?_; clear hS; intro g cap w hS) | refine M_pn ?_) | refine X_k (by (try simp only [Fm.toList, List.set_cons_succ, List.set_cons_zero]); exact rfl) ?_ | refine S_u ?_ | refine S_v ?_ | refine C_sq ?_ | refine C_rg ?_ | refine L_nil ?_ | refine C_bk ?_ | refine C_ct ?_ | refine C_cf ?_ | refine C_sk ?_ | refine C_ex ?_ | refine C_rt ?_ | refine X_e ?_ | refine X_r ?_ | refine X_bh ?_ | refine X_be ?_ | refine X_br ?_ | refine X_bn ?_ | refine X_p ?_ | refine X_bp ?_)
  rintro _ w9 ⟨A9, c9, rfl, hown9, hb9⟩
  have hS := hS.freshRow hb9.below hown9
  repeat (first | (refine S_w ?_; first | (refine M_c (formatT aw2.rev _ aw2_rev 1 A9 aw2.size c9 _ (by omega) (rev_wf aw2 q1) (by rw [rev_free]; exact q2) (by rw [rev_size]; exact q3) (rev_size aw2) hS.rowAtM) ?_) | (refine S_y hS ?_) | ((first | refine M_bA hS ?_ | refine M_b1 hS ?_ | refine M_aA hS ?_ | refine M_a1 hS ?_ | refine M_sl hS ?_ | refine M_s1 hS ?_ | refine M_mm hS ?_); clear hS; intro b w hS) | ((first | refine M_st hS ?_ | refine M_sA hS ?_ | refine M_in hS ?_ | refine M_sR hS ?_); clear hS; intro w hS; (try simp only [List.set_cons_zero, List.set_cons_succ, Nat.zero_add] at hS)) | (refine M_ap hS ?_; clear hS; intro g cap w hS) | refine M_pn ?_) | refine X_k (by (try simp only [Fm.toList, List.set_cons_succ, List.set_cons_zero]); exact rfl) ?_ | refine S_u ?_ | refine S_v ?_ | refine C_sq ?_ | refine C_rg ?_ | refine L_nil ?_ | refine C_bk ?_ | refine C_ct ?_ | refine C_cf ?_ | refine C_sk ?_ | refine C_ex ?_ | refine C_rt ?_ | refine X_e ?_ | refine X_r ?_ | refine X_bh ?_ | refine X_be ?_ | refine X_br ?_ | refine X_bn ?_ | refine X_p ?_ | refine X_bp ?_)
  rintro _ w10 ⟨rfl, hb10⟩
  have hS := hS.call hb10
  repeat (first | (refine S_w ?_; first | (refine M_sN 5 hS ?_; clear hS; intro b w hS) | (refine M_c (equalRxT A1 (some ⟨b, 0, none⟩) 6 c1 6 (aw1.flat 0) _ hS.rowAtM (objRd hS) (by omega)) ?_) | (refine S_y hS ?_) | ((first | refine M_bA hS ?_ | refine M_b1 hS ?_ | refine M_aA hS ?_ | refine M_a1 hS ?_ | refine M_sl hS ?_ | refine M_s1 hS ?_ | refine M_mm hS ?_); clear hS; intro b w hS) | ((first | refine M_st hS ?_ | refine M_sA hS ?_ | refine M_in hS ?_ | refine M_sR hS ?_); clear hS; intro w hS; (try simp only [List.set_cons_zero, List.set_cons_succ, Nat.zero_add] at hS)) | (refine M_ap hS ?_; clear hS; intro g cap w hS) | refine M_pn ?_) | refine X_k (by (try simp only [Fm.toList, List.set_cons_succ, List.set_cons_zero]); exact rfl) ?_ | refine S_u ?_ | refine S_v ?_ | refine C_sq ?_ | refine C_rg ?_ | refine L_nil ?_ | refine C_bk ?_ | refine C_ct ?_ | refine C_cf ?_ | refine C_sk ?_ | refine C_ex ?_ | refine C_rt ?_ | refine X_e ?_ | refine X_r ?_ | refine X_bh ?_ | refine X_be ?_ | refine X_br ?_ | refine X_bn ?_ | refine X_p ?_ | refine X_bp ?_)
  rintro _ w11 ⟨rfl, hb11⟩
  have hS := hS.call hb11
  repeat (first | (refine S_w ?_; first | (refine S_y hS ?_) | ((first | refine M_bA hS ?_ | refine M_b1 hS ?_ | refine M_aA hS ?_ | refine M_a1 hS ?_ | refine M_sl hS ?_ | refine M_s1 hS ?_ | refine M_mm hS ?_); clear hS; intro b w hS) | ((first | refine M_st hS ?_ | refine M_sA hS ?_ | refine M_in hS ?_ | refine M_sR hS ?_); clear hS; intro w hS; (try simp only [List.set_cons_zero, List.set_cons_succ, Nat.zero_add] at hS)) | (refine M_ap hS ?_; clear hS; intro g cap w hS) | refine M_pn ?_) | refine X_k (by (try simp only [Fm.toList, List.set_cons_succ, List.set_cons_zero]); exact rfl) ?_ | refine S_u ?_ | refine S_v ?_ | refine C_sq ?_ | refine C_rg ?_ | refine L_nil ?_ | refine C_bk ?_ | refine C_ct ?_ | refine C_cf ?_ | refine C_sk ?_ | refine C_ex ?_ | refine C_rt ?_ | refine X_e ?_ | refine X_r ?_ | refine X_bh ?_ | refine X_be ?_ | refine X_br ?_ | refine X_bn ?_ | refine X_p ?_ | refine X_bp ?_)
  refine V_1 ⟨rfl, hS.fr⟩
end Go.Proofs.Ytcholfpomalgdaa
