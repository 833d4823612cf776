/-
  MatchReverses: the reversed expression matches the reversed word from n - j to n - i exactly if the expression matches the word from i to j. No conditions.
-/
import Derived.Test.YtebdkmfgfjanoaaMtLaw1
import Derived.Test.YtebdkmfgfjanoaaMtLawR
import Derived.Test.YtebdkmfgfjanoaaRxRev2
namespace Go.Proofs.Ytebdkmfgfjanoaa
open Go.RowKit

set_option maxHeartbeats 4000000 in
set_option maxRecDepth 100000 in
theorem reversedR (Aw : Option Addr) (m cw : Nat) (ws : List Nat) (W : World) (hW : Rd W 1 Aw m (ws.map vb)) (hm : m ≤ 100000) : CallsR Try.prog 32 #[.slice Aw m cw] W fun r w' =>
    ∃ A c, r = .slice A m c ∧ w'.ownsRow W.heap.size 5 1 (.slice A m c) m (ws.reverse.map vb) ∧ Fr Nof W w' := by
  have hwl : ws.length = m := by have := hW.1; simpa using this
  have hS := ((St.start Nof W).addRo (r := Res.rd 1 Aw m (ws.map vb)) hW rfl (fun _ h => by cases h)).rowNil 5 1
  refine E_r (m := 19) ?_ Try.func32 rfl Try.ntmps32 rfl; refine C_ft ?_
  repeat (first | (refine S_w ?_; first | (refine S_y hS ?_) | ((first | refine M_bA hS ?_ | refine M_b1 hS ?_ | refine M_aA hS ?_ | refine M_a1 hS ?_ | refine M_sl hS ?_ | refine M_s1 hS ?_ | refine M_mm hS ?_); clear hS; intro b w hS) | ((first | refine M_st hS ?_ | refine M_sA hS ?_ | refine M_in hS ?_ | refine M_sR hS ?_); clear hS; intro w hS; (try simp only [List.set_cons_zero, List.set_cons_succ, Nat.zero_add] at hS)) | (refine M_ap hS ?_; clear hS; intro g cap w hS) | refine M_pn ?_) | refine X_k (by (try simp only [Fm.toList, List.set_cons_succ, List.set_cons_zero]); exact rfl) ?_ | refine S_u ?_ | refine S_v ?_ | refine C_sq ?_ | refine C_rg ?_ | refine L_nil ?_ | refine C_bk ?_ | refine C_ct ?_ | refine C_cf ?_ | refine C_sk ?_ | refine C_ex ?_ | refine C_rt ?_ | refine X_e ?_ | refine X_r ?_ | refine X_bh ?_ | refine X_be ?_ | refine X_br ?_ | refine X_bn ?_ | refine X_p ?_ | refine X_bp ?_)
  refine C_lp [3, 2, 3, 11, 1] (fun s : Nat × Int × Option Addr × Nat => [(3, .slice s.2.2.1 s.1 s.2.2.2), (4, .int .i64 s.2.1)]) (fun s w' => s.1 ≤ m ∧ s.2.1 = (m : Int) - 1 - s.1 ∧ St Nof W [Res.row 5 1 (.slice s.2.2.1 s.1 s.2.2.2) s.1 ((ws.reverse.take s.1).map vb), Res.rd 1 Aw m (ws.map vb)] w') (fun s => m - s.1) (0, (m : Int) - 1, none, 0) ⟨Nat.zero_le _, by simp, hS⟩ ?_
  clear hS
  rintro ⟨k, z, A, c⟩ y w ⟨hk, hz, hS⟩
  simp only at hk hz hS
  refine C_fs ?_
  by_cases hlt : k < m
  · obtain ⟨x, hx⟩ : ∃ x, ws[m - 1 - k]? = some x := ⟨ws[m - 1 - k]'(by omega), List.getElem?_eq_getElem _⟩
    have hx2 : (ws.map vb)[z.toNat]? = some (vb x) := by rw [show z.toNat = m - 1 - k by omega, List.getElem?_map, hx]; rfl
    have hxr : ws.reverse[k]? = some x := by rw [List.getElem?_reverse (by omega), hwl]; exact hx
    have hz0 : 0 ≤ z ∧ z < m := by omega
    repeat (first | (refine S_w ?_; first | (refine S_y hS ?_) | ((first | refine M_bA hS ?_ | refine M_b1 hS ?_ | refine M_aA hS ?_ | refine M_a1 hS ?_ | refine M_sl hS ?_ | refine M_s1 hS ?_ | refine M_mm hS ?_); clear hS; intro b w hS) | ((first | refine M_st hS ?_ | refine M_sA hS ?_ | refine M_in hS ?_ | refine M_sR hS ?_); clear hS; intro w hS; (try simp only [List.set_cons_zero, List.set_cons_succ, Nat.zero_add] at hS)) | (refine M_ap hS ?_; clear hS; intro g cap w hS) | refine M_pn ?_) | refine X_k (by (try simp only [Fm.toList, List.set_cons_succ, List.set_cons_zero]); exact rfl) ?_ | refine S_u ?_ | refine S_v ?_ | refine C_sq ?_ | refine C_rg ?_ | refine L_nil ?_ | refine C_bk ?_ | refine C_ct ?_ | refine C_cf ?_ | refine C_sk ?_ | refine C_ex ?_ | refine C_rt ?_ | refine X_e ?_ | refine X_r ?_ | refine X_bh ?_ | refine X_be ?_ | refine X_br ?_ | refine X_bn ?_ | refine X_p ?_ | refine X_bp ?_)
    refine R_e (k + 1, z - 1, _, _) ⟨by simp only; omega, by simp only; omega, ?_⟩ (by simp only; omega)
    have e : (ws.reverse.take (k + 1)).map vb = (ws.reverse.take k).map vb ++ [vb x] := by rw [List.take_add_one, hxr, List.map_append]; rfl
    simp only [e]
    exact hS.sb
  · obtain rfl : k = m := by omega
    rw [List.take_of_length_le (by simp; omega)] at hS
    repeat (first | (refine S_w ?_; first | (refine S_y hS ?_) | ((first | refine M_bA hS ?_ | refine M_b1 hS ?_ | refine M_aA hS ?_ | refine M_a1 hS ?_ | refine M_sl hS ?_ | refine M_s1 hS ?_ | refine M_mm hS ?_); clear hS; intro b w hS) | ((first | refine M_st hS ?_ | refine M_sA hS ?_ | refine M_in hS ?_ | refine M_sR hS ?_); clear hS; intro w hS; (try simp only [List.set_cons_zero, List.set_cons_succ, Nat.zero_add] at hS)) | (refine M_ap hS ?_; clear hS; intro g cap w hS) | refine M_pn ?_) | refine X_k (by (try simp only [Fm.toList, List.set_cons_succ, List.set_cons_zero]); exact rfl) ?_ | refine S_u ?_ | refine S_v ?_ | refine C_sq ?_ | refine C_rg ?_ | refine L_nil ?_ | refine C_bk ?_ | refine C_ct ?_ | refine C_cf ?_ | refine C_sk ?_ | refine C_ex ?_ | refine C_rt ?_ | refine X_e ?_ | refine X_r ?_ | refine X_bh ?_ | refine X_be ?_ | refine X_br ?_ | refine X_bn ?_ | refine X_p ?_ | refine X_bp ?_)
    refine V_1 ⟨A, c, rfl, hS.rowOwnM, hS.fr⟩
theorem chk_nil (v : Int) : chkR [] v ≠ 0 := by
  unfold chkR
  split
  · decide
  · rw [if_pos (show ([] : List Pc).length = 0 from rfl)]; decide
theorem tab_ok {L : List Pc} {v : Int} {ws : List Nat} (he : chkR L v = 0) (hE : tabE L v ws = 0) : ws.any (geB (two v.toNat)) = false ∧ ws.length ≤ 64 := by
  rw [tabE, if_neg (by simpa using he)] at hE
  split at hE
  · cases hE
  · split at hE
    · cases hE
    · rename_i h6 h7
      exact ⟨by simpa using h7, by omega⟩
set_option maxHeartbeats 16000000 in
set_option maxRecDepth 100000 in
theorem matchReverses_walk (A : Option Addr) (n c : Nat) (L : List Pc) (v : Int) (Aw : Option Addr) (m cw : Nat) (ws : List Nat) (W : World) (hA : Rd W 5 A n (rxCells L)) (hL : ∀ p ∈ L, p.ok) (hn : n ≤ 9223372036854775807) (hc : n ≤ c) (_hlo : -9223372036854775808 ≤ v) (_hhi : v ≤ 9223372036854775807) (hW : Rd W 1 Aw m (ws.map vb)) (hws : ∀ x ∈ ws, x < 256) (hm : m ≤ 9223372036854775807) (hcw : m ≤ cw) :
    Calls Try.prog 9 #[.slice A n c, .int .i64 v, .slice Aw m cw] W fun e w' => e = .returned (.bool true) ∧ Below W.heap.size W w' := by
  refine law_go ?_
  have hl : L.length = n := by have := hA.1; rw [rxCells_len] at this; omega
  have hwl : ws.length = m := by have := hW.1; simpa using this
  have hS := addRo2 hA hW
  refine E_r (m := 137) ?_ Try.func9 rfl Try.ntmps9 rfl; refine C_ft ?_
  repeat (first | (refine S_w ?_; first | (refine M_c (longR A Aw n c m cw _ hn hm) ?_) | (refine S_y hS ?_) | ((first | refine M_bA hS ?_ | refine M_b1 hS ?_ | refine M_aA hS ?_ | refine M_a1 hS ?_ | refine M_sl hS ?_ | refine M_s1 hS ?_ | refine M_mm hS ?_); clear hS; intro b w hS) | ((first | refine M_st hS ?_ | refine M_sA hS ?_ | refine M_in hS ?_ | refine M_sR hS ?_); clear hS; intro w hS; (try simp only [List.set_cons_zero, List.set_cons_succ, Nat.zero_add] at hS)) | (refine M_ap hS ?_; clear hS; intro g cap w hS) | refine M_pn ?_) | refine X_k (by (try simp only [Fm.toList, List.set_cons_succ, List.set_cons_zero]); exact rfl) ?_ | refine S_u ?_ | refine S_v ?_ | refine C_sq ?_ | refine C_rg ?_ | refine L_nil ?_ | refine C_bk ?_ | refine C_ct ?_ | refine C_cf ?_ | refine C_sk ?_ | refine C_ex ?_ | refine C_rt ?_ | refine X_e ?_ | refine X_r ?_ | refine X_bh ?_ | refine X_be ?_ | refine X_br ?_ | refine X_bn ?_ | refine X_p ?_ | refine X_bp ?_)
  rintro _ w0 ⟨rfl, hb0⟩
  have hS := hS.call hb0
  cases hlg : lngB n m with
  | true =>
    repeat (first | (refine S_w ?_; first | (refine M_c (awakeR _) ?_) | (refine S_y hS ?_) | ((first | refine M_bA hS ?_ | refine M_b1 hS ?_ | refine M_aA hS ?_ | refine M_a1 hS ?_ | refine M_sl hS ?_ | refine M_s1 hS ?_ | refine M_mm hS ?_); clear hS; intro b w hS) | ((first | refine M_st hS ?_ | refine M_sA hS ?_ | refine M_in hS ?_ | refine M_sR hS ?_); clear hS; intro w hS; (try simp only [List.set_cons_zero, List.set_cons_succ, Nat.zero_add] at hS)) | (refine M_ap hS ?_; clear hS; intro g cap w hS) | refine M_pn ?_) | refine X_k (by (try simp only [Fm.toList, List.set_cons_succ, List.set_cons_zero]); exact rfl) ?_ | refine S_u ?_ | refine S_v ?_ | refine C_sq ?_ | refine C_rg ?_ | refine L_nil ?_ | refine C_bk ?_ | refine C_ct ?_ | refine C_cf ?_ | refine C_sk ?_ | refine C_ex ?_ | refine C_rt ?_ | refine X_e ?_ | refine X_r ?_ | refine X_bh ?_ | refine X_be ?_ | refine X_br ?_ | refine X_bn ?_ | refine X_p ?_ | refine X_bp ?_)
    rintro _ w1 ⟨rfl, hb1⟩
    have hS := hS.call hb1
    repeat (first | (refine S_w ?_; first | (refine S_y hS ?_) | ((first | refine M_bA hS ?_ | refine M_b1 hS ?_ | refine M_aA hS ?_ | refine M_a1 hS ?_ | refine M_sl hS ?_ | refine M_s1 hS ?_ | refine M_mm hS ?_); clear hS; intro b w hS) | ((first | refine M_st hS ?_ | refine M_sA hS ?_ | refine M_in hS ?_ | refine M_sR hS ?_); clear hS; intro w hS; (try simp only [List.set_cons_zero, List.set_cons_succ, Nat.zero_add] at hS)) | (refine M_ap hS ?_; clear hS; intro g cap w hS) | refine M_pn ?_) | refine X_k (by (try simp only [Fm.toList, List.set_cons_succ, List.set_cons_zero]); exact rfl) ?_ | refine S_u ?_ | refine S_v ?_ | refine C_sq ?_ | refine C_rg ?_ | refine L_nil ?_ | refine C_bk ?_ | refine C_ct ?_ | refine C_cf ?_ | refine C_sk ?_ | refine C_ex ?_ | refine C_rt ?_ | refine X_e ?_ | refine X_r ?_ | refine X_bh ?_ | refine X_be ?_ | refine X_br ?_ | refine X_bn ?_ | refine X_p ?_ | refine X_bp ?_)
    refine V_1 ⟨rfl, hS.fr⟩
  | false =>
    obtain ⟨hn40, hm16⟩ := lng_false hlg
    repeat (first | (refine S_w ?_; first | (refine M_c (awakeR _) ?_) | (refine S_y hS ?_) | ((first | refine M_bA hS ?_ | refine M_b1 hS ?_ | refine M_aA hS ?_ | refine M_a1 hS ?_ | refine M_sl hS ?_ | refine M_s1 hS ?_ | refine M_mm hS ?_); clear hS; intro b w hS) | ((first | refine M_st hS ?_ | refine M_sA hS ?_ | refine M_in hS ?_ | refine M_sR hS ?_); clear hS; intro w hS; (try simp only [List.set_cons_zero, List.set_cons_succ, Nat.zero_add] at hS)) | (refine M_ap hS ?_; clear hS; intro g cap w hS) | refine M_pn ?_) | refine X_k (by (try simp only [Fm.toList, List.set_cons_succ, List.set_cons_zero]); exact rfl) ?_ | refine S_u ?_ | refine S_v ?_ | refine C_sq ?_ | refine C_rg ?_ | refine L_nil ?_ | refine C_bk ?_ | refine C_ct ?_ | refine C_cf ?_ | refine C_sk ?_ | refine C_ex ?_ | refine C_rt ?_ | refine X_e ?_ | refine X_r ?_ | refine X_bh ?_ | refine X_be ?_ | refine X_br ?_ | refine X_bn ?_ | refine X_p ?_ | refine X_bp ?_)
    rintro _ w1 ⟨rfl, hb1⟩
    have hS := hS.call hb1
    have hrv : ∀ x ∈ ws.reverse, x < 256 := fun x hx => hws x (List.mem_reverse.1 hx)
    repeat (first | (refine S_w ?_; first | (refine M_c (reverseR A n c L v _ hS.rdAtM hL (by omega)) ?_) | (refine S_y hS ?_) | ((first | refine M_bA hS ?_ | refine M_b1 hS ?_ | refine M_aA hS ?_ | refine M_a1 hS ?_ | refine M_sl hS ?_ | refine M_s1 hS ?_ | refine M_mm hS ?_); clear hS; intro b w hS) | ((first | refine M_st hS ?_ | refine M_sA hS ?_ | refine M_in hS ?_ | refine M_sR hS ?_); clear hS; intro w hS; (try simp only [List.set_cons_zero, List.set_cons_succ, Nat.zero_add] at hS)) | (refine M_ap hS ?_; clear hS; intro g cap w hS) | refine M_pn ?_) | refine X_k (by (try simp only [Fm.toList, List.set_cons_succ, List.set_cons_zero]); exact rfl) ?_ | refine S_u ?_ | refine S_v ?_ | refine C_sq ?_ | refine C_rg ?_ | refine L_nil ?_ | refine C_bk ?_ | refine C_ct ?_ | refine C_cf ?_ | refine C_sk ?_ | refine C_ex ?_ | refine C_rt ?_ | refine X_e ?_ | refine X_r ?_ | refine X_bh ?_ | refine X_be ?_ | refine X_br ?_ | refine X_bn ?_ | refine X_p ?_ | refine X_bp ?_)
    rintro _ w2 ⟨A2, c2, rfl, hown2, hb2⟩
    have hS := hS.freshRow hb2.below hown2
    by_cases he : chkR L v = 0
    · obtain ⟨t, hst, h1, h2, h3, rfl, hv⟩ := chk_tree he
      have hr1 := rev_wf t h1
      have hr2 : t.rev.free true = true := by rw [rev_free]; exact h2
      have hr3 := rev_size t
      have her : chkR (t.rev.flat 0) v = 0 := chkR_zero.2 ⟨hv, _, hr1, hr2, by omega, rfl⟩
      have hok := flat_ok t.rev 0 (wf_up _ hr1) (by omega)
      have hRL := revL_tree hv h1 h2 h3
      rw [hRL, T.flat_len] at hS
      rw [he, hRL, T.flat_len]
      have hTE : tabE (t.rev.flat 0) v ws.reverse = tabE (t.flat 0) v ws := by rw [tabE, tabE, he, her, List.length_reverse, List.any_reverse]
      by_cases hE : tabE (t.flat 0) v ws = 0
      · obtain ⟨hany, hm64⟩ := tab_ok he hE
        rw [hwl] at hm64
        repeat (first | (refine S_w ?_; first | (refine M_c (tableT t v ws A Aw n c m cw _ hS.sl hS.sl hv h1 h2 h3 hm64 (any_ok hany)) ?_) | (refine S_y hS ?_) | ((first | refine M_bA hS ?_ | refine M_b1 hS ?_ | refine M_aA hS ?_ | refine M_a1 hS ?_ | refine M_sl hS ?_ | refine M_s1 hS ?_ | refine M_mm hS ?_); clear hS; intro b w hS) | ((first | refine M_st hS ?_ | refine M_sA hS ?_ | refine M_in hS ?_ | refine M_sR hS ?_); clear hS; intro w hS; (try simp only [List.set_cons_zero, List.set_cons_succ, Nat.zero_add] at hS)) | (refine M_ap hS ?_; clear hS; intro g cap w hS) | refine M_pn ?_) | refine X_k (by (try simp only [Fm.toList, List.set_cons_succ, List.set_cons_zero]); exact rfl) ?_ | refine S_u ?_ | refine S_v ?_ | refine C_sq ?_ | refine C_rg ?_ | refine L_nil ?_ | refine C_bk ?_ | refine C_ct ?_ | refine C_cf ?_ | refine C_sk ?_ | refine C_ex ?_ | refine C_rt ?_ | refine X_e ?_ | refine X_r ?_ | refine X_bh ?_ | refine X_be ?_ | refine X_br ?_ | refine X_bn ?_ | refine X_p ?_ | refine X_bp ?_)
        rintro _ w3 ⟨b, bs, rfl, hbs, hE3⟩
        have hS := hS.join hE3 tabR_own
        repeat (first | (refine S_w ?_; first | (refine M_c (reversedR Aw m cw ws _ hS.sl (by omega)) ?_) | (refine S_y hS ?_) | ((first | refine M_bA hS ?_ | refine M_b1 hS ?_ | refine M_aA hS ?_ | refine M_a1 hS ?_ | refine M_sl hS ?_ | refine M_s1 hS ?_ | refine M_mm hS ?_); clear hS; intro b w hS) | ((first | refine M_st hS ?_ | refine M_sA hS ?_ | refine M_in hS ?_ | refine M_sR hS ?_); clear hS; intro w hS; (try simp only [List.set_cons_zero, List.set_cons_succ, Nat.zero_add] at hS)) | (refine M_ap hS ?_; clear hS; intro g cap w hS) | refine M_pn ?_) | refine X_k (by (try simp only [Fm.toList, List.set_cons_succ, List.set_cons_zero]); exact rfl) ?_ | refine S_u ?_ | refine S_v ?_ | refine C_sq ?_ | refine C_rg ?_ | refine L_nil ?_ | refine C_bk ?_ | refine C_ct ?_ | refine C_cf ?_ | refine C_sk ?_ | refine C_ex ?_ | refine C_rt ?_ | refine X_e ?_ | refine X_r ?_ | refine X_bh ?_ | refine X_be ?_ | refine X_br ?_ | refine X_bn ?_ | refine X_p ?_ | refine X_bp ?_)
        rintro _ w4 ⟨A4, c4, rfl, hown4, hb4⟩
        have hS := hS.freshRow hb4.below hown4
        repeat (first | (refine S_w ?_; first | (refine M_c (tableT t.rev v ws.reverse A2 A4 t.rev.size c2 m c4 _ hS.sl hS.rowAtM hv hr1 hr2 (by omega) hm64 (any_ok (by rw [List.any_reverse]; exact hany))) ?_) | (refine S_y hS ?_) | ((first | refine M_bA hS ?_ | refine M_b1 hS ?_ | refine M_aA hS ?_ | refine M_a1 hS ?_ | refine M_sl hS ?_ | refine M_s1 hS ?_ | refine M_mm hS ?_); clear hS; intro b w hS) | ((first | refine M_st hS ?_ | refine M_sA hS ?_ | refine M_in hS ?_ | refine M_sR hS ?_); clear hS; intro w hS; (try simp only [List.set_cons_zero, List.set_cons_succ, Nat.zero_add] at hS)) | (refine M_ap hS ?_; clear hS; intro g cap w hS) | refine M_pn ?_) | refine X_k (by (try simp only [Fm.toList, List.set_cons_succ, List.set_cons_zero]); exact rfl) ?_ | refine S_u ?_ | refine S_v ?_ | refine C_sq ?_ | refine C_rg ?_ | refine L_nil ?_ | refine C_bk ?_ | refine C_ct ?_ | refine C_cf ?_ | refine C_sk ?_ | refine C_ex ?_ | refine C_rt ?_ | refine X_e ?_ | refine X_r ?_ | refine X_bh ?_ | refine X_be ?_ | refine X_br ?_ | refine X_bn ?_ | refine X_p ?_ | refine X_bp ?_)
        rintro _ w5 ⟨b2, bs2, rfl, hbs2, hE5⟩
        have hS := hS.join hE5 tabR_own
        repeat (first | (refine S_w ?_; first | (refine S_y hS ?_) | ((first | refine M_bA hS ?_ | refine M_b1 hS ?_ | refine M_aA hS ?_ | refine M_a1 hS ?_ | refine M_sl hS ?_ | refine M_s1 hS ?_ | refine M_mm hS ?_); clear hS; intro b w hS) | ((first | refine M_st hS ?_ | refine M_sA hS ?_ | refine M_in hS ?_ | refine M_sR hS ?_); clear hS; intro w hS; (try simp only [List.set_cons_zero, List.set_cons_succ, Nat.zero_add] at hS)) | (refine M_ap hS ?_; clear hS; intro g cap w hS) | refine M_pn ?_) | refine X_k (by (try simp only [Fm.toList, List.set_cons_succ, List.set_cons_zero]); exact rfl) ?_ | refine S_u ?_ | refine S_v ?_ | refine C_sq ?_ | refine C_rg ?_ | refine L_nil ?_ | refine C_bk ?_ | refine C_ct ?_ | refine C_cf ?_ | refine C_sk ?_ | refine C_ex ?_ | refine C_rt ?_ | refine X_e ?_ | refine X_r ?_ | refine X_bh ?_ | refine X_be ?_ | refine X_br ?_ | refine X_bn ?_ | refine X_p ?_ | refine X_bp ?_)
        refine C_lp [6, 1, 7, 2, 72, 52] (fun i : Nat => [(14, .int .i64 (i : Nat))]) (fun i w' => i ≤ m + 1 ∧ St Nof W (tabR (m + 1) (mt ws.reverse t.rev) b2 bs2 ++ (Res.row 5 1 (.slice A4 m c4) m (ws.reverse.map vb) :: (tabR (m + 1) (mt ws t) b bs ++ [Res.row 55 5 (.slice A2 t.rev.size c2) t.rev.size (rxCells (t.rev.flat 0)), Res.rd 5 A n (rxCells (t.flat 0)), Res.rd 1 Aw m (ws.map vb)]))) w') (fun i => m + 1 - i) 0 ⟨Nat.zero_le _, hS⟩ ?_
        clear hS hE3 hE5
        rintro i y w ⟨hi, hS⟩
        refine C_fs ?_
        by_cases hlt : i ≤ m
        · obtain ⟨bi, hbi⟩ : ∃ y, bs[i]? = some y := ⟨bs[i]'(by omega), List.getElem?_eq_getElem _⟩
          have hrow : ∀ rs, HasSl (tabR (m + 1) (mt ws t) b bs ++ rs) (some ⟨bi, 0, none⟩) (m + 1) 1 (rowC (m + 1) (mt ws t) i) := fun rs => tabRow hbi
          have e1 : (bs.map (rowV (m + 1)))[i]? = some (.slice (some ⟨bi, 0, none⟩) (m + 1) (m + 1)) := by rw [List.getElem?_map, hbi]; rfl
          repeat (first | (refine S_w ?_; first | (refine S_y hS ?_) | ((first | refine M_bA hS ?_ | refine M_b1 hS ?_ | refine M_aA hS ?_ | refine M_a1 hS ?_ | refine M_sl hS ?_ | refine M_s1 hS ?_ | refine M_mm hS ?_); clear hS; intro b w hS) | ((first | refine M_st hS ?_ | refine M_sA hS ?_ | refine M_in hS ?_ | refine M_sR hS ?_); clear hS; intro w hS; (try simp only [List.set_cons_zero, List.set_cons_succ, Nat.zero_add] at hS)) | (refine M_ap hS ?_; clear hS; intro g cap w hS) | refine M_pn ?_) | refine X_k (by (try simp only [Fm.toList, List.set_cons_succ, List.set_cons_zero]); exact rfl) ?_ | refine S_u ?_ | refine S_v ?_ | refine C_sq ?_ | refine C_rg ?_ | refine L_nil ?_ | refine C_bk ?_ | refine C_ct ?_ | refine C_cf ?_ | refine C_sk ?_ | refine C_ex ?_ | refine C_rt ?_ | refine X_e ?_ | refine X_r ?_ | refine X_bh ?_ | refine X_be ?_ | refine X_br ?_ | refine X_bn ?_ | refine X_p ?_ | refine X_bp ?_)
          refine C_lp [6, 1, 8, 1, 78, 46] (fun j : Nat => [(15, .int .i64 (j : Nat))]) (fun j w' => i ≤ j ∧ j ≤ m + 1 ∧ St Nof W (tabR (m + 1) (mt ws.reverse t.rev) b2 bs2 ++ (Res.row 5 1 (.slice A4 m c4) m (ws.reverse.map vb) :: (tabR (m + 1) (mt ws t) b bs ++ [Res.row 55 5 (.slice A2 t.rev.size c2) t.rev.size (rxCells (t.rev.flat 0)), Res.rd 5 A n (rxCells (t.flat 0)), Res.rd 1 Aw m (ws.map vb)]))) w') (fun j => m + 1 - j) i ⟨Nat.le_refl _, by omega, hS⟩ ?_
          clear hS
          rintro j y2 w ⟨hij, hj, hS⟩
          refine C_fs ?_
          by_cases hlt2 : j ≤ m
          · have e2 : (rowC (m + 1) (mt ws t) i)[j]? = some (.bool (mt ws t i j)) := rowC_at (by omega)
            obtain ⟨bj, hbj⟩ : ∃ y, bs2[m - j]? = some y := ⟨bs2[m - j]'(by omega), List.getElem?_eq_getElem _⟩
            have hrow2 : ∀ rs, HasSl (tabR (m + 1) (mt ws.reverse t.rev) b2 bs2 ++ rs) (some ⟨bj, 0, none⟩) (m + 1) 1 (rowC (m + 1) (mt ws.reverse t.rev) (m - j)) := fun rs => tabRow hbj
            have e3 : (bs2.map (rowV (m + 1)))[((m : Int) - (j : Int)).toNat]? = some (.slice (some ⟨bj, 0, none⟩) (m + 1) (m + 1)) := by rw [show ((m : Int) - (j : Int)).toNat = m - j by omega, List.getElem?_map, hbj]; rfl
            have e4 : (rowC (m + 1) (mt ws.reverse t.rev) (m - j))[((m : Int) - (i : Int)).toNat]? = some (.bool (mt ws t i j)) := by rw [show ((m : Int) - (i : Int)).toNat = m - i by omega, rowC_at (by omega), mt_rev hwl t h1 i j hij hlt2]
            repeat (first | (refine S_w ?_; first | (refine S_y hS ?_) | ((first | refine M_bA hS ?_ | refine M_b1 hS ?_ | refine M_aA hS ?_ | refine M_a1 hS ?_ | refine M_sl hS ?_ | refine M_s1 hS ?_ | refine M_mm hS ?_); clear hS; intro b w hS) | ((first | refine M_st hS ?_ | refine M_sA hS ?_ | refine M_in hS ?_ | refine M_sR hS ?_); clear hS; intro w hS; (try simp only [List.set_cons_zero, List.set_cons_succ, Nat.zero_add] at hS)) | (refine M_ap hS ?_; clear hS; intro g cap w hS) | refine M_pn ?_) | refine X_k (by (try simp only [Fm.toList, List.set_cons_succ, List.set_cons_zero]); exact rfl) ?_ | refine S_u ?_ | refine S_v ?_ | refine C_sq ?_ | refine C_rg ?_ | refine L_nil ?_ | refine C_bk ?_ | refine C_ct ?_ | refine C_cf ?_ | refine C_sk ?_ | refine C_ex ?_ | refine C_rt ?_ | refine X_e ?_ | refine X_r ?_ | refine X_bh ?_ | refine X_be ?_ | refine X_br ?_ | refine X_bn ?_ | refine X_p ?_ | refine X_bp ?_)
            refine C_qt hS ?_
            repeat (first | (refine Q_w ?_; first | (refine Q_y ?_)) | refine Q_u ?_)
            refine Q_n ?_; clear hS; intro w hS
            repeat (first | (refine S_w ?_; first | (refine S_y hS ?_) | ((first | refine M_bA hS ?_ | refine M_b1 hS ?_ | refine M_aA hS ?_ | refine M_a1 hS ?_ | refine M_sl hS ?_ | refine M_s1 hS ?_ | refine M_mm hS ?_); clear hS; intro b w hS) | ((first | refine M_st hS ?_ | refine M_sA hS ?_ | refine M_in hS ?_ | refine M_sR hS ?_); clear hS; intro w hS; (try simp only [List.set_cons_zero, List.set_cons_succ, Nat.zero_add] at hS)) | (refine M_ap hS ?_; clear hS; intro g cap w hS) | refine M_pn ?_) | refine X_k (by (try simp only [Fm.toList, List.set_cons_succ, List.set_cons_zero]); exact rfl) ?_ | refine S_u ?_ | refine S_v ?_ | refine C_sq ?_ | refine C_rg ?_ | refine L_nil ?_ | refine C_bk ?_ | refine C_ct ?_ | refine C_cf ?_ | refine C_sk ?_ | refine C_ex ?_ | refine C_rt ?_ | refine X_e ?_ | refine X_r ?_ | refine X_bh ?_ | refine X_be ?_ | refine X_br ?_ | refine X_bn ?_ | refine X_p ?_ | refine X_bp ?_)
            refine R_e (j + 1) ⟨by omega, by omega, hS⟩ (by omega)
          · repeat (first | (refine S_w ?_; first | (refine S_y hS ?_) | ((first | refine M_bA hS ?_ | refine M_b1 hS ?_ | refine M_aA hS ?_ | refine M_a1 hS ?_ | refine M_sl hS ?_ | refine M_s1 hS ?_ | refine M_mm hS ?_); clear hS; intro b w hS) | ((first | refine M_st hS ?_ | refine M_sA hS ?_ | refine M_in hS ?_ | refine M_sR hS ?_); clear hS; intro w hS; (try simp only [List.set_cons_zero, List.set_cons_succ, Nat.zero_add] at hS)) | (refine M_ap hS ?_; clear hS; intro g cap w hS) | refine M_pn ?_) | refine X_k (by (try simp only [Fm.toList, List.set_cons_succ, List.set_cons_zero]); exact rfl) ?_ | refine S_u ?_ | refine S_v ?_ | refine C_sq ?_ | refine C_rg ?_ | refine L_nil ?_ | refine C_bk ?_ | refine C_ct ?_ | refine C_cf ?_ | refine C_sk ?_ | refine C_ex ?_ | refine C_rt ?_ | refine X_e ?_ | refine X_r ?_ | refine X_bh ?_ | refine X_be ?_ | refine X_br ?_ | refine X_bn ?_ | refine X_p ?_ | refine X_bp ?_)
            refine R_e (i + 1) ⟨by omega, hS⟩ (by omega)
        · repeat (first | (refine S_w ?_; first | (refine S_y hS ?_) | ((first | refine M_bA hS ?_ | refine M_b1 hS ?_ | refine M_aA hS ?_ | refine M_a1 hS ?_ | refine M_sl hS ?_ | refine M_s1 hS ?_ | refine M_mm hS ?_); clear hS; intro b w hS) | ((first | refine M_st hS ?_ | refine M_sA hS ?_ | refine M_in hS ?_ | refine M_sR hS ?_); clear hS; intro w hS; (try simp only [List.set_cons_zero, List.set_cons_succ, Nat.zero_add] at hS)) | (refine M_ap hS ?_; clear hS; intro g cap w hS) | refine M_pn ?_) | refine X_k (by (try simp only [Fm.toList, List.set_cons_succ, List.set_cons_zero]); exact rfl) ?_ | refine S_u ?_ | refine S_v ?_ | refine C_sq ?_ | refine C_rg ?_ | refine L_nil ?_ | refine C_bk ?_ | refine C_ct ?_ | refine C_cf ?_ | refine C_sk ?_ | refine C_ex ?_ | refine C_rt ?_ | refine X_e ?_ | refine X_r ?_ | refine X_bh ?_ | refine X_be ?_ | refine X_br ?_ | refine X_bn ?_ | refine X_p ?_ | refine X_bp ?_)
          refine V_1 ⟨rfl, hS.fr⟩
      · have hER : tabE (t.rev.flat 0) v ws.reverse = tabE (t.flat 0) v ws := hTE
        repeat (first | (refine S_w ?_; first | (refine M_c (tableE (t.flat 0) v ws _ A Aw n c m cw _ hS.sl hS.sl hL (by omega) (by omega) hws rfl hE) ?_) | (refine S_y hS ?_) | ((first | refine M_bA hS ?_ | refine M_b1 hS ?_ | refine M_aA hS ?_ | refine M_a1 hS ?_ | refine M_sl hS ?_ | refine M_s1 hS ?_ | refine M_mm hS ?_); clear hS; intro b w hS) | ((first | refine M_st hS ?_ | refine M_sA hS ?_ | refine M_in hS ?_ | refine M_sR hS ?_); clear hS; intro w hS; (try simp only [List.set_cons_zero, List.set_cons_succ, Nat.zero_add] at hS)) | (refine M_ap hS ?_; clear hS; intro g cap w hS) | refine M_pn ?_) | refine X_k (by (try simp only [Fm.toList, List.set_cons_succ, List.set_cons_zero]); exact rfl) ?_ | refine S_u ?_ | refine S_v ?_ | refine C_sq ?_ | refine C_rg ?_ | refine L_nil ?_ | refine C_bk ?_ | refine C_ct ?_ | refine C_cf ?_ | refine C_sk ?_ | refine C_ex ?_ | refine C_rt ?_ | refine X_e ?_ | refine X_r ?_ | refine X_bh ?_ | refine X_be ?_ | refine X_br ?_ | refine X_bn ?_ | refine X_p ?_ | refine X_bp ?_)
        rintro _ w3 ⟨rfl, hb3⟩
        have hS := hS.call hb3
        repeat (first | (refine S_w ?_; first | (refine M_c (reversedR Aw m cw ws _ hS.sl (by omega)) ?_) | (refine S_y hS ?_) | ((first | refine M_bA hS ?_ | refine M_b1 hS ?_ | refine M_aA hS ?_ | refine M_a1 hS ?_ | refine M_sl hS ?_ | refine M_s1 hS ?_ | refine M_mm hS ?_); clear hS; intro b w hS) | ((first | refine M_st hS ?_ | refine M_sA hS ?_ | refine M_in hS ?_ | refine M_sR hS ?_); clear hS; intro w hS; (try simp only [List.set_cons_zero, List.set_cons_succ, Nat.zero_add] at hS)) | (refine M_ap hS ?_; clear hS; intro g cap w hS) | refine M_pn ?_) | refine X_k (by (try simp only [Fm.toList, List.set_cons_succ, List.set_cons_zero]); exact rfl) ?_ | refine S_u ?_ | refine S_v ?_ | refine C_sq ?_ | refine C_rg ?_ | refine L_nil ?_ | refine C_bk ?_ | refine C_ct ?_ | refine C_cf ?_ | refine C_sk ?_ | refine C_ex ?_ | refine C_rt ?_ | refine X_e ?_ | refine X_r ?_ | refine X_bh ?_ | refine X_be ?_ | refine X_br ?_ | refine X_bn ?_ | refine X_p ?_ | refine X_bp ?_)
        rintro _ w4 ⟨A4, c4, rfl, hown4, hb4⟩
        have hS := hS.freshRow hb4.below hown4
        repeat (first | (refine S_w ?_; first | (refine M_c (tableE (t.rev.flat 0) v ws.reverse _ A2 A4 t.rev.size c2 m c4 _ hS.sl hS.rowAtM hok (by omega) (by omega) hrv hER hE) ?_) | (refine S_y hS ?_) | ((first | refine M_bA hS ?_ | refine M_b1 hS ?_ | refine M_aA hS ?_ | refine M_a1 hS ?_ | refine M_sl hS ?_ | refine M_s1 hS ?_ | refine M_mm hS ?_); clear hS; intro b w hS) | ((first | refine M_st hS ?_ | refine M_sA hS ?_ | refine M_in hS ?_ | refine M_sR hS ?_); clear hS; intro w hS; (try simp only [List.set_cons_zero, List.set_cons_succ, Nat.zero_add] at hS)) | (refine M_ap hS ?_; clear hS; intro g cap w hS) | refine M_pn ?_) | refine X_k (by (try simp only [Fm.toList, List.set_cons_succ, List.set_cons_zero]); exact rfl) ?_ | refine S_u ?_ | refine S_v ?_ | refine C_sq ?_ | refine C_rg ?_ | refine L_nil ?_ | refine C_bk ?_ | refine C_ct ?_ | refine C_cf ?_ | refine C_sk ?_ | refine C_ex ?_ | refine C_rt ?_ | refine X_e ?_ | refine X_r ?_ | refine X_bh ?_ | refine X_be ?_ | refine X_br ?_ | refine X_bn ?_ | refine X_p ?_ | refine X_bp ?_)
        rintro _ w5 ⟨rfl, hb5⟩
        have hS := hS.call hb5
        repeat (first | (refine S_w ?_; first | (refine S_y hS ?_) | ((first | refine M_bA hS ?_ | refine M_b1 hS ?_ | refine M_aA hS ?_ | refine M_a1 hS ?_ | refine M_sl hS ?_ | refine M_s1 hS ?_ | refine M_mm hS ?_); clear hS; intro b w hS) | ((first | refine M_st hS ?_ | refine M_sA hS ?_ | refine M_in hS ?_ | refine M_sR hS ?_); clear hS; intro w hS; (try simp only [List.set_cons_zero, List.set_cons_succ, Nat.zero_add] at hS)) | (refine M_ap hS ?_; clear hS; intro g cap w hS) | refine M_pn ?_) | refine X_k (by (try simp only [Fm.toList, List.set_cons_succ, List.set_cons_zero]); exact rfl) ?_ | refine S_u ?_ | refine S_v ?_ | refine C_sq ?_ | refine C_rg ?_ | refine L_nil ?_ | refine C_bk ?_ | refine C_ct ?_ | refine C_cf ?_ | refine C_sk ?_ | refine C_ex ?_ | refine C_rt ?_ | refine X_e ?_ | refine X_r ?_ | refine X_bh ?_ | refine X_be ?_ | refine X_br ?_ | refine X_bn ?_ | refine X_p ?_ | refine X_bp ?_)
        refine V_1 ⟨rfl, hS.fr⟩
    · have hE : tabE L v ws = chkR L v := if_pos he
      have hRL := revL_bad he
      rw [hRL, List.length_nil] at hS
      rw [hRL, List.length_nil]
      have hER : tabE [] v ws.reverse = chkR [] v := if_pos (chk_nil v)
      repeat (first | (refine S_w ?_; first | (refine M_c (tableE L v ws (chkR L v) A Aw n c m cw _ hS.sl hS.sl hL (by omega) (by omega) hws hE he) ?_) | (refine S_y hS ?_) | ((first | refine M_bA hS ?_ | refine M_b1 hS ?_ | refine M_aA hS ?_ | refine M_a1 hS ?_ | refine M_sl hS ?_ | refine M_s1 hS ?_ | refine M_mm hS ?_); clear hS; intro b w hS) | ((first | refine M_st hS ?_ | refine M_sA hS ?_ | refine M_in hS ?_ | refine M_sR hS ?_); clear hS; intro w hS; (try simp only [List.set_cons_zero, List.set_cons_succ, Nat.zero_add] at hS)) | (refine M_ap hS ?_; clear hS; intro g cap w hS) | refine M_pn ?_) | refine X_k (by (try simp only [Fm.toList, List.set_cons_succ, List.set_cons_zero]); exact rfl) ?_ | refine S_u ?_ | refine S_v ?_ | refine C_sq ?_ | refine C_rg ?_ | refine L_nil ?_ | refine C_bk ?_ | refine C_ct ?_ | refine C_cf ?_ | refine C_sk ?_ | refine C_ex ?_ | refine C_rt ?_ | refine X_e ?_ | refine X_r ?_ | refine X_bh ?_ | refine X_be ?_ | refine X_br ?_ | refine X_bn ?_ | refine X_p ?_ | refine X_bp ?_)
      rintro _ w3 ⟨rfl, hb3⟩
      have hS := hS.call hb3
      repeat (first | (refine S_w ?_; first | (refine M_c (reversedR Aw m cw ws _ hS.sl (by omega)) ?_) | (refine S_y hS ?_) | ((first | refine M_bA hS ?_ | refine M_b1 hS ?_ | refine M_aA hS ?_ | refine M_a1 hS ?_ | refine M_sl hS ?_ | refine M_s1 hS ?_ | refine M_mm hS ?_); clear hS; intro b w hS) | ((first | refine M_st hS ?_ | refine M_sA hS ?_ | refine M_in hS ?_ | refine M_sR hS ?_); clear hS; intro w hS; (try simp only [List.set_cons_zero, List.set_cons_succ, Nat.zero_add] at hS)) | (refine M_ap hS ?_; clear hS; intro g cap w hS) | refine M_pn ?_) | refine X_k (by (try simp only [Fm.toList, List.set_cons_succ, List.set_cons_zero]); exact rfl) ?_ | refine S_u ?_ | refine S_v ?_ | refine C_sq ?_ | refine C_rg ?_ | refine L_nil ?_ | refine C_bk ?_ | refine C_ct ?_ | refine C_cf ?_ | refine C_sk ?_ | refine C_ex ?_ | refine C_rt ?_ | refine X_e ?_ | refine X_r ?_ | refine X_bh ?_ | refine X_be ?_ | refine X_br ?_ | refine X_bn ?_ | refine X_p ?_ | refine X_bp ?_)
      rintro _ w4 ⟨A4, c4, rfl, hown4, hb4⟩
      have hS := hS.freshRow hb4.below hown4
      repeat (first | (refine S_w ?_; first | (refine M_c (tableE [] v ws.reverse (chkR [] v) A2 A4 0 c2 m c4 _ hS.sl hS.rowAtM (fun _ h => by cases h) (by omega) (by omega) hrv hER (chk_nil v)) ?_) | (refine S_y hS ?_) | ((first | refine M_bA hS ?_ | refine M_b1 hS ?_ | refine M_aA hS ?_ | refine M_a1 hS ?_ | refine M_sl hS ?_ | refine M_s1 hS ?_ | refine M_mm hS ?_); clear hS; intro b w hS) | ((first | refine M_st hS ?_ | refine M_sA hS ?_ | refine M_in hS ?_ | refine M_sR hS ?_); clear hS; intro w hS; (try simp only [List.set_cons_zero, List.set_cons_succ, Nat.zero_add] at hS)) | (refine M_ap hS ?_; clear hS; intro g cap w hS) | refine M_pn ?_) | refine X_k (by (try simp only [Fm.toList, List.set_cons_succ, List.set_cons_zero]); exact rfl) ?_ | refine S_u ?_ | refine S_v ?_ | refine C_sq ?_ | refine C_rg ?_ | refine L_nil ?_ | refine C_bk ?_ | refine C_ct ?_ | refine C_cf ?_ | refine C_sk ?_ | refine C_ex ?_ | refine C_rt ?_ | refine X_e ?_ | refine X_r ?_ | refine X_bh ?_ | refine X_be ?_ | refine X_br ?_ | refine X_bn ?_ | refine X_p ?_ | refine X_bp ?_)
      rintro _ w5 ⟨rfl, hb5⟩
      have hS := hS.call hb5
      repeat (first | (refine S_w ?_; first | (refine S_y hS ?_) | ((first | refine M_bA hS ?_ | refine M_b1 hS ?_ | refine M_aA hS ?_ | refine M_a1 hS ?_ | refine M_sl hS ?_ | refine M_s1 hS ?_ | refine M_mm hS ?_); clear hS; intro b w hS) | ((first | refine M_st hS ?_ | refine M_sA hS ?_ | refine M_in hS ?_ | refine M_sR hS ?_); clear hS; intro w hS; (try simp only [List.set_cons_zero, List.set_cons_succ, Nat.zero_add] at hS)) | (refine M_ap hS ?_; clear hS; intro g cap w hS) | refine M_pn ?_) | refine X_k (by (try simp only [Fm.toList, List.set_cons_succ, List.set_cons_zero]); exact rfl) ?_ | refine S_u ?_ | refine S_v ?_ | refine C_sq ?_ | refine C_rg ?_ | refine L_nil ?_ | refine C_bk ?_ | refine C_ct ?_ | refine C_cf ?_ | refine C_sk ?_ | refine C_ex ?_ | refine C_rt ?_ | refine X_e ?_ | refine X_r ?_ | refine X_bh ?_ | refine X_be ?_ | refine X_br ?_ | refine X_bn ?_ | refine X_p ?_ | refine X_bp ?_)
      refine V_1 ⟨rfl, hS.fr⟩
namespace matchReverses
open Go.ChangeShapes Go.WideShapes Go.ChangeAt Go.RowKit Go.Joins
set_option maxRecDepth 100000 in
theorem lifted (os : Os) (started : os.Started) (H : Type) (enc : TypeId × Value → H) :
    ReturnsInHanded {} Try.checked os 9 .any (Rows.matchReversesSpec.pre6 enc Try.prog Try.f9 Rows.matchReversesRow.domain false) (Rows.matchReversesSpec.post enc Try.prog Try.f9 false true false false) := by
  refine returnsInHanded_of_change (C := Try.checked) own started (by kernel_rfl) Try.func9
    (ChangeSpec.witness6 (enc := enc) (C := Try.checked) false ⟨#[], #[.slice none 0 0, .int .i64 0, .slice none 0 0], []⟩ 8 (by kernel_rfl) (by kernel_rfl) (by kernel_rfl) (by kernel_rfl)) ?_
  intro W base args ds gs before hval0 hW hcnd _
  have hval : ∀ (j : Nat) t v, Try.f9.params[j]? = some t → args[j]? = some v → Value.okWide Try.prog W .any base t v := hval0
  have hW' := hW
  obtain ⟨p, q, hA0, hV, rfl, hfz, hnd⟩ := hW
  have hA : DataW.TrodAll enc Try.prog W 0 (fun _ => true) true Try.f9.params.toList args.toList ds p := hA0
  rw [Try.params9] at hA hval
  obtain ⟨v0, vs0, d0, ds0, p0, q0, hargs, rfl, rfl, h0, r0⟩ := trodAll_cons hA
  obtain ⟨v1, vs1, d1, ds1, p1, q1, rfl, rfl, rfl, h1, r1⟩ := trodAll_cons r0
  obtain ⟨v2, vs2, d2, ds2, p2, q2, rfl, rfl, rfl, h2, r2⟩ := trodAll_cons r1
  obtain ⟨rfl, rfl, rfl⟩ := trodAll_nil r2
  obtain rfl : args = #[v0, v1, v2] := by cases args; simp_all
  obtain ⟨rfl, rfl⟩ := trodVars_none hV
  obtain ⟨A_0, n_0, c_0, l_0, rfl, hr_0, hw_0, hn_0, hc_0⟩ := open_regex (hval 0 _ _ rfl rfl) h0
  obtain ⟨z_1, rfl, hlo_1, hhi_1⟩ := open_i64 (hval 1 _ _ rfl rfl) h1
  obtain ⟨A_2, n_2, c_2, l_2, rfl, hr_2, hb_2, hn_2, hc_2⟩ := open_bytesC (hval 2 _ _ rfl rfl) h2
  simp only [List.append_nil] at hW'
  exact (matchReverses_walk A_0 n_0 c_0 l_0 z_1 A_2 n_2 c_2 l_2 W hr_0 hw_0 hn_0 hc_0 hlo_1 hhi_1 hr_2 hb_2 hn_2 hc_2).mono fun e W' ⟨he, hbl⟩ => ⟨_, he, law_post laidOut (readable_all (by kernel_rfl)) rfl Try.underlying4 rfl rfl hW' hbl⟩

theorem over : Rows.matchReversesRow.holds Try.pinned (OpenSpec.ofChange Rows.matchReversesSpec) :=
  OpenClaim.holds_of_wide 9 Try.f9 rfl rfl rfl rfl rfl rfl rfl ⟨rfl, rfl, rfl, rfl, rfl⟩ rfl rfl rfl rfl rfl (by kernel_rfl) Try.func9 (by kernel_rfl)
    (of_decide_eq_true (by kernel_rfl)) (by unfold Func.isWrapper; first | (rw [if_pos (by decide +kernel)]; kernel_rfl) | (rw [if_neg (by decide +kernel)]; exact ⟨rfl, rfl⟩))
    (fun os started H enc _ => lifted os started H enc)
end matchReverses

theorem matchReverses_proved : Rows.MatchReversesSaid := matchReverses.over
#print axioms matchReverses_proved
end Go.Proofs.Ytebdkmfgfjanoaa
