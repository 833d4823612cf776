/-
  awake: the chapter's examples.
-/
import Derived.Test.YtebdkmfgfjanoaaMtDer3
import Derived.Test.YtebdkmfgfjanoaaMF
import Derived.Test.YtebdkmfgfjanoaaRfPrs
import Derived.Test.YtebdkmfgfjanoaaRxKit
namespace Go.Proofs.Ytebdkmfgfjanoaa
open Go.RowKit

instance hasSlApp {A : Option Addr} {n size : Nat} {xs : List Value} {l rs : List Res} [h : HasSl rs A n size xs] : HasSl (l ++ rs) A n size xs := ⟨fun hS => h.rd (hS.sub (List.sublist_append_right l rs))⟩
set_option maxHeartbeats 4000000 in
set_option maxRecDepth 100000 in
theorem readT (t : T) (s : List UInt8) (h : prsL s 2 = t.flat 0) (hs : s.length ≤ 10000) (W : World) : CallsR Try.prog 28 #[.string ⟨s.toArray⟩] W fun r w' =>
    ∃ A c, r = .slice A t.size c ∧ w'.ownsRow W.heap.size 55 5 (.slice A t.size c) t.size (rxCells (t.flat 0)) ∧ t.size ≤ c ∧ Fr Nof W w' := by
  have hS := St.start Nof W
  refine E_r (m := 10) ?_ Try.func28 rfl Try.ntmps28 rfl; refine C_ft ?_
  repeat (first | (refine S_w ?_; first | (refine M_c (rprsR s 2 _ (by omega)) ?_) | (refine S_y hS ?_) | ((first | refine M_bA hS ?_ | refine M_b1 hS ?_ | refine M_aA hS ?_ | refine M_a1 hS ?_ | refine M_sl hS ?_ | refine M_s1 hS ?_ | refine M_mm hS ?_); clear hS; intro b w hS) | ((first | refine M_st hS ?_ | refine M_sA hS ?_ | refine M_in hS ?_ | refine M_sR hS ?_); clear hS; intro w hS; (try simp only [List.set_cons_zero, List.set_cons_succ, Nat.zero_add] at hS)) | (refine M_ap hS ?_; clear hS; intro g cap w hS) | refine M_pn ?_) | refine X_k (by (try simp only [Fm.toList, List.set_cons_succ, List.set_cons_zero]); exact rfl) ?_ | refine S_u ?_ | refine S_v ?_ | refine C_sq ?_ | refine C_rg ?_ | refine L_nil ?_ | refine C_bk ?_ | refine C_ct ?_ | refine C_cf ?_ | refine C_sk ?_ | refine C_ex ?_ | refine C_rt ?_ | refine X_e ?_ | refine X_r ?_ | refine X_bh ?_ | refine X_be ?_ | refine X_br ?_ | refine X_bn ?_ | refine X_p ?_ | refine X_bp ?_)
  rintro _ w1 ⟨A, c, rfl, hown, hb⟩
  have hS := hS.call hb
  rw [h, T.flat_len] at hown
  rw [h, T.flat_len]
  have hc : t.size ≤ c := by
    rcases hown.2 with ⟨h1, h2⟩ | ⟨g, cap, cur, h1, _, _, h2, _⟩
    · have := T.size_pos t; omega
    · cases h1; exact h2
  repeat (first | (refine S_w ?_; first | (refine S_y hS ?_) | ((first | refine M_bA hS ?_ | refine M_b1 hS ?_ | refine M_aA hS ?_ | refine M_a1 hS ?_ | refine M_sl hS ?_ | refine M_s1 hS ?_ | refine M_mm hS ?_); clear hS; intro b w hS) | ((first | refine M_st hS ?_ | refine M_sA hS ?_ | refine M_in hS ?_ | refine M_sR hS ?_); clear hS; intro w hS; (try simp only [List.set_cons_zero, List.set_cons_succ, Nat.zero_add] at hS)) | (refine M_ap hS ?_; clear hS; intro g cap w hS) | refine M_pn ?_) | refine X_k (by (try simp only [Fm.toList, List.set_cons_succ, List.set_cons_zero]); exact rfl) ?_ | refine S_u ?_ | refine S_v ?_ | refine C_sq ?_ | refine C_rg ?_ | refine L_nil ?_ | refine C_bk ?_ | refine C_ct ?_ | refine C_cf ?_ | refine C_sk ?_ | refine C_ex ?_ | refine C_rt ?_ | refine X_e ?_ | refine X_r ?_ | refine X_bh ?_ | refine X_be ?_ | refine X_br ?_ | refine X_bn ?_ | refine X_p ?_ | refine X_bp ?_)
  refine V_1 ⟨A, c, rfl, hown, hc, hb⟩
theorem St.sl {F : Nat → Prop} {w0 w : World} {rs : List Res} {A : Option Addr} {n size : Nat} {xs : List Value} (hS : St F w0 rs w) [h : HasSl rs A n size xs] : Rd w size A n xs := h.rd hS
def a0 : T := .bin 4 (.letter 1 0) (.un 9 (.letter 2 0))
def a1 : T := .un 8 (.letter 1 0)
def a2 : T := .letter 1 0
def a3 : T := .bin 4 .empty a1
def a4 : T := .bin 4 .none a1
set_option maxRecDepth 100000 in
theorem a_prs : prsL [40, 91, 97, 93, 46, 40, 62, 91, 98, 93, 41, 41] 2 = a0.flat 0 ∧ prsL [40, 91, 97, 93, 42, 41] 2 = a1.flat 0 ∧ prsL [91, 97, 93] 2 = a2.flat 0 ∧ prsL [40, 49, 46, 40, 91, 97, 93, 42, 41, 41] 2 = a3.flat 0 ∧ prsL [40, 48, 46, 40, 91, 97, 93, 42, 41, 41] 2 = a4.flat 0 := by decide +kernel
set_option maxRecDepth 100000 in
theorem a_mt : mt [1, 2] a0 0 1 = true ∧ mt [1] a0 0 1 = false ∧ mt [1, 1, 3] a1 0 3 = true ∧ spTo (mt [1, 0, 1] a2) 4 4 = [(0, 1), (2, 3)] := by decide +kernel
set_option maxRecDepth 100000 in
theorem a_der : dE 2 1 a1 = 0 ∧ dL 2 1 a1 = a3.flat 0 ∧ dE 2 0 a1 = 0 ∧ dL 2 0 a1 = a4.flat 0 := by decide +kernel
theorem a0_wf : a0.wf 2 := ⟨rfl, (by decide : chk 1 0 2 = 0), rfl, (by decide : chk 2 0 2 = 0)⟩
theorem a1_wf : a1.wf 2 := ⟨rfl, (by decide : chk 1 0 2 = 0)⟩
theorem a2_wf : a2.wf 2 := (by decide : chk 1 0 2 = 0)
set_option maxHeartbeats 16000000 in
set_option maxRecDepth 100000 in
theorem awakeR (W : World) : CallsR Try.prog 11 #[] W fun r w' => r = .bool true ∧ Fr Nof W w' := by
  obtain ⟨p0, p1, p2, p3, p4⟩ := a_prs
  obtain ⟨m0, m1, m2, m3⟩ := a_mt
  obtain ⟨d0, d1, d2, d3⟩ := a_der
  have hS := St.start Nof W
  have s0 : a0.size = 4 := rfl
  have s1 : a1.size = 2 := rfl
  have s2 : a2.size = 1 := rfl
  refine E_r (m := 126) ?_ Try.func11 rfl Try.ntmps11 rfl; refine C_ft ?_
  repeat (first | (refine S_w ?_; first | (refine M_c (readT a0 _ p0 (by decide) _) ?_) | (refine S_y hS ?_) | ((first | refine M_bA hS ?_ | refine M_b1 hS ?_ | refine M_aA hS ?_ | refine M_a1 hS ?_ | refine M_sl hS ?_ | refine M_s1 hS ?_ | refine M_mm hS ?_); clear hS; intro b w hS) | ((first | refine M_st hS ?_ | refine M_sA hS ?_ | refine M_in hS ?_ | refine M_sR hS ?_); clear hS; intro w hS; (try simp only [List.set_cons_zero, List.set_cons_succ, Nat.zero_add] at hS)) | (refine M_ap hS ?_; clear hS; intro g cap w hS) | refine M_pn ?_) | refine X_k (by (try simp only [Fm.toList, List.set_cons_succ, List.set_cons_zero]); exact rfl) ?_ | refine S_u ?_ | refine S_v ?_ | refine C_sq ?_ | refine C_rg ?_ | refine L_nil ?_ | refine C_bk ?_ | refine C_ct ?_ | refine C_cf ?_ | refine C_sk ?_ | refine C_ex ?_ | refine C_rt ?_ | refine X_e ?_ | refine X_r ?_ | refine X_bh ?_ | refine X_be ?_ | refine X_br ?_ | refine X_bn ?_ | refine X_p ?_ | refine X_bp ?_)
  rintro _ w1 ⟨A1, c1, rfl, hown1, hc1, hb1⟩
  have hS := hS.freshRow hb1.below hown1
  rw [s0] at hS ⊢
  have hT := fun b w hA hW => tableT a0 2 [1, 2] A1 (some ⟨b, 0, none⟩) 4 c1 2 2 w hA hW (by omega) a0_wf rfl (by decide) (by omega) (by decide)
  repeat (first | (refine S_w ?_; first | (refine M_c (hT b _ hS.rowAtM (objRd hS)) ?_) | (refine S_y hS ?_) | ((first | refine M_bA hS ?_ | refine M_b1 hS ?_ | refine M_aA hS ?_ | refine M_a1 hS ?_ | refine M_sl hS ?_ | refine M_s1 hS ?_ | refine M_mm hS ?_); clear hS; intro b w hS) | ((first | refine M_st hS ?_ | refine M_sA hS ?_ | refine M_in hS ?_ | refine M_sR hS ?_); clear hS; intro w hS; (try simp only [List.set_cons_zero, List.set_cons_succ, Nat.zero_add] at hS)) | (refine M_ap hS ?_; clear hS; intro g cap w hS) | refine M_pn ?_) | refine X_k (by (try simp only [Fm.toList, List.set_cons_succ, List.set_cons_zero]); exact rfl) ?_ | refine S_u ?_ | refine S_v ?_ | refine C_sq ?_ | refine C_rg ?_ | refine L_nil ?_ | refine C_bk ?_ | refine C_ct ?_ | refine C_cf ?_ | refine C_sk ?_ | refine C_ex ?_ | refine C_rt ?_ | refine X_e ?_ | refine X_r ?_ | refine X_bh ?_ | refine X_be ?_ | refine X_br ?_ | refine X_bn ?_ | refine X_p ?_ | refine X_bp ?_)
  rintro _ w2 ⟨tb, tbs, rfl, htbs, hE⟩
  have hS := hS.join hE tabR_own
  clear hE
  obtain ⟨bi, hbi⟩ : ∃ y, tbs[0]? = some y := ⟨tbs[0]'(by omega), List.getElem?_eq_getElem _⟩
  have hrow : ∀ rs, HasSl (tabR (2 + 1) (mt [1, 2] a0) tb tbs ++ rs) (some ⟨bi, 0, none⟩) (2 + 1) 1 (rowC (2 + 1) (mt [1, 2] a0) 0) := fun rs => tabRow hbi
  have e1 : (tbs.map (rowV (2 + 1)))[0]? = some (.slice (some ⟨bi, 0, none⟩) (2 + 1) (2 + 1)) := by rw [List.getElem?_map, hbi]; rfl
  have e2 : (rowC (2 + 1) (mt [1, 2] a0) 0)[1]? = some (.bool true) := by rw [rowC_at (by omega), m0]
  have hT := fun b w hA hW => acceptsT a0 2 [1] A1 (some ⟨b, 0, none⟩) 4 c1 1 1 w hA hW (by omega) a0_wf rfl (by decide) (by omega) (by decide)
  repeat (first | (refine S_w ?_; first | (refine M_c (hT b _ hS.sl (objRd hS)) ?_) | (refine S_y hS ?_) | ((first | refine M_bA hS ?_ | refine M_b1 hS ?_ | refine M_aA hS ?_ | refine M_a1 hS ?_ | refine M_sl hS ?_ | refine M_s1 hS ?_ | refine M_mm hS ?_); clear hS; intro b w hS) | ((first | refine M_st hS ?_ | refine M_sA hS ?_ | refine M_in hS ?_ | refine M_sR hS ?_); clear hS; intro w hS; (try simp only [List.set_cons_zero, List.set_cons_succ, Nat.zero_add] at hS)) | (refine M_ap hS ?_; clear hS; intro g cap w hS) | refine M_pn ?_) | refine X_k (by (try simp only [Fm.toList, List.set_cons_succ, List.set_cons_zero]); exact rfl) ?_ | refine S_u ?_ | refine S_v ?_ | refine C_sq ?_ | refine C_rg ?_ | refine L_nil ?_ | refine C_bk ?_ | refine C_ct ?_ | refine C_cf ?_ | refine C_sk ?_ | refine C_ex ?_ | refine C_rt ?_ | refine X_e ?_ | refine X_r ?_ | refine X_bh ?_ | refine X_be ?_ | refine X_br ?_ | refine X_bn ?_ | refine X_p ?_ | refine X_bp ?_)
  rintro _ w3 ⟨rfl, hb3⟩
  have hS := hS.call hb3
  rw [m1]
  repeat (first | (refine S_w ?_; first | (refine M_c (readT a1 _ p1 (by decide) _) ?_) | (refine S_y hS ?_) | ((first | refine M_bA hS ?_ | refine M_b1 hS ?_ | refine M_aA hS ?_ | refine M_a1 hS ?_ | refine M_sl hS ?_ | refine M_s1 hS ?_ | refine M_mm hS ?_); clear hS; intro b w hS) | ((first | refine M_st hS ?_ | refine M_sA hS ?_ | refine M_in hS ?_ | refine M_sR hS ?_); clear hS; intro w hS; (try simp only [List.set_cons_zero, List.set_cons_succ, Nat.zero_add] at hS)) | (refine M_ap hS ?_; clear hS; intro g cap w hS) | refine M_pn ?_) | refine X_k (by (try simp only [Fm.toList, List.set_cons_succ, List.set_cons_zero]); exact rfl) ?_ | refine S_u ?_ | refine S_v ?_ | refine C_sq ?_ | refine C_rg ?_ | refine L_nil ?_ | refine C_bk ?_ | refine C_ct ?_ | refine C_cf ?_ | refine C_sk ?_ | refine C_ex ?_ | refine C_rt ?_ | refine X_e ?_ | refine X_r ?_ | refine X_bh ?_ | refine X_be ?_ | refine X_br ?_ | refine X_bn ?_ | refine X_p ?_ | refine X_bp ?_)
  rintro _ w4 ⟨A4, c4, rfl, hown4, hc4, hb4⟩
  have hS := hS.freshRow hb4.below hown4
  rw [s1] at hS ⊢
  repeat (first | (refine S_w ?_; first | (refine M_c (deriveT a1 2 1 A4 2 c4 _ hS.sl (by omega) a1_wf rfl (by decide) rfl (by omega) hc4) ?_) | (refine S_y hS ?_) | ((first | refine M_bA hS ?_ | refine M_b1 hS ?_ | refine M_aA hS ?_ | refine M_a1 hS ?_ | refine M_sl hS ?_ | refine M_s1 hS ?_ | refine M_mm hS ?_); clear hS; intro b w hS) | ((first | refine M_st hS ?_ | refine M_sA hS ?_ | refine M_in hS ?_ | refine M_sR hS ?_); clear hS; intro w hS; (try simp only [List.set_cons_zero, List.set_cons_succ, Nat.zero_add] at hS)) | (refine M_ap hS ?_; clear hS; intro g cap w hS) | refine M_pn ?_) | refine X_k (by (try simp only [Fm.toList, List.set_cons_succ, List.set_cons_zero]); exact rfl) ?_ | refine S_u ?_ | refine S_v ?_ | refine C_sq ?_ | refine C_rg ?_ | refine L_nil ?_ | refine C_bk ?_ | refine C_ct ?_ | refine C_cf ?_ | refine C_sk ?_ | refine C_ex ?_ | refine C_rt ?_ | refine X_e ?_ | refine X_r ?_ | refine X_bh ?_ | refine X_be ?_ | refine X_br ?_ | refine X_bn ?_ | refine X_p ?_ | refine X_bp ?_)
  rintro _ w5 ⟨A5, c5, rfl, hown5, hb5⟩
  have hS := hS.freshRow hb5.below hown5
  rw [d1, show (a3.flat 0).length = 4 from rfl] at hS
  rw [d0, d1, show (a3.flat 0).length = 4 from rfl]
  clear hown5 hown4
  repeat (first | (refine S_w ?_; first | (refine M_c (readT a1 _ p1 (by decide) _) ?_) | (refine S_y hS ?_) | ((first | refine M_bA hS ?_ | refine M_b1 hS ?_ | refine M_aA hS ?_ | refine M_a1 hS ?_ | refine M_sl hS ?_ | refine M_s1 hS ?_ | refine M_mm hS ?_); clear hS; intro b w hS) | ((first | refine M_st hS ?_ | refine M_sA hS ?_ | refine M_in hS ?_ | refine M_sR hS ?_); clear hS; intro w hS; (try simp only [List.set_cons_zero, List.set_cons_succ, Nat.zero_add] at hS)) | (refine M_ap hS ?_; clear hS; intro g cap w hS) | refine M_pn ?_) | refine X_k (by (try simp only [Fm.toList, List.set_cons_succ, List.set_cons_zero]); exact rfl) ?_ | refine S_u ?_ | refine S_v ?_ | refine C_sq ?_ | refine C_rg ?_ | refine L_nil ?_ | refine C_bk ?_ | refine C_ct ?_ | refine C_cf ?_ | refine C_sk ?_ | refine C_ex ?_ | refine C_rt ?_ | refine X_e ?_ | refine X_r ?_ | refine X_bh ?_ | refine X_be ?_ | refine X_br ?_ | refine X_bn ?_ | refine X_p ?_ | refine X_bp ?_)
  rintro _ w6 ⟨A6, c6, rfl, hown6, hc6, hb6⟩
  have hS := hS.freshRow hb6.below hown6
  rw [s1] at hS ⊢
  repeat (first | (refine S_w ?_; first | (refine M_c (deriveT a1 2 0 A6 2 c6 _ hS.sl (by omega) a1_wf rfl (by decide) rfl (by omega) hc6) ?_) | (refine S_y hS ?_) | ((first | refine M_bA hS ?_ | refine M_b1 hS ?_ | refine M_aA hS ?_ | refine M_a1 hS ?_ | refine M_sl hS ?_ | refine M_s1 hS ?_ | refine M_mm hS ?_); clear hS; intro b w hS) | ((first | refine M_st hS ?_ | refine M_sA hS ?_ | refine M_in hS ?_ | refine M_sR hS ?_); clear hS; intro w hS; (try simp only [List.set_cons_zero, List.set_cons_succ, Nat.zero_add] at hS)) | (refine M_ap hS ?_; clear hS; intro g cap w hS) | refine M_pn ?_) | refine X_k (by (try simp only [Fm.toList, List.set_cons_succ, List.set_cons_zero]); exact rfl) ?_ | refine S_u ?_ | refine S_v ?_ | refine C_sq ?_ | refine C_rg ?_ | refine L_nil ?_ | refine C_bk ?_ | refine C_ct ?_ | refine C_cf ?_ | refine C_sk ?_ | refine C_ex ?_ | refine C_rt ?_ | refine X_e ?_ | refine X_r ?_ | refine X_bh ?_ | refine X_be ?_ | refine X_br ?_ | refine X_bn ?_ | refine X_p ?_ | refine X_bp ?_)
  rintro _ w7 ⟨A7, c7, rfl, hown7, hb7⟩
  have hS := hS.freshRow hb7.below hown7
  rw [d3, show (a4.flat 0).length = 4 from rfl] at hS
  rw [d2, d3, show (a4.flat 0).length = 4 from rfl]
  clear hown6 hown7
  repeat (first | (refine S_w ?_; first | (refine M_c (readT a1 _ p1 (by decide) _) ?_) | (refine S_y hS ?_) | ((first | refine M_bA hS ?_ | refine M_b1 hS ?_ | refine M_aA hS ?_ | refine M_a1 hS ?_ | refine M_sl hS ?_ | refine M_s1 hS ?_ | refine M_mm hS ?_); clear hS; intro b w hS) | ((first | refine M_st hS ?_ | refine M_sA hS ?_ | refine M_in hS ?_ | refine M_sR hS ?_); clear hS; intro w hS; (try simp only [List.set_cons_zero, List.set_cons_succ, Nat.zero_add] at hS)) | (refine M_ap hS ?_; clear hS; intro g cap w hS) | refine M_pn ?_) | refine X_k (by (try simp only [Fm.toList, List.set_cons_succ, List.set_cons_zero]); exact rfl) ?_ | refine S_u ?_ | refine S_v ?_ | refine C_sq ?_ | refine C_rg ?_ | refine L_nil ?_ | refine C_bk ?_ | refine C_ct ?_ | refine C_cf ?_ | refine C_sk ?_ | refine C_ex ?_ | refine C_rt ?_ | refine X_e ?_ | refine X_r ?_ | refine X_bh ?_ | refine X_be ?_ | refine X_br ?_ | refine X_bn ?_ | refine X_p ?_ | refine X_bp ?_)
  rintro _ w8 ⟨A8, c8, rfl, hown8, hc8, hb8⟩
  have hS := hS.freshRow hb8.below hown8
  rw [s1] at hS ⊢
  have hT := fun b w hA hW => acceptsT a1 2 [1, 1, 3] A8 (some ⟨b, 0, none⟩) 2 c8 3 3 w hA hW (by omega) a1_wf rfl (by decide) (by omega) (by decide)
  repeat (first | (refine S_w ?_; first | (refine M_c (hT b _ hS.sl (objRd hS)) ?_) | (refine S_y hS ?_) | ((first | refine M_bA hS ?_ | refine M_b1 hS ?_ | refine M_aA hS ?_ | refine M_a1 hS ?_ | refine M_sl hS ?_ | refine M_s1 hS ?_ | refine M_mm hS ?_); clear hS; intro b w hS) | ((first | refine M_st hS ?_ | refine M_sA hS ?_ | refine M_in hS ?_ | refine M_sR hS ?_); clear hS; intro w hS; (try simp only [List.set_cons_zero, List.set_cons_succ, Nat.zero_add] at hS)) | (refine M_ap hS ?_; clear hS; intro g cap w hS) | refine M_pn ?_) | refine X_k (by (try simp only [Fm.toList, List.set_cons_succ, List.set_cons_zero]); exact rfl) ?_ | refine S_u ?_ | refine S_v ?_ | refine C_sq ?_ | refine C_rg ?_ | refine L_nil ?_ | refine C_bk ?_ | refine C_ct ?_ | refine C_cf ?_ | refine C_sk ?_ | refine C_ex ?_ | refine C_rt ?_ | refine X_e ?_ | refine X_r ?_ | refine X_bh ?_ | refine X_be ?_ | refine X_br ?_ | refine X_bn ?_ | refine X_p ?_ | refine X_bp ?_)
  rintro _ w9 ⟨rfl, hb9⟩
  have hS := hS.call hb9
  rw [m2]
  repeat (first | (refine S_w ?_; first | (refine M_c (readT a2 _ p2 (by decide) _) ?_) | (refine S_y hS ?_) | ((first | refine M_bA hS ?_ | refine M_b1 hS ?_ | refine M_aA hS ?_ | refine M_a1 hS ?_ | refine M_sl hS ?_ | refine M_s1 hS ?_ | refine M_mm hS ?_); clear hS; intro b w hS) | ((first | refine M_st hS ?_ | refine M_sA hS ?_ | refine M_in hS ?_ | refine M_sR hS ?_); clear hS; intro w hS; (try simp only [List.set_cons_zero, List.set_cons_succ, Nat.zero_add] at hS)) | (refine M_ap hS ?_; clear hS; intro g cap w hS) | refine M_pn ?_) | refine X_k (by (try simp only [Fm.toList, List.set_cons_succ, List.set_cons_zero]); exact rfl) ?_ | refine S_u ?_ | refine S_v ?_ | refine C_sq ?_ | refine C_rg ?_ | refine L_nil ?_ | refine C_bk ?_ | refine C_ct ?_ | refine C_cf ?_ | refine C_sk ?_ | refine C_ex ?_ | refine C_rt ?_ | refine X_e ?_ | refine X_r ?_ | refine X_bh ?_ | refine X_be ?_ | refine X_br ?_ | refine X_bn ?_ | refine X_p ?_ | refine X_bp ?_)
  rintro _ w10 ⟨A10, c10, rfl, hown10, hc10, hb10⟩
  have hS := hS.freshRow hb10.below hown10
  rw [s2] at hS ⊢
  have hT := fun b w hA hW => spansT a2 2 [1, 0, 1] A10 (some ⟨b, 0, none⟩) 1 c10 3 3 w hA hW (by omega) a2_wf rfl (by decide) (by omega) (by decide)
  repeat (first | (refine S_w ?_; first | (refine M_c (hT b _ hS.sl (objRd hS)) ?_) | (refine S_y hS ?_) | ((first | refine M_bA hS ?_ | refine M_b1 hS ?_ | refine M_aA hS ?_ | refine M_a1 hS ?_ | refine M_sl hS ?_ | refine M_s1 hS ?_ | refine M_mm hS ?_); clear hS; intro b w hS) | ((first | refine M_st hS ?_ | refine M_sA hS ?_ | refine M_in hS ?_ | refine M_sR hS ?_); clear hS; intro w hS; (try simp only [List.set_cons_zero, List.set_cons_succ, Nat.zero_add] at hS)) | (refine M_ap hS ?_; clear hS; intro g cap w hS) | refine M_pn ?_) | refine X_k (by (try simp only [Fm.toList, List.set_cons_succ, List.set_cons_zero]); exact rfl) ?_ | refine S_u ?_ | refine S_v ?_ | refine C_sq ?_ | refine C_rg ?_ | refine L_nil ?_ | refine C_bk ?_ | refine C_ct ?_ | refine C_cf ?_ | refine C_sk ?_ | refine C_ex ?_ | refine C_rt ?_ | refine X_e ?_ | refine X_r ?_ | refine X_bh ?_ | refine X_be ?_ | refine X_br ?_ | refine X_bn ?_ | refine X_p ?_ | refine X_bp ?_)
  rintro _ w11 ⟨A11, c11, rfl, hown11, hb11⟩
  have hS := hS.freshRow hb11.below hown11
  rw [show spTo (mt [1, 0, 1] a2) (3 + 1) (3 + 1) = [(0, 1), (2, 3)] from m3] at hS
  rw [show spTo (mt [1, 0, 1] a2) (3 + 1) (3 + 1) = [(0, 1), (2, 3)] from m3]
  rw [show ([(0, 1), (2, 3)] : List (Nat × Nat)).length = 2 from rfl] at hS ⊢
  clear hown8 hown10 hown11
  repeat (first | (refine S_w ?_; first | (refine M_c (readT a3 _ p3 (by decide) _) ?_) | (refine S_y hS ?_) | ((first | refine M_bA hS ?_ | refine M_b1 hS ?_ | refine M_aA hS ?_ | refine M_a1 hS ?_ | refine M_sl hS ?_ | refine M_s1 hS ?_ | refine M_mm hS ?_); clear hS; intro b w hS) | ((first | refine M_st hS ?_ | refine M_sA hS ?_ | refine M_in hS ?_ | refine M_sR hS ?_); clear hS; intro w hS; (try simp only [List.set_cons_zero, List.set_cons_succ, Nat.zero_add] at hS)) | (refine M_ap hS ?_; clear hS; intro g cap w hS) | refine M_pn ?_) | refine X_k (by (try simp only [Fm.toList, List.set_cons_succ, List.set_cons_zero]); exact rfl) ?_ | refine S_u ?_ | refine S_v ?_ | refine C_sq ?_ | refine C_rg ?_ | refine L_nil ?_ | refine C_bk ?_ | refine C_ct ?_ | refine C_cf ?_ | refine C_sk ?_ | refine C_ex ?_ | refine C_rt ?_ | refine X_e ?_ | refine X_r ?_ | refine X_bh ?_ | refine X_be ?_ | refine X_br ?_ | refine X_bn ?_ | refine X_p ?_ | refine X_bp ?_)
  rintro _ w12 ⟨A12, c12, rfl, hown12, hc12, hb12⟩
  have hS := hS.freshRow hb12.below hown12
  rw [show a3.size = 4 from rfl] at hS ⊢
  have hq := fun w hA hB => equalRxR A5 A12 4 4 c5 c12 (a3.flat 0) (a3.flat 0) w hA hB (by omega) (by omega)
  rw [decide_eq_true (rfl : a3.flat 0 = a3.flat 0)] at hq
  repeat (first | (refine S_w ?_; first | (refine M_c (hq _ hS.sl hS.sl) ?_) | (refine S_y hS ?_) | ((first | refine M_bA hS ?_ | refine M_b1 hS ?_ | refine M_aA hS ?_ | refine M_a1 hS ?_ | refine M_sl hS ?_ | refine M_s1 hS ?_ | refine M_mm hS ?_); clear hS; intro b w hS) | ((first | refine M_st hS ?_ | refine M_sA hS ?_ | refine M_in hS ?_ | refine M_sR hS ?_); clear hS; intro w hS; (try simp only [List.set_cons_zero, List.set_cons_succ, Nat.zero_add] at hS)) | (refine M_ap hS ?_; clear hS; intro g cap w hS) | refine M_pn ?_) | refine X_k (by (try simp only [Fm.toList, List.set_cons_succ, List.set_cons_zero]); exact rfl) ?_ | refine S_u ?_ | refine S_v ?_ | refine C_sq ?_ | refine C_rg ?_ | refine L_nil ?_ | refine C_bk ?_ | refine C_ct ?_ | refine C_cf ?_ | refine C_sk ?_ | refine C_ex ?_ | refine C_rt ?_ | refine X_e ?_ | refine X_r ?_ | refine X_bh ?_ | refine X_be ?_ | refine X_br ?_ | refine X_bn ?_ | refine X_p ?_ | refine X_bp ?_)
  rintro _ w13 ⟨rfl, hb13⟩
  have hS := hS.call hb13
  repeat (first | (refine S_w ?_; first | (refine M_c (readT a4 _ p4 (by decide) _) ?_) | (refine S_y hS ?_) | ((first | refine M_bA hS ?_ | refine M_b1 hS ?_ | refine M_aA hS ?_ | refine M_a1 hS ?_ | refine M_sl hS ?_ | refine M_s1 hS ?_ | refine M_mm hS ?_); clear hS; intro b w hS) | ((first | refine M_st hS ?_ | refine M_sA hS ?_ | refine M_in hS ?_ | refine M_sR hS ?_); clear hS; intro w hS; (try simp only [List.set_cons_zero, List.set_cons_succ, Nat.zero_add] at hS)) | (refine M_ap hS ?_; clear hS; intro g cap w hS) | refine M_pn ?_) | refine X_k (by (try simp only [Fm.toList, List.set_cons_succ, List.set_cons_zero]); exact rfl) ?_ | refine S_u ?_ | refine S_v ?_ | refine C_sq ?_ | refine C_rg ?_ | refine L_nil ?_ | refine C_bk ?_ | refine C_ct ?_ | refine C_cf ?_ | refine C_sk ?_ | refine C_ex ?_ | refine C_rt ?_ | refine X_e ?_ | refine X_r ?_ | refine X_bh ?_ | refine X_be ?_ | refine X_br ?_ | refine X_bn ?_ | refine X_p ?_ | refine X_bp ?_)
  rintro _ w14 ⟨A14, c14, rfl, hown14, hc14, hb14⟩
  have hS := hS.freshRow hb14.below hown14
  rw [show a4.size = 4 from rfl] at hS ⊢
  have hq := fun w hA hB => equalRxR A7 A14 4 4 c7 c14 (a4.flat 0) (a4.flat 0) w hA hB (by omega) (by omega)
  rw [decide_eq_true (rfl : a4.flat 0 = a4.flat 0)] at hq
  repeat (first | (refine S_w ?_; first | (refine M_c (hq _ hS.sl hS.sl) ?_) | (refine S_y hS ?_) | ((first | refine M_bA hS ?_ | refine M_b1 hS ?_ | refine M_aA hS ?_ | refine M_a1 hS ?_ | refine M_sl hS ?_ | refine M_s1 hS ?_ | refine M_mm hS ?_); clear hS; intro b w hS) | ((first | refine M_st hS ?_ | refine M_sA hS ?_ | refine M_in hS ?_ | refine M_sR hS ?_); clear hS; intro w hS; (try simp only [List.set_cons_zero, List.set_cons_succ, Nat.zero_add] at hS)) | (refine M_ap hS ?_; clear hS; intro g cap w hS) | refine M_pn ?_) | refine X_k (by (try simp only [Fm.toList, List.set_cons_succ, List.set_cons_zero]); exact rfl) ?_ | refine S_u ?_ | refine S_v ?_ | refine C_sq ?_ | refine C_rg ?_ | refine L_nil ?_ | refine C_bk ?_ | refine C_ct ?_ | refine C_cf ?_ | refine C_sk ?_ | refine C_ex ?_ | refine C_rt ?_ | refine X_e ?_ | refine X_r ?_ | refine X_bh ?_ | refine X_be ?_ | refine X_br ?_ | refine X_bn ?_ | refine X_p ?_ | refine X_bp ?_)
  rintro _ w15 ⟨rfl, hb15⟩
  have hS := hS.call hb15
  have hl0 : ((spC [(0, 1), (2, 3)]).drop (0 * 2)).take [Value.int .i64 0, Value.int .i64 1].length = [Value.int .i64 0, Value.int .i64 1] := rfl
  have hl1 : ((spC [(0, 1), (2, 3)]).drop (1 * 2)).take [Value.int .i64 2, Value.int .i64 3].length = [Value.int .i64 2, Value.int .i64 3] := rfl
  repeat (first | (refine S_w ?_; first | (refine S_q hS YbP ?_) | (refine S_q hS YeP ?_) | (refine S_y hS ?_) | ((first | refine M_bA hS ?_ | refine M_b1 hS ?_ | refine M_aA hS ?_ | refine M_a1 hS ?_ | refine M_sl hS ?_ | refine M_s1 hS ?_ | refine M_mm hS ?_); clear hS; intro b w hS) | ((first | refine M_st hS ?_ | refine M_sA hS ?_ | refine M_in hS ?_ | refine M_sR hS ?_); clear hS; intro w hS; (try simp only [List.set_cons_zero, List.set_cons_succ, Nat.zero_add] at hS)) | (refine M_ap hS ?_; clear hS; intro g cap w hS) | refine M_pn ?_) | refine X_k (by (try simp only [Fm.toList, List.set_cons_succ, List.set_cons_zero]); exact rfl) ?_ | refine S_u ?_ | refine S_v ?_ | refine C_sq ?_ | refine C_rg ?_ | refine L_nil ?_ | refine C_bk ?_ | refine C_ct ?_ | refine C_cf ?_ | refine C_sk ?_ | refine C_ex ?_ | refine C_rt ?_ | refine X_e ?_ | refine X_r ?_ | refine X_bh ?_ | refine X_be ?_ | refine X_br ?_ | refine X_bn ?_ | refine X_p ?_ | refine X_bp ?_)
  refine V_1 ⟨rfl, hS.fr⟩
end Go.Proofs.Ytebdkmfgfjanoaa
