/-
  match.builder: derive.
-/
import Derived.Test.YtebdkmfgfjanoaaMtDer
namespace Go.Proofs.Ytebdkmfgfjanoaa
open Go.RowKit

section
variable {F : Nat → Prop} {w0 w : World} {rs : List Res} {bp n ce x : Nat} {A : Option Addr} {M : List Pc}
theorem take_cells (L : List Pc) (j : Nat) : (rxCells L).take (j * 5) = rxCells (L.take j) := by
  have h : rxCells L = rxCells (L.take j) ++ rxCells (L.drop j) := by rw [← rxCells_append, List.take_append_drop]
  by_cases hj : j ≤ L.length
  · rw [h, List.take_append_of_le_length (by rw [rxCells_len, List.length_take]; omega), List.take_of_length_le (by rw [rxCells_len, List.length_take]; omega)]
  · rw [List.take_of_length_le (by rw [rxCells_len]; omega), List.take_of_length_le (by omega)]
theorem At.take {L : List Pc} {k : Nat} {t : T} (h : At L k t) : L.take (k + t.size) = L.take k ++ t.flat k := by
  have hlt := h.lt
  apply List.ext_getElem?
  intro i
  rw [List.getElem?_take]
  by_cases hi : i < k
  · rw [if_pos (by omega), List.getElem?_append_left (by rw [List.length_take]; omega), List.getElem?_take, if_pos hi]
  · rw [List.getElem?_append_right (by rw [List.length_take]; omega), List.length_take, Nat.min_eq_left (by omega)]
    by_cases hi2 : i < k + t.size
    · rw [if_pos hi2]
      have hl := T.flat_len k t
      have hx : (t.flat k)[i - k]? = some ((t.flat k)[i - k]'(by omega)) := List.getElem?_eq_getElem _
      rw [hx]
      have := h _ _ hx
      rwa [show k + (i - k) = i by omega] at this
    · rw [if_neg hi2, List.getElem?_eq_none (by rw [T.flat_len]; omega)]
theorem At.tab {v : Int} {L : List Pc} {k : Nat} {t : T} (h : At L k t) (hw : t.wf v) (ws : List Nat) : tabAt (tabsR ws (L.take (k + t.size)) []) (((k + t.size : Nat) : Int) - 1) = mt ws t := by
  have hlt := h.lt
  have hk : (tabsR ws (L.take k) []).length = k := by rw [tabsR_len, List.length_take, List.length_nil]; omega
  rw [h.take, tabsR_append]
  have h1 := tabsR_tree ws t (tabsR ws (L.take k) []) hw
  rw [hk] at h1
  rw [h1]
  have h2 := tabAt_end ws (tabsR ws (L.take k) []) t [] (n := ((k + t.size : Nat) : Int) - 1) (by rw [hk])
  rwa [List.append_nil] at h2
theorem Kids.take {L : List Pc} (h : Kids L) (m : Nat) : Kids (L.take m) := fun i p hp => by
  rw [List.getElem?_take] at hp
  split at hp
  · exact h i p hp
  · cases hp
set_option maxHeartbeats 16000000 in
set_option maxRecDepth 100000 in
theorem bDerR {L : List Pc} (hl : L.length = n) (hn : n ≤ 4294) (hce : n ≤ ce) (hx : x < 256) (hLo : ∀ p ∈ L, p.ok) (hKd : Kids L) {v : Int} : ∀ (t : T) (k : Nat), At L k t → t.wf v → t.plain = true → ∀ (F : Nat → Prop) (w0 : World) (rs : List Res) (w : World) (M : List Pc), Bld F w0 bp A n ce x M rs w → M.length + (der x t).size ≤ 100000 → HasSl rs A n 5 (rxCells L) →
    CallsR Try.prog 42 #[.pointer (some ⟨bp, 0, none⟩), .int .i64 (((k + t.size : Nat) : Int) - 1)] w fun r w' => r = .int .i64 (((M.length + (der x t).size : Nat) : Int) - 1) ∧ Bld F w0 bp A n ce x (M ++ (der x t).flat M.length) rs w' := by
  intro t
  induction t with
  | none =>
    intro k hat hwf hpl F w0 rs w M hO hlen h3
    have hlt := hat.lt
    have hpd := hat.drop
    simp only [pcV, T.root] at hpd
    have hi : 0 ≤ ((k + T.none.size : Nat) : Int) - 1 ∧ ((k + T.none.size : Nat) : Int) - 1 < n := by have : T.none.size = 1 := rfl; omega
    have hq : (((M.length + (der x T.none).size : Nat) : Int) - 1) = (M.length : Nat) := by have : (der x T.none).size = 1 := rfl; omega
    obtain ⟨A7, c7, hS⟩ := hO
    rw [hq]
    refine E_r (m := 113) ?_ Try.func42 rfl Try.ntmps42 rfl; refine C_ft ?_
    repeat (first | (refine S_w ?_; first | (refine M_c (bAddR ⟨1, 0, 0, 0, 0⟩ ⟨_, _, St.mv (l := [_]) (cs := [_, _]) hS⟩ (by omega)) ?_) | (refine S_y hS ?_) | ((first | refine M_bA hS ?_ | refine M_b1 hS ?_ | refine M_aA hS ?_ | refine M_a1 hS ?_ | refine M_sl hS ?_ | refine M_s1 hS ?_ | refine M_mm hS ?_); clear hS; intro b w hS) | ((first | refine M_st hS ?_ | refine M_sA hS ?_ | refine M_in hS ?_ | refine M_sR hS ?_); clear hS; intro w hS; (try simp only [List.set_cons_zero, List.set_cons_succ, Nat.zero_add] at hS)) | (refine M_ap hS ?_; clear hS; intro g cap w hS) | refine M_pn ?_) | refine X_k (by (try simp only [Fm.toList, List.set_cons_succ, List.set_cons_zero]); exact rfl) ?_ | refine S_u ?_ | refine S_v ?_ | refine C_sq ?_ | refine C_rg ?_ | refine L_nil ?_ | refine C_bk ?_ | refine C_ct ?_ | refine C_cf ?_ | refine C_sk ?_ | refine C_ex ?_ | refine C_rt ?_ | refine X_e ?_ | refine X_r ?_ | refine X_bh ?_ | refine X_be ?_ | refine X_br ?_ | refine X_bn ?_ | refine X_p ?_ | refine X_bp ?_)
    rintro _ w1 ⟨rfl, A8, c8, hS⟩
    repeat (first | (refine S_w ?_; first | (refine S_y hS ?_) | ((first | refine M_bA hS ?_ | refine M_b1 hS ?_ | refine M_aA hS ?_ | refine M_a1 hS ?_ | refine M_sl hS ?_ | refine M_s1 hS ?_ | refine M_mm hS ?_); clear hS; intro b w hS) | ((first | refine M_st hS ?_ | refine M_sA hS ?_ | refine M_in hS ?_ | refine M_sR hS ?_); clear hS; intro w hS; (try simp only [List.set_cons_zero, List.set_cons_succ, Nat.zero_add] at hS)) | (refine M_ap hS ?_; clear hS; intro g cap w hS) | refine M_pn ?_) | refine X_k (by (try simp only [Fm.toList, List.set_cons_succ, List.set_cons_zero]); exact rfl) ?_ | refine S_u ?_ | refine S_v ?_ | refine C_sq ?_ | refine C_rg ?_ | refine L_nil ?_ | refine C_bk ?_ | refine C_ct ?_ | refine C_cf ?_ | refine C_sk ?_ | refine C_ex ?_ | refine C_rt ?_ | refine X_e ?_ | refine X_r ?_ | refine X_bh ?_ | refine X_be ?_ | refine X_br ?_ | refine X_bn ?_ | refine X_p ?_ | refine X_bp ?_)
    refine V_1 ⟨rfl, A8, c8, hS.sb⟩
  | empty =>
    intro k hat hwf hpl F w0 rs w M hO hlen h3
    have hlt := hat.lt
    have hpd := hat.drop
    simp only [pcV, T.root] at hpd
    have hi : 0 ≤ ((k + T.empty.size : Nat) : Int) - 1 ∧ ((k + T.empty.size : Nat) : Int) - 1 < n := by have : T.empty.size = 1 := rfl; omega
    have hq : (((M.length + (der x T.empty).size : Nat) : Int) - 1) = (M.length : Nat) := by have : (der x T.empty).size = 1 := rfl; omega
    obtain ⟨A7, c7, hS⟩ := hO
    rw [hq]
    refine E_r (m := 113) ?_ Try.func42 rfl Try.ntmps42 rfl; refine C_ft ?_
    repeat (first | (refine S_w ?_; first | (refine M_c (bAddR ⟨1, 0, 0, 0, 0⟩ ⟨_, _, St.mv (l := [_]) (cs := [_, _]) hS⟩ (by omega)) ?_) | (refine S_y hS ?_) | ((first | refine M_bA hS ?_ | refine M_b1 hS ?_ | refine M_aA hS ?_ | refine M_a1 hS ?_ | refine M_sl hS ?_ | refine M_s1 hS ?_ | refine M_mm hS ?_); clear hS; intro b w hS) | ((first | refine M_st hS ?_ | refine M_sA hS ?_ | refine M_in hS ?_ | refine M_sR hS ?_); clear hS; intro w hS; (try simp only [List.set_cons_zero, List.set_cons_succ, Nat.zero_add] at hS)) | (refine M_ap hS ?_; clear hS; intro g cap w hS) | refine M_pn ?_) | refine X_k (by (try simp only [Fm.toList, List.set_cons_succ, List.set_cons_zero]); exact rfl) ?_ | refine S_u ?_ | refine S_v ?_ | refine C_sq ?_ | refine C_rg ?_ | refine L_nil ?_ | refine C_bk ?_ | refine C_ct ?_ | refine C_cf ?_ | refine C_sk ?_ | refine C_ex ?_ | refine C_rt ?_ | refine X_e ?_ | refine X_r ?_ | refine X_bh ?_ | refine X_be ?_ | refine X_br ?_ | refine X_bn ?_ | refine X_p ?_ | refine X_bp ?_)
    rintro _ w1 ⟨rfl, A8, c8, hS⟩
    repeat (first | (refine S_w ?_; first | (refine S_y hS ?_) | ((first | refine M_bA hS ?_ | refine M_b1 hS ?_ | refine M_aA hS ?_ | refine M_a1 hS ?_ | refine M_sl hS ?_ | refine M_s1 hS ?_ | refine M_mm hS ?_); clear hS; intro b w hS) | ((first | refine M_st hS ?_ | refine M_sA hS ?_ | refine M_in hS ?_ | refine M_sR hS ?_); clear hS; intro w hS; (try simp only [List.set_cons_zero, List.set_cons_succ, Nat.zero_add] at hS)) | (refine M_ap hS ?_; clear hS; intro g cap w hS) | refine M_pn ?_) | refine X_k (by (try simp only [Fm.toList, List.set_cons_succ, List.set_cons_zero]); exact rfl) ?_ | refine S_u ?_ | refine S_v ?_ | refine C_sq ?_ | refine C_rg ?_ | refine L_nil ?_ | refine C_bk ?_ | refine C_ct ?_ | refine C_cf ?_ | refine C_sk ?_ | refine C_ex ?_ | refine C_rt ?_ | refine X_e ?_ | refine X_r ?_ | refine X_bh ?_ | refine X_be ?_ | refine X_br ?_ | refine X_bn ?_ | refine X_p ?_ | refine X_bp ?_)
    refine V_1 ⟨rfl, A8, c8, hS.sb⟩
  | letter p q =>
    intro k hat hwf hpl F w0 rs w M hO hlen h3
    have hlt := hat.lt
    have hpd := hat.drop
    simp only [pcV, T.root] at hpd
    have hpo := hLo _ (List.mem_of_getElem? hat.root)
    have hi : 0 ≤ ((k + (T.letter p q).size : Nat) : Int) - 1 ∧ ((k + (T.letter p q).size : Nat) : Int) - 1 < n := by have : (T.letter p q).size = 1 := rfl; omega
    obtain ⟨A7, c7, hS⟩ := hO
    cases hb : hasB p q x with
    | true =>
      have hd : der x (.letter p q) = .empty := if_pos hb
      rw [hd]
      rw [hd] at hlen
      have hq : (((M.length + T.empty.size : Nat) : Int) - 1) = (M.length : Nat) := by have : T.empty.size = 1 := rfl; omega
      rw [hq]
      refine E_r (m := 113) ?_ Try.func42 rfl Try.ntmps42 rfl; refine C_ft ?_
      repeat (first | (refine S_w ?_; first | (refine S_y hS ?_) | ((first | refine M_bA hS ?_ | refine M_b1 hS ?_ | refine M_aA hS ?_ | refine M_a1 hS ?_ | refine M_sl hS ?_ | refine M_s1 hS ?_ | refine M_mm hS ?_); clear hS; intro b w hS) | ((first | refine M_st hS ?_ | refine M_sA hS ?_ | refine M_in hS ?_ | refine M_sR hS ?_); clear hS; intro w hS; (try simp only [List.set_cons_zero, List.set_cons_succ, Nat.zero_add] at hS)) | (refine M_ap hS ?_; clear hS; intro g cap w hS) | refine M_pn ?_) | refine X_k (by (try simp only [Fm.toList, List.set_cons_succ, List.set_cons_zero]); exact rfl) ?_ | refine S_u ?_ | refine S_v ?_ | refine C_sq ?_ | refine C_rg ?_ | refine L_nil ?_ | refine C_bk ?_ | refine C_ct ?_ | refine C_cf ?_ | refine C_sk ?_ | refine C_ex ?_ | refine C_rt ?_ | refine X_e ?_ | refine X_r ?_ | refine X_bh ?_ | refine X_be ?_ | refine X_br ?_ | refine X_bn ?_ | refine X_p ?_ | refine X_bp ?_)
      refine C_qt hS ?_
      repeat (first | (refine Q_w ?_; first | (refine Q_c (QC_below fun w hS => has_any p q x hpo.pos hpo.neg hx w) ?_) | (refine Q_y ?_)) | refine Q_u ?_)
      refine Q_n ?_; clear hS; intro w hS
      rw [hb]
      repeat (first | (refine S_w ?_; first | (refine M_c (bAddR ⟨2, 0, 0, 0, 0⟩ ⟨_, _, St.mv (l := [_]) (cs := [_, _]) hS⟩ (by omega)) ?_) | (refine S_y hS ?_) | ((first | refine M_bA hS ?_ | refine M_b1 hS ?_ | refine M_aA hS ?_ | refine M_a1 hS ?_ | refine M_sl hS ?_ | refine M_s1 hS ?_ | refine M_mm hS ?_); clear hS; intro b w hS) | ((first | refine M_st hS ?_ | refine M_sA hS ?_ | refine M_in hS ?_ | refine M_sR hS ?_); clear hS; intro w hS; (try simp only [List.set_cons_zero, List.set_cons_succ, Nat.zero_add] at hS)) | (refine M_ap hS ?_; clear hS; intro g cap w hS) | refine M_pn ?_) | refine X_k (by (try simp only [Fm.toList, List.set_cons_succ, List.set_cons_zero]); exact rfl) ?_ | refine S_u ?_ | refine S_v ?_ | refine C_sq ?_ | refine C_rg ?_ | refine L_nil ?_ | refine C_bk ?_ | refine C_ct ?_ | refine C_cf ?_ | refine C_sk ?_ | refine C_ex ?_ | refine C_rt ?_ | refine X_e ?_ | refine X_r ?_ | refine X_bh ?_ | refine X_be ?_ | refine X_br ?_ | refine X_bn ?_ | refine X_p ?_ | refine X_bp ?_)
      rintro _ w1 ⟨rfl, A8, c8, hS⟩
      repeat (first | (refine S_w ?_; first | (refine S_y hS ?_) | ((first | refine M_bA hS ?_ | refine M_b1 hS ?_ | refine M_aA hS ?_ | refine M_a1 hS ?_ | refine M_sl hS ?_ | refine M_s1 hS ?_ | refine M_mm hS ?_); clear hS; intro b w hS) | ((first | refine M_st hS ?_ | refine M_sA hS ?_ | refine M_in hS ?_ | refine M_sR hS ?_); clear hS; intro w hS; (try simp only [List.set_cons_zero, List.set_cons_succ, Nat.zero_add] at hS)) | (refine M_ap hS ?_; clear hS; intro g cap w hS) | refine M_pn ?_) | refine X_k (by (try simp only [Fm.toList, List.set_cons_succ, List.set_cons_zero]); exact rfl) ?_ | refine S_u ?_ | refine S_v ?_ | refine C_sq ?_ | refine C_rg ?_ | refine L_nil ?_ | refine C_bk ?_ | refine C_ct ?_ | refine C_cf ?_ | refine C_sk ?_ | refine C_ex ?_ | refine C_rt ?_ | refine X_e ?_ | refine X_r ?_ | refine X_bh ?_ | refine X_be ?_ | refine X_br ?_ | refine X_bn ?_ | refine X_p ?_ | refine X_bp ?_)
      refine V_1 ⟨rfl, A8, c8, hS.sb⟩
    | false =>
      have hd : der x (.letter p q) = .none := if_neg (by rw [hb]; decide)
      rw [hd]
      rw [hd] at hlen
      have hq : (((M.length + T.none.size : Nat) : Int) - 1) = (M.length : Nat) := by have : T.none.size = 1 := rfl; omega
      rw [hq]
      refine E_r (m := 113) ?_ Try.func42 rfl Try.ntmps42 rfl; refine C_ft ?_
      repeat (first | (refine S_w ?_; first | (refine S_y hS ?_) | ((first | refine M_bA hS ?_ | refine M_b1 hS ?_ | refine M_aA hS ?_ | refine M_a1 hS ?_ | refine M_sl hS ?_ | refine M_s1 hS ?_ | refine M_mm hS ?_); clear hS; intro b w hS) | ((first | refine M_st hS ?_ | refine M_sA hS ?_ | refine M_in hS ?_ | refine M_sR hS ?_); clear hS; intro w hS; (try simp only [List.set_cons_zero, List.set_cons_succ, Nat.zero_add] at hS)) | (refine M_ap hS ?_; clear hS; intro g cap w hS) | refine M_pn ?_) | refine X_k (by (try simp only [Fm.toList, List.set_cons_succ, List.set_cons_zero]); exact rfl) ?_ | refine S_u ?_ | refine S_v ?_ | refine C_sq ?_ | refine C_rg ?_ | refine L_nil ?_ | refine C_bk ?_ | refine C_ct ?_ | refine C_cf ?_ | refine C_sk ?_ | refine C_ex ?_ | refine C_rt ?_ | refine X_e ?_ | refine X_r ?_ | refine X_bh ?_ | refine X_be ?_ | refine X_br ?_ | refine X_bn ?_ | refine X_p ?_ | refine X_bp ?_)
      refine C_qt hS ?_
      repeat (first | (refine Q_w ?_; first | (refine Q_c (QC_below fun w hS => has_any p q x hpo.pos hpo.neg hx w) ?_) | (refine Q_y ?_)) | refine Q_u ?_)
      refine Q_n ?_; clear hS; intro w hS
      rw [hb]
      repeat (first | (refine S_w ?_; first | (refine M_c (bAddR ⟨1, 0, 0, 0, 0⟩ ⟨_, _, St.mv (l := [_]) (cs := [_, _]) hS⟩ (by omega)) ?_) | (refine S_y hS ?_) | ((first | refine M_bA hS ?_ | refine M_b1 hS ?_ | refine M_aA hS ?_ | refine M_a1 hS ?_ | refine M_sl hS ?_ | refine M_s1 hS ?_ | refine M_mm hS ?_); clear hS; intro b w hS) | ((first | refine M_st hS ?_ | refine M_sA hS ?_ | refine M_in hS ?_ | refine M_sR hS ?_); clear hS; intro w hS; (try simp only [List.set_cons_zero, List.set_cons_succ, Nat.zero_add] at hS)) | (refine M_ap hS ?_; clear hS; intro g cap w hS) | refine M_pn ?_) | refine X_k (by (try simp only [Fm.toList, List.set_cons_succ, List.set_cons_zero]); exact rfl) ?_ | refine S_u ?_ | refine S_v ?_ | refine C_sq ?_ | refine C_rg ?_ | refine L_nil ?_ | refine C_bk ?_ | refine C_ct ?_ | refine C_cf ?_ | refine C_sk ?_ | refine C_ex ?_ | refine C_rt ?_ | refine X_e ?_ | refine X_r ?_ | refine X_bh ?_ | refine X_be ?_ | refine X_br ?_ | refine X_bn ?_ | refine X_p ?_ | refine X_bp ?_)
      rintro _ w1 ⟨rfl, A8, c8, hS⟩
      repeat (first | (refine S_w ?_; first | (refine S_y hS ?_) | ((first | refine M_bA hS ?_ | refine M_b1 hS ?_ | refine M_aA hS ?_ | refine M_a1 hS ?_ | refine M_sl hS ?_ | refine M_s1 hS ?_ | refine M_mm hS ?_); clear hS; intro b w hS) | ((first | refine M_st hS ?_ | refine M_sA hS ?_ | refine M_in hS ?_ | refine M_sR hS ?_); clear hS; intro w hS; (try simp only [List.set_cons_zero, List.set_cons_succ, Nat.zero_add] at hS)) | (refine M_ap hS ?_; clear hS; intro g cap w hS) | refine M_pn ?_) | refine X_k (by (try simp only [Fm.toList, List.set_cons_succ, List.set_cons_zero]); exact rfl) ?_ | refine S_u ?_ | refine S_v ?_ | refine C_sq ?_ | refine C_rg ?_ | refine L_nil ?_ | refine C_bk ?_ | refine C_ct ?_ | refine C_cf ?_ | refine C_sk ?_ | refine C_ex ?_ | refine C_rt ?_ | refine X_e ?_ | refine X_r ?_ | refine X_bh ?_ | refine X_be ?_ | refine X_br ?_ | refine X_bn ?_ | refine X_p ?_ | refine X_bp ?_)
      refine V_1 ⟨rfl, A8, c8, hS.sb⟩
  | un op a ih =>
    intro k hat hwf hpl F w0 rs w M hO hlen h3
    have hpl0 := hpl
    have hlt := hat.lt
    have hsa := T.size_pos a
    simp only [T.plain, Bool.and_eq_true, Bool.not_eq_true', isLook] at hpl
    have ih := ih k hat.un hwf.2 hpl.2
    have hsz : (T.un op a).size = a.size + 1 := rfl
    have hpd := hat.drop
    simp only [pcV, T.root] at hpd
    have hk := kids_one.1 hwf.1
    have hi : 0 ≤ ((k + (T.un op a).size : Nat) : Int) - 1 ∧ ((k + (T.un op a).size : Nat) : Int) - 1 < n := by omega
    have hma : (M ++ (der x a).flat M.length).length = M.length + (der x a).size := by rw [List.length_append, T.flat_len]
    obtain ⟨A7, c7, hS⟩ := hO
    have h78 : op = 7 ∨ op = 8 := by
      have := hpl.1
      simp at this
      omega
    rcases h78 with rfl | rfl
    · have hd : der x (.un 7 a) = .un 7 (der x a) := rfl
      rw [hd] at hlen ⊢
      have hsd : (T.un 7 (der x a)).size = (der x a).size + 1 := rfl
      have hq : (((M.length + (T.un 7 (der x a)).size : Nat) : Int) - 1) = ((M ++ (der x a).flat M.length).length : Nat) := by rw [hma]; omega
      have hfl : M ++ (T.un 7 (der x a)).flat M.length = M ++ (der x a).flat M.length ++ [⟨7, 0, 0, ((M.length + (der x a).size : Nat) : Int) - 1, 0⟩] := by simp only [T.flat, T.root, List.append_assoc]
      rw [hfl, hq]
      refine E_r (m := 113) ?_ Try.func42 rfl Try.ntmps42 rfl; refine C_ft ?_
      repeat (first | (refine S_w ?_; first | (refine S_y hS ?_) | ((first | refine M_bA hS ?_ | refine M_b1 hS ?_ | refine M_aA hS ?_ | refine M_a1 hS ?_ | refine M_sl hS ?_ | refine M_s1 hS ?_ | refine M_mm hS ?_); clear hS; intro b w hS) | ((first | refine M_st hS ?_ | refine M_sA hS ?_ | refine M_in hS ?_ | refine M_sR hS ?_); clear hS; intro w hS; (try simp only [List.set_cons_zero, List.set_cons_succ, Nat.zero_add] at hS)) | (refine M_ap hS ?_; clear hS; intro g cap w hS) | refine M_pn ?_) | refine X_k (by (try simp only [Fm.toList, List.set_cons_succ, List.set_cons_zero]); exact rfl) ?_ | refine S_u ?_ | refine S_v ?_ | refine C_sq ?_ | refine C_rg ?_ | refine L_nil ?_ | refine C_bk ?_ | refine C_ct ?_ | refine C_cf ?_ | refine C_sk ?_ | refine C_ex ?_ | refine C_rt ?_ | refine X_e ?_ | refine X_r ?_ | refine X_bh ?_ | refine X_be ?_ | refine X_br ?_ | refine X_bn ?_ | refine X_p ?_ | refine X_bp ?_)
      obtain ⟨pb, rfl⟩ : ∃ y, y = b := ⟨_, rfl⟩
      replace hS : St F w0 (_ :: _ :: _ :: rs) _ := St.mv (l := [_]) (cs := [_, _]) hS
      refine C_ps (fun s : Option Addr × Nat × List Pc => Res.obj bp (.cells [.slice A n ce, vb x, .slice s.1 s.2.2.length s.2.1].toArray 68 (0, 0)) :: Res.row 55 5 (.slice s.1 s.2.2.length s.2.1) s.2.2.length (rxCells s.2.2) :: Res.obj pb (.cells [vb 7, vb 0, vb 0, .int .i64 (((k + a.size : Nat) : Int) - 1), .int .i64 0].toArray 55 (0, 0)) :: rs) (A7, c7, M) (.take 0 (.take 1 (.take 2 (.take 3 (.take 4 (.take 5 (.one 6 (.one 7 (.one 8 (.one 9 .done)))))))))) hS ?_
      clear hS; intro w hS
      (with_reducible apply P_t); rfl; refine P_ys hS (fun s => Yp) ?_
      (with_reducible apply P_t); rfl; refine P_ys hS (fun s => Yfc) ?_
      (with_reducible apply P_t); rfl; refine P_ys hS (fun s => Yld) ?_
      (with_reducible apply P_t); rfl; refine P_ys hS (fun s => Yp) ?_
      (with_reducible apply P_t); rfl; refine P_ys hS (fun s => Yfc) ?_
      (with_reducible apply P_t); rfl; refine P_ys hS (fun s => Yld) ?_
      (with_reducible apply P_one); rfl; refine P_f ?_; intro Q' hQ' hE'
      refine S_w ?_
      refine M_c (ih F w0 _ _ M ⟨_, _, hS⟩ (by omega) (hasSlT (h := h3))) ?_
      rintro _ w1 ⟨rfl, A8, c8, hS⟩
      replace hS : St F w0 (_ :: _ :: _ :: rs) _ := hS
      refine L_nil ?_
      refine hQ' _ _ ⟨(A8, c8, M ++ (der x a).flat M.length), hS⟩ ?_
      clear hQ' hE'
      (with_reducible apply P_one); rfl; refine P_f ?_; intro Q' hQ' hE'
      refine S_w ?_
      refine S_q hS Yp ?_
      refine L_nil ?_
      refine hQ' _ _ ⟨(A8, c8, M ++ (der x a).flat M.length), hS⟩ ?_
      clear hQ' hE'
      (with_reducible apply P_one); rfl; refine P_f ?_; intro Q' hQ' hE'
      refine S_w ?_
      refine M_c (bAddR ⟨7, 0, 0, ((M.length + (der x a).size : Nat) : Int) - 1, 0⟩ ⟨_, _, hS⟩ (by omega)) ?_
      rintro _ w2 ⟨rfl, A9, c9, hS⟩
      replace hS : St F w0 (_ :: _ :: _ :: rs) _ := hS
      refine L_nil ?_
      refine hQ' _ _ ⟨(A9, c9, _), hS⟩ ?_
      clear hQ' hE'
      (with_reducible apply P_one); rfl; refine P_f ?_; intro Q' hQ' hE'
      refine S_w ?_
      refine S_q hS Yp ?_
      refine L_nil ?_
      refine hQ' _ _ ⟨(A9, c9, _), hS⟩ ?_
      clear hQ' hE'
      refine P_d ?_
      repeat (first | (refine S_w ?_; first | (refine S_y hS ?_) | ((first | refine M_bA hS ?_ | refine M_b1 hS ?_ | refine M_aA hS ?_ | refine M_a1 hS ?_ | refine M_sl hS ?_ | refine M_s1 hS ?_ | refine M_mm hS ?_); clear hS; intro b w hS) | ((first | refine M_st hS ?_ | refine M_sA hS ?_ | refine M_in hS ?_ | refine M_sR hS ?_); clear hS; intro w hS; (try simp only [List.set_cons_zero, List.set_cons_succ, Nat.zero_add] at hS)) | (refine M_ap hS ?_; clear hS; intro g cap w hS) | refine M_pn ?_) | refine X_k (by (try simp only [Fm.toList, List.set_cons_succ, List.set_cons_zero]); exact rfl) ?_ | refine S_u ?_ | refine S_v ?_ | refine C_sq ?_ | refine C_rg ?_ | refine L_nil ?_ | refine C_bk ?_ | refine C_ct ?_ | refine C_cf ?_ | refine C_sk ?_ | refine C_ex ?_ | refine C_rt ?_ | refine X_e ?_ | refine X_r ?_ | refine X_bh ?_ | refine X_be ?_ | refine X_br ?_ | refine X_bn ?_ | refine X_p ?_ | refine X_bp ?_)
      refine V_1 ⟨rfl, A9, c9, hS.sb⟩
    · have hd : der x (.un 8 a) = .bin 4 (der x a) (.un 8 a) := rfl
      rw [hd] at hlen ⊢
      have hsd : (T.bin 4 (der x a) (.un 8 a)).size = (der x a).size + (a.size + 1) + 1 := rfl
      have hfl : M ++ (T.bin 4 (der x a) (.un 8 a)).flat M.length = M ++ (der x a).flat M.length ++ (T.un 8 a).flat (M.length + (der x a).size) ++ [⟨4, 0, 0, ((M.length + (der x a).size : Nat) : Int) - 1, ((M.length + (der x a).size + (T.un 8 a).size : Nat) : Int) - 1⟩] := by simp only [T.flat, T.root, List.append_assoc]
      have hm2 : (M ++ (der x a).flat M.length ++ (T.un 8 a).flat (M.length + (der x a).size)).length = M.length + (der x a).size + (a.size + 1) := by rw [List.length_append, hma, T.flat_len, hsz]
      have hq : (((M.length + (T.bin 4 (der x a) (.un 8 a)).size : Nat) : Int) - 1) = ((M ++ (der x a).flat M.length ++ (T.un 8 a).flat (M.length + (der x a).size)).length : Nat) := by rw [hm2]; omega
      have hcp := bCopyR (A := A) (ce := ce) (x := x) (bp := bp) hl (by omega) (.un 8 a) k hat hwf hpl0
      rw [hfl, hq]
      refine E_r (m := 113) ?_ Try.func42 rfl Try.ntmps42 rfl; refine C_ft ?_
      repeat (first | (refine S_w ?_; first | (refine S_y hS ?_) | ((first | refine M_bA hS ?_ | refine M_b1 hS ?_ | refine M_aA hS ?_ | refine M_a1 hS ?_ | refine M_sl hS ?_ | refine M_s1 hS ?_ | refine M_mm hS ?_); clear hS; intro b w hS) | ((first | refine M_st hS ?_ | refine M_sA hS ?_ | refine M_in hS ?_ | refine M_sR hS ?_); clear hS; intro w hS; (try simp only [List.set_cons_zero, List.set_cons_succ, Nat.zero_add] at hS)) | (refine M_ap hS ?_; clear hS; intro g cap w hS) | refine M_pn ?_) | refine X_k (by (try simp only [Fm.toList, List.set_cons_succ, List.set_cons_zero]); exact rfl) ?_ | refine S_u ?_ | refine S_v ?_ | refine C_sq ?_ | refine C_rg ?_ | refine L_nil ?_ | refine C_bk ?_ | refine C_ct ?_ | refine C_cf ?_ | refine C_sk ?_ | refine C_ex ?_ | refine C_rt ?_ | refine X_e ?_ | refine X_r ?_ | refine X_bh ?_ | refine X_be ?_ | refine X_br ?_ | refine X_bn ?_ | refine X_p ?_ | refine X_bp ?_)
      obtain ⟨pb, rfl⟩ : ∃ y, y = b := ⟨_, rfl⟩
      replace hS : St F w0 (_ :: _ :: _ :: rs) _ := St.mv (l := [_]) (cs := [_, _]) hS
      repeat (first | (refine S_w ?_; first | (refine M_c (ih F w0 _ _ M ⟨_, _, hS⟩ (by omega) (hasSlT (h := h3))) ?_) | (refine S_y hS ?_) | ((first | refine M_bA hS ?_ | refine M_b1 hS ?_ | refine M_aA hS ?_ | refine M_a1 hS ?_ | refine M_sl hS ?_ | refine M_s1 hS ?_ | refine M_mm hS ?_); clear hS; intro b w hS) | ((first | refine M_st hS ?_ | refine M_sA hS ?_ | refine M_in hS ?_ | refine M_sR hS ?_); clear hS; intro w hS; (try simp only [List.set_cons_zero, List.set_cons_succ, Nat.zero_add] at hS)) | (refine M_ap hS ?_; clear hS; intro g cap w hS) | refine M_pn ?_) | refine X_k (by (try simp only [Fm.toList, List.set_cons_succ, List.set_cons_zero]); exact rfl) ?_ | refine S_u ?_ | refine S_v ?_ | refine C_sq ?_ | refine C_rg ?_ | refine L_nil ?_ | refine C_bk ?_ | refine C_ct ?_ | refine C_cf ?_ | refine C_sk ?_ | refine C_ex ?_ | refine C_rt ?_ | refine X_e ?_ | refine X_r ?_ | refine X_bh ?_ | refine X_be ?_ | refine X_br ?_ | refine X_bn ?_ | refine X_p ?_ | refine X_bp ?_)
      rintro _ w1 ⟨rfl, A8, c8, hS⟩
      replace hS : St F w0 (_ :: _ :: _ :: rs) _ := hS
      repeat (first | (refine S_w ?_; first | (refine M_c (hcp F w0 _ _ (M ++ (der x a).flat M.length) ⟨_, _, hS⟩ (by omega) (hasSlT (h := h3))) ?_) | (refine S_y hS ?_) | ((first | refine M_bA hS ?_ | refine M_b1 hS ?_ | refine M_aA hS ?_ | refine M_a1 hS ?_ | refine M_sl hS ?_ | refine M_s1 hS ?_ | refine M_mm hS ?_); clear hS; intro b w hS) | ((first | refine M_st hS ?_ | refine M_sA hS ?_ | refine M_in hS ?_ | refine M_sR hS ?_); clear hS; intro w hS; (try simp only [List.set_cons_zero, List.set_cons_succ, Nat.zero_add] at hS)) | (refine M_ap hS ?_; clear hS; intro g cap w hS) | refine M_pn ?_) | refine X_k (by (try simp only [Fm.toList, List.set_cons_succ, List.set_cons_zero]); exact rfl) ?_ | refine S_u ?_ | refine S_v ?_ | refine C_sq ?_ | refine C_rg ?_ | refine L_nil ?_ | refine C_bk ?_ | refine C_ct ?_ | refine C_cf ?_ | refine C_sk ?_ | refine C_ex ?_ | refine C_rt ?_ | refine X_e ?_ | refine X_r ?_ | refine X_bh ?_ | refine X_be ?_ | refine X_br ?_ | refine X_bn ?_ | refine X_p ?_ | refine X_bp ?_)
      rintro _ w2 ⟨rfl, A9, c9, hS⟩
      replace hS : St F w0 (_ :: _ :: _ :: rs) _ := hS
      rw [hma] at hS ⊢
      repeat (first | (refine S_w ?_; first | (refine M_c (bAddR ⟨4, 0, 0, ((M.length + (der x a).size : Nat) : Int) - 1, ((M.length + (der x a).size + (T.un 8 a).size : Nat) : Int) - 1⟩ ⟨_, _, hS⟩ (by omega)) ?_) | (refine S_y hS ?_) | ((first | refine M_bA hS ?_ | refine M_b1 hS ?_ | refine M_aA hS ?_ | refine M_a1 hS ?_ | refine M_sl hS ?_ | refine M_s1 hS ?_ | refine M_mm hS ?_); clear hS; intro b w hS) | ((first | refine M_st hS ?_ | refine M_sA hS ?_ | refine M_in hS ?_ | refine M_sR hS ?_); clear hS; intro w hS; (try simp only [List.set_cons_zero, List.set_cons_succ, Nat.zero_add] at hS)) | (refine M_ap hS ?_; clear hS; intro g cap w hS) | refine M_pn ?_) | refine X_k (by (try simp only [Fm.toList, List.set_cons_succ, List.set_cons_zero]); exact rfl) ?_ | refine S_u ?_ | refine S_v ?_ | refine C_sq ?_ | refine C_rg ?_ | refine L_nil ?_ | refine C_bk ?_ | refine C_ct ?_ | refine C_cf ?_ | refine C_sk ?_ | refine C_ex ?_ | refine C_rt ?_ | refine X_e ?_ | refine X_r ?_ | refine X_bh ?_ | refine X_be ?_ | refine X_br ?_ | refine X_bn ?_ | refine X_p ?_ | refine X_bp ?_)
      rintro _ w3 ⟨rfl, A10, c10, hS⟩
      repeat (first | (refine S_w ?_; first | (refine S_y hS ?_) | ((first | refine M_bA hS ?_ | refine M_b1 hS ?_ | refine M_aA hS ?_ | refine M_a1 hS ?_ | refine M_sl hS ?_ | refine M_s1 hS ?_ | refine M_mm hS ?_); clear hS; intro b w hS) | ((first | refine M_st hS ?_ | refine M_sA hS ?_ | refine M_in hS ?_ | refine M_sR hS ?_); clear hS; intro w hS; (try simp only [List.set_cons_zero, List.set_cons_succ, Nat.zero_add] at hS)) | (refine M_ap hS ?_; clear hS; intro g cap w hS) | refine M_pn ?_) | refine X_k (by (try simp only [Fm.toList, List.set_cons_succ, List.set_cons_zero]); exact rfl) ?_ | refine S_u ?_ | refine S_v ?_ | refine C_sq ?_ | refine C_rg ?_ | refine L_nil ?_ | refine C_bk ?_ | refine C_ct ?_ | refine C_cf ?_ | refine C_sk ?_ | refine C_ex ?_ | refine C_rt ?_ | refine X_e ?_ | refine X_r ?_ | refine X_bh ?_ | refine X_be ?_ | refine X_br ?_ | refine X_bn ?_ | refine X_p ?_ | refine X_bp ?_)
      refine V_1 ⟨rfl, A10, c10, hS.sb⟩
  | bin op a d iha ihd =>
    intro k hat hwf hpl F w0 rs w M hO hlen h3
    have hlt := hat.lt
    have hsa := T.size_pos a
    have hsb := T.size_pos d
    simp only [T.plain, Bool.and_eq_true] at hpl
    have iha := iha k hat.left hwf.2.1 hpl.2.1
    have ihd := ihd (k + a.size) hat.right hwf.2.2 hpl.2.2
    have hsz : (T.bin op a d).size = a.size + d.size + 1 := rfl
    have hpd := hat.drop
    simp only [pcV, T.root] at hpd
    have hk := kids_two.1 hwf.1
    have hi : 0 ≤ ((k + (T.bin op a d).size : Nat) : Int) - 1 ∧ ((k + (T.bin op a d).size : Nat) : Int) - 1 < n := by omega
    have hma : (M ++ (der x a).flat M.length).length = M.length + (der x a).size := by rw [List.length_append, T.flat_len]
    obtain ⟨A7, c7, hS⟩ := hO
    rcases hk with rfl | h56
    · have hcp := bCopyR (A := A) (ce := ce) (x := x) (bp := bp) hl (by omega) d (k + a.size) hat.right hwf.2.2 hpl.2.2
      have hm2 : (M ++ (der x a).flat M.length ++ d.flat (M.length + (der x a).size)).length = M.length + (der x a).size + d.size := by rw [List.length_append, hma, T.flat_len]
      have hsub : (k + a.size) * 5 ≤ n * 5 := by omega
      have hdd : (der x (.bin 4 a d)).size = (if mt [] a 0 0 then (T.bin 5 (.bin 4 (der x a) d) (der x d)) else .bin 4 (der x a) d).size := rfl
      have hr : ∀ w rs, St F w0 rs w → HasSl rs A n 5 (rxCells L) → Rd w 5 (subA A ce (0 : Int).toNat 5) ((((k + a.size : Nat) : Int) - 1 + 1).toNat - (0 : Int).toNat) (rxCells (L.take (k + a.size))) := fun w rs hs h => by
        have := rdSub (i := 0) (j := k + a.size) (h.rd hs) (Nat.zero_le _) (by omega) hce
        rw [show (((k + a.size : Nat) : Int) - 1 + 1).toNat - (0 : Int).toNat = k + a.size - 0 by omega]
        rw [show subL (rxCells L) 0 (k + a.size) 5 = rxCells (L.take (k + a.size)) by rw [← take_cells]; simp [subL]] at this
        exact this
      have hne : (((k + a.size : Nat) : Int) - 1 + 1).toNat - (0 : Int).toNat = k + a.size := by omega
      have htab := hat.left.tab hwf.2.1 []
      have hlenc : M.length + (der x a).size + d.size + 1 ≤ 100000 := by
        rw [hdd] at hlen
        split at hlen
        · have : (T.bin 5 (.bin 4 (der x a) d) (der x d)).size = (der x a).size + d.size + 1 + (der x d).size + 1 := rfl
          omega
        · have : (T.bin 4 (der x a) d).size = (der x a).size + d.size + 1 := rfl
          omega
      have hfl4 : M ++ (T.bin 4 (der x a) d).flat M.length = M ++ (der x a).flat M.length ++ d.flat (M.length + (der x a).size) ++ [⟨4, 0, 0, ((M.length + (der x a).size : Nat) : Int) - 1, ((M.length + (der x a).size + d.size : Nat) : Int) - 1⟩] := by simp only [T.flat, T.root, List.append_assoc]
      refine E_r (m := 113) ?_ Try.func42 rfl Try.ntmps42 rfl; refine C_ft ?_
      repeat (first | (refine S_w ?_; first | (refine S_y hS ?_) | ((first | refine M_bA hS ?_ | refine M_b1 hS ?_ | refine M_aA hS ?_ | refine M_a1 hS ?_ | refine M_sl hS ?_ | refine M_s1 hS ?_ | refine M_mm hS ?_); clear hS; intro b w hS) | ((first | refine M_st hS ?_ | refine M_sA hS ?_ | refine M_in hS ?_ | refine M_sR hS ?_); clear hS; intro w hS; (try simp only [List.set_cons_zero, List.set_cons_succ, Nat.zero_add] at hS)) | (refine M_ap hS ?_; clear hS; intro g cap w hS) | refine M_pn ?_) | refine X_k (by (try simp only [Fm.toList, List.set_cons_succ, List.set_cons_zero]); exact rfl) ?_ | refine S_u ?_ | refine S_v ?_ | refine C_sq ?_ | refine C_rg ?_ | refine L_nil ?_ | refine C_bk ?_ | refine C_ct ?_ | refine C_cf ?_ | refine C_sk ?_ | refine C_ex ?_ | refine C_rt ?_ | refine X_e ?_ | refine X_r ?_ | refine X_bh ?_ | refine X_be ?_ | refine X_br ?_ | refine X_bn ?_ | refine X_p ?_ | refine X_bp ?_)
      obtain ⟨pb, rfl⟩ : ∃ y, y = b := ⟨_, rfl⟩
      replace hS : St F w0 (_ :: _ :: _ :: rs) _ := St.mv (l := [_]) (cs := [_, _]) hS
      repeat (first | (refine S_w ?_; first | (refine M_c (iha F w0 _ _ M ⟨_, _, hS⟩ (by omega) (hasSlT (h := h3))) ?_) | (refine S_y hS ?_) | ((first | refine M_bA hS ?_ | refine M_b1 hS ?_ | refine M_aA hS ?_ | refine M_a1 hS ?_ | refine M_sl hS ?_ | refine M_s1 hS ?_ | refine M_mm hS ?_); clear hS; intro b w hS) | ((first | refine M_st hS ?_ | refine M_sA hS ?_ | refine M_in hS ?_ | refine M_sR hS ?_); clear hS; intro w hS; (try simp only [List.set_cons_zero, List.set_cons_succ, Nat.zero_add] at hS)) | (refine M_ap hS ?_; clear hS; intro g cap w hS) | refine M_pn ?_) | refine X_k (by (try simp only [Fm.toList, List.set_cons_succ, List.set_cons_zero]); exact rfl) ?_ | refine S_u ?_ | refine S_v ?_ | refine C_sq ?_ | refine C_rg ?_ | refine L_nil ?_ | refine C_bk ?_ | refine C_ct ?_ | refine C_cf ?_ | refine C_sk ?_ | refine C_ex ?_ | refine C_rt ?_ | refine X_e ?_ | refine X_r ?_ | refine X_bh ?_ | refine X_be ?_ | refine X_br ?_ | refine X_bn ?_ | refine X_p ?_ | refine X_bp ?_)
      rintro _ w1 ⟨rfl, A8, c8, hS⟩
      replace hS : St F w0 (_ :: _ :: _ :: rs) _ := hS
      repeat (first | (refine S_w ?_; first | (refine M_c (hcp F w0 _ _ (M ++ (der x a).flat M.length) ⟨_, _, hS⟩ (by omega) (hasSlT (h := h3))) ?_) | (refine S_y hS ?_) | ((first | refine M_bA hS ?_ | refine M_b1 hS ?_ | refine M_aA hS ?_ | refine M_a1 hS ?_ | refine M_sl hS ?_ | refine M_s1 hS ?_ | refine M_mm hS ?_); clear hS; intro b w hS) | ((first | refine M_st hS ?_ | refine M_sA hS ?_ | refine M_in hS ?_ | refine M_sR hS ?_); clear hS; intro w hS; (try simp only [List.set_cons_zero, List.set_cons_succ, Nat.zero_add] at hS)) | (refine M_ap hS ?_; clear hS; intro g cap w hS) | refine M_pn ?_) | refine X_k (by (try simp only [Fm.toList, List.set_cons_succ, List.set_cons_zero]); exact rfl) ?_ | refine S_u ?_ | refine S_v ?_ | refine C_sq ?_ | refine C_rg ?_ | refine L_nil ?_ | refine C_bk ?_ | refine C_ct ?_ | refine C_cf ?_ | refine C_sk ?_ | refine C_ex ?_ | refine C_rt ?_ | refine X_e ?_ | refine X_r ?_ | refine X_bh ?_ | refine X_be ?_ | refine X_br ?_ | refine X_bn ?_ | refine X_p ?_ | refine X_bp ?_)
      rintro _ w2 ⟨rfl, A9, c9, hS⟩
      replace hS : St F w0 (_ :: _ :: _ :: rs) _ := hS
      rw [hma] at hS ⊢
      repeat (first | (refine S_w ?_; first | (refine M_c (bAddR ⟨4, 0, 0, ((M.length + (der x a).size : Nat) : Int) - 1, ((M.length + (der x a).size + d.size : Nat) : Int) - 1⟩ ⟨_, _, hS⟩ (by omega)) ?_) | (refine S_y hS ?_) | ((first | refine M_bA hS ?_ | refine M_b1 hS ?_ | refine M_aA hS ?_ | refine M_a1 hS ?_ | refine M_sl hS ?_ | refine M_s1 hS ?_ | refine M_mm hS ?_); clear hS; intro b w hS) | ((first | refine M_st hS ?_ | refine M_sA hS ?_ | refine M_in hS ?_ | refine M_sR hS ?_); clear hS; intro w hS; (try simp only [List.set_cons_zero, List.set_cons_succ, Nat.zero_add] at hS)) | (refine M_ap hS ?_; clear hS; intro g cap w hS) | refine M_pn ?_) | refine X_k (by (try simp only [Fm.toList, List.set_cons_succ, List.set_cons_zero]); exact rfl) ?_ | refine S_u ?_ | refine S_v ?_ | refine C_sq ?_ | refine C_rg ?_ | refine L_nil ?_ | refine C_bk ?_ | refine C_ct ?_ | refine C_cf ?_ | refine C_sk ?_ | refine C_ex ?_ | refine C_rt ?_ | refine X_e ?_ | refine X_r ?_ | refine X_bh ?_ | refine X_be ?_ | refine X_br ?_ | refine X_bn ?_ | refine X_p ?_ | refine X_bp ?_)
      rintro _ w3 ⟨rfl, A10, c10, hS⟩
      replace hS : St F w0 (_ :: _ :: _ :: rs) _ := hS
      rw [← hfl4] at hS
      repeat (first | (refine S_w ?_; first | (refine S_y hS ?_) | ((first | refine M_bA hS ?_ | refine M_b1 hS ?_ | refine M_aA hS ?_ | refine M_a1 hS ?_ | refine M_sl hS ?_ | refine M_s1 hS ?_ | refine M_mm hS ?_); clear hS; intro b w hS) | ((first | refine M_st hS ?_ | refine M_sA hS ?_ | refine M_in hS ?_ | refine M_sR hS ?_); clear hS; intro w hS; (try simp only [List.set_cons_zero, List.set_cons_succ, Nat.zero_add] at hS)) | (refine M_ap hS ?_; clear hS; intro g cap w hS) | refine M_pn ?_) | refine X_k (by (try simp only [Fm.toList, List.set_cons_succ, List.set_cons_zero]); exact rfl) ?_ | refine S_u ?_ | refine S_v ?_ | refine C_sq ?_ | refine C_rg ?_ | refine L_nil ?_ | refine C_bk ?_ | refine C_ct ?_ | refine C_cf ?_ | refine C_sk ?_ | refine C_ex ?_ | refine C_rt ?_ | refine X_e ?_ | refine X_r ?_ | refine X_bh ?_ | refine X_be ?_ | refine X_br ?_ | refine X_bn ?_ | refine X_p ?_ | refine X_bp ?_)
      refine C_pl (.take 0 (.take 1 (.take 2 (.take 3 (.take 4 (.take 5 (.take 6 (.take 7 (.one 8 (.one 9 (.one 10 (.one 11 (.one 12 (.one 13 .done)))))))))))))) hS ?_
      clear hS; intro w hS
      (with_reducible apply P_t); rfl; refine P_y hS (Yp) ?_
      (with_reducible apply P_t); rfl; refine P_y hS (Yp) ?_
      (with_reducible apply P_t); rfl; refine P_y hS (Yfc) ?_
      (with_reducible apply P_t); rfl; refine P_y hS (Yld) ?_
      (with_reducible apply P_t); rfl; refine P_y hS (Yfc) ?_
      (with_reducible apply P_t); rfl; refine P_y hS (Yld) ?_
      (with_reducible apply P_t); rfl; refine P_y hS (by first | exact Yp | exact Ya | exact Yt | exact Yf | exact Yq) ?_
      (with_reducible apply P_t); rfl; refine P_y hS (YsH (hm := hasSlT (h := hasSlT (h := hasSlT (h := h3))))) ?_
      (with_reducible apply P_one); rfl; refine P_f ?_; intro Q' hQ' hE'
      have hrd := hr _ _ hS (hasSlT (h := hasSlT (h := hasSlT (h := h3))))
      refine S_w ?_
      refine M_c (evalR (L.take (k + a.size)) [] _ none _ _ 0 0 _ hrd Rd.nil (fun p hp => hLo p (List.mem_of_mem_take hp)) (hKd.take _) (fun _ h => by cases h) (by omega) (by omega) (by omega)) ?_
      rw [hne, htab]
      rintro _ w4 ⟨tb, tbs, rfl, htbs, hE⟩
      have hS := hS.join hE tabR_own
      obtain ⟨bi, hbi⟩ : ∃ y, tbs[0]? = some y := ⟨tbs[0]'(by omega), List.getElem?_eq_getElem _⟩
      have hrow : ∀ rs, HasSl (tabR (0 + 1) (mt [] a) tb tbs ++ rs) (some ⟨bi, 0, none⟩) (0 + 1) 1 (rowC (0 + 1) (mt [] a) 0) := fun rs => tabRow hbi
      have e1 : (tbs.map (rowV (0 + 1)))[0]? = some (.slice (some ⟨bi, 0, none⟩) (0 + 1) (0 + 1)) := by rw [List.getElem?_map, hbi]; rfl
      have e2 : (rowC (0 + 1) (mt [] a) 0)[0]? = some (.bool (mt [] a 0 0)) := rowC_at (by omega)
      refine L_nil ?_
      refine hQ' _ _ (hS.sub (List.sublist_append_right _ _)) ?_
      clear hQ' hE'
      (with_reducible apply P_one); rfl; refine P_f ?_; intro Q' hQ' hE'
      refine S_w ?_
      refine S_y hS ?_
      refine L_nil ?_
      refine hQ' _ _ (hS.sub (List.sublist_append_right _ _)) ?_
      clear hQ' hE'
      (with_reducible apply P_one); rfl; refine P_f ?_; intro Q' hQ' hE'
      refine S_w ?_
      refine S_y hS ?_
      refine L_nil ?_
      refine hQ' _ _ (hS.sub (List.sublist_append_right _ _)) ?_
      clear hQ' hE'
      (with_reducible apply P_one); rfl; refine P_f ?_; intro Q' hQ' hE'
      refine S_w ?_
      refine S_y hS ?_
      refine L_nil ?_
      refine hQ' _ _ (hS.sub (List.sublist_append_right _ _)) ?_
      clear hQ' hE'
      (with_reducible apply P_one); rfl; refine P_f ?_; intro Q' hQ' hE'
      refine S_w ?_
      refine S_y hS ?_
      refine L_nil ?_
      refine hQ' _ _ (hS.sub (List.sublist_append_right _ _)) ?_
      clear hQ' hE'
      (with_reducible apply P_one); rfl; refine P_f ?_; intro Q' hQ' hE'
      refine S_w ?_
      refine S_q hS Yp ?_
      refine L_nil ?_
      refine hQ' _ _ (hS.sub (List.sublist_append_right _ _)) ?_
      clear hQ' hE'
      replace hS : St F w0 (_ :: _ :: _ :: rs) _ := hS.sub (List.sublist_append_right _ _)
      clear hrow e1 e2 hE
      refine P_d ?_
      cases hmt : mt [] a 0 0 with
      | true =>
        have hd : der x (.bin 4 a d) = .bin 5 (.bin 4 (der x a) d) (der x d) := by simp [der, hmt]
        rw [hd] at hlen ⊢
        have hs4 : (T.bin 4 (der x a) d).size = (der x a).size + d.size + 1 := rfl
        have hs5 : (T.bin 5 (.bin 4 (der x a) d) (der x d)).size = (T.bin 4 (der x a) d).size + (der x d).size + 1 := rfl
        have hm4 : (M ++ (T.bin 4 (der x a) d).flat M.length).length = M.length + (T.bin 4 (der x a) d).size := by rw [List.length_append, T.flat_len]
        have hfst : (((M ++ (der x a).flat M.length ++ d.flat (M.length + (der x a).size)).length : Nat) : Int) = ((M.length + (T.bin 4 (der x a) d).size : Nat) : Int) - 1 := by rw [hm2]; omega
        have hm5 : (M ++ (T.bin 4 (der x a) d).flat M.length ++ (der x d).flat (M.length + (T.bin 4 (der x a) d).size)).length = M.length + (T.bin 4 (der x a) d).size + (der x d).size := by rw [List.length_append, hm4, T.flat_len]
        have hq : (((M.length + (T.bin 5 (.bin 4 (der x a) d) (der x d)).size : Nat) : Int) - 1) = ((M ++ (T.bin 4 (der x a) d).flat M.length ++ (der x d).flat (M.length + (T.bin 4 (der x a) d).size)).length : Nat) := by rw [hm5]; omega
        have hfl : M ++ (T.bin 5 (.bin 4 (der x a) d) (der x d)).flat M.length = M ++ (T.bin 4 (der x a) d).flat M.length ++ (der x d).flat (M.length + (T.bin 4 (der x a) d).size) ++ [⟨5, 0, 0, ((M.length + (T.bin 4 (der x a) d).size : Nat) : Int) - 1, ((M.length + (T.bin 4 (der x a) d).size + (der x d).size : Nat) : Int) - 1⟩] := by
          show M ++ ((T.bin 4 (der x a) d).flat M.length ++ ((der x d).flat (M.length + (T.bin 4 (der x a) d).size) ++ [_])) = _
          simp only [T.root, List.append_assoc]
        rw [hfl, hq, hfst]
        repeat (first | (refine S_w ?_; first | (refine M_c (ihd F w0 _ _ (M ++ (T.bin 4 (der x a) d).flat M.length) ⟨_, _, hS⟩ (by omega) (hasSlT (h := h3))) ?_) | (refine S_y hS ?_) | ((first | refine M_bA hS ?_ | refine M_b1 hS ?_ | refine M_aA hS ?_ | refine M_a1 hS ?_ | refine M_sl hS ?_ | refine M_s1 hS ?_ | refine M_mm hS ?_); clear hS; intro b w hS) | ((first | refine M_st hS ?_ | refine M_sA hS ?_ | refine M_in hS ?_ | refine M_sR hS ?_); clear hS; intro w hS; (try simp only [List.set_cons_zero, List.set_cons_succ, Nat.zero_add] at hS)) | (refine M_ap hS ?_; clear hS; intro g cap w hS) | refine M_pn ?_) | refine X_k (by (try simp only [Fm.toList, List.set_cons_succ, List.set_cons_zero]); exact rfl) ?_ | refine S_u ?_ | refine S_v ?_ | refine C_sq ?_ | refine C_rg ?_ | refine L_nil ?_ | refine C_bk ?_ | refine C_ct ?_ | refine C_cf ?_ | refine C_sk ?_ | refine C_ex ?_ | refine C_rt ?_ | refine X_e ?_ | refine X_r ?_ | refine X_bh ?_ | refine X_be ?_ | refine X_br ?_ | refine X_bn ?_ | refine X_p ?_ | refine X_bp ?_)
        rintro _ w5 ⟨rfl, A11, c11, hS⟩
        replace hS : St F w0 (_ :: _ :: _ :: rs) _ := hS
        rw [hm4] at hS ⊢
        repeat (first | (refine S_w ?_; first | (refine M_c (bAddR ⟨5, 0, 0, ((M.length + (T.bin 4 (der x a) d).size : Nat) : Int) - 1, ((M.length + (T.bin 4 (der x a) d).size + (der x d).size : Nat) : Int) - 1⟩ ⟨_, _, hS⟩ (by omega)) ?_) | (refine S_y hS ?_) | ((first | refine M_bA hS ?_ | refine M_b1 hS ?_ | refine M_aA hS ?_ | refine M_a1 hS ?_ | refine M_sl hS ?_ | refine M_s1 hS ?_ | refine M_mm hS ?_); clear hS; intro b w hS) | ((first | refine M_st hS ?_ | refine M_sA hS ?_ | refine M_in hS ?_ | refine M_sR hS ?_); clear hS; intro w hS; (try simp only [List.set_cons_zero, List.set_cons_succ, Nat.zero_add] at hS)) | (refine M_ap hS ?_; clear hS; intro g cap w hS) | refine M_pn ?_) | refine X_k (by (try simp only [Fm.toList, List.set_cons_succ, List.set_cons_zero]); exact rfl) ?_ | refine S_u ?_ | refine S_v ?_ | refine C_sq ?_ | refine C_rg ?_ | refine L_nil ?_ | refine C_bk ?_ | refine C_ct ?_ | refine C_cf ?_ | refine C_sk ?_ | refine C_ex ?_ | refine C_rt ?_ | refine X_e ?_ | refine X_r ?_ | refine X_bh ?_ | refine X_be ?_ | refine X_br ?_ | refine X_bn ?_ | refine X_p ?_ | refine X_bp ?_)
        rintro _ w6 ⟨rfl, A12, c12, hS⟩
        repeat (first | (refine S_w ?_; first | (refine S_y hS ?_) | ((first | refine M_bA hS ?_ | refine M_b1 hS ?_ | refine M_aA hS ?_ | refine M_a1 hS ?_ | refine M_sl hS ?_ | refine M_s1 hS ?_ | refine M_mm hS ?_); clear hS; intro b w hS) | ((first | refine M_st hS ?_ | refine M_sA hS ?_ | refine M_in hS ?_ | refine M_sR hS ?_); clear hS; intro w hS; (try simp only [List.set_cons_zero, List.set_cons_succ, Nat.zero_add] at hS)) | (refine M_ap hS ?_; clear hS; intro g cap w hS) | refine M_pn ?_) | refine X_k (by (try simp only [Fm.toList, List.set_cons_succ, List.set_cons_zero]); exact rfl) ?_ | refine S_u ?_ | refine S_v ?_ | refine C_sq ?_ | refine C_rg ?_ | refine L_nil ?_ | refine C_bk ?_ | refine C_ct ?_ | refine C_cf ?_ | refine C_sk ?_ | refine C_ex ?_ | refine C_rt ?_ | refine X_e ?_ | refine X_r ?_ | refine X_bh ?_ | refine X_be ?_ | refine X_br ?_ | refine X_bn ?_ | refine X_p ?_ | refine X_bp ?_)
        refine V_1 ⟨rfl, A12, c12, hS.sb⟩
      | false =>
        have hd : der x (.bin 4 a d) = .bin 4 (der x a) d := by simp [der, hmt]
        rw [hd]
        repeat (first | (refine S_w ?_; first | (refine S_y hS ?_) | ((first | refine M_bA hS ?_ | refine M_b1 hS ?_ | refine M_aA hS ?_ | refine M_a1 hS ?_ | refine M_sl hS ?_ | refine M_s1 hS ?_ | refine M_mm hS ?_); clear hS; intro b w hS) | ((first | refine M_st hS ?_ | refine M_sA hS ?_ | refine M_in hS ?_ | refine M_sR hS ?_); clear hS; intro w hS; (try simp only [List.set_cons_zero, List.set_cons_succ, Nat.zero_add] at hS)) | (refine M_ap hS ?_; clear hS; intro g cap w hS) | refine M_pn ?_) | refine X_k (by (try simp only [Fm.toList, List.set_cons_succ, List.set_cons_zero]); exact rfl) ?_ | refine S_u ?_ | refine S_v ?_ | refine C_sq ?_ | refine C_rg ?_ | refine L_nil ?_ | refine C_bk ?_ | refine C_ct ?_ | refine C_cf ?_ | refine C_sk ?_ | refine C_ex ?_ | refine C_rt ?_ | refine X_e ?_ | refine X_r ?_ | refine X_bh ?_ | refine X_be ?_ | refine X_br ?_ | refine X_bn ?_ | refine X_p ?_ | refine X_bp ?_)
        refine V_1 ⟨?_, A10, c10, hS.sb⟩
        rw [hm2]
        congr 1
        have : (T.bin 4 (der x a) d).size = (der x a).size + d.size + 1 := rfl
        omega
    rcases h56 with rfl | rfl
    · have hd : der x (.bin 5 a d) = .bin 5 (der x a) (der x d) := rfl
      rw [hd] at hlen ⊢
      have hsd : (T.bin 5 (der x a) (der x d)).size = (der x a).size + (der x d).size + 1 := rfl
      have hfl : M ++ (T.bin 5 (der x a) (der x d)).flat M.length = M ++ (der x a).flat M.length ++ (der x d).flat (M.length + (der x a).size) ++ [⟨5, 0, 0, ((M.length + (der x a).size : Nat) : Int) - 1, ((M.length + (der x a).size + (der x d).size : Nat) : Int) - 1⟩] := by simp only [T.flat, T.root, List.append_assoc]
      have hm2 : (M ++ (der x a).flat M.length ++ (der x d).flat (M.length + (der x a).size)).length = M.length + (der x a).size + (der x d).size := by rw [List.length_append, hma, T.flat_len]
      have hq : (((M.length + (T.bin 5 (der x a) (der x d)).size : Nat) : Int) - 1) = ((M ++ (der x a).flat M.length ++ (der x d).flat (M.length + (der x a).size)).length : Nat) := by rw [hm2]; omega
      rw [hfl, hq]
      refine E_r (m := 113) ?_ Try.func42 rfl Try.ntmps42 rfl; refine C_ft ?_
      repeat (first | (refine S_w ?_; first | (refine S_y hS ?_) | ((first | refine M_bA hS ?_ | refine M_b1 hS ?_ | refine M_aA hS ?_ | refine M_a1 hS ?_ | refine M_sl hS ?_ | refine M_s1 hS ?_ | refine M_mm hS ?_); clear hS; intro b w hS) | ((first | refine M_st hS ?_ | refine M_sA hS ?_ | refine M_in hS ?_ | refine M_sR hS ?_); clear hS; intro w hS; (try simp only [List.set_cons_zero, List.set_cons_succ, Nat.zero_add] at hS)) | (refine M_ap hS ?_; clear hS; intro g cap w hS) | refine M_pn ?_) | refine X_k (by (try simp only [Fm.toList, List.set_cons_succ, List.set_cons_zero]); exact rfl) ?_ | refine S_u ?_ | refine S_v ?_ | refine C_sq ?_ | refine C_rg ?_ | refine L_nil ?_ | refine C_bk ?_ | refine C_ct ?_ | refine C_cf ?_ | refine C_sk ?_ | refine C_ex ?_ | refine C_rt ?_ | refine X_e ?_ | refine X_r ?_ | refine X_bh ?_ | refine X_be ?_ | refine X_br ?_ | refine X_bn ?_ | refine X_p ?_ | refine X_bp ?_)
      obtain ⟨pb, rfl⟩ : ∃ y, y = b := ⟨_, rfl⟩
      replace hS : St F w0 (_ :: _ :: _ :: rs) _ := St.mv (l := [_]) (cs := [_, _]) hS
      repeat (first | (refine S_w ?_; first | (refine M_c (iha F w0 _ _ M ⟨_, _, hS⟩ (by omega) (hasSlT (h := h3))) ?_) | (refine S_y hS ?_) | ((first | refine M_bA hS ?_ | refine M_b1 hS ?_ | refine M_aA hS ?_ | refine M_a1 hS ?_ | refine M_sl hS ?_ | refine M_s1 hS ?_ | refine M_mm hS ?_); clear hS; intro b w hS) | ((first | refine M_st hS ?_ | refine M_sA hS ?_ | refine M_in hS ?_ | refine M_sR hS ?_); clear hS; intro w hS; (try simp only [List.set_cons_zero, List.set_cons_succ, Nat.zero_add] at hS)) | (refine M_ap hS ?_; clear hS; intro g cap w hS) | refine M_pn ?_) | refine X_k (by (try simp only [Fm.toList, List.set_cons_succ, List.set_cons_zero]); exact rfl) ?_ | refine S_u ?_ | refine S_v ?_ | refine C_sq ?_ | refine C_rg ?_ | refine L_nil ?_ | refine C_bk ?_ | refine C_ct ?_ | refine C_cf ?_ | refine C_sk ?_ | refine C_ex ?_ | refine C_rt ?_ | refine X_e ?_ | refine X_r ?_ | refine X_bh ?_ | refine X_be ?_ | refine X_br ?_ | refine X_bn ?_ | refine X_p ?_ | refine X_bp ?_)
      rintro _ w1 ⟨rfl, A8, c8, hS⟩
      replace hS : St F w0 (_ :: _ :: _ :: rs) _ := hS
      repeat (first | (refine S_w ?_; first | (refine S_y hS ?_) | ((first | refine M_bA hS ?_ | refine M_b1 hS ?_ | refine M_aA hS ?_ | refine M_a1 hS ?_ | refine M_sl hS ?_ | refine M_s1 hS ?_ | refine M_mm hS ?_); clear hS; intro b w hS) | ((first | refine M_st hS ?_ | refine M_sA hS ?_ | refine M_in hS ?_ | refine M_sR hS ?_); clear hS; intro w hS; (try simp only [List.set_cons_zero, List.set_cons_succ, Nat.zero_add] at hS)) | (refine M_ap hS ?_; clear hS; intro g cap w hS) | refine M_pn ?_) | refine X_k (by (try simp only [Fm.toList, List.set_cons_succ, List.set_cons_zero]); exact rfl) ?_ | refine S_u ?_ | refine S_v ?_ | refine C_sq ?_ | refine C_rg ?_ | refine L_nil ?_ | refine C_bk ?_ | refine C_ct ?_ | refine C_cf ?_ | refine C_sk ?_ | refine C_ex ?_ | refine C_rt ?_ | refine X_e ?_ | refine X_r ?_ | refine X_bh ?_ | refine X_be ?_ | refine X_br ?_ | refine X_bn ?_ | refine X_p ?_ | refine X_bp ?_)
      refine C_ps (fun s : Option Addr × Nat × List Pc => Res.obj bp (.cells [.slice A n ce, vb x, .slice s.1 s.2.2.length s.2.1].toArray 68 (0, 0)) :: Res.row 55 5 (.slice s.1 s.2.2.length s.2.1) s.2.2.length (rxCells s.2.2) :: Res.obj pb (.cells [vb 5, vb 0, vb 0, .int .i64 (((k + a.size : Nat) : Int) - 1), .int .i64 (((k + a.size + d.size : Nat) : Int) - 1)].toArray 55 (0, 0)) :: rs) (A8, c8, M ++ (der x a).flat M.length) (.take 0 (.take 1 (.take 2 (.take 3 (.take 4 (.take 5 (.one 6 (.one 7 (.one 8 (.one 9 (.one 10 .done))))))))))) hS ?_
      clear hS; intro w hS
      (with_reducible apply P_t); rfl; refine P_ys hS (fun s => Yp) ?_
      (with_reducible apply P_t); rfl; refine P_ys hS (fun s => Yfc) ?_
      (with_reducible apply P_t); rfl; refine P_ys hS (fun s => Yld) ?_
      (with_reducible apply P_t); rfl; refine P_ys hS (fun s => Yp) ?_
      (with_reducible apply P_t); rfl; refine P_ys hS (fun s => Yp) ?_
      (with_reducible apply P_t); rfl; refine P_ys hS (fun s => Yfc) ?_
      (with_reducible apply P_one); rfl; refine P_f ?_; intro Q' hQ' hE'
      refine S_w ?_
      refine S_q hS Yld ?_
      refine L_nil ?_
      refine hQ' _ _ ⟨(A8, c8, M ++ (der x a).flat M.length), hS⟩ ?_
      clear hQ' hE'
      (with_reducible apply P_one); rfl; refine P_f ?_; intro Q' hQ' hE'
      refine S_w ?_
      refine M_c (ihd F w0 _ _ (M ++ (der x a).flat M.length) ⟨_, _, hS⟩ (by omega) (hasSlT (h := h3))) ?_
      rintro _ w2 ⟨rfl, A9, c9, hS⟩
      replace hS : St F w0 (_ :: _ :: _ :: rs) _ := hS
      rw [hma] at hS ⊢
      refine L_nil ?_
      refine hQ' _ _ ⟨(A9, c9, M ++ (der x a).flat M.length ++ (der x d).flat (M.length + (der x a).size)), hS⟩ ?_
      clear hQ' hE'
      (with_reducible apply P_one); rfl; refine P_f ?_; intro Q' hQ' hE'
      refine S_w ?_
      refine S_q hS Yp ?_
      refine L_nil ?_
      refine hQ' _ _ ⟨(A9, c9, M ++ (der x a).flat M.length ++ (der x d).flat (M.length + (der x a).size)), hS⟩ ?_
      clear hQ' hE'
      (with_reducible apply P_one); rfl; refine P_f ?_; intro Q' hQ' hE'
      refine S_w ?_
      refine M_c (bAddR ⟨5, 0, 0, ((M.length + (der x a).size : Nat) : Int) - 1, ((M.length + (der x a).size + (der x d).size : Nat) : Int) - 1⟩ ⟨_, _, hS⟩ (by omega)) ?_
      rintro _ w3 ⟨rfl, A10, c10, hS⟩
      replace hS : St F w0 (_ :: _ :: _ :: rs) _ := hS
      refine L_nil ?_
      refine hQ' _ _ ⟨(A10, c10, _), hS⟩ ?_
      clear hQ' hE'
      (with_reducible apply P_one); rfl; refine P_f ?_; intro Q' hQ' hE'
      refine S_w ?_
      refine S_q hS Yp ?_
      refine L_nil ?_
      refine hQ' _ _ ⟨(A10, c10, _), hS⟩ ?_
      clear hQ' hE'
      refine P_d ?_
      repeat (first | (refine S_w ?_; first | (refine S_y hS ?_) | ((first | refine M_bA hS ?_ | refine M_b1 hS ?_ | refine M_aA hS ?_ | refine M_a1 hS ?_ | refine M_sl hS ?_ | refine M_s1 hS ?_ | refine M_mm hS ?_); clear hS; intro b w hS) | ((first | refine M_st hS ?_ | refine M_sA hS ?_ | refine M_in hS ?_ | refine M_sR hS ?_); clear hS; intro w hS; (try simp only [List.set_cons_zero, List.set_cons_succ, Nat.zero_add] at hS)) | (refine M_ap hS ?_; clear hS; intro g cap w hS) | refine M_pn ?_) | refine X_k (by (try simp only [Fm.toList, List.set_cons_succ, List.set_cons_zero]); exact rfl) ?_ | refine S_u ?_ | refine S_v ?_ | refine C_sq ?_ | refine C_rg ?_ | refine L_nil ?_ | refine C_bk ?_ | refine C_ct ?_ | refine C_cf ?_ | refine C_sk ?_ | refine C_ex ?_ | refine C_rt ?_ | refine X_e ?_ | refine X_r ?_ | refine X_bh ?_ | refine X_be ?_ | refine X_br ?_ | refine X_bn ?_ | refine X_p ?_ | refine X_bp ?_)
      refine V_1 ⟨rfl, A10, c10, hS.sb⟩
    · have hd : der x (.bin 6 a d) = .bin 6 (der x a) (der x d) := rfl
      rw [hd] at hlen ⊢
      have hsd : (T.bin 6 (der x a) (der x d)).size = (der x a).size + (der x d).size + 1 := rfl
      have hfl : M ++ (T.bin 6 (der x a) (der x d)).flat M.length = M ++ (der x a).flat M.length ++ (der x d).flat (M.length + (der x a).size) ++ [⟨6, 0, 0, ((M.length + (der x a).size : Nat) : Int) - 1, ((M.length + (der x a).size + (der x d).size : Nat) : Int) - 1⟩] := by simp only [T.flat, T.root, List.append_assoc]
      have hm2 : (M ++ (der x a).flat M.length ++ (der x d).flat (M.length + (der x a).size)).length = M.length + (der x a).size + (der x d).size := by rw [List.length_append, hma, T.flat_len]
      have hq : (((M.length + (T.bin 6 (der x a) (der x d)).size : Nat) : Int) - 1) = ((M ++ (der x a).flat M.length ++ (der x d).flat (M.length + (der x a).size)).length : Nat) := by rw [hm2]; omega
      rw [hfl, hq]
      refine E_r (m := 113) ?_ Try.func42 rfl Try.ntmps42 rfl; refine C_ft ?_
      repeat (first | (refine S_w ?_; first | (refine S_y hS ?_) | ((first | refine M_bA hS ?_ | refine M_b1 hS ?_ | refine M_aA hS ?_ | refine M_a1 hS ?_ | refine M_sl hS ?_ | refine M_s1 hS ?_ | refine M_mm hS ?_); clear hS; intro b w hS) | ((first | refine M_st hS ?_ | refine M_sA hS ?_ | refine M_in hS ?_ | refine M_sR hS ?_); clear hS; intro w hS; (try simp only [List.set_cons_zero, List.set_cons_succ, Nat.zero_add] at hS)) | (refine M_ap hS ?_; clear hS; intro g cap w hS) | refine M_pn ?_) | refine X_k (by (try simp only [Fm.toList, List.set_cons_succ, List.set_cons_zero]); exact rfl) ?_ | refine S_u ?_ | refine S_v ?_ | refine C_sq ?_ | refine C_rg ?_ | refine L_nil ?_ | refine C_bk ?_ | refine C_ct ?_ | refine C_cf ?_ | refine C_sk ?_ | refine C_ex ?_ | refine C_rt ?_ | refine X_e ?_ | refine X_r ?_ | refine X_bh ?_ | refine X_be ?_ | refine X_br ?_ | refine X_bn ?_ | refine X_p ?_ | refine X_bp ?_)
      obtain ⟨pb, rfl⟩ : ∃ y, y = b := ⟨_, rfl⟩
      replace hS : St F w0 (_ :: _ :: _ :: rs) _ := St.mv (l := [_]) (cs := [_, _]) hS
      repeat (first | (refine S_w ?_; first | (refine M_c (iha F w0 _ _ M ⟨_, _, hS⟩ (by omega) (hasSlT (h := h3))) ?_) | (refine S_y hS ?_) | ((first | refine M_bA hS ?_ | refine M_b1 hS ?_ | refine M_aA hS ?_ | refine M_a1 hS ?_ | refine M_sl hS ?_ | refine M_s1 hS ?_ | refine M_mm hS ?_); clear hS; intro b w hS) | ((first | refine M_st hS ?_ | refine M_sA hS ?_ | refine M_in hS ?_ | refine M_sR hS ?_); clear hS; intro w hS; (try simp only [List.set_cons_zero, List.set_cons_succ, Nat.zero_add] at hS)) | (refine M_ap hS ?_; clear hS; intro g cap w hS) | refine M_pn ?_) | refine X_k (by (try simp only [Fm.toList, List.set_cons_succ, List.set_cons_zero]); exact rfl) ?_ | refine S_u ?_ | refine S_v ?_ | refine C_sq ?_ | refine C_rg ?_ | refine L_nil ?_ | refine C_bk ?_ | refine C_ct ?_ | refine C_cf ?_ | refine C_sk ?_ | refine C_ex ?_ | refine C_rt ?_ | refine X_e ?_ | refine X_r ?_ | refine X_bh ?_ | refine X_be ?_ | refine X_br ?_ | refine X_bn ?_ | refine X_p ?_ | refine X_bp ?_)
      rintro _ w1 ⟨rfl, A8, c8, hS⟩
      replace hS : St F w0 (_ :: _ :: _ :: rs) _ := hS
      repeat (first | (refine S_w ?_; first | (refine S_y hS ?_) | ((first | refine M_bA hS ?_ | refine M_b1 hS ?_ | refine M_aA hS ?_ | refine M_a1 hS ?_ | refine M_sl hS ?_ | refine M_s1 hS ?_ | refine M_mm hS ?_); clear hS; intro b w hS) | ((first | refine M_st hS ?_ | refine M_sA hS ?_ | refine M_in hS ?_ | refine M_sR hS ?_); clear hS; intro w hS; (try simp only [List.set_cons_zero, List.set_cons_succ, Nat.zero_add] at hS)) | (refine M_ap hS ?_; clear hS; intro g cap w hS) | refine M_pn ?_) | refine X_k (by (try simp only [Fm.toList, List.set_cons_succ, List.set_cons_zero]); exact rfl) ?_ | refine S_u ?_ | refine S_v ?_ | refine C_sq ?_ | refine C_rg ?_ | refine L_nil ?_ | refine C_bk ?_ | refine C_ct ?_ | refine C_cf ?_ | refine C_sk ?_ | refine C_ex ?_ | refine C_rt ?_ | refine X_e ?_ | refine X_r ?_ | refine X_bh ?_ | refine X_be ?_ | refine X_br ?_ | refine X_bn ?_ | refine X_p ?_ | refine X_bp ?_)
      refine C_ps (fun s : Option Addr × Nat × List Pc => Res.obj bp (.cells [.slice A n ce, vb x, .slice s.1 s.2.2.length s.2.1].toArray 68 (0, 0)) :: Res.row 55 5 (.slice s.1 s.2.2.length s.2.1) s.2.2.length (rxCells s.2.2) :: Res.obj pb (.cells [vb 6, vb 0, vb 0, .int .i64 (((k + a.size : Nat) : Int) - 1), .int .i64 (((k + a.size + d.size : Nat) : Int) - 1)].toArray 55 (0, 0)) :: rs) (A8, c8, M ++ (der x a).flat M.length) (.take 0 (.take 1 (.take 2 (.take 3 (.take 4 (.take 5 (.one 6 (.one 7 (.one 8 (.one 9 (.one 10 .done))))))))))) hS ?_
      clear hS; intro w hS
      (with_reducible apply P_t); rfl; refine P_ys hS (fun s => Yp) ?_
      (with_reducible apply P_t); rfl; refine P_ys hS (fun s => Yfc) ?_
      (with_reducible apply P_t); rfl; refine P_ys hS (fun s => Yld) ?_
      (with_reducible apply P_t); rfl; refine P_ys hS (fun s => Yp) ?_
      (with_reducible apply P_t); rfl; refine P_ys hS (fun s => Yp) ?_
      (with_reducible apply P_t); rfl; refine P_ys hS (fun s => Yfc) ?_
      (with_reducible apply P_one); rfl; refine P_f ?_; intro Q' hQ' hE'
      refine S_w ?_
      refine S_q hS Yld ?_
      refine L_nil ?_
      refine hQ' _ _ ⟨(A8, c8, M ++ (der x a).flat M.length), hS⟩ ?_
      clear hQ' hE'
      (with_reducible apply P_one); rfl; refine P_f ?_; intro Q' hQ' hE'
      refine S_w ?_
      refine M_c (ihd F w0 _ _ (M ++ (der x a).flat M.length) ⟨_, _, hS⟩ (by omega) (hasSlT (h := h3))) ?_
      rintro _ w2 ⟨rfl, A9, c9, hS⟩
      replace hS : St F w0 (_ :: _ :: _ :: rs) _ := hS
      rw [hma] at hS ⊢
      refine L_nil ?_
      refine hQ' _ _ ⟨(A9, c9, M ++ (der x a).flat M.length ++ (der x d).flat (M.length + (der x a).size)), hS⟩ ?_
      clear hQ' hE'
      (with_reducible apply P_one); rfl; refine P_f ?_; intro Q' hQ' hE'
      refine S_w ?_
      refine S_q hS Yp ?_
      refine L_nil ?_
      refine hQ' _ _ ⟨(A9, c9, M ++ (der x a).flat M.length ++ (der x d).flat (M.length + (der x a).size)), hS⟩ ?_
      clear hQ' hE'
      (with_reducible apply P_one); rfl; refine P_f ?_; intro Q' hQ' hE'
      refine S_w ?_
      refine M_c (bAddR ⟨6, 0, 0, ((M.length + (der x a).size : Nat) : Int) - 1, ((M.length + (der x a).size + (der x d).size : Nat) : Int) - 1⟩ ⟨_, _, hS⟩ (by omega)) ?_
      rintro _ w3 ⟨rfl, A10, c10, hS⟩
      replace hS : St F w0 (_ :: _ :: _ :: rs) _ := hS
      refine L_nil ?_
      refine hQ' _ _ ⟨(A10, c10, _), hS⟩ ?_
      clear hQ' hE'
      (with_reducible apply P_one); rfl; refine P_f ?_; intro Q' hQ' hE'
      refine S_w ?_
      refine S_q hS Yp ?_
      refine L_nil ?_
      refine hQ' _ _ ⟨(A10, c10, _), hS⟩ ?_
      clear hQ' hE'
      refine P_d ?_
      repeat (first | (refine S_w ?_; first | (refine S_y hS ?_) | ((first | refine M_bA hS ?_ | refine M_b1 hS ?_ | refine M_aA hS ?_ | refine M_a1 hS ?_ | refine M_sl hS ?_ | refine M_s1 hS ?_ | refine M_mm hS ?_); clear hS; intro b w hS) | ((first | refine M_st hS ?_ | refine M_sA hS ?_ | refine M_in hS ?_ | refine M_sR hS ?_); clear hS; intro w hS; (try simp only [List.set_cons_zero, List.set_cons_succ, Nat.zero_add] at hS)) | (refine M_ap hS ?_; clear hS; intro g cap w hS) | refine M_pn ?_) | refine X_k (by (try simp only [Fm.toList, List.set_cons_succ, List.set_cons_zero]); exact rfl) ?_ | refine S_u ?_ | refine S_v ?_ | refine C_sq ?_ | refine C_rg ?_ | refine L_nil ?_ | refine C_bk ?_ | refine C_ct ?_ | refine C_cf ?_ | refine C_sk ?_ | refine C_ex ?_ | refine C_rt ?_ | refine X_e ?_ | refine X_r ?_ | refine X_bh ?_ | refine X_be ?_ | refine X_br ?_ | refine X_bn ?_ | refine X_p ?_ | refine X_bp ?_)
      refine V_1 ⟨rfl, A10, c10, hS.sb⟩
end
end Go.Proofs.Ytebdkmfgfjanoaa
