/-
  The reference's Add.
-/
import Derived.Test.YtijmggoikieelaaRgVa2
namespace Go.Proofs.Ytijmggoikieelaa
open Go.RowKit

theorem one_val (L : List Tb) : one' (L.map Tb.val) = true := by simp [one', Tb.val, Value.oneCell']
/-- what Add answers -/
def addE (m cp : Nat) (MT : List (List Int)) (t : List Int) : Int := if t ∈ MT then 0 else if cp < (Dg.ddT m [] (MT ++ [t])).length then 10 else 0
def addT (m cp : Nat) (MT : List Tb) (t : Tb) : List Tb := if t.xs ∈ MT.map Tb.xs then MT else if cp < (Dg.ddT m [] (MT.map Tb.xs ++ [t.xs])).length then MT else MT ++ [t]
section
variable {F : Nat → Prop} {w0 w : World} {rs : List Res}
/-- the reference's store with its list of tables -/
abbrev rfR (mb m cp : Nat) (MT : List Tb) (A : Option Addr) (c : Nat) (rs : List Res) : List Res := Res.obj mb (rfO m cp MT.length A c) :: Res.rd 1 A MT.length (MT.map Tb.val) :: rs
set_option maxHeartbeats 8000000 in
set_option maxRecDepth 100000 in
theorem raddR {mb m cp c : Nat} {A : Option Addr} {MT : List Tb} {t : Tb} (hm : m ≤ 6) (hl : MT.length ≤ 900) (hlen : ∀ u ∈ MT, u.xs.length = two m) (ht : t.xs.length = two m) (hL : ∀ u ∈ MT, u.res ∈ rs) (hT : t.res ∈ rs) (hS : St F w0 (rfR mb m cp MT A c rs) w) :
    CallsR Try.prog 43 #[.pointer (some ⟨mb, 0, none⟩), t.val] w fun r w' => r = .int .i64 (addE m cp (MT.map Tb.xs) t.xs) ∧ ∃ A' c', St F w0 (rfR mb m cp (addT m cp MT t) A' c' rs) w' := by
  have h64 := two_le6 hm
  have hti : HasSl rs t.A t.xs.length 1 (t.xs.map iv) := ⟨fun h => h.get hT⟩
  have hvL : ∀ u ∈ MT, HasSl (rfR mb m cp MT A c rs) u.A u.xs.length 1 (u.xs.map iv) := fun u hu => ⟨fun h => h.get (.tail _ (.tail _ (hL u hu)))⟩
  refine E_r (m := 35) ?_ Try.func43 rfl Try.ntmps43 rfl; refine C_ft ?_
  repeat (first | (refine S_w ?_; first | (refine M_c (rfindR (A := A) (B := t.A) (n := MT.length) (k := t.xs.length) (ys := t.xs) (L := MT) (by omega) (by omega) (fun u hu => by have := hlen u hu; omega) inferInstance hvL inferInstance hS) ?_) | (refine S_d hS ?_) | (refine S_y hS ?_) | ((first | refine M_bA hS ?_ | refine M_b1 hS ?_ | refine M_aA hS ?_ | refine M_a1 hS ?_ | refine M_sl hS ?_ | refine M_s1 hS ?_ | refine M_mm hS ?_); clear hS; intro b w hS) | ((first | refine M_st hS ?_ | refine M_sA hS ?_ | refine M_in hS ?_ | refine M_sR hS ?_); clear hS; intro w hS; (try simp only [List.set_cons_zero, List.set_cons_succ, Nat.zero_add] at hS)) | (refine M_ap hS ?_; clear hS; intro g cap w hS) | refine M_pn ?_ | ((first | refine M_im hS ?_ | refine M_ii hS ?_ | refine M_dl hS ?_); clear hS; intro w hS)) | refine X_k (by (try simp only [Fm.toList, List.set_cons_succ, List.set_cons_zero]); exact rfl) ?_ | refine S_u ?_ | refine S_v ?_ | refine C_sq ?_ | refine C_rg ?_ | refine L_nil ?_ | refine C_bk ?_ | refine C_ct ?_ | refine C_cf ?_ | refine C_sk ?_ | refine C_ex ?_ | refine C_rt ?_ | refine X_e ?_ | refine X_r ?_ | refine X_bh ?_ | refine X_be ?_ | refine X_br ?_ | refine X_bn ?_ | refine X_p ?_ | refine X_bp ?_)
  rintro _ w1 ⟨⟨z, rfl, hz⟩, hS⟩
  by_cases hin : t.xs ∈ MT.map Tb.xs
  · have hz0 := hz.2 hin
    have e1 : addE m cp (MT.map Tb.xs) t.xs = 0 := if_pos hin
    have e2 : addT m cp MT t = MT := if_pos hin
    rw [e1, e2]
    repeat (first | (refine S_w ?_; first | (refine S_d hS ?_) | (refine S_y hS ?_) | ((first | refine M_bA hS ?_ | refine M_b1 hS ?_ | refine M_aA hS ?_ | refine M_a1 hS ?_ | refine M_sl hS ?_ | refine M_s1 hS ?_ | refine M_mm hS ?_); clear hS; intro b w hS) | ((first | refine M_st hS ?_ | refine M_sA hS ?_ | refine M_in hS ?_ | refine M_sR hS ?_); clear hS; intro w hS; (try simp only [List.set_cons_zero, List.set_cons_succ, Nat.zero_add] at hS)) | (refine M_ap hS ?_; clear hS; intro g cap w hS) | refine M_pn ?_ | ((first | refine M_im hS ?_ | refine M_ii hS ?_ | refine M_dl hS ?_); clear hS; intro w hS)) | refine X_k (by (try simp only [Fm.toList, List.set_cons_succ, List.set_cons_zero]); exact rfl) ?_ | refine S_u ?_ | refine S_v ?_ | refine C_sq ?_ | refine C_rg ?_ | refine L_nil ?_ | refine C_bk ?_ | refine C_ct ?_ | refine C_cf ?_ | refine C_sk ?_ | refine C_ex ?_ | refine C_rt ?_ | refine X_e ?_ | refine X_r ?_ | refine X_bh ?_ | refine X_be ?_ | refine X_br ?_ | refine X_bn ?_ | refine X_p ?_ | refine X_bp ?_)
    refine V_1 ⟨rfl, A, c, hS⟩
  have hz0 : ¬ 0 ≤ z := fun h => hin (hz.1 h)
  have e1 : addE m cp (MT.map Tb.xs) t.xs = if cp < (Dg.ddT m [] ((MT ++ [t]).map Tb.xs)).length then 10 else 0 := by
    rw [List.map_append]; exact if_neg hin
  have e2 : addT m cp MT t = if cp < (Dg.ddT m [] ((MT ++ [t]).map Tb.xs)).length then MT else MT ++ [t] := by
    rw [List.map_append]; exact if_neg hin
  rw [e1, e2]
  have hml : (MT ++ [t]).length = MT.length + 1 := by simp
  have hmv : (MT ++ [t]).map Tb.val = MT.map Tb.val ++ [t.val] := by simp
  have hlen2 : ∀ u ∈ MT ++ [t], u.xs.length = two m := fun u hu => by
    rcases List.mem_append.1 hu with hu | hu
    · exact hlen u hu
    · rw [List.mem_singleton.1 hu]; exact ht
  have hL2 : ∀ u ∈ MT ++ [t], u.res ∈ rs := fun u hu => by
    rcases List.mem_append.1 hu with hu | hu
    · exact hL u hu
    · rw [List.mem_singleton.1 hu]; exact hT
  have h1v := one_val MT
  by_cases h0 : MT.length = 0
  · obtain rfl := List.length_eq_zero_iff.1 h0
    have hS := hS.rowNil 29 1
    repeat (first | (refine S_w ?_; first | (refine S_d hS ?_) | (refine S_y hS ?_) | ((first | refine M_bA hS ?_ | refine M_b1 hS ?_ | refine M_aA hS ?_ | refine M_a1 hS ?_ | refine M_sl hS ?_ | refine M_s1 hS ?_ | refine M_mm hS ?_); clear hS; intro b w hS) | ((first | refine M_st hS ?_ | refine M_sA hS ?_ | refine M_in hS ?_ | refine M_sR hS ?_); clear hS; intro w hS; (try simp only [List.set_cons_zero, List.set_cons_succ, Nat.zero_add] at hS)) | (refine M_ap hS ?_; clear hS; intro g cap w hS) | refine M_pn ?_ | ((first | refine M_im hS ?_ | refine M_ii hS ?_ | refine M_dl hS ?_); clear hS; intro w hS)) | refine X_k (by (try simp only [Fm.toList, List.set_cons_succ, List.set_cons_zero]); exact rfl) ?_ | refine S_u ?_ | refine S_v ?_ | refine C_sq ?_ | refine C_rg ?_ | refine L_nil ?_ | refine C_bk ?_ | refine C_ct ?_ | refine C_cf ?_ | refine C_sk ?_ | refine C_ex ?_ | refine C_rt ?_ | refine X_e ?_ | refine X_r ?_ | refine X_bh ?_ | refine X_be ?_ | refine X_br ?_ | refine X_bn ?_ | refine X_p ?_ | refine X_bp ?_)
    refine S_w ?_
    refine M_a0 hS ?_ (hi := (by rfl : infoT Try.prog 29 1 = true)) (hsz := by decide)
    clear hS
    intro w hS
    repeat (first | (refine S_w ?_; first | (refine S_d hS ?_) | (refine S_y hS ?_) | ((first | refine M_bA hS ?_ | refine M_b1 hS ?_ | refine M_aA hS ?_ | refine M_a1 hS ?_ | refine M_sl hS ?_ | refine M_s1 hS ?_ | refine M_mm hS ?_); clear hS; intro b w hS) | ((first | refine M_st hS ?_ | refine M_sA hS ?_ | refine M_in hS ?_ | refine M_sR hS ?_); clear hS; intro w hS; (try simp only [List.set_cons_zero, List.set_cons_succ, Nat.zero_add] at hS)) | (refine M_ap hS ?_; clear hS; intro g cap w hS) | refine M_pn ?_ | ((first | refine M_im hS ?_ | refine M_ii hS ?_ | refine M_dl hS ?_); clear hS; intro w hS)) | refine X_k (by (try simp only [Fm.toList, List.set_cons_succ, List.set_cons_zero]); exact rfl) ?_ | refine S_u ?_ | refine S_v ?_ | refine C_sq ?_ | refine C_rg ?_ | refine L_nil ?_ | refine C_bk ?_ | refine C_ct ?_ | refine C_cf ?_ | refine C_sk ?_ | refine C_ex ?_ | refine C_rt ?_ | refine X_e ?_ | refine X_r ?_ | refine X_bh ?_ | refine X_be ?_ | refine X_br ?_ | refine X_bn ?_ | refine X_p ?_ | refine X_bp ?_)
    have hS : St F w0 (Res.row 29 1 (.slice (some ⟨g, 0, none⟩) (([] : List Tb).length + 1) cap) (([] : List Tb).length + 1) (([] : List Tb).map Tb.val ++ [t.val]) :: rfR mb m cp [] A c rs) w := hS.sb
    rw [← hml, ← hmv] at hS
    rw [show 0 + 1 = ([] ++ [t] : List Tb).length from rfl]
    have hS := hS.rowRd
    refine C_pl (.take 0 (.take 1 (.take 2 (.take 3 (.take 4 (.take 7 (.take 8 (.take 9 (.take 10 (.one 5 (.one 6 (.one 11 .done)))))))))))) hS ?_
    clear hS
    intro w hS
    repeat ((with_reducible apply P_t); rfl; first | (refine P_yy hS.sb ?_) | refine P_z hS.sb ?_)
    (with_reducible apply P_one); rfl; refine P_f ?_; intro Q' hQ' hE'
    refine S_w ?_
    refine M_c (rnodesR (A := some ⟨g, 0, none⟩) (n := ([] ++ [t]).length) (c := cap) (L := [] ++ [t]) hm (by omega) hlen2 inferInstance (fun u hu => .tail _ (.tail _ (.tail _ (hL2 u hu)))) hS) ?_
    rintro _ w5 ⟨B, d, rfl, hS⟩
    (try refine L_nil ?_); refine hQ' _ _ hS.sb ?_; clear hQ' hE'
    (with_reducible apply P_one); rfl; refine P_f ?_; intro Q' hQ' hE'
    repeat (first | (refine S_w ?_; first | (refine S_d hS ?_) | (refine S_y hS ?_) | ((first | refine M_bA hS ?_ | refine M_b1 hS ?_ | refine M_aA hS ?_ | refine M_a1 hS ?_ | refine M_sl hS ?_ | refine M_s1 hS ?_ | refine M_mm hS ?_); clear hS; intro b w hS) | ((first | refine M_st hS ?_ | refine M_sA hS ?_ | refine M_in hS ?_ | refine M_sR hS ?_); clear hS; intro w hS; (try simp only [List.set_cons_zero, List.set_cons_succ, Nat.zero_add] at hS)) | (refine M_ap hS ?_; clear hS; intro g cap w hS) | refine M_pn ?_ | ((first | refine M_im hS ?_ | refine M_ii hS ?_ | refine M_dl hS ?_); clear hS; intro w hS)) | refine X_k (by (try simp only [Fm.toList, List.set_cons_succ, List.set_cons_zero]); exact rfl) ?_ | refine S_u ?_ | refine S_v ?_ | refine C_sq ?_ | refine C_rg ?_ | refine L_nil ?_ | refine C_bk ?_ | refine C_ct ?_ | refine C_cf ?_ | refine C_sk ?_ | refine C_ex ?_ | refine C_rt ?_ | refine X_e ?_ | refine X_r ?_ | refine X_bh ?_ | refine X_be ?_ | refine X_br ?_ | refine X_bn ?_ | refine X_p ?_ | refine X_bp ?_)
    (try refine L_nil ?_); refine hQ' _ _ hS.sb ?_; clear hQ' hE'
    by_cases hlt : cp < (Dg.ddT m [] (([] ++ [t]).map Tb.xs)).length
    · rw [if_pos hlt, if_pos hlt]
      (with_reducible apply P_one); rfl; refine P_f ?_; intro Q' hQ' hE'
      repeat (first | (refine S_w ?_; first | (refine S_d hS ?_) | (refine S_y hS ?_) | ((first | refine M_bA hS ?_ | refine M_b1 hS ?_ | refine M_aA hS ?_ | refine M_a1 hS ?_ | refine M_sl hS ?_ | refine M_s1 hS ?_ | refine M_mm hS ?_); clear hS; intro b w hS) | ((first | refine M_st hS ?_ | refine M_sA hS ?_ | refine M_in hS ?_ | refine M_sR hS ?_); clear hS; intro w hS; (try simp only [List.set_cons_zero, List.set_cons_succ, Nat.zero_add] at hS)) | (refine M_ap hS ?_; clear hS; intro g cap w hS) | refine M_pn ?_ | ((first | refine M_im hS ?_ | refine M_ii hS ?_ | refine M_dl hS ?_); clear hS; intro w hS)) | refine X_k (by (try simp only [Fm.toList, List.set_cons_succ, List.set_cons_zero]); exact rfl) ?_ | refine S_u ?_ | refine S_v ?_ | refine C_sq ?_ | refine C_rg ?_ | refine L_nil ?_ | refine C_bk ?_ | refine C_ct ?_ | refine C_cf ?_ | refine C_sk ?_ | refine C_ex ?_ | refine C_rt ?_ | refine X_e ?_ | refine X_r ?_ | refine X_bh ?_ | refine X_be ?_ | refine X_br ?_ | refine X_bn ?_ | refine X_p ?_ | refine X_bp ?_)
      (try refine L_nil ?_); refine hQ' _ _ hS.sb ?_; clear hQ' hE'
      refine P_d ?_
      repeat (first | (refine S_w ?_; first | (refine S_d hS ?_) | (refine S_y hS ?_) | ((first | refine M_bA hS ?_ | refine M_b1 hS ?_ | refine M_aA hS ?_ | refine M_a1 hS ?_ | refine M_sl hS ?_ | refine M_s1 hS ?_ | refine M_mm hS ?_); clear hS; intro b w hS) | ((first | refine M_st hS ?_ | refine M_sA hS ?_ | refine M_in hS ?_ | refine M_sR hS ?_); clear hS; intro w hS; (try simp only [List.set_cons_zero, List.set_cons_succ, Nat.zero_add] at hS)) | (refine M_ap hS ?_; clear hS; intro g cap w hS) | refine M_pn ?_ | ((first | refine M_im hS ?_ | refine M_ii hS ?_ | refine M_dl hS ?_); clear hS; intro w hS)) | refine X_k (by (try simp only [Fm.toList, List.set_cons_succ, List.set_cons_zero]); exact rfl) ?_ | refine S_u ?_ | refine S_v ?_ | refine C_sq ?_ | refine C_rg ?_ | refine L_nil ?_ | refine C_bk ?_ | refine C_ct ?_ | refine C_cf ?_ | refine C_sk ?_ | refine C_ex ?_ | refine C_rt ?_ | refine X_e ?_ | refine X_r ?_ | refine X_bh ?_ | refine X_be ?_ | refine X_br ?_ | refine X_bn ?_ | refine X_p ?_ | refine X_bp ?_)
      refine V_1 ⟨rfl, A, c, hS.drop⟩
    · rw [if_neg hlt, if_neg hlt]
      (with_reducible apply P_one); rfl; refine P_f ?_; intro Q' hQ' hE'
      repeat (first | (refine S_w ?_; first | (refine S_d hS ?_) | (refine S_y hS ?_) | ((first | refine M_bA hS ?_ | refine M_b1 hS ?_ | refine M_aA hS ?_ | refine M_a1 hS ?_ | refine M_sl hS ?_ | refine M_s1 hS ?_ | refine M_mm hS ?_); clear hS; intro b w hS) | ((first | refine M_st hS ?_ | refine M_sA hS ?_ | refine M_in hS ?_ | refine M_sR hS ?_); clear hS; intro w hS; (try simp only [List.set_cons_zero, List.set_cons_succ, Nat.zero_add] at hS)) | (refine M_ap hS ?_; clear hS; intro g cap w hS) | refine M_pn ?_ | ((first | refine M_im hS ?_ | refine M_ii hS ?_ | refine M_dl hS ?_); clear hS; intro w hS)) | refine X_k (by (try simp only [Fm.toList, List.set_cons_succ, List.set_cons_zero]); exact rfl) ?_ | refine S_u ?_ | refine S_v ?_ | refine C_sq ?_ | refine C_rg ?_ | refine L_nil ?_ | refine C_bk ?_ | refine C_ct ?_ | refine C_cf ?_ | refine C_sk ?_ | refine C_ex ?_ | refine C_rt ?_ | refine X_e ?_ | refine X_r ?_ | refine X_bh ?_ | refine X_be ?_ | refine X_br ?_ | refine X_bn ?_ | refine X_p ?_ | refine X_bp ?_)
      (try refine L_nil ?_); refine hQ' _ _ hS.sb ?_; clear hQ' hE'
      refine P_d ?_
      repeat (first | (refine S_w ?_; first | (refine S_d hS ?_) | (refine S_y hS ?_) | ((first | refine M_bA hS ?_ | refine M_b1 hS ?_ | refine M_aA hS ?_ | refine M_a1 hS ?_ | refine M_sl hS ?_ | refine M_s1 hS ?_ | refine M_mm hS ?_); clear hS; intro b w hS) | ((first | refine M_st hS ?_ | refine M_sA hS ?_ | refine M_in hS ?_ | refine M_sR hS ?_); clear hS; intro w hS; (try simp only [List.set_cons_zero, List.set_cons_succ, Nat.zero_add] at hS)) | (refine M_ap hS ?_; clear hS; intro g cap w hS) | refine M_pn ?_ | ((first | refine M_im hS ?_ | refine M_ii hS ?_ | refine M_dl hS ?_); clear hS; intro w hS)) | refine X_k (by (try simp only [Fm.toList, List.set_cons_succ, List.set_cons_zero]); exact rfl) ?_ | refine S_u ?_ | refine S_v ?_ | refine C_sq ?_ | refine C_rg ?_ | refine L_nil ?_ | refine C_bk ?_ | refine C_ct ?_ | refine C_cf ?_ | refine C_sk ?_ | refine C_ex ?_ | refine C_rt ?_ | refine X_e ?_ | refine X_r ?_ | refine X_bh ?_ | refine X_be ?_ | refine X_br ?_ | refine X_bn ?_ | refine X_p ?_ | refine X_bp ?_)
      refine V_1 ⟨rfl, some ⟨g, 0, none⟩, cap, ?_⟩
      have hS := hS.prm (List.Perm.swap _ _ _)
      exact hS.sb
  · have hS := hS.rowNil 29 1
    repeat (first | (refine S_w ?_; first | (refine S_d hS ?_) | (refine S_y hS ?_) | ((first | refine M_bA hS ?_ | refine M_b1 hS ?_ | refine M_aA hS ?_ | refine M_a1 hS ?_ | refine M_sl hS ?_ | refine M_s1 hS ?_ | refine M_mm hS ?_); clear hS; intro b w hS) | ((first | refine M_st hS ?_ | refine M_sA hS ?_ | refine M_in hS ?_ | refine M_sR hS ?_); clear hS; intro w hS; (try simp only [List.set_cons_zero, List.set_cons_succ, Nat.zero_add] at hS)) | (refine M_ap hS ?_; clear hS; intro g cap w hS) | refine M_pn ?_ | ((first | refine M_im hS ?_ | refine M_ii hS ?_ | refine M_dl hS ?_); clear hS; intro w hS)) | refine X_k (by (try simp only [Fm.toList, List.set_cons_succ, List.set_cons_zero]); exact rfl) ?_ | refine S_u ?_ | refine S_v ?_ | refine C_sq ?_ | refine C_rg ?_ | refine L_nil ?_ | refine C_bk ?_ | refine C_ct ?_ | refine C_cf ?_ | refine C_sk ?_ | refine C_ex ?_ | refine C_rt ?_ | refine X_e ?_ | refine X_r ?_ | refine X_bh ?_ | refine X_be ?_ | refine X_br ?_ | refine X_bn ?_ | refine X_p ?_ | refine X_bp ?_)
    refine S_w ?_
    refine M_aR (xs := []) (n := 0) hS ?_
    clear hS
    intro g cap w hS
    rw [Nat.zero_add MT.length] at hS ⊢
    repeat (first | (refine S_w ?_; first | (refine S_d hS ?_) | (refine S_y hS ?_) | ((first | refine M_bA hS ?_ | refine M_b1 hS ?_ | refine M_aA hS ?_ | refine M_a1 hS ?_ | refine M_sl hS ?_ | refine M_s1 hS ?_ | refine M_mm hS ?_); clear hS; intro b w hS) | ((first | refine M_st hS ?_ | refine M_sA hS ?_ | refine M_in hS ?_ | refine M_sR hS ?_); clear hS; intro w hS; (try simp only [List.set_cons_zero, List.set_cons_succ, Nat.zero_add] at hS)) | (refine M_ap hS ?_; clear hS; intro g cap w hS) | refine M_pn ?_ | ((first | refine M_im hS ?_ | refine M_ii hS ?_ | refine M_dl hS ?_); clear hS; intro w hS)) | refine X_k (by (try simp only [Fm.toList, List.set_cons_succ, List.set_cons_zero]); exact rfl) ?_ | refine S_u ?_ | refine S_v ?_ | refine C_sq ?_ | refine C_rg ?_ | refine L_nil ?_ | refine C_bk ?_ | refine C_ct ?_ | refine C_cf ?_ | refine C_sk ?_ | refine C_ex ?_ | refine C_rt ?_ | refine X_e ?_ | refine X_r ?_ | refine X_bh ?_ | refine X_be ?_ | refine X_br ?_ | refine X_bn ?_ | refine X_p ?_ | refine X_bp ?_)
    have hS : St F w0 (Res.row 29 1 (.slice (some ⟨g, 0, none⟩) (MT.length + 1) cap) (MT.length + 1) (MT.map Tb.val ++ [t.val]) :: rfR mb m cp MT A c rs) w := hS.sb
    rw [← hml, ← hmv] at hS
    rw [← hml]
    have hS := hS.rowRd
    refine C_pl (.take 0 (.take 1 (.take 2 (.take 3 (.take 4 (.take 7 (.take 8 (.take 9 (.take 10 (.one 5 (.one 6 (.one 11 .done)))))))))))) hS ?_
    clear hS
    intro w hS
    repeat ((with_reducible apply P_t); rfl; first | (refine P_yy hS.sb ?_) | refine P_z hS.sb ?_)
    (with_reducible apply P_one); rfl; refine P_f ?_; intro Q' hQ' hE'
    refine S_w ?_
    refine M_c (rnodesR (A := some ⟨g, 0, none⟩) (n := (MT ++ [t]).length) (c := cap) (L := MT ++ [t]) hm (by omega) hlen2 inferInstance (fun u hu => .tail _ (.tail _ (.tail _ (hL2 u hu)))) hS) ?_
    rintro _ w5 ⟨B, d, rfl, hS⟩
    (try refine L_nil ?_); refine hQ' _ _ hS.sb ?_; clear hQ' hE'
    (with_reducible apply P_one); rfl; refine P_f ?_; intro Q' hQ' hE'
    repeat (first | (refine S_w ?_; first | (refine S_d hS ?_) | (refine S_y hS ?_) | ((first | refine M_bA hS ?_ | refine M_b1 hS ?_ | refine M_aA hS ?_ | refine M_a1 hS ?_ | refine M_sl hS ?_ | refine M_s1 hS ?_ | refine M_mm hS ?_); clear hS; intro b w hS) | ((first | refine M_st hS ?_ | refine M_sA hS ?_ | refine M_in hS ?_ | refine M_sR hS ?_); clear hS; intro w hS; (try simp only [List.set_cons_zero, List.set_cons_succ, Nat.zero_add] at hS)) | (refine M_ap hS ?_; clear hS; intro g cap w hS) | refine M_pn ?_ | ((first | refine M_im hS ?_ | refine M_ii hS ?_ | refine M_dl hS ?_); clear hS; intro w hS)) | refine X_k (by (try simp only [Fm.toList, List.set_cons_succ, List.set_cons_zero]); exact rfl) ?_ | refine S_u ?_ | refine S_v ?_ | refine C_sq ?_ | refine C_rg ?_ | refine L_nil ?_ | refine C_bk ?_ | refine C_ct ?_ | refine C_cf ?_ | refine C_sk ?_ | refine C_ex ?_ | refine C_rt ?_ | refine X_e ?_ | refine X_r ?_ | refine X_bh ?_ | refine X_be ?_ | refine X_br ?_ | refine X_bn ?_ | refine X_p ?_ | refine X_bp ?_)
    (try refine L_nil ?_); refine hQ' _ _ hS.sb ?_; clear hQ' hE'
    by_cases hlt : cp < (Dg.ddT m [] ((MT ++ [t]).map Tb.xs)).length
    · rw [if_pos hlt, if_pos hlt]
      (with_reducible apply P_one); rfl; refine P_f ?_; intro Q' hQ' hE'
      repeat (first | (refine S_w ?_; first | (refine S_d hS ?_) | (refine S_y hS ?_) | ((first | refine M_bA hS ?_ | refine M_b1 hS ?_ | refine M_aA hS ?_ | refine M_a1 hS ?_ | refine M_sl hS ?_ | refine M_s1 hS ?_ | refine M_mm hS ?_); clear hS; intro b w hS) | ((first | refine M_st hS ?_ | refine M_sA hS ?_ | refine M_in hS ?_ | refine M_sR hS ?_); clear hS; intro w hS; (try simp only [List.set_cons_zero, List.set_cons_succ, Nat.zero_add] at hS)) | (refine M_ap hS ?_; clear hS; intro g cap w hS) | refine M_pn ?_ | ((first | refine M_im hS ?_ | refine M_ii hS ?_ | refine M_dl hS ?_); clear hS; intro w hS)) | refine X_k (by (try simp only [Fm.toList, List.set_cons_succ, List.set_cons_zero]); exact rfl) ?_ | refine S_u ?_ | refine S_v ?_ | refine C_sq ?_ | refine C_rg ?_ | refine L_nil ?_ | refine C_bk ?_ | refine C_ct ?_ | refine C_cf ?_ | refine C_sk ?_ | refine C_ex ?_ | refine C_rt ?_ | refine X_e ?_ | refine X_r ?_ | refine X_bh ?_ | refine X_be ?_ | refine X_br ?_ | refine X_bn ?_ | refine X_p ?_ | refine X_bp ?_)
      (try refine L_nil ?_); refine hQ' _ _ hS.sb ?_; clear hQ' hE'
      refine P_d ?_
      repeat (first | (refine S_w ?_; first | (refine S_d hS ?_) | (refine S_y hS ?_) | ((first | refine M_bA hS ?_ | refine M_b1 hS ?_ | refine M_aA hS ?_ | refine M_a1 hS ?_ | refine M_sl hS ?_ | refine M_s1 hS ?_ | refine M_mm hS ?_); clear hS; intro b w hS) | ((first | refine M_st hS ?_ | refine M_sA hS ?_ | refine M_in hS ?_ | refine M_sR hS ?_); clear hS; intro w hS; (try simp only [List.set_cons_zero, List.set_cons_succ, Nat.zero_add] at hS)) | (refine M_ap hS ?_; clear hS; intro g cap w hS) | refine M_pn ?_ | ((first | refine M_im hS ?_ | refine M_ii hS ?_ | refine M_dl hS ?_); clear hS; intro w hS)) | refine X_k (by (try simp only [Fm.toList, List.set_cons_succ, List.set_cons_zero]); exact rfl) ?_ | refine S_u ?_ | refine S_v ?_ | refine C_sq ?_ | refine C_rg ?_ | refine L_nil ?_ | refine C_bk ?_ | refine C_ct ?_ | refine C_cf ?_ | refine C_sk ?_ | refine C_ex ?_ | refine C_rt ?_ | refine X_e ?_ | refine X_r ?_ | refine X_bh ?_ | refine X_be ?_ | refine X_br ?_ | refine X_bn ?_ | refine X_p ?_ | refine X_bp ?_)
      refine V_1 ⟨rfl, A, c, hS.drop⟩
    · rw [if_neg hlt, if_neg hlt]
      (with_reducible apply P_one); rfl; refine P_f ?_; intro Q' hQ' hE'
      repeat (first | (refine S_w ?_; first | (refine S_d hS ?_) | (refine S_y hS ?_) | ((first | refine M_bA hS ?_ | refine M_b1 hS ?_ | refine M_aA hS ?_ | refine M_a1 hS ?_ | refine M_sl hS ?_ | refine M_s1 hS ?_ | refine M_mm hS ?_); clear hS; intro b w hS) | ((first | refine M_st hS ?_ | refine M_sA hS ?_ | refine M_in hS ?_ | refine M_sR hS ?_); clear hS; intro w hS; (try simp only [List.set_cons_zero, List.set_cons_succ, Nat.zero_add] at hS)) | (refine M_ap hS ?_; clear hS; intro g cap w hS) | refine M_pn ?_ | ((first | refine M_im hS ?_ | refine M_ii hS ?_ | refine M_dl hS ?_); clear hS; intro w hS)) | refine X_k (by (try simp only [Fm.toList, List.set_cons_succ, List.set_cons_zero]); exact rfl) ?_ | refine S_u ?_ | refine S_v ?_ | refine C_sq ?_ | refine C_rg ?_ | refine L_nil ?_ | refine C_bk ?_ | refine C_ct ?_ | refine C_cf ?_ | refine C_sk ?_ | refine C_ex ?_ | refine C_rt ?_ | refine X_e ?_ | refine X_r ?_ | refine X_bh ?_ | refine X_be ?_ | refine X_br ?_ | refine X_bn ?_ | refine X_p ?_ | refine X_bp ?_)
      (try refine L_nil ?_); refine hQ' _ _ hS.sb ?_; clear hQ' hE'
      refine P_d ?_
      repeat (first | (refine S_w ?_; first | (refine S_d hS ?_) | (refine S_y hS ?_) | ((first | refine M_bA hS ?_ | refine M_b1 hS ?_ | refine M_aA hS ?_ | refine M_a1 hS ?_ | refine M_sl hS ?_ | refine M_s1 hS ?_ | refine M_mm hS ?_); clear hS; intro b w hS) | ((first | refine M_st hS ?_ | refine M_sA hS ?_ | refine M_in hS ?_ | refine M_sR hS ?_); clear hS; intro w hS; (try simp only [List.set_cons_zero, List.set_cons_succ, Nat.zero_add] at hS)) | (refine M_ap hS ?_; clear hS; intro g cap w hS) | refine M_pn ?_ | ((first | refine M_im hS ?_ | refine M_ii hS ?_ | refine M_dl hS ?_); clear hS; intro w hS)) | refine X_k (by (try simp only [Fm.toList, List.set_cons_succ, List.set_cons_zero]); exact rfl) ?_ | refine S_u ?_ | refine S_v ?_ | refine C_sq ?_ | refine C_rg ?_ | refine L_nil ?_ | refine C_bk ?_ | refine C_ct ?_ | refine C_cf ?_ | refine C_sk ?_ | refine C_ex ?_ | refine C_rt ?_ | refine X_e ?_ | refine X_r ?_ | refine X_bh ?_ | refine X_be ?_ | refine X_br ?_ | refine X_bn ?_ | refine X_p ?_ | refine X_bp ?_)
      refine V_1 ⟨rfl, some ⟨g, 0, none⟩, cap, ?_⟩
      have hS := hS.prm (List.Perm.swap _ _ _)
      exact hS.sb
end
end Go.Proofs.Ytijmggoikieelaa
