/-
  diagram's insert.
-/
import Derived.Test.YtijmggoikieelaaDgBu2
namespace Go.Proofs.Ytijmggoikieelaa
open Go.RowKit

theorem add_nodup {N : List Dg.Nd} (n : Dg.Nd) (h : N.Nodup) : (Dg.add N n).2.Nodup := by
  unfold Dg.add
  split
  · exact h
  · rename_i hn
    rw [List.nodup_append]
    exact ⟨h, by simp, fun a ha b hb => by rw [List.mem_singleton.1 hb]; exact fun e => hn (e ▸ ha)⟩
theorem bld_nodup (f : Nat → Int) : ∀ (d k x : Nat) (N : List Dg.Nd), N.Nodup → (Dg.bld f d k x N).2.Nodup
  | 0, k, x, N, h => by rw [Dg.bld]; exact add_nodup _ h
  | d + 1, k, x, N, h => by
    have h1 := bld_nodup f d (k + 1) x N h
    have h2 := bld_nodup f d (k + 1) (x + 2 ^ k) _ h1
    rw [Dg.bld]
    split
    · exact h2
    · exact add_nodup _ h2
theorem delL_mid {α β : Type} [DecidableEq α] {a : α} {v : β} {L2 : List (α × β)} : ∀ {L1 : List (α × β)}, (∀ p ∈ L1, a ≠ p.1) → delL a (L1 ++ (a, v) :: L2) = L1 ++ L2
  | [], _ => by simp [delL]
  | (k, u) :: L1, h => by
    have ih := delL_mid (L1 := L1) (v := v) (L2 := L2) fun p hp => h p (List.mem_cons_of_mem _ hp)
    have h1 := h _ (List.mem_cons_self ..)
    simp only [List.cons_append, delL]
    rw [if_neg h1, ih]
theorem idxF_keys {k : Nat} {N : List Dg.Nd} : ∀ p ∈ idxF k N, p.1 ∈ N := fun p hp => by
  simp only [idxF, List.mem_map] at hp
  obtain ⟨q, hq, rfl⟩ := hp
  exact List.fst_mem_of_mem_zipIdx hq
theorem idxF_drop : ∀ {M : List Dg.Nd} {k j : Nat} {n : Dg.Nd}, M[j]? = some n → (idxF k M).drop j = (n, .int .i64 ((k + j : Nat) : Int)) :: (idxF k M).drop (j + 1)
  | [], _, _, _, h => by cases h
  | a :: M, k, 0, n, h => by
    simp only [List.getElem?_cons_zero, Option.some.injEq] at h
    subst h
    rfl
  | a :: M, k, j + 1, n, h => by
    simp only [List.getElem?_cons_succ] at h
    have ih := idxF_drop (k := k + 1) h
    simp only [idxF, List.zipIdx_cons, List.map_cons, List.drop_succ_cons] at ih ⊢
    rw [ih, show k + 1 + j = k + (j + 1) by omega]
theorem subL_cells (N M : List Dg.Nd) : subL (cellsN (N ++ M)) N.length (N ++ M).length 4 = cellsN M := by
  have h1 := cellsN_len N
  have h2 := cellsN_len M
  unfold subL
  simp only [cellsN, List.flatMap_append, List.length_append] at h1 h2 ⊢
  rw [← h1, List.drop_append, List.drop_of_length_le (Nat.le_refl _), List.nil_append, Nat.sub_self, List.drop_zero, show N.length + M.length - N.length = M.length by omega, ← h2, List.take_length]
section
variable {F : Nat → Prop} {w0 w : World} {rs : List Res}
theorem St.rowCap {e : TypeId} {size n c : Nat} {A : Option Addr} {xs : List Value} (h : St F w0 rs w) (hm : Res.row e size (.slice A n c) n xs ∈ rs) : n ≤ c := by
  have hr : w.ownsRow 0 e size (.slice A n c) n xs := h.get hm
  rcases hr.2 with ⟨h1, h2⟩ | ⟨g, cap, cur, hv, hg, hh, hnc, hcm, hcs, htk⟩
  · omega
  · injection hv with e1 e2 e3
    omega
theorem St.rowForm {e : TypeId} {size n c : Nat} {A : Option Addr} {xs : List Value} (h : St F w0 rs w) (hm : Res.row e size (.slice A n c) n xs ∈ rs) (hn : 0 < n) : ∃ g, A = some ⟨g, 0, none⟩ := by
  have hr : w.ownsRow 0 e size (.slice A n c) n xs := h.get hm
  rcases hr.2 with ⟨h1, h2⟩ | ⟨g, cap, cur, hv, hg, hh, hnc, hcm, hcs, htk⟩
  · omega
  · injection hv with e1 e2 e3
    exact ⟨g, e1⟩
theorem subA_zero (g c i : Nat) (size : Nat) (hi : i = 0) : subA (some ⟨g, 0, none⟩) c i size = some ⟨g, 0, none⟩ := by
  subst hi
  unfold subA
  split
  · rfl
  · simp [cell_add]
/-- a store whose index is on its way -/
abbrev stG (sb m cp : Nat) (N : List Dg.Nd) (L : List (Dg.Nd × Value)) (kn : List Nat) (bi bk : Nat) (A : Option Addr) (c : Nat) (rs : List Res) : List Res :=
  Res.obj sb (stO m cp N.length A c bi bk) :: Res.row 100 4 (.slice A N.length c) N.length (cellsN N) :: Res.dm ndV bi L :: Res.dm iv bk (knL kn) :: rs
/-- what insert comes to -/
def insP (f : Nat → Int) (m cp : Nat) (N : List Dg.Nd) : Option (Nat × List Dg.Nd) := if cp < (Dg.bld f m 0 0 N).2.length then none else some (Dg.bld f m 0 0 N)
variable {sb m cp bi bk c : Nat} {A : Option Addr} {N : List Dg.Nd} {kn : List Nat} {g : FuncId} {cs : List Value}
set_option maxHeartbeats 8000000 in
set_option maxRecDepth 100000 in
theorem dinsR (f : Nat → Int) (hm : m ≤ 6) (heb : enterB Try.prog g = true) (hok : Dg.Ok m N) (hN : N.length ≤ cp) (hcp : cp ≤ 4096)
    (hcall : ∀ b7 b3 b2 M A c x w, Dg.Ok m (N ++ M) → x < 2 ^ m → St F w0 (stR sb m cp (N ++ M) kn bi bk A c (bxR b7 b3 b2 sb g cs rs)) w → CallsR Try.prog g (Value.int .i64 (x : Nat) :: cs).toArray w fun r w' => r = .int .i64 (f x) ∧ St F w0 (stR sb m cp (N ++ M) kn bi bk A c (bxR b7 b3 b2 sb g cs rs)) w')
    (hS : St F w0 (stR sb m cp N kn bi bk A c rs) w) :
    CallsR Try.prog 47 #[.pointer (some ⟨sb, 0, none⟩), .func (.func g) #[] cs.toArray] w fun r w' => match insP f m cp N with
      | none => r = .tuple #[.int .i64 0, .int .i64 10] ∧ ∃ A' c', St F w0 (stR sb m cp N kn bi bk A' c' rs) w'
      | some (i, N') => r = .tuple #[.int .i64 (i : Nat), .int .i64 0] ∧ ∃ A' c', St F w0 (stR sb m cp N' (Dg.kadd kn i) bi bk A' c' rs) w' := by
  have h128 : 2 ^ (m + 1) ≤ 128 := Nat.pow_le_pow_right (n := 2) (i := m + 1) (j := 7) (by omega) (by omega)
  have hbl := bld_len f m 0 0 N
  have hnd2 := bld_nodup f m 0 0 N hok.nodup
  obtain ⟨M, hM⟩ := bld_ext f m 0 0 N
  refine E_r (m := 59) ?_ Try.func47 rfl Try.ntmps47 rfl; refine C_ft ?_
  repeat (first | (refine S_w ?_; first | (refine S_d hS ?_) | (refine S_y hS ?_) | ((first | refine M_bA hS ?_ | refine M_b1 hS ?_ | refine M_aA hS ?_ | refine M_a1 hS ?_ | refine M_sl hS ?_ | refine M_s1 hS ?_ | refine M_mm hS ?_); clear hS; intro b w hS) | ((first | refine M_st hS ?_ | refine M_sA hS ?_ | refine M_in hS ?_ | refine M_sR hS ?_); clear hS; intro w hS; (try simp only [List.set_cons_zero, List.set_cons_succ, Nat.zero_add] at hS)) | (refine M_ap hS ?_; clear hS; intro g cap w hS) | refine M_pn ?_ | ((first | refine M_im hS ?_ | refine M_ii hS ?_ | refine M_dl hS ?_); clear hS; intro w hS)) | refine X_k (by (try simp only [Fm.toList, List.set_cons_succ, List.set_cons_zero]); exact rfl) ?_ | refine S_u ?_ | refine S_v ?_ | refine C_sq ?_ | refine C_rg ?_ | refine L_nil ?_ | refine C_bk ?_ | refine C_ct ?_ | refine C_cf ?_ | refine C_sk ?_ | refine C_ex ?_ | refine C_rt ?_ | refine X_e ?_ | refine X_r ?_ | refine X_bh ?_ | refine X_be ?_ | refine X_br ?_ | refine X_bn ?_ | refine X_p ?_ | refine X_bp ?_)
  rename_i b2 w2 b3 w3 w4
  obtain ⟨b7, hb7⟩ : ∃ x, x = b := ⟨b, rfl⟩
  subst hb7
  have hS : St F w0 (stR sb m cp (N ++ []) kn bi bk A c (bxR b7 b3 b2 sb g cs rs)) w := by
    rw [List.append_nil]; exact St.mv (l := [_, _, _]) (cs := [_, _, _, _]) hS
  refine S_w ?_
  refine M_c (dbuildR f hm heb (hcall b7 b3 b2) m 0 0 [] A c w (by rw [List.append_nil]; exact hok) (by omega) (by decide) (by rw [List.append_nil]; omega) hS) ?_
  rintro _ w5 ⟨A1, c1, rfl, hS⟩
  rw [List.append_nil] at hS ⊢
  unfold insP
  generalize hq : Dg.bld f m 0 0 N = q at hS hbl hnd2 hM ⊢
  obtain ⟨r, N'⟩ := q
  simp only at hS hbl hnd2 hM ⊢
  by_cases hlt : cp < N'.length
  · rw [if_pos hlt]
    subst hM
    have hlen : (N ++ M).length = N.length + M.length := List.length_append
    obtain ⟨g1, rfl⟩ := hS.rowForm (n := (N ++ M).length) (A := A1) (c := c1) (.tail _ (.head _)) (by omega)
    have hcap := hS.rowCap (n := (N ++ M).length) (A := some ⟨g1, 0, none⟩) (c := c1) (.tail _ (.head _))
    repeat (first | (refine S_w ?_; first | (refine S_d hS ?_) | (refine S_y hS ?_) | ((first | refine M_bA hS ?_ | refine M_b1 hS ?_ | refine M_aA hS ?_ | refine M_a1 hS ?_ | refine M_sl hS ?_ | refine M_s1 hS ?_ | refine M_mm hS ?_); clear hS; intro b w hS) | ((first | refine M_st hS ?_ | refine M_sA hS ?_ | refine M_in hS ?_ | refine M_sR hS ?_); clear hS; intro w hS; (try simp only [List.set_cons_zero, List.set_cons_succ, Nat.zero_add] at hS)) | (refine M_ap hS ?_; clear hS; intro g cap w hS) | refine M_pn ?_ | ((first | refine M_im hS ?_ | refine M_ii hS ?_ | refine M_dl hS ?_); clear hS; intro w hS)) | refine X_k (by (try simp only [Fm.toList, List.set_cons_succ, List.set_cons_zero]); exact rfl) ?_ | refine S_u ?_ | refine S_v ?_ | refine C_sq ?_ | refine C_rg ?_ | refine L_nil ?_ | refine C_bk ?_ | refine C_ct ?_ | refine C_cf ?_ | refine C_sk ?_ | refine C_ex ?_ | refine C_rt ?_ | refine X_e ?_ | refine X_r ?_ | refine X_bh ?_ | refine X_be ?_ | refine X_br ?_ | refine X_bn ?_ | refine X_p ?_ | refine X_bp ?_)
    refine C_qt hS ?_; (repeat (first | (refine Q_w ?_; first | (refine Q_d ?_) | (refine Q_y ?_)) | refine Q_u ?_)); refine Q_n ?_; clear hS; intro w hS
    repeat (first | (refine S_w ?_; first | (refine S_d hS ?_) | (refine S_y hS ?_) | ((first | refine M_bA hS ?_ | refine M_b1 hS ?_ | refine M_aA hS ?_ | refine M_a1 hS ?_ | refine M_sl hS ?_ | refine M_s1 hS ?_ | refine M_mm hS ?_); clear hS; intro b w hS) | ((first | refine M_st hS ?_ | refine M_sA hS ?_ | refine M_in hS ?_ | refine M_sR hS ?_); clear hS; intro w hS; (try simp only [List.set_cons_zero, List.set_cons_succ, Nat.zero_add] at hS)) | (refine M_ap hS ?_; clear hS; intro g cap w hS) | refine M_pn ?_ | ((first | refine M_im hS ?_ | refine M_ii hS ?_ | refine M_dl hS ?_); clear hS; intro w hS)) | refine X_k (by (try simp only [Fm.toList, List.set_cons_succ, List.set_cons_zero]); exact rfl) ?_ | refine S_u ?_ | refine S_v ?_ | refine C_sq ?_ | refine C_rg ?_ | refine L_nil ?_ | refine C_bk ?_ | refine C_ct ?_ | refine C_cf ?_ | refine C_sk ?_ | refine C_ex ?_ | refine C_rt ?_ | refine X_e ?_ | refine X_r ?_ | refine X_bh ?_ | refine X_be ?_ | refine X_br ?_ | refine X_bn ?_ | refine X_p ?_ | refine X_bp ?_)
    have e0 : idxL (N ++ M) = idxL N ++ (idxF N.length M).drop 0 := by rw [List.drop_zero, idxL, idxF_app, Nat.zero_add]; rfl
    have hS : St F w0 (stG sb m cp (N ++ M) (idxL (N ++ M)) kn bi bk (some ⟨g1, 0, none⟩) c1 (bxR b7 b3 b2 sb g cs rs)) w := hS
    rw [e0] at hS
    have hsub : ∀ L, HasSl (stG sb m cp (N ++ M) L kn bi bk (some ⟨g1, 0, none⟩) c1 (bxR b7 b3 b2 sb g cs rs)) (subA (some ⟨g1, 0, none⟩) c1 (Int.toNat ((N.length : Nat) : Int)) 4) ((N ++ M).length - Int.toNat ((N.length : Nat) : Int)) 4 (cellsN M) := fun L => ⟨fun h => by
      have := rdSub (i := N.length) (j := (N ++ M).length) (h.rowAt (.tail _ (.head _))) (by omega) (Nat.le_refl _) hcap
      rw [subL_cells] at this
      exact this⟩
    refine C_lp [10, 1, 25, 10, 15] (fun j : Nat => [(36, .int .i64 (j : Nat))]) (fun j w' => j ≤ M.length ∧ St F w0 (stG sb m cp (N ++ M) (idxL N ++ (idxF N.length M).drop j) kn bi bk (some ⟨g1, 0, none⟩) c1 (bxR b7 b3 b2 sb g cs rs)) w') (fun j => M.length - j) 0 ⟨Nat.zero_le _, hS⟩ ?_
    clear hS
    rintro j y w ⟨hj, hS⟩
    refine C_fs ?_
    by_cases hjl : j < M.length
    · obtain ⟨n, hn⟩ : ∃ n, M[j]? = some n := ⟨M[j], List.getElem?_eq_getElem hjl⟩
      have hdd := cellsN_drop hn
      simp only [ndL] at hdd
      repeat (first | (refine S_w ?_; first | (refine S_d hS ?_) | (refine S_y hS ?_) | ((first | refine M_bA hS ?_ | refine M_b1 hS ?_ | refine M_aA hS ?_ | refine M_a1 hS ?_ | refine M_sl hS ?_ | refine M_s1 hS ?_ | refine M_mm hS ?_); clear hS; intro b w hS) | ((first | refine M_st hS ?_ | refine M_sA hS ?_ | refine M_in hS ?_ | refine M_sR hS ?_); clear hS; intro w hS; (try simp only [List.set_cons_zero, List.set_cons_succ, Nat.zero_add] at hS)) | (refine M_ap hS ?_; clear hS; intro g cap w hS) | refine M_pn ?_ | ((first | refine M_im hS ?_ | refine M_ii hS ?_ | refine M_dl hS ?_); clear hS; intro w hS)) | refine X_k (by (try simp only [Fm.toList, List.set_cons_succ, List.set_cons_zero]); exact rfl) ?_ | refine S_u ?_ | refine S_v ?_ | refine C_sq ?_ | refine C_rg ?_ | refine L_nil ?_ | refine C_bk ?_ | refine C_ct ?_ | refine C_cf ?_ | refine C_sk ?_ | refine C_ex ?_ | refine C_rt ?_ | refine X_e ?_ | refine X_r ?_ | refine X_bh ?_ | refine X_be ?_ | refine X_br ?_ | refine X_bn ?_ | refine X_p ?_ | refine X_bp ?_)
      have hS : St F w0 (Res.obj b (.cells (ndL n).toArray 100 (0, 0)) :: stG sb m cp (N ++ M) (idxL N ++ (idxF N.length M).drop j) kn bi bk (some ⟨g1, 0, none⟩) c1 (bxR b7 b3 b2 sb g cs rs)) w := hS
      refine C_ps (fun L => Res.obj b (.cells (ndL n).toArray 100 (0, 0)) :: stG sb m cp (N ++ M) L kn bi bk (some ⟨g1, 0, none⟩) c1 (bxR b7 b3 b2 sb g cs rs)) (idxL N ++ (idxF N.length M).drop j) (.take 0 (.take 1 (.take 2 (.take 3 (.take 4 (.one 5 .done)))))) hS ?_
      clear hS
      intro w hS
      repeat ((with_reducible apply P_t); rfl; first | (refine P_yd hS ?_) | refine P_zd hS ?_)
      (with_reducible apply P_one); rfl; refine P_f ?_; intro Q' hQ' hE'
      repeat (first | (refine S_w ?_; first | (refine S_d hS ?_) | (refine S_y hS ?_) | ((first | refine M_bA hS ?_ | refine M_b1 hS ?_ | refine M_aA hS ?_ | refine M_a1 hS ?_ | refine M_sl hS ?_ | refine M_s1 hS ?_ | refine M_mm hS ?_); clear hS; intro b w hS) | ((first | refine M_st hS ?_ | refine M_sA hS ?_ | refine M_in hS ?_ | refine M_sR hS ?_); clear hS; intro w hS; (try simp only [List.set_cons_zero, List.set_cons_succ, Nat.zero_add] at hS)) | (refine M_ap hS ?_; clear hS; intro g cap w hS) | refine M_pn ?_ | ((first | refine M_im hS ?_ | refine M_ii hS ?_ | refine M_dl hS ?_); clear hS; intro w hS)) | refine X_k (by (try simp only [Fm.toList, List.set_cons_succ, List.set_cons_zero]); exact rfl) ?_ | refine S_u ?_ | refine S_v ?_ | refine C_sq ?_ | refine C_rg ?_ | refine L_nil ?_ | refine C_bk ?_ | refine C_ct ?_ | refine C_cf ?_ | refine C_sk ?_ | refine C_ex ?_ | refine C_rt ?_ | refine X_e ?_ | refine X_r ?_ | refine X_bh ?_ | refine X_be ?_ | refine X_br ?_ | refine X_bn ?_ | refine X_p ?_ | refine X_bp ?_)
      (try refine L_nil ?_); refine hQ' _ _ ⟨_, hS⟩ ?_; clear hQ' hE'
      refine P_d ?_
      have hkn : ∀ p ∈ idxL N, n ≠ p.1 := fun p hp e => by
        have h1 : p.1 ∈ N := idxF_keys p hp
        rw [← e] at h1
        exact (List.nodup_append.1 hnd2).2.2 n h1 n (List.mem_of_getElem? hn) rfl
      rw [idxF_drop hn, delL_mid hkn] at hS
      repeat (first | (refine S_w ?_; first | (refine S_d hS ?_) | (refine S_y hS ?_) | ((first | refine M_bA hS ?_ | refine M_b1 hS ?_ | refine M_aA hS ?_ | refine M_a1 hS ?_ | refine M_sl hS ?_ | refine M_s1 hS ?_ | refine M_mm hS ?_); clear hS; intro b w hS) | ((first | refine M_st hS ?_ | refine M_sA hS ?_ | refine M_in hS ?_ | refine M_sR hS ?_); clear hS; intro w hS; (try simp only [List.set_cons_zero, List.set_cons_succ, Nat.zero_add] at hS)) | (refine M_ap hS ?_; clear hS; intro g cap w hS) | refine M_pn ?_ | ((first | refine M_im hS ?_ | refine M_ii hS ?_ | refine M_dl hS ?_); clear hS; intro w hS)) | refine X_k (by (try simp only [Fm.toList, List.set_cons_succ, List.set_cons_zero]); exact rfl) ?_ | refine S_u ?_ | refine S_v ?_ | refine C_sq ?_ | refine C_rg ?_ | refine L_nil ?_ | refine C_bk ?_ | refine C_ct ?_ | refine C_cf ?_ | refine C_sk ?_ | refine C_ex ?_ | refine C_rt ?_ | refine X_e ?_ | refine X_r ?_ | refine X_bh ?_ | refine X_be ?_ | refine X_br ?_ | refine X_bn ?_ | refine X_p ?_ | refine X_bp ?_)
      refine R_e (j + 1) ⟨by omega, hS.sb⟩ (by omega)
    · obtain rfl : j = M.length := by omega
      have e1 : (idxF N.length M).drop M.length = [] := List.drop_of_length_le (by simp [idxF])
      rw [e1, List.append_nil] at hS
      repeat (first | (refine S_w ?_; first | (refine S_d hS ?_) | (refine S_y hS ?_) | ((first | refine M_bA hS ?_ | refine M_b1 hS ?_ | refine M_aA hS ?_ | refine M_a1 hS ?_ | refine M_sl hS ?_ | refine M_s1 hS ?_ | refine M_mm hS ?_); clear hS; intro b w hS) | ((first | refine M_st hS ?_ | refine M_sA hS ?_ | refine M_in hS ?_ | refine M_sR hS ?_); clear hS; intro w hS; (try simp only [List.set_cons_zero, List.set_cons_succ, Nat.zero_add] at hS)) | (refine M_ap hS ?_; clear hS; intro g cap w hS) | refine M_pn ?_ | ((first | refine M_im hS ?_ | refine M_ii hS ?_ | refine M_dl hS ?_); clear hS; intro w hS)) | refine X_k (by (try simp only [Fm.toList, List.set_cons_succ, List.set_cons_zero]); exact rfl) ?_ | refine S_u ?_ | refine S_v ?_ | refine C_sq ?_ | refine C_rg ?_ | refine L_nil ?_ | refine C_bk ?_ | refine C_ct ?_ | refine C_cf ?_ | refine C_sk ?_ | refine C_ex ?_ | refine C_rt ?_ | refine X_e ?_ | refine X_r ?_ | refine X_bh ?_ | refine X_be ?_ | refine X_br ?_ | refine X_bn ?_ | refine X_p ?_ | refine X_bp ?_)
      refine C_pg (Res.obj b2 (.cells #[.pointer (some ⟨sb, 0, none⟩)] 36 (0, 0)) :: rs) (.take 0 (.take 1 (.take 2 (.take 3 (.take 5 (.one 4 (.one 6 (.one 7 (.one 8 (.one 9 .done)))))))))) hS ?_
      clear hS
      intro w hS
      have hS1 : St F w0 (Res.obj b2 (.cells #[.pointer (some ⟨sb, 0, none⟩)] 36 (0, 0)) :: rs) w := hS.sb
      repeat ((with_reducible apply P_t); rfl; refine P_yy hS1 ?_)
      clear hS1
      (with_reducible apply P_one); rfl; refine P_f ?_; intro Q' hQ' hE'
      repeat (first | (refine S_w ?_; first | (refine S_d hS ?_) | (refine S_y hS ?_) | ((first | refine M_bA hS ?_ | refine M_b1 hS ?_ | refine M_aA hS ?_ | refine M_a1 hS ?_ | refine M_sl hS ?_ | refine M_s1 hS ?_ | refine M_mm hS ?_); clear hS; intro b w hS) | ((first | refine M_st hS ?_ | refine M_sA hS ?_ | refine M_in hS ?_ | refine M_sR hS ?_); clear hS; intro w hS; (try simp only [List.set_cons_zero, List.set_cons_succ, Nat.zero_add] at hS)) | (refine M_ap hS ?_; clear hS; intro g cap w hS) | refine M_pn ?_ | ((first | refine M_im hS ?_ | refine M_ii hS ?_ | refine M_dl hS ?_); clear hS; intro w hS)) | refine X_k (by (try simp only [Fm.toList, List.set_cons_succ, List.set_cons_zero]); exact rfl) ?_ | refine S_u ?_ | refine S_v ?_ | refine C_sq ?_ | refine C_rg ?_ | refine L_nil ?_ | refine C_bk ?_ | refine C_ct ?_ | refine C_cf ?_ | refine C_sk ?_ | refine C_ex ?_ | refine C_rt ?_ | refine X_e ?_ | refine X_r ?_ | refine X_bh ?_ | refine X_be ?_ | refine X_br ?_ | refine X_bn ?_ | refine X_p ?_ | refine X_bp ?_)
      (try refine L_nil ?_); refine hQ' _ _ hS.sb ?_; clear hQ' hE'
      (with_reducible apply P_one); rfl; refine P_f ?_; intro Q' hQ' hE'
      repeat (first | (refine S_w ?_; first | (refine S_d hS ?_) | (refine S_y hS ?_) | ((first | refine M_bA hS ?_ | refine M_b1 hS ?_ | refine M_aA hS ?_ | refine M_a1 hS ?_ | refine M_sl hS ?_ | refine M_s1 hS ?_ | refine M_mm hS ?_); clear hS; intro b w hS) | ((first | refine M_st hS ?_ | refine M_sA hS ?_ | refine M_in hS ?_ | refine M_sR hS ?_); clear hS; intro w hS; (try simp only [List.set_cons_zero, List.set_cons_succ, Nat.zero_add] at hS)) | (refine M_ap hS ?_; clear hS; intro g cap w hS) | refine M_pn ?_ | ((first | refine M_im hS ?_ | refine M_ii hS ?_ | refine M_dl hS ?_); clear hS; intro w hS)) | refine X_k (by (try simp only [Fm.toList, List.set_cons_succ, List.set_cons_zero]); exact rfl) ?_ | refine S_u ?_ | refine S_v ?_ | refine C_sq ?_ | refine C_rg ?_ | refine L_nil ?_ | refine C_bk ?_ | refine C_ct ?_ | refine C_cf ?_ | refine C_sk ?_ | refine C_ex ?_ | refine C_rt ?_ | refine X_e ?_ | refine X_r ?_ | refine X_bh ?_ | refine X_be ?_ | refine X_br ?_ | refine X_bn ?_ | refine X_p ?_ | refine X_bp ?_)
      (try refine L_nil ?_); refine hQ' _ _ hS.sb ?_; clear hQ' hE'
      (with_reducible apply P_one); rfl; refine P_f ?_; intro Q' hQ' hE'
      repeat (first | (refine S_w ?_; first | (refine S_d hS ?_) | (refine S_y hS ?_) | ((first | refine M_bA hS ?_ | refine M_b1 hS ?_ | refine M_aA hS ?_ | refine M_a1 hS ?_ | refine M_sl hS ?_ | refine M_s1 hS ?_ | refine M_mm hS ?_); clear hS; intro b w hS) | ((first | refine M_st hS ?_ | refine M_sA hS ?_ | refine M_in hS ?_ | refine M_sR hS ?_); clear hS; intro w hS; (try simp only [List.set_cons_zero, List.set_cons_succ, Nat.zero_add] at hS)) | (refine M_ap hS ?_; clear hS; intro g cap w hS) | refine M_pn ?_ | ((first | refine M_im hS ?_ | refine M_ii hS ?_ | refine M_dl hS ?_); clear hS; intro w hS)) | refine X_k (by (try simp only [Fm.toList, List.set_cons_succ, List.set_cons_zero]); exact rfl) ?_ | refine S_u ?_ | refine S_v ?_ | refine C_sq ?_ | refine C_rg ?_ | refine L_nil ?_ | refine C_bk ?_ | refine C_ct ?_ | refine C_cf ?_ | refine C_sk ?_ | refine C_ex ?_ | refine C_rt ?_ | refine X_e ?_ | refine X_r ?_ | refine X_bh ?_ | refine X_be ?_ | refine X_br ?_ | refine X_bn ?_ | refine X_p ?_ | refine X_bp ?_)
      (try refine L_nil ?_); refine hQ' _ _ hS.sb ?_; clear hQ' hE'
      (with_reducible apply P_one); rfl; refine P_f ?_; intro Q' hQ' hE'
      repeat (first | (refine S_w ?_; first | (refine S_d hS ?_) | (refine S_y hS ?_) | ((first | refine M_bA hS ?_ | refine M_b1 hS ?_ | refine M_aA hS ?_ | refine M_a1 hS ?_ | refine M_sl hS ?_ | refine M_s1 hS ?_ | refine M_mm hS ?_); clear hS; intro b w hS) | ((first | refine M_st hS ?_ | refine M_sA hS ?_ | refine M_in hS ?_ | refine M_sR hS ?_); clear hS; intro w hS; (try simp only [List.set_cons_zero, List.set_cons_succ, Nat.zero_add] at hS)) | (refine M_ap hS ?_; clear hS; intro g cap w hS) | refine M_pn ?_ | ((first | refine M_im hS ?_ | refine M_ii hS ?_ | refine M_dl hS ?_); clear hS; intro w hS)) | refine X_k (by (try simp only [Fm.toList, List.set_cons_succ, List.set_cons_zero]); exact rfl) ?_ | refine S_u ?_ | refine S_v ?_ | refine C_sq ?_ | refine C_rg ?_ | refine L_nil ?_ | refine C_bk ?_ | refine C_ct ?_ | refine C_cf ?_ | refine C_sk ?_ | refine C_ex ?_ | refine C_rt ?_ | refine X_e ?_ | refine X_r ?_ | refine X_bh ?_ | refine X_be ?_ | refine X_br ?_ | refine X_bn ?_ | refine X_p ?_ | refine X_bp ?_)
      (try refine L_nil ?_); refine hQ' _ _ hS.sb ?_; clear hQ' hE'
      (with_reducible apply P_one); rfl; refine P_f ?_; intro Q' hQ' hE'
      repeat (first | (refine S_w ?_; first | (refine S_d hS ?_) | (refine S_y hS ?_) | ((first | refine M_bA hS ?_ | refine M_b1 hS ?_ | refine M_aA hS ?_ | refine M_a1 hS ?_ | refine M_sl hS ?_ | refine M_s1 hS ?_ | refine M_mm hS ?_); clear hS; intro b w hS) | ((first | refine M_st hS ?_ | refine M_sA hS ?_ | refine M_in hS ?_ | refine M_sR hS ?_); clear hS; intro w hS; (try simp only [List.set_cons_zero, List.set_cons_succ, Nat.zero_add] at hS)) | (refine M_ap hS ?_; clear hS; intro g cap w hS) | refine M_pn ?_ | ((first | refine M_im hS ?_ | refine M_ii hS ?_ | refine M_dl hS ?_); clear hS; intro w hS)) | refine X_k (by (try simp only [Fm.toList, List.set_cons_succ, List.set_cons_zero]); exact rfl) ?_ | refine S_u ?_ | refine S_v ?_ | refine C_sq ?_ | refine C_rg ?_ | refine L_nil ?_ | refine C_bk ?_ | refine C_ct ?_ | refine C_cf ?_ | refine C_sk ?_ | refine C_ex ?_ | refine C_rt ?_ | refine X_e ?_ | refine X_r ?_ | refine X_bh ?_ | refine X_be ?_ | refine X_br ?_ | refine X_bn ?_ | refine X_p ?_ | refine X_bp ?_)
      (try refine L_nil ?_); refine hQ' _ _ hS.sb ?_; clear hQ' hE'
      refine P_d ?_
      have hv : Value.slice (subA (some ⟨g1, 0, none⟩) c1 (Int.toNat 0) 4) (Int.toNat ((N.length : Nat) : Int) - Int.toNat 0) (c1 - Int.toNat 0) = .slice (some ⟨g1, 0, none⟩) N.length c1 := by
        rw [Int.toNat_zero, subA_zero _ _ _ _ rfl]; simp
      rw [hv] at hS
      have hS := hS.prm (List.Perm.swap _ _ _)
      have hS := hS.cut (k := N.length) (by omega) (by omega)
      rw [cellsN_take] at hS
      have hS := hS.prm (List.Perm.swap _ _ _)
      repeat (first | (refine S_w ?_; first | (refine S_d hS ?_) | (refine S_y hS ?_) | ((first | refine M_bA hS ?_ | refine M_b1 hS ?_ | refine M_aA hS ?_ | refine M_a1 hS ?_ | refine M_sl hS ?_ | refine M_s1 hS ?_ | refine M_mm hS ?_); clear hS; intro b w hS) | ((first | refine M_st hS ?_ | refine M_sA hS ?_ | refine M_in hS ?_ | refine M_sR hS ?_); clear hS; intro w hS; (try simp only [List.set_cons_zero, List.set_cons_succ, Nat.zero_add] at hS)) | (refine M_ap hS ?_; clear hS; intro g cap w hS) | refine M_pn ?_ | ((first | refine M_im hS ?_ | refine M_ii hS ?_ | refine M_dl hS ?_); clear hS; intro w hS)) | refine X_k (by (try simp only [Fm.toList, List.set_cons_succ, List.set_cons_zero]); exact rfl) ?_ | refine S_u ?_ | refine S_v ?_ | refine C_sq ?_ | refine C_rg ?_ | refine L_nil ?_ | refine C_bk ?_ | refine C_ct ?_ | refine C_cf ?_ | refine C_sk ?_ | refine C_ex ?_ | refine C_rt ?_ | refine X_e ?_ | refine X_r ?_ | refine X_bh ?_ | refine X_be ?_ | refine X_br ?_ | refine X_bn ?_ | refine X_p ?_ | refine X_bp ?_)
      refine V_2 ⟨rfl, some ⟨g1, 0, none⟩, c1, hS.sb⟩
  · rw [if_neg hlt]
    repeat (first | (refine S_w ?_; first | (refine S_d hS ?_) | (refine S_y hS ?_) | ((first | refine M_bA hS ?_ | refine M_b1 hS ?_ | refine M_aA hS ?_ | refine M_a1 hS ?_ | refine M_sl hS ?_ | refine M_s1 hS ?_ | refine M_mm hS ?_); clear hS; intro b w hS) | ((first | refine M_st hS ?_ | refine M_sA hS ?_ | refine M_in hS ?_ | refine M_sR hS ?_); clear hS; intro w hS; (try simp only [List.set_cons_zero, List.set_cons_succ, Nat.zero_add] at hS)) | (refine M_ap hS ?_; clear hS; intro g cap w hS) | refine M_pn ?_ | ((first | refine M_im hS ?_ | refine M_ii hS ?_ | refine M_dl hS ?_); clear hS; intro w hS)) | refine X_k (by (try simp only [Fm.toList, List.set_cons_succ, List.set_cons_zero]); exact rfl) ?_ | refine S_u ?_ | refine S_v ?_ | refine C_sq ?_ | refine C_rg ?_ | refine L_nil ?_ | refine C_bk ?_ | refine C_ct ?_ | refine C_cf ?_ | refine C_sk ?_ | refine C_ex ?_ | refine C_rt ?_ | refine X_e ?_ | refine X_r ?_ | refine X_bh ?_ | refine X_be ?_ | refine X_br ?_ | refine X_bn ?_ | refine X_p ?_ | refine X_bp ?_)
    refine C_qt hS ?_; (repeat (first | (refine Q_w ?_; first | (refine Q_d ?_) | (refine Q_y ?_)) | refine Q_u ?_)); refine Q_n ?_; clear hS; intro w hS
    repeat (first | (refine S_w ?_; first | (refine S_d hS ?_) | (refine S_y hS ?_) | ((first | refine M_bA hS ?_ | refine M_b1 hS ?_ | refine M_aA hS ?_ | refine M_a1 hS ?_ | refine M_sl hS ?_ | refine M_s1 hS ?_ | refine M_mm hS ?_); clear hS; intro b w hS) | ((first | refine M_st hS ?_ | refine M_sA hS ?_ | refine M_in hS ?_ | refine M_sR hS ?_); clear hS; intro w hS; (try simp only [List.set_cons_zero, List.set_cons_succ, Nat.zero_add] at hS)) | (refine M_ap hS ?_; clear hS; intro g cap w hS) | refine M_pn ?_ | ((first | refine M_im hS ?_ | refine M_ii hS ?_ | refine M_dl hS ?_); clear hS; intro w hS)) | refine X_k (by (try simp only [Fm.toList, List.set_cons_succ, List.set_cons_zero]); exact rfl) ?_ | refine S_u ?_ | refine S_v ?_ | refine C_sq ?_ | refine C_rg ?_ | refine L_nil ?_ | refine C_bk ?_ | refine C_ct ?_ | refine C_cf ?_ | refine C_sk ?_ | refine C_ex ?_ | refine C_rt ?_ | refine X_e ?_ | refine X_r ?_ | refine X_bh ?_ | refine X_be ?_ | refine X_br ?_ | refine X_bn ?_ | refine X_p ?_ | refine X_bp ?_)
    rw [knL_put] at hS
    refine V_2 ⟨rfl, A1, c1, hS.sb⟩
end
end Go.Proofs.Ytijmggoikieelaa
