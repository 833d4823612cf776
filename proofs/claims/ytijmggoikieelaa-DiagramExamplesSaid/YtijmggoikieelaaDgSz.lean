/-
  diagram: Size.
-/
import Derived.Test.YtijmggoikieelaaDgRd2
import Derived.Test.YtijmggoikieelaaYQ
namespace Go.Proofs.Ytijmggoikieelaa
open Go.RowKit

def qv (q : List Nat) : List Value := q.map fun (i : Nat) => Value.int .i64 (i : Nat)
section
variable {F : Nat → Prop} {w0 w : World} {rs : List Res} {sb m cp bi bk c : Nat} {A : Option Addr} {N : List Dg.Nd} {kn : List Nat}
set_option maxHeartbeats 4000000 in
set_option maxRecDepth 100000 in
theorem dszE (z : Int) {n : Nat} (hk : kno kn z = false) (h1 : HasObj rs sb (stO m cp n A c bi bk)) (h2 : HasDm rs bk iv (knL kn)) (hS : St F w0 rs w) :
    CallsR Try.prog 25 #[.pointer (some ⟨sb, 0, none⟩), .int .i64 z] w fun r w' => r = .tuple #[.int .i64 0, .int .i64 8] ∧ St F w0 rs w' := by
  refine E_r (m := 53) ?_ Try.func25 rfl Try.ntmps25 rfl; refine C_ft ?_
  repeat (first | (refine S_w ?_; first | (refine M_c (dhasR (k := 1) [z] (by decide) inferInstance inferInstance (hasSlO (b := b)) hS) ?_) | (refine S_d hS ?_) | (refine S_y hS ?_) | ((first | refine M_bA hS ?_ | refine M_b1 hS ?_ | refine M_aA hS ?_ | refine M_a1 hS ?_ | refine M_sl hS ?_ | refine M_s1 hS ?_ | refine M_mm hS ?_); clear hS; intro b w hS) | ((first | refine M_st hS ?_ | refine M_sA hS ?_ | refine M_in hS ?_ | refine M_sR hS ?_); clear hS; intro w hS; (try simp only [List.set_cons_zero, List.set_cons_succ, Nat.zero_add] at hS)) | (refine M_ap hS ?_; clear hS; intro g cap w hS) | refine M_pn ?_ | ((first | refine M_im hS ?_ | refine M_ii hS ?_ | refine M_dl hS ?_); clear hS; intro w hS)) | refine X_k (by (try simp only [Fm.toList, List.set_cons_succ, List.set_cons_zero]); exact rfl) ?_ | refine S_u ?_ | refine S_v ?_ | refine C_sq ?_ | refine C_rg ?_ | refine L_nil ?_ | refine C_bk ?_ | refine C_ct ?_ | refine C_cf ?_ | refine C_sk ?_ | refine C_ex ?_ | refine C_rt ?_ | refine X_e ?_ | refine X_r ?_ | refine X_bh ?_ | refine X_be ?_ | refine X_br ?_ | refine X_bn ?_ | refine X_p ?_ | refine X_bp ?_)
  rintro _ w1 ⟨rfl, hS⟩
  rw [has_f hk]
  repeat (first | (refine S_w ?_; first | (refine S_d hS ?_) | (refine S_y hS ?_) | ((first | refine M_bA hS ?_ | refine M_b1 hS ?_ | refine M_aA hS ?_ | refine M_a1 hS ?_ | refine M_sl hS ?_ | refine M_s1 hS ?_ | refine M_mm hS ?_); clear hS; intro b w hS) | ((first | refine M_st hS ?_ | refine M_sA hS ?_ | refine M_in hS ?_ | refine M_sR hS ?_); clear hS; intro w hS; (try simp only [List.set_cons_zero, List.set_cons_succ, Nat.zero_add] at hS)) | (refine M_ap hS ?_; clear hS; intro g cap w hS) | refine M_pn ?_ | ((first | refine M_im hS ?_ | refine M_ii hS ?_ | refine M_dl hS ?_); clear hS; intro w hS)) | refine X_k (by (try simp only [Fm.toList, List.set_cons_succ, List.set_cons_zero]); exact rfl) ?_ | refine S_u ?_ | refine S_v ?_ | refine C_sq ?_ | refine C_rg ?_ | refine L_nil ?_ | refine C_bk ?_ | refine C_ct ?_ | refine C_cf ?_ | refine C_sk ?_ | refine C_ex ?_ | refine C_rt ?_ | refine X_e ?_ | refine X_r ?_ | refine X_bh ?_ | refine X_be ?_ | refine X_br ?_ | refine X_bn ?_ | refine X_p ?_ | refine X_bp ?_)
  refine V_2 ⟨rfl, hS.sb⟩
structure Szs where
  seen : List Nat
  q : List Nat
  A : Option Addr
  c : Nat
set_option maxHeartbeats 8000000 in
set_option maxRecDepth 100000 in
theorem dszT (r : Nat) (hm : m ≤ 6) (hok : Dg.Ok m N) (hr : r < N.length) (hN : N.length ≤ 1000000) (hk : r ∈ kn) (h1 : HasObj rs sb (stO m cp N.length A c bi bk)) (h2 : HasDm rs bk iv (knL kn)) (h3 : HasSl rs A N.length 4 (cellsN N)) (hS : St F w0 rs w) :
    CallsR Try.prog 25 #[.pointer (some ⟨sb, 0, none⟩), .int .i64 (r : Nat)] w fun v w' => v = .tuple #[.int .i64 ((Dg.ddT m [] [Dg.tabOf m N r]).length : Nat), .int .i64 0] ∧ St F w0 rs w' := by
  have hkk := kno_mem.2 hk
  refine E_r (m := 53) ?_ Try.func25 rfl Try.ntmps25 rfl; refine C_ft ?_
  repeat (first | (refine S_w ?_; first | (refine M_c (dhasR (k := 1) [(r : Int)] (by decide) inferInstance inferInstance (hasSlO (b := b)) hS) ?_) | (refine S_d hS ?_) | (refine S_y hS ?_) | ((first | refine M_bA hS ?_ | refine M_b1 hS ?_ | refine M_aA hS ?_ | refine M_a1 hS ?_ | refine M_sl hS ?_ | refine M_s1 hS ?_ | refine M_mm hS ?_); clear hS; intro b w hS) | ((first | refine M_st hS ?_ | refine M_sA hS ?_ | refine M_in hS ?_ | refine M_sR hS ?_); clear hS; intro w hS; (try simp only [List.set_cons_zero, List.set_cons_succ, Nat.zero_add] at hS)) | (refine M_ap hS ?_; clear hS; intro g cap w hS) | refine M_pn ?_ | ((first | refine M_im hS ?_ | refine M_ii hS ?_ | refine M_dl hS ?_); clear hS; intro w hS)) | refine X_k (by (try simp only [Fm.toList, List.set_cons_succ, List.set_cons_zero]); exact rfl) ?_ | refine S_u ?_ | refine S_v ?_ | refine C_sq ?_ | refine C_rg ?_ | refine L_nil ?_ | refine C_bk ?_ | refine C_ct ?_ | refine C_cf ?_ | refine C_sk ?_ | refine C_ex ?_ | refine C_rt ?_ | refine X_e ?_ | refine X_r ?_ | refine X_bh ?_ | refine X_be ?_ | refine X_br ?_ | refine X_bn ?_ | refine X_p ?_ | refine X_bp ?_)
  rintro _ w1 ⟨rfl, hS⟩
  rw [has_t hkk]
  repeat (first | (refine S_w ?_; first | (refine S_d hS ?_) | (refine S_y hS ?_) | ((first | refine M_bA hS ?_ | refine M_b1 hS ?_ | refine M_aA hS ?_ | refine M_a1 hS ?_ | refine M_sl hS ?_ | refine M_s1 hS ?_ | refine M_mm hS ?_); clear hS; intro b w hS) | ((first | refine M_st hS ?_ | refine M_sA hS ?_ | refine M_in hS ?_ | refine M_sR hS ?_); clear hS; intro w hS; (try simp only [List.set_cons_zero, List.set_cons_succ, Nat.zero_add] at hS)) | (refine M_ap hS ?_; clear hS; intro g cap w hS) | refine M_pn ?_ | ((first | refine M_im hS ?_ | refine M_ii hS ?_ | refine M_dl hS ?_); clear hS; intro w hS)) | refine X_k (by (try simp only [Fm.toList, List.set_cons_succ, List.set_cons_zero]); exact rfl) ?_ | refine S_u ?_ | refine S_v ?_ | refine C_sq ?_ | refine C_rg ?_ | refine L_nil ?_ | refine C_bk ?_ | refine C_ct ?_ | refine C_cf ?_ | refine C_sk ?_ | refine C_ex ?_ | refine C_rt ?_ | refine X_e ?_ | refine X_r ?_ | refine X_bh ?_ | refine X_be ?_ | refine X_br ?_ | refine X_bn ?_ | refine X_p ?_ | refine X_bp ?_)
  rename_i mb _
  have hS : St F w0 (Res.obj b (.cells [.int .i64 (r : Nat)].toArray 45 (0, 0)) :: Res.obj mb (.map #[] 0) :: rs) w := hS.sb
  have hS : St F w0 (Res.qu 45 (some ⟨b, 0, none⟩) 1 1 (qv [r]) :: Res.obj mb (.map #[] 0) :: rs) w := hS.toQu (show 1 ≤ 1000 by decide)
  have hS := ((hS.prm (List.Perm.swap _ _ _)).toDm (kv := iv)).prm (List.Perm.swap _ _ _)
  refine C_lp [8, 2, 10, 33, 2] (fun s : Szs => [(8, .slice s.A s.q.length s.c)]) (fun s w' => Dg.Bfs N r s.seen s.q ∧ s.q.length ≤ s.seen.length + 1 ∧ St F w0 (Res.qu 45 s.A s.c s.q.length (qv s.q) :: Res.dm iv mb (knL s.seen) :: rs) w') (fun s => 2 * (N.length - s.seen.length) + s.q.length) ⟨[], [r], some ⟨b, 0, none⟩, 1⟩ ⟨Dg.Bfs.start r, Nat.le_refl _, hS⟩ ?_
  clear hS
  rintro ⟨seen, q, A2, c2⟩ y w ⟨hB, hql, hS⟩
  simp only at hB hql hS
  obtain ⟨hsl, hqlt⟩ := hB.lt hok hr
  refine C_fs ?_
  cases q with
  | nil =>
    have hsz := hB.size hok hr
    have hkl : (knL seen).length = seen.length := by simp [knL]
    rw [← hsz, ← hkl]
    have hl0 : ([] : List Nat).length = 0 := rfl
    repeat (first | (refine S_w ?_; first | (refine S_d hS ?_) | (refine S_y hS ?_) | ((first | refine M_bA hS ?_ | refine M_b1 hS ?_ | refine M_aA hS ?_ | refine M_a1 hS ?_ | refine M_sl hS ?_ | refine M_s1 hS ?_ | refine M_mm hS ?_); clear hS; intro b w hS) | ((first | refine M_st hS ?_ | refine M_sA hS ?_ | refine M_in hS ?_ | refine M_sR hS ?_); clear hS; intro w hS; (try simp only [List.set_cons_zero, List.set_cons_succ, Nat.zero_add] at hS)) | (refine M_ap hS ?_; clear hS; intro g cap w hS) | refine M_pn ?_ | ((first | refine M_im hS ?_ | refine M_ii hS ?_ | refine M_dl hS ?_); clear hS; intro w hS)) | refine X_k (by (try simp only [Fm.toList, List.set_cons_succ, List.set_cons_zero]); exact rfl) ?_ | refine S_u ?_ | refine S_v ?_ | refine C_sq ?_ | refine C_rg ?_ | refine L_nil ?_ | refine C_bk ?_ | refine C_ct ?_ | refine C_cf ?_ | refine C_sk ?_ | refine C_ex ?_ | refine C_rt ?_ | refine X_e ?_ | refine X_r ?_ | refine X_bh ?_ | refine X_be ?_ | refine X_br ?_ | refine X_bn ?_ | refine X_p ?_ | refine X_bp ?_)
    refine V_2 ⟨rfl, hS.sb⟩
  | cons i q =>
    have hil := hqlt i (List.mem_cons_self ..)
    have hl1 : (i :: q).length = q.length + 1 := rfl
    obtain ⟨n, hn⟩ : ∃ n, N[i]? = some n := ⟨N[i], List.getElem?_eq_getElem hil⟩
    have hdd := cellsN_drop hn
    simp only [ndL] at hdd
    repeat (first | (refine S_w ?_; first | (refine S_d hS ?_) | (refine S_y hS ?_) | ((first | refine M_bA hS ?_ | refine M_b1 hS ?_ | refine M_aA hS ?_ | refine M_a1 hS ?_ | refine M_sl hS ?_ | refine M_s1 hS ?_ | refine M_mm hS ?_); clear hS; intro b w hS) | ((first | refine M_st hS ?_ | refine M_sA hS ?_ | refine M_in hS ?_ | refine M_sR hS ?_); clear hS; intro w hS; (try simp only [List.set_cons_zero, List.set_cons_succ, Nat.zero_add] at hS)) | (refine M_ap hS ?_; clear hS; intro g cap w hS) | refine M_pn ?_ | ((first | refine M_im hS ?_ | refine M_ii hS ?_ | refine M_dl hS ?_); clear hS; intro w hS)) | refine X_k (by (try simp only [Fm.toList, List.set_cons_succ, List.set_cons_zero]); exact rfl) ?_ | refine S_u ?_ | refine S_v ?_ | refine C_sq ?_ | refine C_rg ?_ | refine L_nil ?_ | refine C_bk ?_ | refine C_ct ?_ | refine C_cf ?_ | refine C_sk ?_ | refine C_ex ?_ | refine C_rt ?_ | refine X_e ?_ | refine X_r ?_ | refine X_bh ?_ | refine X_be ?_ | refine X_br ?_ | refine X_bn ?_ | refine X_p ?_ | refine X_bp ?_)
    refine C_pl (.take 0 (.take 1 (.take 2 (.take 3 (.take 4 (.take 5 (.take 6 (.take 7 (.take 8 (.one 9 (.one 10 .done))))))))))) hS ?_
    clear hS
    intro w hS
    repeat ((with_reducible apply P_t); rfl; first | (refine P_yy hS.sb ?_) | refine P_z hS.sb ?_)
    (with_reducible apply P_one); rfl; refine P_f ?_; intro Q' hQ' hE'
    repeat (first | (refine S_w ?_; first | (refine S_d hS ?_) | (refine S_y hS ?_) | ((first | refine M_bA hS ?_ | refine M_b1 hS ?_ | refine M_aA hS ?_ | refine M_a1 hS ?_ | refine M_sl hS ?_ | refine M_s1 hS ?_ | refine M_mm hS ?_); clear hS; intro b w hS) | ((first | refine M_st hS ?_ | refine M_sA hS ?_ | refine M_in hS ?_ | refine M_sR hS ?_); clear hS; intro w hS; (try simp only [List.set_cons_zero, List.set_cons_succ, Nat.zero_add] at hS)) | (refine M_ap hS ?_; clear hS; intro g cap w hS) | refine M_pn ?_ | ((first | refine M_im hS ?_ | refine M_ii hS ?_ | refine M_dl hS ?_); clear hS; intro w hS)) | refine X_k (by (try simp only [Fm.toList, List.set_cons_succ, List.set_cons_zero]); exact rfl) ?_ | refine S_u ?_ | refine S_v ?_ | refine C_sq ?_ | refine C_rg ?_ | refine L_nil ?_ | refine C_bk ?_ | refine C_ct ?_ | refine C_cf ?_ | refine C_sk ?_ | refine C_ex ?_ | refine C_rt ?_ | refine X_e ?_ | refine X_r ?_ | refine X_bh ?_ | refine X_be ?_ | refine X_br ?_ | refine X_bn ?_ | refine X_p ?_ | refine X_bp ?_)
    (try refine L_nil ?_); refine hQ' _ _ hS.sb ?_; clear hQ' hE'
    (with_reducible apply P_one); rfl; refine P_f ?_; intro Q' hQ' hE'
    repeat (first | (refine S_w ?_; first | (refine S_d hS ?_) | (refine S_y hS ?_) | ((first | refine M_bA hS ?_ | refine M_b1 hS ?_ | refine M_aA hS ?_ | refine M_a1 hS ?_ | refine M_sl hS ?_ | refine M_s1 hS ?_ | refine M_mm hS ?_); clear hS; intro b w hS) | ((first | refine M_st hS ?_ | refine M_sA hS ?_ | refine M_in hS ?_ | refine M_sR hS ?_); clear hS; intro w hS; (try simp only [List.set_cons_zero, List.set_cons_succ, Nat.zero_add] at hS)) | (refine M_ap hS ?_; clear hS; intro g cap w hS) | refine M_pn ?_ | ((first | refine M_im hS ?_ | refine M_ii hS ?_ | refine M_dl hS ?_); clear hS; intro w hS)) | refine X_k (by (try simp only [Fm.toList, List.set_cons_succ, List.set_cons_zero]); exact rfl) ?_ | refine S_u ?_ | refine S_v ?_ | refine C_sq ?_ | refine C_rg ?_ | refine L_nil ?_ | refine C_bk ?_ | refine C_ct ?_ | refine C_cf ?_ | refine C_sk ?_ | refine C_ex ?_ | refine C_rt ?_ | refine X_e ?_ | refine X_r ?_ | refine X_bh ?_ | refine X_be ?_ | refine X_br ?_ | refine X_bn ?_ | refine X_p ?_ | refine X_bp ?_)
    (try refine L_nil ?_); refine hQ' _ _ hS.sb ?_; clear hQ' hE'
    refine P_d ?_
    have hfd := kno_fd seen (i : Int)
    by_cases hi : i ∈ seen
    · rw [if_pos (kno_mem.2 hi)] at hfd
      repeat (first | (refine S_w ?_; first | (refine S_d hS ?_) | (refine S_y hS ?_) | ((first | refine M_bA hS ?_ | refine M_b1 hS ?_ | refine M_aA hS ?_ | refine M_a1 hS ?_ | refine M_sl hS ?_ | refine M_s1 hS ?_ | refine M_mm hS ?_); clear hS; intro b w hS) | ((first | refine M_st hS ?_ | refine M_sA hS ?_ | refine M_in hS ?_ | refine M_sR hS ?_); clear hS; intro w hS; (try simp only [List.set_cons_zero, List.set_cons_succ, Nat.zero_add] at hS)) | (refine M_ap hS ?_; clear hS; intro g cap w hS) | refine M_pn ?_ | ((first | refine M_im hS ?_ | refine M_ii hS ?_ | refine M_dl hS ?_); clear hS; intro w hS)) | refine X_k (by (try simp only [Fm.toList, List.set_cons_succ, List.set_cons_zero]); exact rfl) ?_ | refine S_u ?_ | refine S_v ?_ | refine C_sq ?_ | refine C_rg ?_ | refine L_nil ?_ | refine C_bk ?_ | refine C_ct ?_ | refine C_cf ?_ | refine C_sk ?_ | refine C_ex ?_ | refine C_rt ?_ | refine X_e ?_ | refine X_r ?_ | refine X_bh ?_ | refine X_be ?_ | refine X_br ?_ | refine X_bn ?_ | refine X_p ?_ | refine X_bp ?_)
      have hS : St F w0 (Res.qu 45 A2 c2 (i :: q).length (qv (i :: q)) :: Res.dm iv mb (knL seen) :: rs) w := hS.sb
      have hS := hS.quTail (by omega)
      refine R_e ⟨seen, q, subA A2 c2 1 1, c2 - 1⟩ ⟨hB.skip hi, by simp only; omega, hS⟩ (by simp only; omega)
    · rw [if_neg (fun h => hi (kno_mem.1 h))] at hfd
      have hka : Dg.kadd seen i = seen ++ [i] := by unfold Dg.kadd; rw [if_neg hi]
      cases n with
      | leaf z =>
        have hS : St F w0 (Res.obj b (.cells [.int .i64 (-1), .int .i64 z, .int .i64 0, .int .i64 0].toArray 100 (0, 0)) :: Res.qu 45 A2 c2 (i :: q).length (qv (i :: q)) :: Res.dm iv mb (knL seen) :: rs) w := hS
        repeat (first | (refine S_w ?_; first | (refine S_d hS ?_) | (refine S_y hS ?_) | ((first | refine M_bA hS ?_ | refine M_b1 hS ?_ | refine M_aA hS ?_ | refine M_a1 hS ?_ | refine M_sl hS ?_ | refine M_s1 hS ?_ | refine M_mm hS ?_); clear hS; intro b w hS) | ((first | refine M_st hS ?_ | refine M_sA hS ?_ | refine M_in hS ?_ | refine M_sR hS ?_); clear hS; intro w hS; (try simp only [List.set_cons_zero, List.set_cons_succ, Nat.zero_add] at hS)) | (refine M_ap hS ?_; clear hS; intro g cap w hS) | refine M_pn ?_ | ((first | refine M_im hS ?_ | refine M_ii hS ?_ | refine M_dl hS ?_); clear hS; intro w hS)) | refine X_k (by (try simp only [Fm.toList, List.set_cons_succ, List.set_cons_zero]); exact rfl) ?_ | refine S_u ?_ | refine S_v ?_ | refine C_sq ?_ | refine C_rg ?_ | refine L_nil ?_ | refine C_bk ?_ | refine C_ct ?_ | refine C_cf ?_ | refine C_sk ?_ | refine C_ex ?_ | refine C_rt ?_ | refine X_e ?_ | refine X_r ?_ | refine X_bh ?_ | refine X_be ?_ | refine X_br ?_ | refine X_bn ?_ | refine X_p ?_ | refine X_bp ?_)
        rw [knL_put, hka] at hS
        have hS : St F w0 (Res.qu 45 A2 c2 (i :: q).length (qv (i :: q)) :: Res.dm iv mb (knL (seen ++ [i])) :: rs) w := hS.sb
        have hS := hS.quTail (by omega)
        have hB2 := hB.leaf hi hn
        have hsl2 := (hB2.lt hok hr).1
        rw [List.length_append] at hsl2
        refine R_e ⟨seen ++ [i], q, subA A2 c2 1 1, c2 - 1⟩ ⟨hB2, by simp only [List.length_append]; omega, hS⟩ (by simp only [List.length_append, List.length_singleton] at hsl2 ⊢; omega)
      | test k lo hi2 =>
        have hS : St F w0 (Res.obj b (.cells [.int .i64 (k : Nat), .int .i64 0, .int .i64 (lo : Nat), .int .i64 (hi2 : Nat)].toArray 100 (0, 0)) :: Res.qu 45 A2 c2 (i :: q).length (qv (i :: q)) :: Res.dm iv mb (knL seen) :: rs) w := hS
        repeat (first | (refine S_w ?_; first | (refine M_qa hS ?_; clear hS; intro A3 c3 w hS) | (refine S_d hS ?_) | (refine S_y hS ?_) | ((first | refine M_bA hS ?_ | refine M_b1 hS ?_ | refine M_aA hS ?_ | refine M_a1 hS ?_ | refine M_sl hS ?_ | refine M_s1 hS ?_ | refine M_mm hS ?_); clear hS; intro b w hS) | ((first | refine M_st hS ?_ | refine M_sA hS ?_ | refine M_in hS ?_ | refine M_sR hS ?_); clear hS; intro w hS; (try simp only [List.set_cons_zero, List.set_cons_succ, Nat.zero_add] at hS)) | (refine M_ap hS ?_; clear hS; intro g cap w hS) | refine M_pn ?_ | ((first | refine M_im hS ?_ | refine M_ii hS ?_ | refine M_dl hS ?_); clear hS; intro w hS)) | refine X_k (by (try simp only [Fm.toList, List.set_cons_succ, List.set_cons_zero]); exact rfl) ?_ | refine S_u ?_ | refine S_v ?_ | refine C_sq ?_ | refine C_rg ?_ | refine L_nil ?_ | refine C_bk ?_ | refine C_ct ?_ | refine C_cf ?_ | refine C_sk ?_ | refine C_ex ?_ | refine C_rt ?_ | refine X_e ?_ | refine X_r ?_ | refine X_bh ?_ | refine X_be ?_ | refine X_br ?_ | refine X_bn ?_ | refine X_p ?_ | refine X_bp ?_)
        rw [knL_put, hka] at hS
        have hS : St F w0 (Res.qu 45 A3 c3 ((i :: q).length + 2) (qv (i :: q) ++ [.int .i64 (lo : Nat), .int .i64 (hi2 : Nat)]) :: Res.dm iv mb (knL (seen ++ [i])) :: rs) w := hS.sb
        have hS := hS.quTail (by omega)
        have hB2 := hB.test hi hn
        have hsl2 := (hB2.lt hok hr).1
        rw [List.length_append] at hsl2
        have hq2 : (qv (i :: q) ++ [Value.int .i64 (lo : Nat), Value.int .i64 (hi2 : Nat)]).tail = qv (q ++ [lo, hi2]) := by simp [qv]
        have hql2 : (i :: q).length + 2 - 1 = (q ++ [lo, hi2]).length := by simp
        have hql3 : (i :: q).length + 2 - Int.toNat 1 = (q ++ [lo, hi2]).length := hql2
        rw [hq2, hql2] at hS
        rw [hql3]
        refine R_e ⟨seen ++ [i], q ++ [lo, hi2], subA A3 c3 1 1, c3 - 1⟩ ⟨hB2, by simp only [List.length_append, List.length_cons, List.length_nil] at hql ⊢; omega, hS⟩ (by simp only [List.length_append, List.length_cons, List.length_nil, List.length_singleton] at hsl2 ⊢; omega)
end
end Go.Proofs.Ytijmggoikieelaa
