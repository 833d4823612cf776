/-
  regex.Format: the text of an expression.
-/
import Derived.Test.YtcholfpomalgdaaRxText
namespace Go.Proofs.Ytcholfpomalgdaa
open Go.RowKit

section
variable (A : Option Addr) (n c : Nat) (L : List Pc) (be bb bv bw : Nat) (fty : TypeId)
def WArgs (i : Int) : Array Value := #[.int .i64 i, .pointer (some ⟨be, 0, none⟩), .pointer (some ⟨bb, 0, none⟩), .pointer (some ⟨bv, 0, none⟩), .pointer (some ⟨bw, 0, none⟩)]
set_option maxHeartbeats 8000000 in
set_option maxRecDepth 100000 in
theorem writeR (hl : L.length = n) (hn : n ≤ 4294967296) {v : Int} : ∀ (t : T) (k : Nat), At L k t → t.wf v → ∀ (F : Nat → Prop) (w0 : World) (rs : List Res) (w : World) (s : List UInt8), Bst F w0 bb s rs w → s.length + 34 * t.size ≤ 4294967295 →
    HasObj rs be (.cells [.slice A n c].toArray 23 (0, 0)) → HasObj rs bv (.cells [.int .i64 v].toArray 3 (0, 0)) →
    HasObj rs bw (.cells [.func (.func 28) #[] #[.pointer (some ⟨be, 0, none⟩), .pointer (some ⟨bb, 0, none⟩), .pointer (some ⟨bv, 0, none⟩), .pointer (some ⟨bw, 0, none⟩)]].toArray fty (0, 0)) → HasSl rs A n 5 (rxCells L) →
    CallsR Try.prog 28 (WArgs be bb bv bw (((k + t.size : Nat) : Int) - 1)) w fun r w' => r = .tuple #[] ∧ Bst F w0 bb (s ++ t.text) rs w' := by
  intro t
  induction t with
  | none =>
    intro k hat hwf F w0 rs w s hB hlen h1 h2 h3 h4
    have hlt := hat.lt
    have hpd : ((rxCells L).drop ((((k + (T.none).size : Nat) : Int) - 1).toNat * 5)).take [vb 1, vb 0, vb 0, .int .i64 0, .int .i64 0].length = [vb 1, vb 0, vb 0, .int .i64 0, .int .i64 0] := hat.drop
    have hsz : (T.none).size = 1 := rfl
    obtain ⟨p, q, hp, hS⟩ := hB
    show CallsR _ _ #[_, .pointer (some ⟨be, 0, none⟩), .pointer (some ⟨bb, 0, none⟩), .pointer (some ⟨bv, 0, none⟩), .pointer (some ⟨bw, 0, none⟩)] _ _
    refine E_r (m := 57) ?_ Try.func28 rfl Try.ntmps28 rfl; refine C_ft ?_
    repeat (first | (refine S_w ?_; first | (refine M_c (writeB (48 : UInt8) ⟨p, q, hp, hS.p3⟩ (by omega)) ?_) | (refine S_y hS ?_) | ((first | refine M_bA hS ?_ | refine M_b1 hS ?_ | refine M_aA hS ?_ | refine M_a1 hS ?_ | refine M_sl hS ?_ | refine M_s1 hS ?_ | refine M_mm hS ?_); clear hS; intro b w hS) | ((first | refine M_st hS ?_ | refine M_sA hS ?_ | refine M_in hS ?_ | refine M_sR hS ?_); clear hS; intro w hS; (try simp only [List.set_cons_zero, List.set_cons_succ, Nat.zero_add] at hS)) | (refine M_ap hS ?_; clear hS; intro g cap w hS) | refine M_pn ?_) | refine X_k (by (try simp only [Fm.toList, List.set_cons_succ, List.set_cons_zero]); exact rfl) ?_ | refine S_u ?_ | refine S_v ?_ | refine C_sq ?_ | refine C_rg ?_ | refine L_nil ?_ | refine C_bk ?_ | refine C_ct ?_ | refine C_cf ?_ | refine C_sk ?_ | refine C_ex ?_ | refine C_rt ?_ | refine X_e ?_ | refine X_r ?_ | refine X_bh ?_ | refine X_be ?_ | refine X_br ?_ | refine X_bn ?_ | refine X_p ?_ | refine X_bp ?_)
    rintro _ w1 ⟨rfl, p, q, hp, hS⟩
    repeat (first | (refine S_w ?_; first | (refine S_y hS ?_) | ((first | refine M_bA hS ?_ | refine M_b1 hS ?_ | refine M_aA hS ?_ | refine M_a1 hS ?_ | refine M_sl hS ?_ | refine M_s1 hS ?_ | refine M_mm hS ?_); clear hS; intro b w hS) | ((first | refine M_st hS ?_ | refine M_sA hS ?_ | refine M_in hS ?_ | refine M_sR hS ?_); clear hS; intro w hS; (try simp only [List.set_cons_zero, List.set_cons_succ, Nat.zero_add] at hS)) | (refine M_ap hS ?_; clear hS; intro g cap w hS) | refine M_pn ?_) | refine X_k (by (try simp only [Fm.toList, List.set_cons_succ, List.set_cons_zero]); exact rfl) ?_ | refine S_u ?_ | refine S_v ?_ | refine C_sq ?_ | refine C_rg ?_ | refine L_nil ?_ | refine C_bk ?_ | refine C_ct ?_ | refine C_cf ?_ | refine C_sk ?_ | refine C_ex ?_ | refine C_rt ?_ | refine X_e ?_ | refine X_r ?_ | refine X_bh ?_ | refine X_be ?_ | refine X_br ?_ | refine X_bn ?_ | refine X_p ?_ | refine X_bp ?_)
    refine V_e ⟨rfl, p, q, hp, hS.sb⟩
  | empty =>
    intro k hat hwf F w0 rs w s hB hlen h1 h2 h3 h4
    have hlt := hat.lt
    have hpd : ((rxCells L).drop ((((k + (T.empty).size : Nat) : Int) - 1).toNat * 5)).take [vb 2, vb 0, vb 0, .int .i64 0, .int .i64 0].length = [vb 2, vb 0, vb 0, .int .i64 0, .int .i64 0] := hat.drop
    have hsz : (T.empty).size = 1 := rfl
    obtain ⟨p, q, hp, hS⟩ := hB
    show CallsR _ _ #[_, .pointer (some ⟨be, 0, none⟩), .pointer (some ⟨bb, 0, none⟩), .pointer (some ⟨bv, 0, none⟩), .pointer (some ⟨bw, 0, none⟩)] _ _
    refine E_r (m := 57) ?_ Try.func28 rfl Try.ntmps28 rfl; refine C_ft ?_
    repeat (first | (refine S_w ?_; first | (refine M_c (writeB (49 : UInt8) ⟨p, q, hp, hS.p3⟩ (by omega)) ?_) | (refine S_y hS ?_) | ((first | refine M_bA hS ?_ | refine M_b1 hS ?_ | refine M_aA hS ?_ | refine M_a1 hS ?_ | refine M_sl hS ?_ | refine M_s1 hS ?_ | refine M_mm hS ?_); clear hS; intro b w hS) | ((first | refine M_st hS ?_ | refine M_sA hS ?_ | refine M_in hS ?_ | refine M_sR hS ?_); clear hS; intro w hS; (try simp only [List.set_cons_zero, List.set_cons_succ, Nat.zero_add] at hS)) | (refine M_ap hS ?_; clear hS; intro g cap w hS) | refine M_pn ?_) | refine X_k (by (try simp only [Fm.toList, List.set_cons_succ, List.set_cons_zero]); exact rfl) ?_ | refine S_u ?_ | refine S_v ?_ | refine C_sq ?_ | refine C_rg ?_ | refine L_nil ?_ | refine C_bk ?_ | refine C_ct ?_ | refine C_cf ?_ | refine C_sk ?_ | refine C_ex ?_ | refine C_rt ?_ | refine X_e ?_ | refine X_r ?_ | refine X_bh ?_ | refine X_be ?_ | refine X_br ?_ | refine X_bn ?_ | refine X_p ?_ | refine X_bp ?_)
    rintro _ w1 ⟨rfl, p, q, hp, hS⟩
    repeat (first | (refine S_w ?_; first | (refine S_y hS ?_) | ((first | refine M_bA hS ?_ | refine M_b1 hS ?_ | refine M_aA hS ?_ | refine M_a1 hS ?_ | refine M_sl hS ?_ | refine M_s1 hS ?_ | refine M_mm hS ?_); clear hS; intro b w hS) | ((first | refine M_st hS ?_ | refine M_sA hS ?_ | refine M_in hS ?_ | refine M_sR hS ?_); clear hS; intro w hS; (try simp only [List.set_cons_zero, List.set_cons_succ, Nat.zero_add] at hS)) | (refine M_ap hS ?_; clear hS; intro g cap w hS) | refine M_pn ?_) | refine X_k (by (try simp only [Fm.toList, List.set_cons_succ, List.set_cons_zero]); exact rfl) ?_ | refine S_u ?_ | refine S_v ?_ | refine C_sq ?_ | refine C_rg ?_ | refine L_nil ?_ | refine C_bk ?_ | refine C_ct ?_ | refine C_cf ?_ | refine C_sk ?_ | refine C_ex ?_ | refine C_rt ?_ | refine X_e ?_ | refine X_r ?_ | refine X_bh ?_ | refine X_be ?_ | refine X_br ?_ | refine X_bn ?_ | refine X_p ?_ | refine X_bp ?_)
    refine V_e ⟨rfl, p, q, hp, hS.sb⟩
  | letter lp ln =>
    intro k hat hwf F w0 rs w s hB hlen h1 h2 h3 h4
    have hlt := hat.lt
    obtain ⟨h5, h6, _⟩ := wf_letter hwf
    have hfl := fmtText_len lp ln
    have hfu := format_u lp ln v (by omega) (by omega)
    have htu : txtU lp ln v = fmtText lp ln := if_pos hwf
    rw [htu] at hfu
    have hpd : ((rxCells L).drop ((((k + (T.letter lp ln).size : Nat) : Int) - 1).toNat * 5)).take [vb 3, vb lp, vb ln, .int .i64 0, .int .i64 0].length = [vb 3, vb lp, vb ln, .int .i64 0, .int .i64 0] := hat.drop
    have hsz : (T.letter lp ln).size = 1 := rfl
    obtain ⟨p, q, hp, hS⟩ := hB
    show CallsR _ _ #[_, .pointer (some ⟨be, 0, none⟩), .pointer (some ⟨bb, 0, none⟩), .pointer (some ⟨bv, 0, none⟩), .pointer (some ⟨bw, 0, none⟩)] _ _
    refine E_r (m := 57) ?_ Try.func28 rfl Try.ntmps28 rfl; refine C_ft ?_
    repeat (first | (refine S_w ?_; first | (refine M_c (Calls.toR (hfu _)) ?_) | (refine S_y hS ?_) | ((first | refine M_bA hS ?_ | refine M_b1 hS ?_ | refine M_aA hS ?_ | refine M_a1 hS ?_ | refine M_sl hS ?_ | refine M_s1 hS ?_ | refine M_mm hS ?_); clear hS; intro b w hS) | ((first | refine M_st hS ?_ | refine M_sA hS ?_ | refine M_in hS ?_ | refine M_sR hS ?_); clear hS; intro w hS; (try simp only [List.set_cons_zero, List.set_cons_succ, Nat.zero_add] at hS)) | (refine M_ap hS ?_; clear hS; intro g cap w hS) | refine M_pn ?_) | refine X_k (by (try simp only [Fm.toList, List.set_cons_succ, List.set_cons_zero]); exact rfl) ?_ | refine S_u ?_ | refine S_v ?_ | refine C_sq ?_ | refine C_rg ?_ | refine L_nil ?_ | refine C_bk ?_ | refine C_ct ?_ | refine C_cf ?_ | refine C_sk ?_ | refine C_ex ?_ | refine C_rt ?_ | refine X_e ?_ | refine X_r ?_ | refine X_bh ?_ | refine X_be ?_ | refine X_br ?_ | refine X_bn ?_ | refine X_p ?_ | refine X_bp ?_)
    rintro _ w1 ⟨rfl, hb1⟩
    have hS := hS.call (Fr.of hb1)
    repeat (first | (refine S_w ?_; first | (refine M_c (writeS ([91] ++ fmtText lp ln ++ [93]) ⟨p, q, hp, hS.p3⟩ (by simp; omega)) ?_) | (refine S_y hS ?_) | ((first | refine M_bA hS ?_ | refine M_b1 hS ?_ | refine M_aA hS ?_ | refine M_a1 hS ?_ | refine M_sl hS ?_ | refine M_s1 hS ?_ | refine M_mm hS ?_); clear hS; intro b w hS) | ((first | refine M_st hS ?_ | refine M_sA hS ?_ | refine M_in hS ?_ | refine M_sR hS ?_); clear hS; intro w hS; (try simp only [List.set_cons_zero, List.set_cons_succ, Nat.zero_add] at hS)) | (refine M_ap hS ?_; clear hS; intro g cap w hS) | refine M_pn ?_) | refine X_k (by (try simp only [Fm.toList, List.set_cons_succ, List.set_cons_zero]); exact rfl) ?_ | refine S_u ?_ | refine S_v ?_ | refine C_sq ?_ | refine C_rg ?_ | refine L_nil ?_ | refine C_bk ?_ | refine C_ct ?_ | refine C_cf ?_ | refine C_sk ?_ | refine C_ex ?_ | refine C_rt ?_ | refine X_e ?_ | refine X_r ?_ | refine X_bh ?_ | refine X_be ?_ | refine X_br ?_ | refine X_bn ?_ | refine X_p ?_ | refine X_bp ?_)
    rintro _ w1 ⟨_, p, q, hp, hS⟩
    repeat (first | (refine S_w ?_; first | (refine S_y hS ?_) | ((first | refine M_bA hS ?_ | refine M_b1 hS ?_ | refine M_aA hS ?_ | refine M_a1 hS ?_ | refine M_sl hS ?_ | refine M_s1 hS ?_ | refine M_mm hS ?_); clear hS; intro b w hS) | ((first | refine M_st hS ?_ | refine M_sA hS ?_ | refine M_in hS ?_ | refine M_sR hS ?_); clear hS; intro w hS; (try simp only [List.set_cons_zero, List.set_cons_succ, Nat.zero_add] at hS)) | (refine M_ap hS ?_; clear hS; intro g cap w hS) | refine M_pn ?_) | refine X_k (by (try simp only [Fm.toList, List.set_cons_succ, List.set_cons_zero]); exact rfl) ?_ | refine S_u ?_ | refine S_v ?_ | refine C_sq ?_ | refine C_rg ?_ | refine L_nil ?_ | refine C_bk ?_ | refine C_ct ?_ | refine C_cf ?_ | refine C_sk ?_ | refine C_ex ?_ | refine C_rt ?_ | refine X_e ?_ | refine X_r ?_ | refine X_bh ?_ | refine X_be ?_ | refine X_br ?_ | refine X_bn ?_ | refine X_p ?_ | refine X_bp ?_)
    refine V_e ⟨rfl, p, q, hp, hS.sb⟩
  | un op a ih =>
    intro k hat hwf F w0 rs w s hB hlen h1 h2 h3 h4
    have hlt := hat.lt
    have hsa := T.size_pos a
    have hlo := ops_look op
    have hk1 := hwf.1
    have hk := kids_one.1 hk1
    have e1 := opB_len op
    have e2 := opM_len op
    have e3 := opA_len op
    have htl := T.text_len a
    have ihc := ih k hat.un hwf.2
    have hpd : ((rxCells L).drop ((((k + (T.un op a).size : Nat) : Int) - 1).toNat * 5)).take [vb op, vb 0, vb 0, .int .i64 (((k + a.size : Nat) : Int) - 1), .int .i64 0].length = [vb op, vb 0, vb 0, .int .i64 (((k + a.size : Nat) : Int) - 1), .int .i64 0] := hat.drop
    have hsz : (T.un op a).size = a.size + 1 := rfl
    obtain ⟨p, q, hp, hS⟩ := hB
    show CallsR _ _ #[_, .pointer (some ⟨be, 0, none⟩), .pointer (some ⟨bb, 0, none⟩), .pointer (some ⟨bv, 0, none⟩), .pointer (some ⟨bw, 0, none⟩)] _ _
    refine E_r (m := 57) ?_ Try.func28 rfl Try.ntmps28 rfl; refine C_ft ?_
    repeat (first | (refine S_w ?_; first | (refine S_y hS ?_) | ((first | refine M_bA hS ?_ | refine M_b1 hS ?_ | refine M_aA hS ?_ | refine M_a1 hS ?_ | refine M_sl hS ?_ | refine M_s1 hS ?_ | refine M_mm hS ?_); clear hS; intro b w hS) | ((first | refine M_st hS ?_ | refine M_sA hS ?_ | refine M_in hS ?_ | refine M_sR hS ?_); clear hS; intro w hS; (try simp only [List.set_cons_zero, List.set_cons_succ, Nat.zero_add] at hS)) | (refine M_ap hS ?_; clear hS; intro g cap w hS) | refine M_pn ?_) | refine X_k (by (try simp only [Fm.toList, List.set_cons_succ, List.set_cons_zero]); exact rfl) ?_ | refine S_u ?_ | refine S_v ?_ | refine C_sq ?_ | refine C_rg ?_ | refine L_nil ?_ | refine C_bk ?_ | refine C_ct ?_ | refine C_cf ?_ | refine C_sk ?_ | refine C_ex ?_ | refine C_rt ?_ | refine X_e ?_ | refine X_r ?_ | refine X_bh ?_ | refine X_be ?_ | refine X_br ?_ | refine X_bn ?_ | refine X_p ?_ | refine X_bp ?_)
    refine C_pm (.take 1 (.take 2 (.two 0 4 (.two 3 4 (.one 4 (.one 5 .done)) (.one 3 (.one 5 .done))) (.one 0 (.one 3 (.one 5 .done)))))) (fun (z1 : Nat × Nat) f => ((((f.upd 16 (.map (some z1.1))).upd 17 (.pointer (some ⟨b, 0, none⟩))).upd 18 (vb op)).upd 19 (opV op)).upd 9 (.pointer (some ⟨z1.2, 0, none⟩))) (fun z1 => Res.obj z1.2 (.cells [.int .i64 (kids op), .string ⟨(opB op).toArray⟩, .string ⟨(opM op).toArray⟩, .string ⟨(opA op).toArray⟩].toArray 67 (0, 0)) :: Res.obj b (.cells [vb op, vb 0, vb 0, .int .i64 (((k + a.size : Nat) : Int) - 1), .int .i64 0].toArray 34 (0, 0)) :: Res.obj bb (.cells [p, q].toArray 56 (0, 0)) :: Res.row 5 1 q s.length (Lib.byteCells s) :: rs) hS ?_ ?_
    · clear hS; intro w hS
      (with_reducible apply P_t); rfl; refine P_y hS.sb (by first | exact Yfc | exact Yp) ?_; (with_reducible apply P_t); rfl; refine P_y hS.sb Yld ?_
      (with_reducible apply P_two); rfl; rfl
      · refine P_f ?_; intro Q' hQ' hE'
        refine S_w ?_; refine M_c (opsR _) ?_
        rintro _ w1 ⟨bm, rfl, hlt, hh, hf⟩
        have hS := hS.freshObj hf hh hlt
        clear hlt hh hf
        (try refine L_nil ?_); refine hQ' _ _ hS.sb ?_; clear hQ' hE'
        (with_reducible apply P_two); rfl; rfl
        · refine P_f ?_; intro Q' hQ' hE'
          refine S_w ?_; refine S_q hS Ymp ?_
          (try refine L_nil ?_); refine hQ' _ _ hS.sb ?_; clear hQ' hE'
          (with_reducible apply P_one); rfl; refine P_f ?_; intro Q' hQ' hE'
          refine S_w ?_; refine M_aA hS ?_; clear hS; intro b w hS
          (try refine L_nil ?_); refine hQ' _ _ hS.sb ?_; clear hQ' hE'
          (with_reducible apply P_one); rfl; refine P_f ?_; intro Q' hQ' hE'
          refine S_w ?_; refine M_sA hS ?_; clear hS; intro w hS
          (try refine L_nil ?_); refine hQ' _ _ hS.sb ?_; clear hQ' hE'
          refine P_m (bm, b) hS.sb
        · refine P_f ?_; intro Q' hQ' hE'
          refine S_w ?_; refine M_aA hS ?_; clear hS; intro b w hS
          (try refine L_nil ?_); refine hQ' _ _ hS.sb ?_; clear hQ' hE'
          (with_reducible apply P_one); rfl; refine P_f ?_; intro Q' hQ' hE'
          refine S_w ?_; refine S_q hS Ymp ?_
          (try refine L_nil ?_); refine hQ' _ _ hS.sb ?_; clear hQ' hE'
          (with_reducible apply P_one); rfl; refine P_f ?_; intro Q' hQ' hE'
          refine S_w ?_; refine M_sA hS ?_; clear hS; intro w hS
          (try refine L_nil ?_); refine hQ' _ _ hS.sb ?_; clear hQ' hE'
          refine P_m (bm, b) hS.sb
      · refine P_f ?_; intro Q' hQ' hE'
        refine S_w ?_; refine M_aA hS ?_; clear hS; intro b w hS
        (try refine L_nil ?_); refine hQ' _ _ hS.sb ?_; clear hQ' hE'
        (with_reducible apply P_one); rfl; refine P_f ?_; intro Q' hQ' hE'
        refine S_w ?_; refine M_c (opsR _) ?_
        rintro _ w1 ⟨bm, rfl, hlt, hh, hf⟩
        have hS := hS.freshObj hf hh hlt
        clear hlt hh hf
        (try refine L_nil ?_); refine hQ' _ _ hS.sb ?_; clear hQ' hE'
        (with_reducible apply P_one); rfl; refine P_f ?_; intro Q' hQ' hE'
        refine S_w ?_; refine S_q hS Ymp ?_
        (try refine L_nil ?_); refine hQ' _ _ hS.sb ?_; clear hQ' hE'
        (with_reducible apply P_one); rfl; refine P_f ?_; intro Q' hQ' hE'
        refine S_w ?_; refine M_sA hS ?_; clear hS; intro w hS
        (try refine L_nil ?_); refine hQ' _ _ hS.sb ?_; clear hQ' hE'
        refine P_m (bm, b) hS.sb
    rintro ⟨bm, ba⟩ w hS
    simp only at hS
    repeat (first | (refine S_w ?_; first | (refine M_c (writeS (opB op) ⟨p, q, hp, hS.p4⟩ (by (try simp only [List.length_append]); omega)) ?_) | (refine S_y hS ?_) | ((first | refine M_bA hS ?_ | refine M_b1 hS ?_ | refine M_aA hS ?_ | refine M_a1 hS ?_ | refine M_sl hS ?_ | refine M_s1 hS ?_ | refine M_mm hS ?_); clear hS; intro b w hS) | ((first | refine M_st hS ?_ | refine M_sA hS ?_ | refine M_in hS ?_ | refine M_sR hS ?_); clear hS; intro w hS; (try simp only [List.set_cons_zero, List.set_cons_succ, Nat.zero_add] at hS)) | (refine M_ap hS ?_; clear hS; intro g cap w hS) | refine M_pn ?_) | refine X_k (by (try simp only [Fm.toList, List.set_cons_succ, List.set_cons_zero]); exact rfl) ?_ | refine S_u ?_ | refine S_v ?_ | refine C_sq ?_ | refine C_rg ?_ | refine L_nil ?_ | refine C_bk ?_ | refine C_ct ?_ | refine C_cf ?_ | refine C_sk ?_ | refine C_ex ?_ | refine C_rt ?_ | refine X_e ?_ | refine X_r ?_ | refine X_bh ?_ | refine X_be ?_ | refine X_br ?_ | refine X_bn ?_ | refine X_p ?_ | refine X_bp ?_)
    rintro _ w1 ⟨_, p, q, hp, hS⟩
    repeat (first | (refine S_w ?_; first | (refine M_c (ihc F w0 _ _ _ ⟨p, q, hp, hS⟩ (by (try simp only [List.length_append]); omega) inferInstance inferInstance inferInstance inferInstance) ?_) | (refine S_y hS ?_) | ((first | refine M_bA hS ?_ | refine M_b1 hS ?_ | refine M_aA hS ?_ | refine M_a1 hS ?_ | refine M_sl hS ?_ | refine M_s1 hS ?_ | refine M_mm hS ?_); clear hS; intro b w hS) | ((first | refine M_st hS ?_ | refine M_sA hS ?_ | refine M_in hS ?_ | refine M_sR hS ?_); clear hS; intro w hS; (try simp only [List.set_cons_zero, List.set_cons_succ, Nat.zero_add] at hS)) | (refine M_ap hS ?_; clear hS; intro g cap w hS) | refine M_pn ?_) | refine X_k (by (try simp only [Fm.toList, List.set_cons_succ, List.set_cons_zero]); exact rfl) ?_ | refine S_u ?_ | refine S_v ?_ | refine C_sq ?_ | refine C_rg ?_ | refine L_nil ?_ | refine C_bk ?_ | refine C_ct ?_ | refine C_cf ?_ | refine C_sk ?_ | refine C_ex ?_ | refine C_rt ?_ | refine X_e ?_ | refine X_r ?_ | refine X_bh ?_ | refine X_be ?_ | refine X_br ?_ | refine X_bn ?_ | refine X_p ?_ | refine X_bp ?_)
    rintro _ w1 ⟨rfl, p, q, hp, hS⟩
    repeat (first | (refine S_w ?_; first | (refine M_c (writeS (opM op) ⟨p, q, hp, hS⟩ (by (try simp only [List.length_append]); omega)) ?_) | (refine S_y hS ?_) | ((first | refine M_bA hS ?_ | refine M_b1 hS ?_ | refine M_aA hS ?_ | refine M_a1 hS ?_ | refine M_sl hS ?_ | refine M_s1 hS ?_ | refine M_mm hS ?_); clear hS; intro b w hS) | ((first | refine M_st hS ?_ | refine M_sA hS ?_ | refine M_in hS ?_ | refine M_sR hS ?_); clear hS; intro w hS; (try simp only [List.set_cons_zero, List.set_cons_succ, Nat.zero_add] at hS)) | (refine M_ap hS ?_; clear hS; intro g cap w hS) | refine M_pn ?_) | refine X_k (by (try simp only [Fm.toList, List.set_cons_succ, List.set_cons_zero]); exact rfl) ?_ | refine S_u ?_ | refine S_v ?_ | refine C_sq ?_ | refine C_rg ?_ | refine L_nil ?_ | refine C_bk ?_ | refine C_ct ?_ | refine C_cf ?_ | refine C_sk ?_ | refine C_ex ?_ | refine C_rt ?_ | refine X_e ?_ | refine X_r ?_ | refine X_bh ?_ | refine X_be ?_ | refine X_br ?_ | refine X_bn ?_ | refine X_p ?_ | refine X_bp ?_)
    rintro _ w1 ⟨_, p, q, hp, hS⟩
    repeat (first | (refine S_w ?_; first | (refine M_c (writeS (opA op) ⟨p, q, hp, hS⟩ (by (try simp only [List.length_append]); omega)) ?_) | (refine S_y hS ?_) | ((first | refine M_bA hS ?_ | refine M_b1 hS ?_ | refine M_aA hS ?_ | refine M_a1 hS ?_ | refine M_sl hS ?_ | refine M_s1 hS ?_ | refine M_mm hS ?_); clear hS; intro b w hS) | ((first | refine M_st hS ?_ | refine M_sA hS ?_ | refine M_in hS ?_ | refine M_sR hS ?_); clear hS; intro w hS; (try simp only [List.set_cons_zero, List.set_cons_succ, Nat.zero_add] at hS)) | (refine M_ap hS ?_; clear hS; intro g cap w hS) | refine M_pn ?_) | refine X_k (by (try simp only [Fm.toList, List.set_cons_succ, List.set_cons_zero]); exact rfl) ?_ | refine S_u ?_ | refine S_v ?_ | refine C_sq ?_ | refine C_rg ?_ | refine L_nil ?_ | refine C_bk ?_ | refine C_ct ?_ | refine C_cf ?_ | refine C_sk ?_ | refine C_ex ?_ | refine C_rt ?_ | refine X_e ?_ | refine X_r ?_ | refine X_bh ?_ | refine X_be ?_ | refine X_br ?_ | refine X_bn ?_ | refine X_p ?_ | refine X_bp ?_)
    rintro _ w1 ⟨_, p, q, hp, hS⟩
    repeat (first | (refine S_w ?_; first | (refine S_y hS ?_) | ((first | refine M_bA hS ?_ | refine M_b1 hS ?_ | refine M_aA hS ?_ | refine M_a1 hS ?_ | refine M_sl hS ?_ | refine M_s1 hS ?_ | refine M_mm hS ?_); clear hS; intro b w hS) | ((first | refine M_st hS ?_ | refine M_sA hS ?_ | refine M_in hS ?_ | refine M_sR hS ?_); clear hS; intro w hS; (try simp only [List.set_cons_zero, List.set_cons_succ, Nat.zero_add] at hS)) | (refine M_ap hS ?_; clear hS; intro g cap w hS) | refine M_pn ?_) | refine X_k (by (try simp only [Fm.toList, List.set_cons_succ, List.set_cons_zero]); exact rfl) ?_ | refine S_u ?_ | refine S_v ?_ | refine C_sq ?_ | refine C_rg ?_ | refine L_nil ?_ | refine C_bk ?_ | refine C_ct ?_ | refine C_cf ?_ | refine C_sk ?_ | refine C_ex ?_ | refine C_rt ?_ | refine X_e ?_ | refine X_r ?_ | refine X_bh ?_ | refine X_be ?_ | refine X_br ?_ | refine X_bn ?_ | refine X_p ?_ | refine X_bp ?_)
    refine V_e ⟨rfl, p, q, hp, ?_⟩
    have e : s ++ (T.un op a).text = s ++ opB op ++ a.text ++ opM op ++ opA op := by simp [T.text]
    rw [e]
    exact hS.sb
  | bin op ta tb iha ihb =>
    intro k hat hwf F w0 rs w s hB hlen h1 h2 h3 h4
    have hlt := hat.lt
    have hsa := T.size_pos ta
    have hsb := T.size_pos tb
    have hlo := ops_look op
    have hk1 := hwf.1
    have hk := kids_two.1 hk1
    have e1 := opB_len op
    have e2 := opM_len op
    have e3 := opA_len op
    have htla := T.text_len ta
    have htlb := T.text_len tb
    have iha := iha k hat.left hwf.2.1
    have ihb := ihb (k + ta.size) hat.right hwf.2.2
    have hpd : ((rxCells L).drop ((((k + (T.bin op ta tb).size : Nat) : Int) - 1).toNat * 5)).take [vb op, vb 0, vb 0, .int .i64 (((k + ta.size : Nat) : Int) - 1), .int .i64 (((k + ta.size + tb.size : Nat) : Int) - 1)].length = [vb op, vb 0, vb 0, .int .i64 (((k + ta.size : Nat) : Int) - 1), .int .i64 (((k + ta.size + tb.size : Nat) : Int) - 1)] := hat.drop
    have hsz : (T.bin op ta tb).size = ta.size + tb.size + 1 := rfl
    obtain ⟨p, q, hp, hS⟩ := hB
    show CallsR _ _ #[_, .pointer (some ⟨be, 0, none⟩), .pointer (some ⟨bb, 0, none⟩), .pointer (some ⟨bv, 0, none⟩), .pointer (some ⟨bw, 0, none⟩)] _ _
    refine E_r (m := 57) ?_ Try.func28 rfl Try.ntmps28 rfl; refine C_ft ?_
    repeat (first | (refine S_w ?_; first | (refine S_y hS ?_) | ((first | refine M_bA hS ?_ | refine M_b1 hS ?_ | refine M_aA hS ?_ | refine M_a1 hS ?_ | refine M_sl hS ?_ | refine M_s1 hS ?_ | refine M_mm hS ?_); clear hS; intro b w hS) | ((first | refine M_st hS ?_ | refine M_sA hS ?_ | refine M_in hS ?_ | refine M_sR hS ?_); clear hS; intro w hS; (try simp only [List.set_cons_zero, List.set_cons_succ, Nat.zero_add] at hS)) | (refine M_ap hS ?_; clear hS; intro g cap w hS) | refine M_pn ?_) | refine X_k (by (try simp only [Fm.toList, List.set_cons_succ, List.set_cons_zero]); exact rfl) ?_ | refine S_u ?_ | refine S_v ?_ | refine C_sq ?_ | refine C_rg ?_ | refine L_nil ?_ | refine C_bk ?_ | refine C_ct ?_ | refine C_cf ?_ | refine C_sk ?_ | refine C_ex ?_ | refine C_rt ?_ | refine X_e ?_ | refine X_r ?_ | refine X_bh ?_ | refine X_be ?_ | refine X_br ?_ | refine X_bn ?_ | refine X_p ?_ | refine X_bp ?_)
    refine C_pm (.take 1 (.take 2 (.two 0 4 (.two 3 4 (.one 4 (.one 5 .done)) (.one 3 (.one 5 .done))) (.one 0 (.one 3 (.one 5 .done)))))) (fun (z1 : Nat × Nat) f => ((((f.upd 16 (.map (some z1.1))).upd 17 (.pointer (some ⟨b, 0, none⟩))).upd 18 (vb op)).upd 19 (opV op)).upd 9 (.pointer (some ⟨z1.2, 0, none⟩))) (fun z1 => Res.obj z1.2 (.cells [.int .i64 (kids op), .string ⟨(opB op).toArray⟩, .string ⟨(opM op).toArray⟩, .string ⟨(opA op).toArray⟩].toArray 67 (0, 0)) :: Res.obj b (.cells [vb op, vb 0, vb 0, .int .i64 (((k + ta.size : Nat) : Int) - 1), .int .i64 (((k + ta.size + tb.size : Nat) : Int) - 1)].toArray 34 (0, 0)) :: Res.obj bb (.cells [p, q].toArray 56 (0, 0)) :: Res.row 5 1 q s.length (Lib.byteCells s) :: rs) hS ?_ ?_
    · clear hS; intro w hS
      (with_reducible apply P_t); rfl; refine P_y hS.sb (by first | exact Yfc | exact Yp) ?_; (with_reducible apply P_t); rfl; refine P_y hS.sb Yld ?_
      (with_reducible apply P_two); rfl; rfl
      · refine P_f ?_; intro Q' hQ' hE'
        refine S_w ?_; refine M_c (opsR _) ?_
        rintro _ w1 ⟨bm, rfl, hlt, hh, hf⟩
        have hS := hS.freshObj hf hh hlt
        clear hlt hh hf
        (try refine L_nil ?_); refine hQ' _ _ hS.sb ?_; clear hQ' hE'
        (with_reducible apply P_two); rfl; rfl
        · refine P_f ?_; intro Q' hQ' hE'
          refine S_w ?_; refine S_q hS Ymp ?_
          (try refine L_nil ?_); refine hQ' _ _ hS.sb ?_; clear hQ' hE'
          (with_reducible apply P_one); rfl; refine P_f ?_; intro Q' hQ' hE'
          refine S_w ?_; refine M_aA hS ?_; clear hS; intro b w hS
          (try refine L_nil ?_); refine hQ' _ _ hS.sb ?_; clear hQ' hE'
          (with_reducible apply P_one); rfl; refine P_f ?_; intro Q' hQ' hE'
          refine S_w ?_; refine M_sA hS ?_; clear hS; intro w hS
          (try refine L_nil ?_); refine hQ' _ _ hS.sb ?_; clear hQ' hE'
          refine P_m (bm, b) hS.sb
        · refine P_f ?_; intro Q' hQ' hE'
          refine S_w ?_; refine M_aA hS ?_; clear hS; intro b w hS
          (try refine L_nil ?_); refine hQ' _ _ hS.sb ?_; clear hQ' hE'
          (with_reducible apply P_one); rfl; refine P_f ?_; intro Q' hQ' hE'
          refine S_w ?_; refine S_q hS Ymp ?_
          (try refine L_nil ?_); refine hQ' _ _ hS.sb ?_; clear hQ' hE'
          (with_reducible apply P_one); rfl; refine P_f ?_; intro Q' hQ' hE'
          refine S_w ?_; refine M_sA hS ?_; clear hS; intro w hS
          (try refine L_nil ?_); refine hQ' _ _ hS.sb ?_; clear hQ' hE'
          refine P_m (bm, b) hS.sb
      · refine P_f ?_; intro Q' hQ' hE'
        refine S_w ?_; refine M_aA hS ?_; clear hS; intro b w hS
        (try refine L_nil ?_); refine hQ' _ _ hS.sb ?_; clear hQ' hE'
        (with_reducible apply P_one); rfl; refine P_f ?_; intro Q' hQ' hE'
        refine S_w ?_; refine M_c (opsR _) ?_
        rintro _ w1 ⟨bm, rfl, hlt, hh, hf⟩
        have hS := hS.freshObj hf hh hlt
        clear hlt hh hf
        (try refine L_nil ?_); refine hQ' _ _ hS.sb ?_; clear hQ' hE'
        (with_reducible apply P_one); rfl; refine P_f ?_; intro Q' hQ' hE'
        refine S_w ?_; refine S_q hS Ymp ?_
        (try refine L_nil ?_); refine hQ' _ _ hS.sb ?_; clear hQ' hE'
        (with_reducible apply P_one); rfl; refine P_f ?_; intro Q' hQ' hE'
        refine S_w ?_; refine M_sA hS ?_; clear hS; intro w hS
        (try refine L_nil ?_); refine hQ' _ _ hS.sb ?_; clear hQ' hE'
        refine P_m (bm, b) hS.sb
    rintro ⟨bm, ba⟩ w hS
    simp only at hS
    repeat (first | (refine S_w ?_; first | (refine M_c (writeS (opB op) ⟨p, q, hp, hS.p4⟩ (by (try simp only [List.length_append]); omega)) ?_) | (refine S_y hS ?_) | ((first | refine M_bA hS ?_ | refine M_b1 hS ?_ | refine M_aA hS ?_ | refine M_a1 hS ?_ | refine M_sl hS ?_ | refine M_s1 hS ?_ | refine M_mm hS ?_); clear hS; intro b w hS) | ((first | refine M_st hS ?_ | refine M_sA hS ?_ | refine M_in hS ?_ | refine M_sR hS ?_); clear hS; intro w hS; (try simp only [List.set_cons_zero, List.set_cons_succ, Nat.zero_add] at hS)) | (refine M_ap hS ?_; clear hS; intro g cap w hS) | refine M_pn ?_) | refine X_k (by (try simp only [Fm.toList, List.set_cons_succ, List.set_cons_zero]); exact rfl) ?_ | refine S_u ?_ | refine S_v ?_ | refine C_sq ?_ | refine C_rg ?_ | refine L_nil ?_ | refine C_bk ?_ | refine C_ct ?_ | refine C_cf ?_ | refine C_sk ?_ | refine C_ex ?_ | refine C_rt ?_ | refine X_e ?_ | refine X_r ?_ | refine X_bh ?_ | refine X_be ?_ | refine X_br ?_ | refine X_bn ?_ | refine X_p ?_ | refine X_bp ?_)
    rintro _ w1 ⟨_, p, q, hp, hS⟩
    repeat (first | (refine S_w ?_; first | (refine M_c (iha F w0 _ _ _ ⟨p, q, hp, hS⟩ (by (try simp only [List.length_append]); omega) inferInstance inferInstance inferInstance inferInstance) ?_) | (refine S_y hS ?_) | ((first | refine M_bA hS ?_ | refine M_b1 hS ?_ | refine M_aA hS ?_ | refine M_a1 hS ?_ | refine M_sl hS ?_ | refine M_s1 hS ?_ | refine M_mm hS ?_); clear hS; intro b w hS) | ((first | refine M_st hS ?_ | refine M_sA hS ?_ | refine M_in hS ?_ | refine M_sR hS ?_); clear hS; intro w hS; (try simp only [List.set_cons_zero, List.set_cons_succ, Nat.zero_add] at hS)) | (refine M_ap hS ?_; clear hS; intro g cap w hS) | refine M_pn ?_) | refine X_k (by (try simp only [Fm.toList, List.set_cons_succ, List.set_cons_zero]); exact rfl) ?_ | refine S_u ?_ | refine S_v ?_ | refine C_sq ?_ | refine C_rg ?_ | refine L_nil ?_ | refine C_bk ?_ | refine C_ct ?_ | refine C_cf ?_ | refine C_sk ?_ | refine C_ex ?_ | refine C_rt ?_ | refine X_e ?_ | refine X_r ?_ | refine X_bh ?_ | refine X_be ?_ | refine X_br ?_ | refine X_bn ?_ | refine X_p ?_ | refine X_bp ?_)
    rintro _ w1 ⟨rfl, p, q, hp, hS⟩
    repeat (first | (refine S_w ?_; first | (refine M_c (writeS (opM op) ⟨p, q, hp, hS⟩ (by (try simp only [List.length_append]); omega)) ?_) | (refine S_y hS ?_) | ((first | refine M_bA hS ?_ | refine M_b1 hS ?_ | refine M_aA hS ?_ | refine M_a1 hS ?_ | refine M_sl hS ?_ | refine M_s1 hS ?_ | refine M_mm hS ?_); clear hS; intro b w hS) | ((first | refine M_st hS ?_ | refine M_sA hS ?_ | refine M_in hS ?_ | refine M_sR hS ?_); clear hS; intro w hS; (try simp only [List.set_cons_zero, List.set_cons_succ, Nat.zero_add] at hS)) | (refine M_ap hS ?_; clear hS; intro g cap w hS) | refine M_pn ?_) | refine X_k (by (try simp only [Fm.toList, List.set_cons_succ, List.set_cons_zero]); exact rfl) ?_ | refine S_u ?_ | refine S_v ?_ | refine C_sq ?_ | refine C_rg ?_ | refine L_nil ?_ | refine C_bk ?_ | refine C_ct ?_ | refine C_cf ?_ | refine C_sk ?_ | refine C_ex ?_ | refine C_rt ?_ | refine X_e ?_ | refine X_r ?_ | refine X_bh ?_ | refine X_be ?_ | refine X_br ?_ | refine X_bn ?_ | refine X_p ?_ | refine X_bp ?_)
    rintro _ w1 ⟨_, p, q, hp, hS⟩
    repeat (first | (refine S_w ?_; first | (refine M_c (ihb F w0 _ _ _ ⟨p, q, hp, hS⟩ (by (try simp only [List.length_append]); omega) inferInstance inferInstance inferInstance inferInstance) ?_) | (refine S_y hS ?_) | ((first | refine M_bA hS ?_ | refine M_b1 hS ?_ | refine M_aA hS ?_ | refine M_a1 hS ?_ | refine M_sl hS ?_ | refine M_s1 hS ?_ | refine M_mm hS ?_); clear hS; intro b w hS) | ((first | refine M_st hS ?_ | refine M_sA hS ?_ | refine M_in hS ?_ | refine M_sR hS ?_); clear hS; intro w hS; (try simp only [List.set_cons_zero, List.set_cons_succ, Nat.zero_add] at hS)) | (refine M_ap hS ?_; clear hS; intro g cap w hS) | refine M_pn ?_) | refine X_k (by (try simp only [Fm.toList, List.set_cons_succ, List.set_cons_zero]); exact rfl) ?_ | refine S_u ?_ | refine S_v ?_ | refine C_sq ?_ | refine C_rg ?_ | refine L_nil ?_ | refine C_bk ?_ | refine C_ct ?_ | refine C_cf ?_ | refine C_sk ?_ | refine C_ex ?_ | refine C_rt ?_ | refine X_e ?_ | refine X_r ?_ | refine X_bh ?_ | refine X_be ?_ | refine X_br ?_ | refine X_bn ?_ | refine X_p ?_ | refine X_bp ?_)
    rintro _ w1 ⟨rfl, p, q, hp, hS⟩
    repeat (first | (refine S_w ?_; first | (refine M_c (writeS (opA op) ⟨p, q, hp, hS⟩ (by (try simp only [List.length_append]); omega)) ?_) | (refine S_y hS ?_) | ((first | refine M_bA hS ?_ | refine M_b1 hS ?_ | refine M_aA hS ?_ | refine M_a1 hS ?_ | refine M_sl hS ?_ | refine M_s1 hS ?_ | refine M_mm hS ?_); clear hS; intro b w hS) | ((first | refine M_st hS ?_ | refine M_sA hS ?_ | refine M_in hS ?_ | refine M_sR hS ?_); clear hS; intro w hS; (try simp only [List.set_cons_zero, List.set_cons_succ, Nat.zero_add] at hS)) | (refine M_ap hS ?_; clear hS; intro g cap w hS) | refine M_pn ?_) | refine X_k (by (try simp only [Fm.toList, List.set_cons_succ, List.set_cons_zero]); exact rfl) ?_ | refine S_u ?_ | refine S_v ?_ | refine C_sq ?_ | refine C_rg ?_ | refine L_nil ?_ | refine C_bk ?_ | refine C_ct ?_ | refine C_cf ?_ | refine C_sk ?_ | refine C_ex ?_ | refine C_rt ?_ | refine X_e ?_ | refine X_r ?_ | refine X_bh ?_ | refine X_be ?_ | refine X_br ?_ | refine X_bn ?_ | refine X_p ?_ | refine X_bp ?_)
    rintro _ w1 ⟨_, p, q, hp, hS⟩
    repeat (first | (refine S_w ?_; first | (refine S_y hS ?_) | ((first | refine M_bA hS ?_ | refine M_b1 hS ?_ | refine M_aA hS ?_ | refine M_a1 hS ?_ | refine M_sl hS ?_ | refine M_s1 hS ?_ | refine M_mm hS ?_); clear hS; intro b w hS) | ((first | refine M_st hS ?_ | refine M_sA hS ?_ | refine M_in hS ?_ | refine M_sR hS ?_); clear hS; intro w hS; (try simp only [List.set_cons_zero, List.set_cons_succ, Nat.zero_add] at hS)) | (refine M_ap hS ?_; clear hS; intro g cap w hS) | refine M_pn ?_) | refine X_k (by (try simp only [Fm.toList, List.set_cons_succ, List.set_cons_zero]); exact rfl) ?_ | refine S_u ?_ | refine S_v ?_ | refine C_sq ?_ | refine C_rg ?_ | refine L_nil ?_ | refine C_bk ?_ | refine C_ct ?_ | refine C_cf ?_ | refine C_sk ?_ | refine C_ex ?_ | refine C_rt ?_ | refine X_e ?_ | refine X_r ?_ | refine X_bh ?_ | refine X_be ?_ | refine X_br ?_ | refine X_bn ?_ | refine X_p ?_ | refine X_bp ?_)
    refine V_e ⟨rfl, p, q, hp, ?_⟩
    have e : s ++ (T.bin op ta tb).text = s ++ opB op ++ ta.text ++ opM op ++ tb.text ++ opA op := by simp [T.text]
    rw [e]
    exact hS.sb
end
end Go.Proofs.Ytcholfpomalgdaa
