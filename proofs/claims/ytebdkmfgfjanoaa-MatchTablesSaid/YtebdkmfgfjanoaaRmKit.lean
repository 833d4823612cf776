/-
  The helpers of MatchTables: EqualBools, same, OverBools, CopyBytes, EqualBytes; pairs that are overwritten.
-/
import Derived.Test.YtebdkmfgfjanoaaRmAcc
import Derived.Test.YtebdkmfgfjanoaaRxKit
import Derived.Test.YtebdkmfgfjanoaaMF
namespace Go.Proofs.Ytebdkmfgfjanoaa
open Go.RowKit

section
variable {F : Nat → Prop} {w0 w : World} {rs : List Res}
set_option maxHeartbeats 4000000 in
set_option maxRecDepth 100000 in
theorem eqBoolsT {A B : Option Addr} {n c d : Nat} {xs : List Value} (hS : St F w0 rs w) (hA : HasSl rs A n 1 xs) (hB : HasSl rs B n 1 xs) (hx : ∀ i, i < n → ∃ b, xs[i]? = some (.bool b)) (hn : n ≤ 4294967296) :
    CallsR Try.prog 38 #[.slice A n c, .slice B n d] w fun r w' => r = .bool true ∧ St F w0 rs w' := by
  refine E_r (m := 24) ?_ Try.func38 rfl Try.ntmps38 rfl; refine C_ft ?_
  repeat (first | (refine S_w ?_; first | (refine S_y hS ?_) | ((first | refine M_bA hS ?_ | refine M_b1 hS ?_ | refine M_aA hS ?_ | refine M_a1 hS ?_ | refine M_sl hS ?_ | refine M_s1 hS ?_ | refine M_mm hS ?_); clear hS; intro b w hS) | ((first | refine M_st hS ?_ | refine M_sA hS ?_ | refine M_in hS ?_ | refine M_sR hS ?_); clear hS; intro w hS; (try simp only [List.set_cons_zero, List.set_cons_succ, Nat.zero_add] at hS)) | (refine M_ap hS ?_; clear hS; intro g cap w hS) | refine M_pn ?_) | refine X_k (by (try simp only [Fm.toList, List.set_cons_succ, List.set_cons_zero]); exact rfl) ?_ | refine S_u ?_ | refine S_v ?_ | refine C_sq ?_ | refine C_rg ?_ | refine L_nil ?_ | refine C_bk ?_ | refine C_ct ?_ | refine C_cf ?_ | refine C_sk ?_ | refine C_ex ?_ | refine C_rt ?_ | refine X_e ?_ | refine X_r ?_ | refine X_bh ?_ | refine X_be ?_ | refine X_br ?_ | refine X_bn ?_ | refine X_p ?_ | refine X_bp ?_)
  refine C_lp [4, 2, 5, 15] (fun i : Nat => [(5, .int .i64 (i : Nat))]) (fun i w' => i ≤ n ∧ St F w0 rs w') (fun i => n - i) 0 ⟨Nat.zero_le _, hS⟩ ?_
  clear hS
  rintro i y w ⟨hi, hS⟩
  refine C_fs ?_
  by_cases hlt : i < n
  · obtain ⟨b, hb⟩ := hx i hlt
    cases b with
    | true =>
      repeat (first | (refine S_w ?_; first | (refine S_y hS ?_) | ((first | refine M_bA hS ?_ | refine M_b1 hS ?_ | refine M_aA hS ?_ | refine M_a1 hS ?_ | refine M_sl hS ?_ | refine M_s1 hS ?_ | refine M_mm hS ?_); clear hS; intro b w hS) | ((first | refine M_st hS ?_ | refine M_sA hS ?_ | refine M_in hS ?_ | refine M_sR hS ?_); clear hS; intro w hS; (try simp only [List.set_cons_zero, List.set_cons_succ, Nat.zero_add] at hS)) | (refine M_ap hS ?_; clear hS; intro g cap w hS) | refine M_pn ?_) | refine X_k (by (try simp only [Fm.toList, List.set_cons_succ, List.set_cons_zero]); exact rfl) ?_ | refine S_u ?_ | refine S_v ?_ | refine C_sq ?_ | refine C_rg ?_ | refine L_nil ?_ | refine C_bk ?_ | refine C_ct ?_ | refine C_cf ?_ | refine C_sk ?_ | refine C_ex ?_ | refine C_rt ?_ | refine X_e ?_ | refine X_r ?_ | refine X_bh ?_ | refine X_be ?_ | refine X_br ?_ | refine X_bn ?_ | refine X_p ?_ | refine X_bp ?_)
      refine C_qt hS ?_
      repeat (first | (refine Q_w ?_; first | (refine Q_q (YiN (hm := hA)) ?_) | (refine Q_q (YiN (hm := hB)) ?_) | (refine Q_q (YlE (hm := hA)) ?_) | (refine Q_q (YlE (hm := hB)) ?_) | (refine Q_y ?_)) | refine Q_u ?_)
      refine Q_n ?_; clear hS; intro w hS
      repeat (first | (refine S_w ?_; first | (refine S_y hS ?_) | ((first | refine M_bA hS ?_ | refine M_b1 hS ?_ | refine M_aA hS ?_ | refine M_a1 hS ?_ | refine M_sl hS ?_ | refine M_s1 hS ?_ | refine M_mm hS ?_); clear hS; intro b w hS) | ((first | refine M_st hS ?_ | refine M_sA hS ?_ | refine M_in hS ?_ | refine M_sR hS ?_); clear hS; intro w hS; (try simp only [List.set_cons_zero, List.set_cons_succ, Nat.zero_add] at hS)) | (refine M_ap hS ?_; clear hS; intro g cap w hS) | refine M_pn ?_) | refine X_k (by (try simp only [Fm.toList, List.set_cons_succ, List.set_cons_zero]); exact rfl) ?_ | refine S_u ?_ | refine S_v ?_ | refine C_sq ?_ | refine C_rg ?_ | refine L_nil ?_ | refine C_bk ?_ | refine C_ct ?_ | refine C_cf ?_ | refine C_sk ?_ | refine C_ex ?_ | refine C_rt ?_ | refine X_e ?_ | refine X_r ?_ | refine X_bh ?_ | refine X_be ?_ | refine X_br ?_ | refine X_bn ?_ | refine X_p ?_ | refine X_bp ?_)
      refine R_e (i + 1) ⟨by omega, hS⟩ (by omega)
    | false =>
      repeat (first | (refine S_w ?_; first | (refine S_y hS ?_) | ((first | refine M_bA hS ?_ | refine M_b1 hS ?_ | refine M_aA hS ?_ | refine M_a1 hS ?_ | refine M_sl hS ?_ | refine M_s1 hS ?_ | refine M_mm hS ?_); clear hS; intro b w hS) | ((first | refine M_st hS ?_ | refine M_sA hS ?_ | refine M_in hS ?_ | refine M_sR hS ?_); clear hS; intro w hS; (try simp only [List.set_cons_zero, List.set_cons_succ, Nat.zero_add] at hS)) | (refine M_ap hS ?_; clear hS; intro g cap w hS) | refine M_pn ?_) | refine X_k (by (try simp only [Fm.toList, List.set_cons_succ, List.set_cons_zero]); exact rfl) ?_ | refine S_u ?_ | refine S_v ?_ | refine C_sq ?_ | refine C_rg ?_ | refine L_nil ?_ | refine C_bk ?_ | refine C_ct ?_ | refine C_cf ?_ | refine C_sk ?_ | refine C_ex ?_ | refine C_rt ?_ | refine X_e ?_ | refine X_r ?_ | refine X_bh ?_ | refine X_be ?_ | refine X_br ?_ | refine X_bn ?_ | refine X_p ?_ | refine X_bp ?_)
      refine C_qt hS ?_
      repeat (first | (refine Q_w ?_; first | (refine Q_q (YiN (hm := hA)) ?_) | (refine Q_q (YiN (hm := hB)) ?_) | (refine Q_q (YlE (hm := hA)) ?_) | (refine Q_q (YlE (hm := hB)) ?_) | (refine Q_y ?_)) | refine Q_u ?_)
      refine Q_n ?_; clear hS; intro w hS
      repeat (first | (refine S_w ?_; first | (refine S_y hS ?_) | ((first | refine M_bA hS ?_ | refine M_b1 hS ?_ | refine M_aA hS ?_ | refine M_a1 hS ?_ | refine M_sl hS ?_ | refine M_s1 hS ?_ | refine M_mm hS ?_); clear hS; intro b w hS) | ((first | refine M_st hS ?_ | refine M_sA hS ?_ | refine M_in hS ?_ | refine M_sR hS ?_); clear hS; intro w hS; (try simp only [List.set_cons_zero, List.set_cons_succ, Nat.zero_add] at hS)) | (refine M_ap hS ?_; clear hS; intro g cap w hS) | refine M_pn ?_) | refine X_k (by (try simp only [Fm.toList, List.set_cons_succ, List.set_cons_zero]); exact rfl) ?_ | refine S_u ?_ | refine S_v ?_ | refine C_sq ?_ | refine C_rg ?_ | refine L_nil ?_ | refine C_bk ?_ | refine C_ct ?_ | refine C_cf ?_ | refine C_sk ?_ | refine C_ex ?_ | refine C_rt ?_ | refine X_e ?_ | refine X_r ?_ | refine X_bh ?_ | refine X_be ?_ | refine X_br ?_ | refine X_bn ?_ | refine X_p ?_ | refine X_bp ?_)
      refine R_e (i + 1) ⟨by omega, hS⟩ (by omega)
  · repeat (first | (refine S_w ?_; first | (refine S_y hS ?_) | ((first | refine M_bA hS ?_ | refine M_b1 hS ?_ | refine M_aA hS ?_ | refine M_a1 hS ?_ | refine M_sl hS ?_ | refine M_s1 hS ?_ | refine M_mm hS ?_); clear hS; intro b w hS) | ((first | refine M_st hS ?_ | refine M_sA hS ?_ | refine M_in hS ?_ | refine M_sR hS ?_); clear hS; intro w hS; (try simp only [List.set_cons_zero, List.set_cons_succ, Nat.zero_add] at hS)) | (refine M_ap hS ?_; clear hS; intro g cap w hS) | refine M_pn ?_) | refine X_k (by (try simp only [Fm.toList, List.set_cons_succ, List.set_cons_zero]); exact rfl) ?_ | refine S_u ?_ | refine S_v ?_ | refine C_sq ?_ | refine C_rg ?_ | refine L_nil ?_ | refine C_bk ?_ | refine C_ct ?_ | refine C_cf ?_ | refine C_sk ?_ | refine C_ex ?_ | refine C_rt ?_ | refine X_e ?_ | refine X_r ?_ | refine X_bh ?_ | refine X_be ?_ | refine X_br ?_ | refine X_bn ?_ | refine X_p ?_ | refine X_bp ?_)
    refine V_1 ⟨rfl, hS⟩
set_option maxHeartbeats 4000000 in
set_option maxRecDepth 100000 in
theorem sameR {n : Nat} {a b : Nat} {f : Tab} (hS : St F w0 rs w) (hA : HasTab rs n f a) (hB : HasTab rs n f b) (hn : n ≤ 4294967296) :
    CallsR Try.prog 19 #[.slice (some ⟨a, 0, none⟩) n n, .slice (some ⟨b, 0, none⟩) n n] w fun r w' => r = .bool true ∧ St F w0 rs w' := by
  obtain ⟨al, hla, ia, ja⟩ := hA.ex
  obtain ⟨bs, hlb, ib, jb⟩ := hB.ex
  refine E_r (m := 25) ?_ Try.func19 rfl Try.ntmps19 rfl; refine C_ft ?_
  repeat (first | (refine S_w ?_; first | (refine S_y hS ?_) | ((first | refine M_bA hS ?_ | refine M_b1 hS ?_ | refine M_aA hS ?_ | refine M_a1 hS ?_ | refine M_sl hS ?_ | refine M_s1 hS ?_ | refine M_mm hS ?_); clear hS; intro b w hS) | ((first | refine M_st hS ?_ | refine M_sA hS ?_ | refine M_in hS ?_ | refine M_sR hS ?_); clear hS; intro w hS; (try simp only [List.set_cons_zero, List.set_cons_succ, Nat.zero_add] at hS)) | (refine M_ap hS ?_; clear hS; intro g cap w hS) | refine M_pn ?_) | refine X_k (by (try simp only [Fm.toList, List.set_cons_succ, List.set_cons_zero]); exact rfl) ?_ | refine S_u ?_ | refine S_v ?_ | refine C_sq ?_ | refine C_rg ?_ | refine L_nil ?_ | refine C_bk ?_ | refine C_ct ?_ | refine C_cf ?_ | refine C_sk ?_ | refine C_ex ?_ | refine C_rt ?_ | refine X_e ?_ | refine X_r ?_ | refine X_bh ?_ | refine X_be ?_ | refine X_br ?_ | refine X_bn ?_ | refine X_p ?_ | refine X_bp ?_)
  refine C_lp [4, 2, 5, 16] (fun i : Nat => [(5, .int .i64 (i : Nat))]) (fun i w' => i ≤ n ∧ St F w0 rs w') (fun i => n - i) 0 ⟨Nat.zero_le _, hS⟩ ?_
  clear hS
  rintro i y w ⟨hi, hS⟩
  refine C_fs ?_
  by_cases hlt : i < n
  · obtain ⟨ai, hai⟩ := get_lt hla hlt
    obtain ⟨bi, hbi⟩ := get_lt hlb hlt
    have rai := ja i ai hai
    have rbi := jb i bi hbi
    have eai := rowV_at (n := n) hai
    have ebi := rowV_at (n := n) hbi
    repeat (first | (refine S_w ?_; first | (refine S_y hS ?_) | ((first | refine M_bA hS ?_ | refine M_b1 hS ?_ | refine M_aA hS ?_ | refine M_a1 hS ?_ | refine M_sl hS ?_ | refine M_s1 hS ?_ | refine M_mm hS ?_); clear hS; intro b w hS) | ((first | refine M_st hS ?_ | refine M_sA hS ?_ | refine M_in hS ?_ | refine M_sR hS ?_); clear hS; intro w hS; (try simp only [List.set_cons_zero, List.set_cons_succ, Nat.zero_add] at hS)) | (refine M_ap hS ?_; clear hS; intro g cap w hS) | refine M_pn ?_) | refine X_k (by (try simp only [Fm.toList, List.set_cons_succ, List.set_cons_zero]); exact rfl) ?_ | refine S_u ?_ | refine S_v ?_ | refine C_sq ?_ | refine C_rg ?_ | refine L_nil ?_ | refine C_bk ?_ | refine C_ct ?_ | refine C_cf ?_ | refine C_sk ?_ | refine C_ex ?_ | refine C_rt ?_ | refine X_e ?_ | refine X_r ?_ | refine X_bh ?_ | refine X_be ?_ | refine X_br ?_ | refine X_bn ?_ | refine X_p ?_ | refine X_bp ?_)
    refine C_qt hS ?_
    repeat (first | (refine Q_w ?_; first | (refine Q_c (fun w hS => eqBoolsT hS rai rbi (fun j hj => ⟨_, rowC_at hj⟩) hn) ?_) | (refine Q_y ?_)) | refine Q_u ?_)
    refine Q_n ?_; clear hS; intro w hS
    repeat (first | (refine S_w ?_; first | (refine S_y hS ?_) | ((first | refine M_bA hS ?_ | refine M_b1 hS ?_ | refine M_aA hS ?_ | refine M_a1 hS ?_ | refine M_sl hS ?_ | refine M_s1 hS ?_ | refine M_mm hS ?_); clear hS; intro b w hS) | ((first | refine M_st hS ?_ | refine M_sA hS ?_ | refine M_in hS ?_ | refine M_sR hS ?_); clear hS; intro w hS; (try simp only [List.set_cons_zero, List.set_cons_succ, Nat.zero_add] at hS)) | (refine M_ap hS ?_; clear hS; intro g cap w hS) | refine M_pn ?_) | refine X_k (by (try simp only [Fm.toList, List.set_cons_succ, List.set_cons_zero]); exact rfl) ?_ | refine S_u ?_ | refine S_v ?_ | refine C_sq ?_ | refine C_rg ?_ | refine L_nil ?_ | refine C_bk ?_ | refine C_ct ?_ | refine C_cf ?_ | refine C_sk ?_ | refine C_ex ?_ | refine C_rt ?_ | refine X_e ?_ | refine X_r ?_ | refine X_bh ?_ | refine X_be ?_ | refine X_br ?_ | refine X_bn ?_ | refine X_p ?_ | refine X_bp ?_)
    refine R_e (i + 1) ⟨by omega, hS⟩ (by omega)
  · repeat (first | (refine S_w ?_; first | (refine S_y hS ?_) | ((first | refine M_bA hS ?_ | refine M_b1 hS ?_ | refine M_aA hS ?_ | refine M_a1 hS ?_ | refine M_sl hS ?_ | refine M_s1 hS ?_ | refine M_mm hS ?_); clear hS; intro b w hS) | ((first | refine M_st hS ?_ | refine M_sA hS ?_ | refine M_in hS ?_ | refine M_sR hS ?_); clear hS; intro w hS; (try simp only [List.set_cons_zero, List.set_cons_succ, Nat.zero_add] at hS)) | (refine M_ap hS ?_; clear hS; intro g cap w hS) | refine M_pn ?_) | refine X_k (by (try simp only [Fm.toList, List.set_cons_succ, List.set_cons_zero]); exact rfl) ?_ | refine S_u ?_ | refine S_v ?_ | refine C_sq ?_ | refine C_rg ?_ | refine L_nil ?_ | refine C_bk ?_ | refine C_ct ?_ | refine C_cf ?_ | refine C_sk ?_ | refine C_ex ?_ | refine C_rt ?_ | refine X_e ?_ | refine X_r ?_ | refine X_bh ?_ | refine X_be ?_ | refine X_br ?_ | refine X_bn ?_ | refine X_p ?_ | refine X_bp ?_)
    refine V_1 ⟨rfl, hS⟩
set_option maxHeartbeats 4000000 in
set_option maxRecDepth 100000 in
theorem sameN (hS : St F w0 rs w) : CallsR Try.prog 19 #[.slice none 0 0, .slice none 0 0] w fun r w' => r = .bool true ∧ St F w0 rs w' := by
  refine E_r (m := 25) ?_ Try.func19 rfl Try.ntmps19 rfl; refine C_ft ?_
  repeat (first | (refine S_w ?_; first | (refine S_y hS ?_) | ((first | refine M_bA hS ?_ | refine M_b1 hS ?_ | refine M_aA hS ?_ | refine M_a1 hS ?_ | refine M_sl hS ?_ | refine M_s1 hS ?_ | refine M_mm hS ?_); clear hS; intro b w hS) | ((first | refine M_st hS ?_ | refine M_sA hS ?_ | refine M_in hS ?_ | refine M_sR hS ?_); clear hS; intro w hS; (try simp only [List.set_cons_zero, List.set_cons_succ, Nat.zero_add] at hS)) | (refine M_ap hS ?_; clear hS; intro g cap w hS) | refine M_pn ?_) | refine X_k (by (try simp only [Fm.toList, List.set_cons_succ, List.set_cons_zero]); exact rfl) ?_ | refine S_u ?_ | refine S_v ?_ | refine C_sq ?_ | refine C_rg ?_ | refine L_nil ?_ | refine C_bk ?_ | refine C_ct ?_ | refine C_cf ?_ | refine C_sk ?_ | refine C_ex ?_ | refine C_rt ?_ | refine X_e ?_ | refine X_r ?_ | refine X_bh ?_ | refine X_be ?_ | refine X_br ?_ | refine X_bn ?_ | refine X_p ?_ | refine X_bp ?_)
  refine C_lp [4, 2, 5, 16] (fun _ : Unit => [(5, .int .i64 (0 : Nat))]) (fun _ w' => St F w0 rs w') (fun _ => 0) () hS ?_
  clear hS
  rintro _ y w hS
  refine C_fs ?_
  repeat (first | (refine S_w ?_; first | (refine S_y hS ?_) | ((first | refine M_bA hS ?_ | refine M_b1 hS ?_ | refine M_aA hS ?_ | refine M_a1 hS ?_ | refine M_sl hS ?_ | refine M_s1 hS ?_ | refine M_mm hS ?_); clear hS; intro b w hS) | ((first | refine M_st hS ?_ | refine M_sA hS ?_ | refine M_in hS ?_ | refine M_sR hS ?_); clear hS; intro w hS; (try simp only [List.set_cons_zero, List.set_cons_succ, Nat.zero_add] at hS)) | (refine M_ap hS ?_; clear hS; intro g cap w hS) | refine M_pn ?_) | refine X_k (by (try simp only [Fm.toList, List.set_cons_succ, List.set_cons_zero]); exact rfl) ?_ | refine S_u ?_ | refine S_v ?_ | refine C_sq ?_ | refine C_rg ?_ | refine L_nil ?_ | refine C_bk ?_ | refine C_ct ?_ | refine C_cf ?_ | refine C_sk ?_ | refine C_ex ?_ | refine C_rt ?_ | refine X_e ?_ | refine X_r ?_ | refine X_bh ?_ | refine X_be ?_ | refine X_br ?_ | refine X_bn ?_ | refine X_p ?_ | refine X_bp ?_)
  refine V_1 ⟨rfl, hS⟩
end
/-! rows of booleans that are overwritten -/
def Res.brow (e : TypeId) (v : Value) (n : Nat) : Res where
  fp := v.ownBlock
  ro := false
  holds w := ∃ L : List Bool, w.ownsRow 0 e 1 v n (L.map .bool)
  loc := fun ⟨xs, h⟩ hk => ⟨xs, (Res.row e 1 v n _).loc h hk⟩
  lt := fun ⟨xs, h⟩ b hb => (h.lt b hb).2
theorem Upd.at_ {r : Res} {rs : List Res} (h : r ∈ rs) (r1 r2 : Res) : ∃ rs1 rs2, Upd r r1 rs rs1 ∧ Upd r1 r2 rs1 rs2 ∧ Upd r2 r rs2 rs := by
  induction rs with
  | nil => cases h
  | cons s rs ih =>
    cases h with
    | head => exact ⟨_, _, .here, .here, .here⟩
    | tail _ h =>
      obtain ⟨rs1, rs2, h1, h2, h3⟩ := ih h
      exact ⟨_, _, .there h1, .there h2, .there h3⟩
section
variable {F : Nat → Prop} {w0 w : World} {rs rs' : List Res}
theorem St.brow {e : TypeId} {n : Nat} {v : Value} {L : List Bool} (h : St F w0 rs w) (hu : Upd (Res.row e 1 v n (L.map .bool)) (Res.brow e v n) rs rs') : St F w0 rs' w :=
  h.upd hu rfl (Fr.refl _ _) ⟨L, h.get hu.mem⟩ fun _ hb => .inl hb
theorem St.browOut {e : TypeId} {n : Nat} {v : Value} {L : List Bool} (h : St F w0 rs w) (hL : w.ownsRow 0 e 1 v n (L.map .bool)) (hu : Upd (Res.brow e v n) (Res.row e 1 v n (L.map .bool)) rs rs') : St F w0 rs' w :=
  h.upd hu rfl (Fr.refl _ _) hL fun _ hb => .inl hb
set_option maxHeartbeats 4000000 in
set_option maxRecDepth 100000 in
theorem overBoolsR {A : Option Addr} {n c : Nat} (hS : St F w0 rs w) (hm : Res.brow 4 (.slice A n c) n ∈ rs) (hn : n ≤ 4294967296) :
    CallsR Try.prog 22 #[.slice A n c] w fun r w' => r = .tuple #[] ∧ St F w0 rs w' := by
  refine E_r (m := 16) ?_ Try.func22 rfl Try.ntmps22 rfl; refine C_ft ?_
  repeat (first | (refine S_w ?_; first | (refine S_y hS ?_) | ((first | refine M_bA hS ?_ | refine M_b1 hS ?_ | refine M_aA hS ?_ | refine M_a1 hS ?_ | refine M_sl hS ?_ | refine M_s1 hS ?_ | refine M_mm hS ?_); clear hS; intro b w hS) | ((first | refine M_st hS ?_ | refine M_sA hS ?_ | refine M_in hS ?_ | refine M_sR hS ?_); clear hS; intro w hS; (try simp only [List.set_cons_zero, List.set_cons_succ, Nat.zero_add] at hS)) | (refine M_ap hS ?_; clear hS; intro g cap w hS) | refine M_pn ?_) | refine X_k (by (try simp only [Fm.toList, List.set_cons_succ, List.set_cons_zero]); exact rfl) ?_ | refine S_u ?_ | refine S_v ?_ | refine C_sq ?_ | refine C_rg ?_ | refine L_nil ?_ | refine C_bk ?_ | refine C_ct ?_ | refine C_cf ?_ | refine C_sk ?_ | refine C_ex ?_ | refine C_rt ?_ | refine X_e ?_ | refine X_r ?_ | refine X_bh ?_ | refine X_be ?_ | refine X_br ?_ | refine X_bn ?_ | refine X_p ?_ | refine X_bp ?_)
  refine C_lp [2, 15] (fun i : Nat => [(2, .int .i64 (i : Nat))]) (fun i w' => i ≤ n ∧ St F w0 rs w') (fun i => n - i) 0 ⟨Nat.zero_le _, hS⟩ ?_
  clear hS
  rintro i y w ⟨hi, hS⟩
  refine C_fs ?_
  by_cases hlt : i < n
  · obtain ⟨L, hown⟩ := hS.get hm
    have hLl : L.length = n := by have := hown.1; simpa using this
    obtain ⟨b, hb⟩ : ∃ b, L[i]? = some b := ⟨L[i]'(by omega), List.getElem?_eq_getElem _⟩
    have hb2 : (L.map Value.bool)[i]? = some (.bool b) := by rw [List.getElem?_map, hb]; rfl
    have hset : (L.map Value.bool).set i (.bool (!b)) = (L.set i (!b)).map Value.bool := by rw [List.map_set]
    obtain ⟨rs1, rs2, u1, u2, u3⟩ := Upd.at_ hm (Res.row 4 1 (.slice A n c) n (L.map .bool)) (Res.row 4 1 (.slice A n c) n ((L.map Value.bool).set i (.bool (!b))))
    have hS := hS.browOut hown u1
    have hsl : HasSl rs1 A n 1 (L.map .bool) := ⟨fun h => h.rowAt u2.mem⟩
    rw [hset] at u3
    repeat (first | (refine S_w ?_; first | (refine M_sX hS u2 ?_; clear hS; intro w hS) | (refine S_y hS ?_) | ((first | refine M_bA hS ?_ | refine M_b1 hS ?_ | refine M_aA hS ?_ | refine M_a1 hS ?_ | refine M_sl hS ?_ | refine M_s1 hS ?_ | refine M_mm hS ?_); clear hS; intro b w hS) | ((first | refine M_st hS ?_ | refine M_sA hS ?_ | refine M_in hS ?_ | refine M_sR hS ?_); clear hS; intro w hS; (try simp only [List.set_cons_zero, List.set_cons_succ, Nat.zero_add] at hS)) | (refine M_ap hS ?_; clear hS; intro g cap w hS) | refine M_pn ?_) | refine X_k (by (try simp only [Fm.toList, List.set_cons_succ, List.set_cons_zero]); exact rfl) ?_ | refine S_u ?_ | refine S_v ?_ | refine C_sq ?_ | refine C_rg ?_ | refine L_nil ?_ | refine C_bk ?_ | refine C_ct ?_ | refine C_cf ?_ | refine C_sk ?_ | refine C_ex ?_ | refine C_rt ?_ | refine X_e ?_ | refine X_r ?_ | refine X_bh ?_ | refine X_be ?_ | refine X_br ?_ | refine X_bn ?_ | refine X_p ?_ | refine X_bp ?_)
    refine R_e (i + 1) ⟨by omega, ?_⟩ (by omega)
    exact hS.brow u3
  · repeat (first | (refine S_w ?_; first | (refine S_y hS ?_) | ((first | refine M_bA hS ?_ | refine M_b1 hS ?_ | refine M_aA hS ?_ | refine M_a1 hS ?_ | refine M_sl hS ?_ | refine M_s1 hS ?_ | refine M_mm hS ?_); clear hS; intro b w hS) | ((first | refine M_st hS ?_ | refine M_sA hS ?_ | refine M_in hS ?_ | refine M_sR hS ?_); clear hS; intro w hS; (try simp only [List.set_cons_zero, List.set_cons_succ, Nat.zero_add] at hS)) | (refine M_ap hS ?_; clear hS; intro g cap w hS) | refine M_pn ?_) | refine X_k (by (try simp only [Fm.toList, List.set_cons_succ, List.set_cons_zero]); exact rfl) ?_ | refine S_u ?_ | refine S_v ?_ | refine C_sq ?_ | refine C_rg ?_ | refine L_nil ?_ | refine C_bk ?_ | refine C_ct ?_ | refine C_cf ?_ | refine C_sk ?_ | refine C_ex ?_ | refine C_rt ?_ | refine X_e ?_ | refine X_r ?_ | refine X_bh ?_ | refine X_be ?_ | refine X_br ?_ | refine X_bn ?_ | refine X_p ?_ | refine X_bp ?_)
    refine V_e ⟨rfl, hS⟩
end
/-! bytes -/
theorem bytes_one (ws : List Nat) : one' (ws.map vb) = true := by
  simp only [one', List.all_eq_true, List.mem_map]
  rintro u ⟨p, _, rfl⟩
  rfl
set_option maxHeartbeats 2000000 in
set_option maxRecDepth 100000 in
theorem copyBytesR (A : Option Addr) (n c : Nat) (L : List Nat) (W : World) (hA : Rd W 1 A n (L.map vb)) (hn : n ≤ 4294967296) :
    CallsR Try.prog 13 #[.slice A n c] W fun r w' => ∃ A' c', r = .slice A' n c' ∧ w'.ownsRow W.heap.size 5 1 (.slice A' n c') n (L.map vb) ∧ Fr Nof W w' := by
  have hl : L.length = n := by have := hA.1; simpa using this
  have h1 := bytes_one L
  have hS := ((St.start Nof W).addRo (r := Res.rd 1 A n (L.map vb)) hA rfl (fun _ h => by cases h)).rowNil 5 1
  refine E_r (m := 4) ?_ Try.func13 rfl Try.ntmps13 rfl; refine C_ft ?_
  by_cases h0 : n = 0
  · subst h0
    obtain rfl : L = [] := List.length_eq_zero_iff.1 hl
    repeat (first | (refine S_w ?_; first | (refine M_a0 hS ?_ (size := 1) (hi := by rfl) (hsz := by omega); clear hS; intro w hS) | (refine S_y hS ?_) | ((first | refine M_bA hS ?_ | refine M_b1 hS ?_ | refine M_aA hS ?_ | refine M_a1 hS ?_ | refine M_sl hS ?_ | refine M_s1 hS ?_ | refine M_mm hS ?_); clear hS; intro b w hS) | ((first | refine M_st hS ?_ | refine M_sA hS ?_ | refine M_in hS ?_ | refine M_sR hS ?_); clear hS; intro w hS; (try simp only [List.set_cons_zero, List.set_cons_succ, Nat.zero_add] at hS)) | (refine M_ap hS ?_; clear hS; intro g cap w hS) | refine M_pn ?_) | refine X_k (by (try simp only [Fm.toList, List.set_cons_succ, List.set_cons_zero]); exact rfl) ?_ | refine S_u ?_ | refine S_v ?_ | refine C_sq ?_ | refine C_rg ?_ | refine L_nil ?_ | refine C_bk ?_ | refine C_ct ?_ | refine C_cf ?_ | refine C_sk ?_ | refine C_ex ?_ | refine C_rt ?_ | refine X_e ?_ | refine X_r ?_ | refine X_bh ?_ | refine X_be ?_ | refine X_br ?_ | refine X_bn ?_ | refine X_p ?_ | refine X_bp ?_)
    refine V_1 ⟨none, 0, rfl, World.ownsRow_nil _ _ _ _, hS.fr⟩
  · repeat (first | (refine S_w ?_; first | (refine M_aR hS ?_; clear hS; intro g cap w hS) | (refine S_y hS ?_) | ((first | refine M_bA hS ?_ | refine M_b1 hS ?_ | refine M_aA hS ?_ | refine M_a1 hS ?_ | refine M_sl hS ?_ | refine M_s1 hS ?_ | refine M_mm hS ?_); clear hS; intro b w hS) | ((first | refine M_st hS ?_ | refine M_sA hS ?_ | refine M_in hS ?_ | refine M_sR hS ?_); clear hS; intro w hS; (try simp only [List.set_cons_zero, List.set_cons_succ, Nat.zero_add] at hS)) | (refine M_ap hS ?_; clear hS; intro g cap w hS) | refine M_pn ?_) | refine X_k (by (try simp only [Fm.toList, List.set_cons_succ, List.set_cons_zero]); exact rfl) ?_ | refine S_u ?_ | refine S_v ?_ | refine C_sq ?_ | refine C_rg ?_ | refine L_nil ?_ | refine C_bk ?_ | refine C_ct ?_ | refine C_cf ?_ | refine C_sk ?_ | refine C_ex ?_ | refine C_rt ?_ | refine X_e ?_ | refine X_r ?_ | refine X_bh ?_ | refine X_be ?_ | refine X_br ?_ | refine X_bn ?_ | refine X_p ?_ | refine X_bp ?_)
    have e : (0 + n) = n := by omega
    rw [e] at hS ⊢
    refine V_1 ⟨some ⟨g, 0, none⟩, cap, rfl, by simpa using hS.rowOwnM, hS.fr⟩
theorem equalBytesT (A B : Option Addr) (n c d : Nat) (xs : List Nat) (w : World) (ha : Rd w 1 A n (xs.map vb)) (hb : Rd w 1 B n (xs.map vb)) (hn : n ≤ 4294967296) :
    CallsR Try.prog 21 #[.slice A n c, .slice B n d] w fun r w' => r = .bool true ∧ Fr Nof w w' :=
  Calls.mono (equalBytes_any A B n n c d xs xs w ha hb (by omega) (by omega)) fun _ _ ⟨he, k, hk⟩ => ⟨_, he, by simp, hk ▸ Fr.drewN w k⟩
/-! a store of several cells into a row whose content is known -/
theorem row_over {α : Type} (X cs : List α) (j N : Nat) (h1 : j + cs.length ≤ N) (h2 : N ≤ X.length) : (X.take j ++ cs ++ X.drop (j + cs.length)).take N = (X.take N).take j ++ cs ++ (X.take N).drop (j + cs.length) := by
  rw [List.take_append, List.take_of_length_le (l := X.take j ++ cs) (i := N) (by rw [List.length_append, List.length_take]; omega), List.take_take, List.drop_take, show min j N = j by omega]
  congr 2
  simp; omega
section
variable {P : Program} {ops : Array Oper} {Q : Exit → Act → World → Prop} {rest : List Oper} {o : Oper} {l : Fm} {ds : List Deferred} {w : World}
variable {F : Nat → Prop} {w0 : World} {rs rs' : List Res} {x y : Operand} {t e e' : TypeId} {size n c : Nat} {A : Option Addr}
theorem M_sG {i : Nat} {cs xs : List Value} (hS : St F w0 rs w) (hu : Upd (Res.row e size (.slice A n c) n xs) (Res.row e size (.slice A n c) n (xs.take (i * size) ++ cs ++ xs.drop (i * size + cs.length))) rs rs') (k : ∀ w', St F w0 rs' w' → WL P ops Q rest l ds w')
    (ho : o.op = .store t x y := by rfl) (hd : o.dst = none := by rfl) (hx : lk l x = some (.pointer (some ((adr A).add (i * size)))) := by rfl) (hy : lk l y = some (.agg cs.toArray) := by rfl) (h1 : one' cs = true := by rfl)
    (hlen : cs.length = size := by rfl) (ht : sizeT P t size = true := by rfl) (hi : i < n := by omega) : SStep P ops Q rest o l ds w := by
  have hown : w.ownsRow 0 e size (.slice A n c) n xs := hS.get hu.mem
  obtain ⟨hxl, h2⟩ := hown
  rcases h2 with ⟨_, rfl⟩ | ⟨g, cap, cur, hv, _, hh, hnc, hcm, hcs, htk⟩
  · omega
  · have hA : A = some ⟨g, 0, none⟩ := by injection hv
    have hcc : c = cap := by injection hv
    subst hA hcc
    have hadr : (adr (some ⟨g, 0, none⟩)).add (i * size) = ⟨g, i * size, none⟩ := by
      show (⟨g, 0, none⟩ : Addr).add (i * size) = _
      unfold Addr.add; split <;> simp_all
    rw [hadr] at hx
    have hin : i * size + cs.length ≤ n * size := by
      rw [hlen, ← Nat.succ_mul]; exact Nat.mul_le_mul_right _ (by omega)
    have hnc2 : n * size ≤ c * size := Nat.mul_le_mul_right _ hnc
    have hfit : i * size + cs.length ≤ cur.size := by omega
    have hst := run_storeCells_at P g (i * size) e cs 0 cur w hh (by simpa using hfit) (by simpa [one'] using h1)
    simp only [Nat.add_zero] at hst
    refine S_sk hd (w' := w.setRow g (cur.toList.take (i * size) ++ cs ++ cur.toList.drop (i * size + cs.length)).toArray) ?_ (k _ (hS.upd hu rfl ⟨rfl, rfl, rfl, by simp [World.setRow], fun j hj hne => heap_setRow_other fun h => hne (by rw [h]; rfl)⟩ ?_ fun _ h => .inl h))
    · unfold execOp; rw [ho]; simp only [lk_eval hx, lk_eval hy]
      refine run_u ?_
      simp only [Instr.storeAt, Instr.sureAddr, storeVar, Sem.run_bind, Sem.run_pure, Result.andThen_ok, sizeOf_run ht, Value.cells, List.size_toArray, hlen, ne_eq, not_true, if_false]
      rw [hlen] at hst
      exact hst
    · refine ⟨?_, .inr ⟨g, c, _, rfl, Nat.zero_le _, setRow_heap w g cur _ e _ hh, hnc, hcm, ?_, ?_⟩⟩
      · simp only [List.length_append, List.length_take, List.length_drop]
        omega
      · simp only [List.size_toArray, List.length_append, List.length_take, List.length_drop, Array.length_toList]
        omega
      · rw [← htk, List.toList_toArray]
        exact row_over cur.toList cs (i * size) (n * size) hin (by rw [Array.length_toList]; omega)
end
theorem spC_drop : ∀ {l : List (Nat × Nat)} {i : Nat} {x : Nat × Nat}, l[i]? = some x → ((spC l).drop (i * 2)).take 2 = [.int .i64 (x.1 : Nat), .int .i64 (x.2 : Nat)]
  | [], i, x, h => by simp at h
  | q :: l, 0, x, h => by
    simp at h; subst h
    simp [spC]
  | q :: l, i + 1, x, h => by
    have ih := spC_drop (l := l) (i := i) (x := x) (by simpa using h)
    rw [show (i + 1) * 2 = i * 2 + 2 by omega]
    exact ih
theorem spC_set : ∀ (l : List (Nat × Nat)) (i : Nat) (x : Nat × Nat), i < l.length → (spC l).take (i * 2) ++ [.int .i64 (x.1 : Nat), .int .i64 (x.2 : Nat)] ++ (spC l).drop (i * 2 + 2) = spC (l.set i x)
  | [], i, x, h => by cases h
  | q :: l, 0, x, h => by
    rfl
  | q :: l, i + 1, x, h => by
    have ih := spC_set l i x (by simpa using h)
    rw [show (i + 1) * 2 = i * 2 + 2 by omega, List.set_cons_succ, spC, List.flatMap_cons, spC, List.flatMap_cons, ← spC, ← spC, ← ih]
    rfl
end Go.Proofs.Ytebdkmfgfjanoaa
