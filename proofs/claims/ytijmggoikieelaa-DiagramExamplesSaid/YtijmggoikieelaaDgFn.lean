/-
  diagram: the value functions; operations; insert's result in one form.
-/
import Derived.Test.YtijmggoikieelaaDgSz
import Derived.Test.YtijmggoikieelaaCA
namespace Go.Proofs.Ytijmggoikieelaa
open Go.RowKit

/-- what insert returns and leaves: reference, error, nodes, known references -/
def insD (f : Nat → Int) (m cp : Nat) (N : List Dg.Nd) (kn : List Nat) : Int × Int × List Dg.Nd × List Nat :=
  if cp < (Dg.bld f m 0 0 N).2.length then (0, 10, N, kn) else (((Dg.bld f m 0 0 N).1 : Nat), 0, (Dg.bld f m 0 0 N).2, Dg.kadd kn (Dg.bld f m 0 0 N).1)
def valO (op : Nat) (a b : Int) : Int := if op = 1 then maxI a b else if op = 2 then minI a b else if op = 3 then xorI a b else if a = b then 1 else 0
instance kcU8 : IsKc Try.prog 5 uv := ⟨kc_u8 Try.underlying5⟩
section
variable {F : Nat → Prop} {w0 w : World} {rs : List Res} {sb m cp bi bk c : Nat} {A : Option Addr} {N : List Dg.Nd} {kn : List Nat} {g : FuncId} {cs : List Value}
theorem dinsD (f : Nat → Int) (hm : m ≤ 6) (heb : enterB Try.prog g = true) (hok : Dg.Ok m N) (hN : N.length ≤ cp) (hcp : cp ≤ 4096)
    (hcall : ∀ b7 b3 b2 M A c x w, Dg.Ok m (N ++ M) → x < 2 ^ m → St F w0 (stR sb m cp (N ++ M) kn bi bk A c (bxR b7 b3 b2 sb g cs rs)) w → CallsR Try.prog g (Value.int .i64 (x : Nat) :: cs).toArray w fun r w' => r = .int .i64 (f x) ∧ St F w0 (stR sb m cp (N ++ M) kn bi bk A c (bxR b7 b3 b2 sb g cs rs)) w')
    (hS : St F w0 (stR sb m cp N kn bi bk A c rs) w) :
    CallsR Try.prog 47 #[.pointer (some ⟨sb, 0, none⟩), .func (.func g) #[] cs.toArray] w fun r w' => r = .tuple #[.int .i64 (insD f m cp N kn).1, .int .i64 (insD f m cp N kn).2.1] ∧
      ∃ A' c', St F w0 (stR sb m cp (insD f m cp N kn).2.2.1 (insD f m cp N kn).2.2.2 bi bk A' c' rs) w' := by
  refine (dinsR f hm heb hok hN hcp hcall hS).mono fun r w' h => ?_
  unfold insP at h
  unfold insD
  by_cases hlt : cp < (Dg.bld f m 0 0 N).2.length
  · rw [if_pos hlt] at h ⊢
    exact h
  · rw [if_neg hlt] at h ⊢
    exact h
set_option maxHeartbeats 4000000 in
set_option maxRecDepth 100000 in
theorem dcst1R {b2 : Nat} {v : Int} (z : Int) (h : HasObj rs b2 (.cells #[.int .i64 v] 3 (0, 0))) (hS : St F w0 rs w) : CallsR Try.prog 54 #[.int .i64 z, .pointer (some ⟨b2, 0, none⟩)] w fun r w' => r = .int .i64 v ∧ St F w0 rs w' := by
  refine E_r (m := 3) ?_ Try.func54 rfl Try.ntmps54 rfl; refine C_ft ?_
  repeat (first | (refine S_w ?_; first | (refine S_d hS ?_) | (refine S_y hS ?_) | ((first | refine M_bA hS ?_ | refine M_b1 hS ?_ | refine M_aA hS ?_ | refine M_a1 hS ?_ | refine M_sl hS ?_ | refine M_s1 hS ?_ | refine M_mm hS ?_); clear hS; intro b w hS) | ((first | refine M_st hS ?_ | refine M_sA hS ?_ | refine M_in hS ?_ | refine M_sR hS ?_); clear hS; intro w hS; (try simp only [List.set_cons_zero, List.set_cons_succ, Nat.zero_add] at hS)) | (refine M_ap hS ?_; clear hS; intro g cap w hS) | refine M_pn ?_ | ((first | refine M_im hS ?_ | refine M_ii hS ?_ | refine M_dl hS ?_); clear hS; intro w hS)) | refine X_k (by (try simp only [Fm.toList, List.set_cons_succ, List.set_cons_zero]); exact rfl) ?_ | refine S_u ?_ | refine S_v ?_ | refine C_sq ?_ | refine C_rg ?_ | refine L_nil ?_ | refine C_bk ?_ | refine C_ct ?_ | refine C_cf ?_ | refine C_sk ?_ | refine C_ex ?_ | refine C_rt ?_ | refine X_e ?_ | refine X_r ?_ | refine X_bh ?_ | refine X_be ?_ | refine X_br ?_ | refine X_bn ?_ | refine X_p ?_ | refine X_bp ?_)
  refine V_1 ⟨rfl, hS⟩
set_option maxHeartbeats 4000000 in
set_option maxRecDepth 100000 in
theorem dtab1R {b2 n c : Nat} {At : Option Addr} (x : Nat) (t : List Int) (hx : x < n) (h : HasObj rs b2 (.cells #[.slice At n c] 29 (0, 0))) (h2 : HasSl rs At n 1 (t.map iv)) (hS : St F w0 rs w) : CallsR Try.prog 48 #[.int .i64 (x : Nat), .pointer (some ⟨b2, 0, none⟩)] w fun r w' => r = .int .i64 (t.getD x 0) ∧ St F w0 rs w' := by
  have hl : t.length = n := by have := (h2.rd hS).1; simpa using this
  have hx2 : (t.map iv)[x]? = some (.int .i64 (t.getD x 0)) := by
    rw [List.getElem?_map, List.getElem?_eq_getElem (by omega), List.getD_eq_getElem?_getD, List.getElem?_eq_getElem (by omega)]; rfl
  refine E_r (m := 6) ?_ Try.func48 rfl Try.ntmps48 rfl; refine C_ft ?_
  repeat (first | (refine S_w ?_; first | (refine S_d hS ?_) | (refine S_y hS ?_) | ((first | refine M_bA hS ?_ | refine M_b1 hS ?_ | refine M_aA hS ?_ | refine M_a1 hS ?_ | refine M_sl hS ?_ | refine M_s1 hS ?_ | refine M_mm hS ?_); clear hS; intro b w hS) | ((first | refine M_st hS ?_ | refine M_sA hS ?_ | refine M_in hS ?_ | refine M_sR hS ?_); clear hS; intro w hS; (try simp only [List.set_cons_zero, List.set_cons_succ, Nat.zero_add] at hS)) | (refine M_ap hS ?_; clear hS; intro g cap w hS) | refine M_pn ?_ | ((first | refine M_im hS ?_ | refine M_ii hS ?_ | refine M_dl hS ?_); clear hS; intro w hS)) | refine X_k (by (try simp only [Fm.toList, List.set_cons_succ, List.set_cons_zero]); exact rfl) ?_ | refine S_u ?_ | refine S_v ?_ | refine C_sq ?_ | refine C_rg ?_ | refine L_nil ?_ | refine C_bk ?_ | refine C_ct ?_ | refine C_cf ?_ | refine C_sk ?_ | refine C_ex ?_ | refine C_rt ?_ | refine X_e ?_ | refine X_r ?_ | refine X_bh ?_ | refine X_be ?_ | refine X_br ?_ | refine X_bn ?_ | refine X_p ?_ | refine X_bp ?_)
  refine V_1 ⟨rfl, hS⟩
set_option maxHeartbeats 4000000 in
set_option maxRecDepth 100000 in
theorem dcub1R {b5 b6 b7 p n : Nat} {i o : Int} (x : Nat) (hx : x < 64) (hp : p < 256) (hn : n < 256) (h : HasObj rs b5 (.cells [vb p, vb n].toArray 31 (0, 0))) (h2 : HasObj rs b6 (.cells #[.int .i64 i] 3 (0, 0))) (h3 : HasObj rs b7 (.cells #[.int .i64 o] 3 (0, 0))) (hS : St F w0 rs w) :
    CallsR Try.prog 57 #[.int .i64 (x : Nat), .pointer (some ⟨b5, 0, none⟩), .pointer (some ⟨b6, 0, none⟩), .pointer (some ⟨b7, 0, none⟩)] w fun r w' => r = .int .i64 (if hasB p n x = true then i else o) ∧ St F w0 rs w' := by
  refine E_r (m := 8) ?_ Try.func57 rfl Try.ntmps57 rfl; refine C_ft ?_
  repeat (first | (refine S_w ?_; first | (refine M_c (Calls.toR (has_any p n x hp hn (by omega) _)) ?_) | (refine S_d hS ?_) | (refine S_y hS ?_) | ((first | refine M_bA hS ?_ | refine M_b1 hS ?_ | refine M_aA hS ?_ | refine M_a1 hS ?_ | refine M_sl hS ?_ | refine M_s1 hS ?_ | refine M_mm hS ?_); clear hS; intro b w hS) | ((first | refine M_st hS ?_ | refine M_sA hS ?_ | refine M_in hS ?_ | refine M_sR hS ?_); clear hS; intro w hS; (try simp only [List.set_cons_zero, List.set_cons_succ, Nat.zero_add] at hS)) | (refine M_ap hS ?_; clear hS; intro g cap w hS) | refine M_pn ?_ | ((first | refine M_im hS ?_ | refine M_ii hS ?_ | refine M_dl hS ?_); clear hS; intro w hS)) | refine X_k (by (try simp only [Fm.toList, List.set_cons_succ, List.set_cons_zero]); exact rfl) ?_ | refine S_u ?_ | refine S_v ?_ | refine C_sq ?_ | refine C_rg ?_ | refine L_nil ?_ | refine C_bk ?_ | refine C_ct ?_ | refine C_cf ?_ | refine C_sk ?_ | refine C_ex ?_ | refine C_rt ?_ | refine X_e ?_ | refine X_r ?_ | refine X_bh ?_ | refine X_be ?_ | refine X_br ?_ | refine X_bn ?_ | refine X_p ?_ | refine X_bp ?_)
  rintro _ w1 ⟨rfl, hb1⟩
  have hS := hS.call (Fr.of hb1)
  cases hq : hasB p n x with
  | true =>
    rw [if_pos rfl]
    repeat (first | (refine S_w ?_; first | (refine S_d hS ?_) | (refine S_y hS ?_) | ((first | refine M_bA hS ?_ | refine M_b1 hS ?_ | refine M_aA hS ?_ | refine M_a1 hS ?_ | refine M_sl hS ?_ | refine M_s1 hS ?_ | refine M_mm hS ?_); clear hS; intro b w hS) | ((first | refine M_st hS ?_ | refine M_sA hS ?_ | refine M_in hS ?_ | refine M_sR hS ?_); clear hS; intro w hS; (try simp only [List.set_cons_zero, List.set_cons_succ, Nat.zero_add] at hS)) | (refine M_ap hS ?_; clear hS; intro g cap w hS) | refine M_pn ?_ | ((first | refine M_im hS ?_ | refine M_ii hS ?_ | refine M_dl hS ?_); clear hS; intro w hS)) | refine X_k (by (try simp only [Fm.toList, List.set_cons_succ, List.set_cons_zero]); exact rfl) ?_ | refine S_u ?_ | refine S_v ?_ | refine C_sq ?_ | refine C_rg ?_ | refine L_nil ?_ | refine C_bk ?_ | refine C_ct ?_ | refine C_cf ?_ | refine C_sk ?_ | refine C_ex ?_ | refine C_rt ?_ | refine X_e ?_ | refine X_r ?_ | refine X_bh ?_ | refine X_be ?_ | refine X_br ?_ | refine X_bn ?_ | refine X_p ?_ | refine X_bp ?_)
    refine V_1 ⟨rfl, hS⟩
  | false =>
    rw [if_neg (by decide)]
    repeat (first | (refine S_w ?_; first | (refine S_d hS ?_) | (refine S_y hS ?_) | ((first | refine M_bA hS ?_ | refine M_b1 hS ?_ | refine M_aA hS ?_ | refine M_a1 hS ?_ | refine M_sl hS ?_ | refine M_s1 hS ?_ | refine M_mm hS ?_); clear hS; intro b w hS) | ((first | refine M_st hS ?_ | refine M_sA hS ?_ | refine M_in hS ?_ | refine M_sR hS ?_); clear hS; intro w hS; (try simp only [List.set_cons_zero, List.set_cons_succ, Nat.zero_add] at hS)) | (refine M_ap hS ?_; clear hS; intro g cap w hS) | refine M_pn ?_ | ((first | refine M_im hS ?_ | refine M_ii hS ?_ | refine M_dl hS ?_); clear hS; intro w hS)) | refine X_k (by (try simp only [Fm.toList, List.set_cons_succ, List.set_cons_zero]); exact rfl) ?_ | refine S_u ?_ | refine S_v ?_ | refine C_sq ?_ | refine C_rg ?_ | refine L_nil ?_ | refine C_bk ?_ | refine C_ct ?_ | refine C_cf ?_ | refine C_sk ?_ | refine C_ex ?_ | refine C_rt ?_ | refine X_e ?_ | refine X_r ?_ | refine X_bh ?_ | refine X_be ?_ | refine X_br ?_ | refine X_bn ?_ | refine X_p ?_ | refine X_bp ?_)
    refine V_1 ⟨rfl, hS⟩
/-! the operations -/
set_option maxHeartbeats 4000000 in
set_option maxRecDepth 100000 in
theorem dop1R (a b : Int) (hS : St F w0 rs w) : CallsR Try.prog 67 #[.int .i64 a, .int .i64 b] w fun r w' => r = .int .i64 (maxI a b) ∧ St F w0 rs w' := by
  refine E_r (m := 6) ?_ Try.func67 rfl Try.ntmps67 rfl; refine C_ft ?_
  repeat (first | (refine S_w ?_; first | (refine S_d hS ?_) | (refine S_y hS ?_) | ((first | refine M_bA hS ?_ | refine M_b1 hS ?_ | refine M_aA hS ?_ | refine M_a1 hS ?_ | refine M_sl hS ?_ | refine M_s1 hS ?_ | refine M_mm hS ?_); clear hS; intro b w hS) | ((first | refine M_st hS ?_ | refine M_sA hS ?_ | refine M_in hS ?_ | refine M_sR hS ?_); clear hS; intro w hS; (try simp only [List.set_cons_zero, List.set_cons_succ, Nat.zero_add] at hS)) | (refine M_ap hS ?_; clear hS; intro g cap w hS) | refine M_pn ?_ | ((first | refine M_im hS ?_ | refine M_ii hS ?_ | refine M_dl hS ?_); clear hS; intro w hS)) | refine X_k (by (try simp only [Fm.toList, List.set_cons_succ, List.set_cons_zero]); exact rfl) ?_ | refine S_u ?_ | refine S_v ?_ | refine C_sq ?_ | refine C_rg ?_ | refine L_nil ?_ | refine C_bk ?_ | refine C_ct ?_ | refine C_cf ?_ | refine C_sk ?_ | refine C_ex ?_ | refine C_rt ?_ | refine X_e ?_ | refine X_r ?_ | refine X_bh ?_ | refine X_be ?_ | refine X_br ?_ | refine X_bn ?_ | refine X_p ?_ | refine X_bp ?_)
  refine V_1 ⟨rfl, hS⟩
set_option maxHeartbeats 4000000 in
set_option maxRecDepth 100000 in
theorem dop2R (a b : Int) (hS : St F w0 rs w) : CallsR Try.prog 68 #[.int .i64 a, .int .i64 b] w fun r w' => r = .int .i64 (minI a b) ∧ St F w0 rs w' := by
  refine E_r (m := 6) ?_ Try.func68 rfl Try.ntmps68 rfl; refine C_ft ?_
  repeat (first | (refine S_w ?_; first | (refine S_d hS ?_) | (refine S_y hS ?_) | ((first | refine M_bA hS ?_ | refine M_b1 hS ?_ | refine M_aA hS ?_ | refine M_a1 hS ?_ | refine M_sl hS ?_ | refine M_s1 hS ?_ | refine M_mm hS ?_); clear hS; intro b w hS) | ((first | refine M_st hS ?_ | refine M_sA hS ?_ | refine M_in hS ?_ | refine M_sR hS ?_); clear hS; intro w hS; (try simp only [List.set_cons_zero, List.set_cons_succ, Nat.zero_add] at hS)) | (refine M_ap hS ?_; clear hS; intro g cap w hS) | refine M_pn ?_ | ((first | refine M_im hS ?_ | refine M_ii hS ?_ | refine M_dl hS ?_); clear hS; intro w hS)) | refine X_k (by (try simp only [Fm.toList, List.set_cons_succ, List.set_cons_zero]); exact rfl) ?_ | refine S_u ?_ | refine S_v ?_ | refine C_sq ?_ | refine C_rg ?_ | refine L_nil ?_ | refine C_bk ?_ | refine C_ct ?_ | refine C_cf ?_ | refine C_sk ?_ | refine C_ex ?_ | refine C_rt ?_ | refine X_e ?_ | refine X_r ?_ | refine X_bh ?_ | refine X_be ?_ | refine X_br ?_ | refine X_bn ?_ | refine X_p ?_ | refine X_bp ?_)
  refine V_1 ⟨rfl, hS⟩
set_option maxHeartbeats 4000000 in
set_option maxRecDepth 100000 in
theorem dop3R (a b : Int) (hS : St F w0 rs w) : CallsR Try.prog 69 #[.int .i64 a, .int .i64 b] w fun r w' => r = .int .i64 (xorI a b) ∧ St F w0 rs w' := by
  refine E_r (m := 6) ?_ Try.func69 rfl Try.ntmps69 rfl; refine C_ft ?_
  repeat (first | (refine S_w ?_; first | (refine S_d hS ?_) | (refine S_y hS ?_) | ((first | refine M_bA hS ?_ | refine M_b1 hS ?_ | refine M_aA hS ?_ | refine M_a1 hS ?_ | refine M_sl hS ?_ | refine M_s1 hS ?_ | refine M_mm hS ?_); clear hS; intro b w hS) | ((first | refine M_st hS ?_ | refine M_sA hS ?_ | refine M_in hS ?_ | refine M_sR hS ?_); clear hS; intro w hS; (try simp only [List.set_cons_zero, List.set_cons_succ, Nat.zero_add] at hS)) | (refine M_ap hS ?_; clear hS; intro g cap w hS) | refine M_pn ?_ | ((first | refine M_im hS ?_ | refine M_ii hS ?_ | refine M_dl hS ?_); clear hS; intro w hS)) | refine X_k (by (try simp only [Fm.toList, List.set_cons_succ, List.set_cons_zero]); exact rfl) ?_ | refine S_u ?_ | refine S_v ?_ | refine C_sq ?_ | refine C_rg ?_ | refine L_nil ?_ | refine C_bk ?_ | refine C_ct ?_ | refine C_cf ?_ | refine C_sk ?_ | refine C_ex ?_ | refine C_rt ?_ | refine X_e ?_ | refine X_r ?_ | refine X_bh ?_ | refine X_be ?_ | refine X_br ?_ | refine X_bn ?_ | refine X_p ?_ | refine X_bp ?_)
  refine V_1 ⟨rfl, hS⟩
set_option maxHeartbeats 4000000 in
set_option maxRecDepth 100000 in
theorem dop4R (a b : Int) (hS : St F w0 rs w) : CallsR Try.prog 70 #[.int .i64 a, .int .i64 b] w fun r w' => r = .int .i64 (if a = b then 1 else 0) ∧ St F w0 rs w' := by
  refine E_r (m := 6) ?_ Try.func70 rfl Try.ntmps70 rfl; refine C_ft ?_
  by_cases h : a = b
  · rw [if_pos h]
    repeat (first | (refine S_w ?_; first | (refine S_d hS ?_) | (refine S_y hS ?_) | ((first | refine M_bA hS ?_ | refine M_b1 hS ?_ | refine M_aA hS ?_ | refine M_a1 hS ?_ | refine M_sl hS ?_ | refine M_s1 hS ?_ | refine M_mm hS ?_); clear hS; intro b w hS) | ((first | refine M_st hS ?_ | refine M_sA hS ?_ | refine M_in hS ?_ | refine M_sR hS ?_); clear hS; intro w hS; (try simp only [List.set_cons_zero, List.set_cons_succ, Nat.zero_add] at hS)) | (refine M_ap hS ?_; clear hS; intro g cap w hS) | refine M_pn ?_ | ((first | refine M_im hS ?_ | refine M_ii hS ?_ | refine M_dl hS ?_); clear hS; intro w hS)) | refine X_k (by (try simp only [Fm.toList, List.set_cons_succ, List.set_cons_zero]); exact rfl) ?_ | refine S_u ?_ | refine S_v ?_ | refine C_sq ?_ | refine C_rg ?_ | refine L_nil ?_ | refine C_bk ?_ | refine C_ct ?_ | refine C_cf ?_ | refine C_sk ?_ | refine C_ex ?_ | refine C_rt ?_ | refine X_e ?_ | refine X_r ?_ | refine X_bh ?_ | refine X_be ?_ | refine X_br ?_ | refine X_bn ?_ | refine X_p ?_ | refine X_bp ?_)
    refine V_1 ⟨rfl, hS⟩
  · rw [if_neg h]
    repeat (first | (refine S_w ?_; first | (refine S_d hS ?_) | (refine S_y hS ?_) | ((first | refine M_bA hS ?_ | refine M_b1 hS ?_ | refine M_aA hS ?_ | refine M_a1 hS ?_ | refine M_sl hS ?_ | refine M_s1 hS ?_ | refine M_mm hS ?_); clear hS; intro b w hS) | ((first | refine M_st hS ?_ | refine M_sA hS ?_ | refine M_in hS ?_ | refine M_sR hS ?_); clear hS; intro w hS; (try simp only [List.set_cons_zero, List.set_cons_succ, Nat.zero_add] at hS)) | (refine M_ap hS ?_; clear hS; intro g cap w hS) | refine M_pn ?_ | ((first | refine M_im hS ?_ | refine M_ii hS ?_ | refine M_dl hS ?_); clear hS; intro w hS)) | refine X_k (by (try simp only [Fm.toList, List.set_cons_succ, List.set_cons_zero]); exact rfl) ?_ | refine S_u ?_ | refine S_v ?_ | refine C_sq ?_ | refine C_rg ?_ | refine L_nil ?_ | refine C_bk ?_ | refine C_ct ?_ | refine C_cf ?_ | refine C_sk ?_ | refine C_ex ?_ | refine C_rt ?_ | refine X_e ?_ | refine X_r ?_ | refine X_bh ?_ | refine X_be ?_ | refine X_br ?_ | refine X_bn ?_ | refine X_p ?_ | refine X_bp ?_)
    refine V_1 ⟨rfl, hS⟩
def opFn (op : Nat) : FuncId := if op = 1 then 67 else if op = 2 then 68 else if op = 3 then 69 else 70
theorem dopR {op : Nat} (a b : Int) (hS : St F w0 rs w) : CallsR Try.prog (opFn op) #[.int .i64 a, .int .i64 b] w fun r w' => r = .int .i64 (valO op a b) ∧ St F w0 rs w' := by
  unfold opFn valO
  by_cases h1 : op = 1
  · rw [if_pos h1, if_pos h1]; exact dop1R a b hS
  rw [if_neg h1, if_neg h1]
  by_cases h2 : op = 2
  · rw [if_pos h2, if_pos h2]; exact dop2R a b hS
  rw [if_neg h2, if_neg h2]
  by_cases h3 : op = 3
  · rw [if_pos h3, if_pos h3]; exact dop3R a b hS
  rw [if_neg h3, if_neg h3]
  exact dop4R a b hS
def opsL : List (Int × Value) := [(1, .agg #[.func (.func (opFn 1)) #[] #[]]), (2, .agg #[.func (.func (opFn 2)) #[] #[]]), (3, .agg #[.func (.func (opFn 3)) #[] #[]]), (4, .agg #[.func (.func (opFn 4)) #[] #[]])]
theorem opsL_fd (op : Nat) : fd (op : Int) opsL = if 1 ≤ op ∧ op ≤ 4 then some (.agg #[.func (.func (opFn op)) #[] #[]]) else none := by
  unfold opsL
  by_cases h1 : op = 1
  · subst h1; rfl
  by_cases h2 : op = 2
  · subst h2; rfl
  by_cases h3 : op = 3
  · subst h3; rfl
  by_cases h4 : op = 4
  · subst h4; rfl
  rw [if_neg (by omega)]
  unfold fd
  simp only [fdI]
  rw [if_neg (by omega), if_neg (by omega), if_neg (by omega), if_neg (by omega)]
  rfl
set_option maxHeartbeats 4000000 in
set_option maxRecDepth 100000 in
theorem dopsR (hS : St F w0 rs w) : CallsR Try.prog 51 #[] w fun r w' => ∃ bm, r = .map (some bm) ∧ St F w0 (Res.dm uv bm opsL :: rs) w' := by
  refine E_r (m := 7) ?_ Try.func51 rfl Try.ntmps51 rfl; refine C_ft ?_
  repeat (first | (refine S_w ?_; first | (refine S_d hS ?_) | (refine S_y hS ?_) | ((first | refine M_bA hS ?_ | refine M_b1 hS ?_ | refine M_aA hS ?_ | refine M_a1 hS ?_ | refine M_sl hS ?_ | refine M_s1 hS ?_ | refine M_mm hS ?_); clear hS; intro b w hS) | ((first | refine M_st hS ?_ | refine M_sA hS ?_ | refine M_in hS ?_ | refine M_sR hS ?_); clear hS; intro w hS; (try simp only [List.set_cons_zero, List.set_cons_succ, Nat.zero_add] at hS)) | (refine M_ap hS ?_; clear hS; intro g cap w hS) | refine M_pn ?_ | ((first | refine M_im hS ?_ | refine M_ii hS ?_ | refine M_dl hS ?_); clear hS; intro w hS)) | refine X_k (by (try simp only [Fm.toList, List.set_cons_succ, List.set_cons_zero]); exact rfl) ?_ | refine S_u ?_ | refine S_v ?_ | refine C_sq ?_ | refine C_rg ?_ | refine L_nil ?_ | refine C_bk ?_ | refine C_ct ?_ | refine C_cf ?_ | refine C_sk ?_ | refine C_ex ?_ | refine C_rt ?_ | refine X_e ?_ | refine X_r ?_ | refine X_bh ?_ | refine X_be ?_ | refine X_br ?_ | refine X_bn ?_ | refine X_p ?_ | refine X_bp ?_)
  refine V_1 ⟨b, rfl, hS.objDm rfl⟩
end
end Go.Proofs.Ytijmggoikieelaa
