/-
  The laws' runs: steps, Long, begin, pick.
-/
import Derived.Test.YtijmggoikieelaaRgAdd
import Derived.Test.YtijmggoikieelaaYP
namespace Go.Proofs.Ytijmggoikieelaa
open Go.RowKit

/-- a step of a script -/
structure Stp where
  d : Nat
  op : Nat
  x : Nat
  a : Int
  b : Int
  v : Int
  T : Tb
  p : Nat
  q : Nat
def stV (s : Stp) : List Value := [vb s.d, vb s.op, vb s.x, .int .i64 s.a, .int .i64 s.b, .int .i64 s.v, .slice s.T.A s.T.xs.length s.T.c, vb s.p, vb s.q]
structure Stp.ok (s : Stp) : Prop where
  d : s.d < 256
  op : s.op < 256
  x : s.x < 256
  a : inI s.a
  b : inI s.b
  v : inI s.v
  T : ∀ z ∈ s.T.xs, inI z
  p : s.p < 256
  q : s.q < 256
def stC (L : List Stp) : List Value := L.flatMap stV
theorem stC_len : ∀ L : List Stp, (stC L).length = L.length * 9
  | [] => rfl
  | s :: L => by
    have := stC_len L
    simp only [stC, List.flatMap_cons, List.length_append, List.length_cons] at this ⊢
    rw [this]; simp [stV]; omega
theorem stC_drop : ∀ {L : List Stp} {i : Nat} {s : Stp}, L[i]? = some s → ((stC L).drop (i * 9)).take (stV s).length = stV s
  | [], _, _, h => by cases h
  | a :: L, 0, s, h => by
    simp only [List.getElem?_cons_zero, Option.some.injEq] at h
    subst h
    simp only [stC, List.flatMap_cons, Nat.zero_mul, List.drop_zero]
    rw [List.take_append_of_le_length (by simp [stV])]
    exact List.take_length
  | a :: L, i + 1, s, h => by
    simp only [List.getElem?_cons_succ] at h
    have ih := stC_drop h
    have e : (i + 1) * 9 = (stV a).length + i * 9 := by simp [stV]; omega
    simp only [stC, List.flatMap_cons] at ih ⊢
    rw [e, List.drop_append, List.drop_of_length_le (by omega), List.nil_append, show (stV a).length + i * 9 - (stV a).length = i * 9 by omega]
    exact ih
theorem stC_at {L : List Stp} {i j : Nat} {s : Stp} {v : Value} (h : L[i]? = some s) (hv : (stV s)[j]? = some v) : (stC L)[i * 9 + j]? = some v := by
  have h1 := stC_drop h
  have h2 : (((stC L).drop (i * 9)).take (stV s).length)[j]? = some v := by rw [h1]; exact hv
  rw [List.getElem?_take] at h2
  split at h2
  · rwa [List.getElem?_drop] at h2
  · cases h2
/-- is the script longer than the laws look at? -/
def longB (v : Int) (L : List Stp) : Bool := decide (4 < v ∧ v ≤ 6) || decide (10 < L.length) || L.any fun s => decide (70 < s.T.xs.length)
section
variable {F : Nat → Prop} {w0 w : World} {rs : List Res}
set_option maxHeartbeats 4000000 in
set_option maxRecDepth 100000 in
theorem longR {A : Option Addr} {n c : Nat} {L : List Stp} (v : Int) (hn : n ≤ 9223372036854775807) (hTl : ∀ s ∈ L, s.T.xs.length ≤ 9223372036854775807) (hA : HasSl rs A n 9 (stC L)) (hS : St F w0 rs w) :
    CallsR Try.prog 9 #[.int .i64 v, .slice A n c] w fun r w' => r = .bool (longB v L) ∧ St F w0 rs w' := by
  have hl : L.length = n := by have := (hA.rd hS).1; rw [stC_len] at this; omega
  refine E_r (m := 28) ?_ Try.func9 rfl Try.ntmps9 rfl; refine C_ft ?_
  by_cases h1 : 4 < v ∧ v ≤ 6
  · have e : longB v L = true := by simp [longB, h1]
    rw [e]
    obtain ⟨h2, h3⟩ := h1
    repeat (first | (refine S_w ?_; first | (refine S_d hS ?_) | (refine S_y hS ?_) | ((first | refine M_bA hS ?_ | refine M_b1 hS ?_ | refine M_aA hS ?_ | refine M_a1 hS ?_ | refine M_sl hS ?_ | refine M_s1 hS ?_ | refine M_mm hS ?_); clear hS; intro b w hS) | ((first | refine M_st hS ?_ | refine M_sA hS ?_ | refine M_in hS ?_ | refine M_sR hS ?_); clear hS; intro w hS; (try simp only [List.set_cons_zero, List.set_cons_succ, Nat.zero_add] at hS)) | (refine M_ap hS ?_; clear hS; intro g cap w hS) | refine M_pn ?_ | ((first | refine M_im hS ?_ | refine M_ii hS ?_ | refine M_dl hS ?_); clear hS; intro w hS)) | refine X_k (by (try simp only [Fm.toList, List.set_cons_succ, List.set_cons_zero]); exact rfl) ?_ | refine S_u ?_ | refine S_v ?_ | refine C_sq ?_ | refine C_rg ?_ | refine L_nil ?_ | refine C_bk ?_ | refine C_ct ?_ | refine C_cf ?_ | refine C_sk ?_ | refine C_ex ?_ | refine C_rt ?_ | refine X_e ?_ | refine X_r ?_ | refine X_bh ?_ | refine X_be ?_ | refine X_br ?_ | refine X_bn ?_ | refine X_p ?_ | refine X_bp ?_)
    refine V_1 ⟨rfl, hS⟩
  by_cases h10 : 10 < n
  · have e : longB v L = true := by simp [longB, hl, h10]
    rw [e]
    by_cases h2 : 4 < v
    · repeat (first | (refine S_w ?_; first | (refine S_d hS ?_) | (refine S_y hS ?_) | ((first | refine M_bA hS ?_ | refine M_b1 hS ?_ | refine M_aA hS ?_ | refine M_a1 hS ?_ | refine M_sl hS ?_ | refine M_s1 hS ?_ | refine M_mm hS ?_); clear hS; intro b w hS) | ((first | refine M_st hS ?_ | refine M_sA hS ?_ | refine M_in hS ?_ | refine M_sR hS ?_); clear hS; intro w hS; (try simp only [List.set_cons_zero, List.set_cons_succ, Nat.zero_add] at hS)) | (refine M_ap hS ?_; clear hS; intro g cap w hS) | refine M_pn ?_ | ((first | refine M_im hS ?_ | refine M_ii hS ?_ | refine M_dl hS ?_); clear hS; intro w hS)) | refine X_k (by (try simp only [Fm.toList, List.set_cons_succ, List.set_cons_zero]); exact rfl) ?_ | refine S_u ?_ | refine S_v ?_ | refine C_sq ?_ | refine C_rg ?_ | refine L_nil ?_ | refine C_bk ?_ | refine C_ct ?_ | refine C_cf ?_ | refine C_sk ?_ | refine C_ex ?_ | refine C_rt ?_ | refine X_e ?_ | refine X_r ?_ | refine X_bh ?_ | refine X_be ?_ | refine X_br ?_ | refine X_bn ?_ | refine X_p ?_ | refine X_bp ?_)
      refine V_1 ⟨rfl, hS⟩
    · repeat (first | (refine S_w ?_; first | (refine S_d hS ?_) | (refine S_y hS ?_) | ((first | refine M_bA hS ?_ | refine M_b1 hS ?_ | refine M_aA hS ?_ | refine M_a1 hS ?_ | refine M_sl hS ?_ | refine M_s1 hS ?_ | refine M_mm hS ?_); clear hS; intro b w hS) | ((first | refine M_st hS ?_ | refine M_sA hS ?_ | refine M_in hS ?_ | refine M_sR hS ?_); clear hS; intro w hS; (try simp only [List.set_cons_zero, List.set_cons_succ, Nat.zero_add] at hS)) | (refine M_ap hS ?_; clear hS; intro g cap w hS) | refine M_pn ?_ | ((first | refine M_im hS ?_ | refine M_ii hS ?_ | refine M_dl hS ?_); clear hS; intro w hS)) | refine X_k (by (try simp only [Fm.toList, List.set_cons_succ, List.set_cons_zero]); exact rfl) ?_ | refine S_u ?_ | refine S_v ?_ | refine C_sq ?_ | refine C_rg ?_ | refine L_nil ?_ | refine C_bk ?_ | refine C_ct ?_ | refine C_cf ?_ | refine C_sk ?_ | refine C_ex ?_ | refine C_rt ?_ | refine X_e ?_ | refine X_r ?_ | refine X_bh ?_ | refine X_be ?_ | refine X_br ?_ | refine X_bn ?_ | refine X_p ?_ | refine X_bp ?_)
      refine V_1 ⟨rfl, hS⟩
  have e : longB v L = L.any fun s => decide (70 < s.T.xs.length) := by
    unfold longB
    rw [decide_eq_false h1, decide_eq_false (by omega)]
    rfl
  rw [e]
  by_cases h2 : 4 < v
  · repeat (first | (refine S_w ?_; first | (refine S_d hS ?_) | (refine S_y hS ?_) | ((first | refine M_bA hS ?_ | refine M_b1 hS ?_ | refine M_aA hS ?_ | refine M_a1 hS ?_ | refine M_sl hS ?_ | refine M_s1 hS ?_ | refine M_mm hS ?_); clear hS; intro b w hS) | ((first | refine M_st hS ?_ | refine M_sA hS ?_ | refine M_in hS ?_ | refine M_sR hS ?_); clear hS; intro w hS; (try simp only [List.set_cons_zero, List.set_cons_succ, Nat.zero_add] at hS)) | (refine M_ap hS ?_; clear hS; intro g cap w hS) | refine M_pn ?_ | ((first | refine M_im hS ?_ | refine M_ii hS ?_ | refine M_dl hS ?_); clear hS; intro w hS)) | refine X_k (by (try simp only [Fm.toList, List.set_cons_succ, List.set_cons_zero]); exact rfl) ?_ | refine S_u ?_ | refine S_v ?_ | refine C_sq ?_ | refine C_rg ?_ | refine L_nil ?_ | refine C_bk ?_ | refine C_ct ?_ | refine C_cf ?_ | refine C_sk ?_ | refine C_ex ?_ | refine C_rt ?_ | refine X_e ?_ | refine X_r ?_ | refine X_bh ?_ | refine X_be ?_ | refine X_br ?_ | refine X_bn ?_ | refine X_p ?_ | refine X_bp ?_)
    refine C_lp [4, 2, 11, 13] (fun i : Nat => [(5, .int .i64 (i : Nat))]) (fun i w' => i ≤ n ∧ (L.take i).any (fun s => decide (70 < s.T.xs.length)) = false ∧ St F w0 rs w') (fun i => n - i) 0 ⟨Nat.zero_le _, rfl, hS⟩ ?_
    clear hS
    rintro i y w ⟨hi, he, hS⟩
    refine C_fs ?_
    by_cases hlt : i < n
    · obtain ⟨s, hs⟩ : ∃ s, L[i]? = some s := ⟨L[i]'(by omega), List.getElem?_eq_getElem _⟩
      have hv : (stC L)[i * 9 + 6]? = some (.slice s.T.A s.T.xs.length s.T.c) := stC_at hs rfl
      have hsl := hTl s (List.mem_of_getElem? hs)
      by_cases h70 : 70 < s.T.xs.length
      · have e2 : (L.any fun s => decide (70 < s.T.xs.length)) = true := List.any_eq_true.2 ⟨s, List.mem_of_getElem? hs, decide_eq_true h70⟩
        rw [e2]
        repeat (first | (refine S_w ?_; first | (refine S_d hS ?_) | (refine S_y hS ?_) | ((first | refine M_bA hS ?_ | refine M_b1 hS ?_ | refine M_aA hS ?_ | refine M_a1 hS ?_ | refine M_sl hS ?_ | refine M_s1 hS ?_ | refine M_mm hS ?_); clear hS; intro b w hS) | ((first | refine M_st hS ?_ | refine M_sA hS ?_ | refine M_in hS ?_ | refine M_sR hS ?_); clear hS; intro w hS; (try simp only [List.set_cons_zero, List.set_cons_succ, Nat.zero_add] at hS)) | (refine M_ap hS ?_; clear hS; intro g cap w hS) | refine M_pn ?_ | ((first | refine M_im hS ?_ | refine M_ii hS ?_ | refine M_dl hS ?_); clear hS; intro w hS)) | refine X_k (by (try simp only [Fm.toList, List.set_cons_succ, List.set_cons_zero]); exact rfl) ?_ | refine S_u ?_ | refine S_v ?_ | refine C_sq ?_ | refine C_rg ?_ | refine L_nil ?_ | refine C_bk ?_ | refine C_ct ?_ | refine C_cf ?_ | refine C_sk ?_ | refine C_ex ?_ | refine C_rt ?_ | refine X_e ?_ | refine X_r ?_ | refine X_bh ?_ | refine X_be ?_ | refine X_br ?_ | refine X_bn ?_ | refine X_p ?_ | refine X_bp ?_)
        refine V_1 ⟨rfl, hS⟩
      · repeat (first | (refine S_w ?_; first | (refine S_d hS ?_) | (refine S_y hS ?_) | ((first | refine M_bA hS ?_ | refine M_b1 hS ?_ | refine M_aA hS ?_ | refine M_a1 hS ?_ | refine M_sl hS ?_ | refine M_s1 hS ?_ | refine M_mm hS ?_); clear hS; intro b w hS) | ((first | refine M_st hS ?_ | refine M_sA hS ?_ | refine M_in hS ?_ | refine M_sR hS ?_); clear hS; intro w hS; (try simp only [List.set_cons_zero, List.set_cons_succ, Nat.zero_add] at hS)) | (refine M_ap hS ?_; clear hS; intro g cap w hS) | refine M_pn ?_ | ((first | refine M_im hS ?_ | refine M_ii hS ?_ | refine M_dl hS ?_); clear hS; intro w hS)) | refine X_k (by (try simp only [Fm.toList, List.set_cons_succ, List.set_cons_zero]); exact rfl) ?_ | refine S_u ?_ | refine S_v ?_ | refine C_sq ?_ | refine C_rg ?_ | refine L_nil ?_ | refine C_bk ?_ | refine C_ct ?_ | refine C_cf ?_ | refine C_sk ?_ | refine C_ex ?_ | refine C_rt ?_ | refine X_e ?_ | refine X_r ?_ | refine X_bh ?_ | refine X_be ?_ | refine X_br ?_ | refine X_bn ?_ | refine X_p ?_ | refine X_bp ?_)
        refine R_e (i + 1) ⟨by omega, ?_, hS⟩ (by omega)
        rw [List.take_add_one, hs, List.any_append, he]
        simp [h70]
    · obtain rfl : n = i := by omega
      rw [List.take_of_length_le (by omega)] at he
      rw [he]
      repeat (first | (refine S_w ?_; first | (refine S_d hS ?_) | (refine S_y hS ?_) | ((first | refine M_bA hS ?_ | refine M_b1 hS ?_ | refine M_aA hS ?_ | refine M_a1 hS ?_ | refine M_sl hS ?_ | refine M_s1 hS ?_ | refine M_mm hS ?_); clear hS; intro b w hS) | ((first | refine M_st hS ?_ | refine M_sA hS ?_ | refine M_in hS ?_ | refine M_sR hS ?_); clear hS; intro w hS; (try simp only [List.set_cons_zero, List.set_cons_succ, Nat.zero_add] at hS)) | (refine M_ap hS ?_; clear hS; intro g cap w hS) | refine M_pn ?_ | ((first | refine M_im hS ?_ | refine M_ii hS ?_ | refine M_dl hS ?_); clear hS; intro w hS)) | refine X_k (by (try simp only [Fm.toList, List.set_cons_succ, List.set_cons_zero]); exact rfl) ?_ | refine S_u ?_ | refine S_v ?_ | refine C_sq ?_ | refine C_rg ?_ | refine L_nil ?_ | refine C_bk ?_ | refine C_ct ?_ | refine C_cf ?_ | refine C_sk ?_ | refine C_ex ?_ | refine C_rt ?_ | refine X_e ?_ | refine X_r ?_ | refine X_bh ?_ | refine X_be ?_ | refine X_br ?_ | refine X_bn ?_ | refine X_p ?_ | refine X_bp ?_)
      refine V_1 ⟨rfl, hS⟩
  · repeat (first | (refine S_w ?_; first | (refine S_d hS ?_) | (refine S_y hS ?_) | ((first | refine M_bA hS ?_ | refine M_b1 hS ?_ | refine M_aA hS ?_ | refine M_a1 hS ?_ | refine M_sl hS ?_ | refine M_s1 hS ?_ | refine M_mm hS ?_); clear hS; intro b w hS) | ((first | refine M_st hS ?_ | refine M_sA hS ?_ | refine M_in hS ?_ | refine M_sR hS ?_); clear hS; intro w hS; (try simp only [List.set_cons_zero, List.set_cons_succ, Nat.zero_add] at hS)) | (refine M_ap hS ?_; clear hS; intro g cap w hS) | refine M_pn ?_ | ((first | refine M_im hS ?_ | refine M_ii hS ?_ | refine M_dl hS ?_); clear hS; intro w hS)) | refine X_k (by (try simp only [Fm.toList, List.set_cons_succ, List.set_cons_zero]); exact rfl) ?_ | refine S_u ?_ | refine S_v ?_ | refine C_sq ?_ | refine C_rg ?_ | refine L_nil ?_ | refine C_bk ?_ | refine C_ct ?_ | refine C_cf ?_ | refine C_sk ?_ | refine C_ex ?_ | refine C_rt ?_ | refine X_e ?_ | refine X_r ?_ | refine X_bh ?_ | refine X_be ?_ | refine X_br ?_ | refine X_bn ?_ | refine X_p ?_ | refine X_bp ?_)
    refine C_lp [4, 2, 11, 13] (fun i : Nat => [(5, .int .i64 (i : Nat))]) (fun i w' => i ≤ n ∧ (L.take i).any (fun s => decide (70 < s.T.xs.length)) = false ∧ St F w0 rs w') (fun i => n - i) 0 ⟨Nat.zero_le _, rfl, hS⟩ ?_
    clear hS
    rintro i y w ⟨hi, he, hS⟩
    refine C_fs ?_
    by_cases hlt : i < n
    · obtain ⟨s, hs⟩ : ∃ s, L[i]? = some s := ⟨L[i]'(by omega), List.getElem?_eq_getElem _⟩
      have hv : (stC L)[i * 9 + 6]? = some (.slice s.T.A s.T.xs.length s.T.c) := stC_at hs rfl
      have hsl := hTl s (List.mem_of_getElem? hs)
      by_cases h70 : 70 < s.T.xs.length
      · have e2 : (L.any fun s => decide (70 < s.T.xs.length)) = true := List.any_eq_true.2 ⟨s, List.mem_of_getElem? hs, decide_eq_true h70⟩
        rw [e2]
        repeat (first | (refine S_w ?_; first | (refine S_d hS ?_) | (refine S_y hS ?_) | ((first | refine M_bA hS ?_ | refine M_b1 hS ?_ | refine M_aA hS ?_ | refine M_a1 hS ?_ | refine M_sl hS ?_ | refine M_s1 hS ?_ | refine M_mm hS ?_); clear hS; intro b w hS) | ((first | refine M_st hS ?_ | refine M_sA hS ?_ | refine M_in hS ?_ | refine M_sR hS ?_); clear hS; intro w hS; (try simp only [List.set_cons_zero, List.set_cons_succ, Nat.zero_add] at hS)) | (refine M_ap hS ?_; clear hS; intro g cap w hS) | refine M_pn ?_ | ((first | refine M_im hS ?_ | refine M_ii hS ?_ | refine M_dl hS ?_); clear hS; intro w hS)) | refine X_k (by (try simp only [Fm.toList, List.set_cons_succ, List.set_cons_zero]); exact rfl) ?_ | refine S_u ?_ | refine S_v ?_ | refine C_sq ?_ | refine C_rg ?_ | refine L_nil ?_ | refine C_bk ?_ | refine C_ct ?_ | refine C_cf ?_ | refine C_sk ?_ | refine C_ex ?_ | refine C_rt ?_ | refine X_e ?_ | refine X_r ?_ | refine X_bh ?_ | refine X_be ?_ | refine X_br ?_ | refine X_bn ?_ | refine X_p ?_ | refine X_bp ?_)
        refine V_1 ⟨rfl, hS⟩
      · repeat (first | (refine S_w ?_; first | (refine S_d hS ?_) | (refine S_y hS ?_) | ((first | refine M_bA hS ?_ | refine M_b1 hS ?_ | refine M_aA hS ?_ | refine M_a1 hS ?_ | refine M_sl hS ?_ | refine M_s1 hS ?_ | refine M_mm hS ?_); clear hS; intro b w hS) | ((first | refine M_st hS ?_ | refine M_sA hS ?_ | refine M_in hS ?_ | refine M_sR hS ?_); clear hS; intro w hS; (try simp only [List.set_cons_zero, List.set_cons_succ, Nat.zero_add] at hS)) | (refine M_ap hS ?_; clear hS; intro g cap w hS) | refine M_pn ?_ | ((first | refine M_im hS ?_ | refine M_ii hS ?_ | refine M_dl hS ?_); clear hS; intro w hS)) | refine X_k (by (try simp only [Fm.toList, List.set_cons_succ, List.set_cons_zero]); exact rfl) ?_ | refine S_u ?_ | refine S_v ?_ | refine C_sq ?_ | refine C_rg ?_ | refine L_nil ?_ | refine C_bk ?_ | refine C_ct ?_ | refine C_cf ?_ | refine C_sk ?_ | refine C_ex ?_ | refine C_rt ?_ | refine X_e ?_ | refine X_r ?_ | refine X_bh ?_ | refine X_be ?_ | refine X_br ?_ | refine X_bn ?_ | refine X_p ?_ | refine X_bp ?_)
        refine R_e (i + 1) ⟨by omega, ?_, hS⟩ (by omega)
        rw [List.take_add_one, hs, List.any_append, he]
        simp [h70]
    · obtain rfl : n = i := by omega
      rw [List.take_of_length_le (by omega)] at he
      rw [he]
      repeat (first | (refine S_w ?_; first | (refine S_d hS ?_) | (refine S_y hS ?_) | ((first | refine M_bA hS ?_ | refine M_b1 hS ?_ | refine M_aA hS ?_ | refine M_a1 hS ?_ | refine M_sl hS ?_ | refine M_s1 hS ?_ | refine M_mm hS ?_); clear hS; intro b w hS) | ((first | refine M_st hS ?_ | refine M_sA hS ?_ | refine M_in hS ?_ | refine M_sR hS ?_); clear hS; intro w hS; (try simp only [List.set_cons_zero, List.set_cons_succ, Nat.zero_add] at hS)) | (refine M_ap hS ?_; clear hS; intro g cap w hS) | refine M_pn ?_ | ((first | refine M_im hS ?_ | refine M_ii hS ?_ | refine M_dl hS ?_); clear hS; intro w hS)) | refine X_k (by (try simp only [Fm.toList, List.set_cons_succ, List.set_cons_zero]); exact rfl) ?_ | refine S_u ?_ | refine S_v ?_ | refine C_sq ?_ | refine C_rg ?_ | refine L_nil ?_ | refine C_bk ?_ | refine C_ct ?_ | refine C_cf ?_ | refine C_sk ?_ | refine C_ex ?_ | refine C_rt ?_ | refine X_e ?_ | refine X_r ?_ | refine X_bh ?_ | refine X_be ?_ | refine X_br ?_ | refine X_bn ?_ | refine X_p ?_ | refine X_bp ?_)
      refine V_1 ⟨rfl, hS⟩
/-! begin -/
/-- the laws' run in memory -/
structure Rn where
  rb : Nat
  sb : Nat
  mb : Nat
  m : Nat
  cp : Nat
  bi : Nat
  bk : Nat
  N : List Dg.Nd
  kn : List Nat
  A : Option Addr
  c : Nat
  MT : List Tb
  Am : Option Addr
  cm : Nat
  R : List Nat
  Ar : Option Addr
  cr : Nat
  TT : List Tb
  At : Option Addr
  ct : Nat
  T : List Res
abbrev rnO (sb mb nR : Nat) (Ar : Option Addr) (cr nT : Nat) (At : Option Addr) (ct : Nat) : Obj := .cells [.pointer (some ⟨sb, 0, none⟩), .pointer (some ⟨mb, 0, none⟩), .slice Ar nR cr, .slice At nT ct].toArray 41 (0, 0)
abbrev rnT (rb sb mb : Nat) (R : List Nat) (Ar : Option Addr) (cr : Nat) (TT : List Tb) (At : Option Addr) (ct : Nat) (rs : List Res) : List Res :=
  Res.obj rb (rnO sb mb R.length Ar cr TT.length At ct) :: Res.row 45 1 (.slice Ar R.length cr) R.length (qv R) :: Res.row 29 1 (.slice At TT.length ct) TT.length (TT.map Tb.val) :: rs
abbrev runR (s : Rn) (rs : List Res) : List Res :=
  stR s.sb s.m s.cp s.N s.kn s.bi s.bk s.A s.c (rfR s.mb s.m s.cp s.MT s.Am s.cm (s.T ++ rnT s.rb s.sb s.mb s.R s.Ar s.cr s.TT s.At s.ct rs))
structure Good (s : Rn) : Prop where
  m6 : s.m ≤ 4
  cp1 : 1 ≤ s.cp
  cp2 : s.cp ≤ 4096
  si : Dg.SI s.m s.N (s.MT.map Tb.xs) s.kn
  nc : s.N.length ≤ s.cp
  rl : s.R.length = s.TT.length
  rt : ∀ (i r : Nat) (t : Tb), s.R[i]? = some r → s.TT[i]? = some t → r ∈ s.kn ∧ Dg.tabOf s.m s.N r = t.xs ∧ t.xs ∈ s.MT.map Tb.xs
  kr : ∀ i ∈ s.kn, i ∈ s.R
  tm : ∀ t ∈ s.TT, t.res ∈ s.T
  mt : ∀ t ∈ s.MT, t ∈ s.TT
  tl : ∀ t ∈ s.TT, t.xs.length = two s.m
  ii : ∀ t ∈ s.TT, ∀ z ∈ t.xs, inI z
  ml : s.MT.length ≤ s.R.length
set_option maxHeartbeats 4000000 in
set_option maxRecDepth 100000 in
theorem beginE (v z : Int) (h : (v < 0 ∨ 6 < v) ∨ z < 1 ∨ 4096 < z) (hS : St F w0 rs w) : CallsR Try.prog 11 #[.int .i64 v, .int .i64 z] w fun r w' => ∃ p, r = .tuple #[p, .bool false, .bool true] ∧ St F w0 rs w' := by
  obtain ⟨e, he, hne⟩ : ∃ e : Int, e = (if v < 0 ∨ 6 < v then 7 else 1) ∧ e ≠ 0 := ⟨_, rfl, by split <;> decide⟩
  have c1 := fun w hS => dnewE (F := F) (w0 := w0) (rs := rs) (w := w) v z h hS
  have c2 := fun w hS => rnewE (F := F) (w0 := w0) (rs := rs) (w := w) v z h hS
  rw [← he] at c1 c2
  refine E_r (m := 37) ?_ Try.func11 rfl Try.ntmps11 rfl; refine C_ft ?_
  repeat (first | (refine S_w ?_; first | (refine M_c (c1 _ hS) ?_) | (refine S_d hS ?_) | (refine S_y hS ?_) | ((first | refine M_bA hS ?_ | refine M_b1 hS ?_ | refine M_aA hS ?_ | refine M_a1 hS ?_ | refine M_sl hS ?_ | refine M_s1 hS ?_ | refine M_mm hS ?_); clear hS; intro b w hS) | ((first | refine M_st hS ?_ | refine M_sA hS ?_ | refine M_in hS ?_ | refine M_sR hS ?_); clear hS; intro w hS; (try simp only [List.set_cons_zero, List.set_cons_succ, Nat.zero_add] at hS)) | (refine M_ap hS ?_; clear hS; intro g cap w hS) | refine M_pn ?_ | ((first | refine M_im hS ?_ | refine M_ii hS ?_ | refine M_dl hS ?_); clear hS; intro w hS)) | refine X_k (by (try simp only [Fm.toList, List.set_cons_succ, List.set_cons_zero]); exact rfl) ?_ | refine S_u ?_ | refine S_v ?_ | refine C_sq ?_ | refine C_rg ?_ | refine L_nil ?_ | refine C_bk ?_ | refine C_ct ?_ | refine C_cf ?_ | refine C_sk ?_ | refine C_ex ?_ | refine C_rt ?_ | refine X_e ?_ | refine X_r ?_ | refine X_bh ?_ | refine X_be ?_ | refine X_br ?_ | refine X_bn ?_ | refine X_p ?_ | refine X_bp ?_)
  rintro _ w1 ⟨rfl, hS⟩
  repeat (first | (refine S_w ?_; first | (refine M_c (c2 _ hS) ?_) | (refine S_d hS ?_) | (refine S_y hS ?_) | ((first | refine M_bA hS ?_ | refine M_b1 hS ?_ | refine M_aA hS ?_ | refine M_a1 hS ?_ | refine M_sl hS ?_ | refine M_s1 hS ?_ | refine M_mm hS ?_); clear hS; intro b w hS) | ((first | refine M_st hS ?_ | refine M_sA hS ?_ | refine M_in hS ?_ | refine M_sR hS ?_); clear hS; intro w hS; (try simp only [List.set_cons_zero, List.set_cons_succ, Nat.zero_add] at hS)) | (refine M_ap hS ?_; clear hS; intro g cap w hS) | refine M_pn ?_ | ((first | refine M_im hS ?_ | refine M_ii hS ?_ | refine M_dl hS ?_); clear hS; intro w hS)) | refine X_k (by (try simp only [Fm.toList, List.set_cons_succ, List.set_cons_zero]); exact rfl) ?_ | refine S_u ?_ | refine S_v ?_ | refine C_sq ?_ | refine C_rg ?_ | refine L_nil ?_ | refine C_bk ?_ | refine C_ct ?_ | refine C_cf ?_ | refine C_sk ?_ | refine C_ex ?_ | refine C_rt ?_ | refine X_e ?_ | refine X_r ?_ | refine X_bh ?_ | refine X_be ?_ | refine X_br ?_ | refine X_bn ?_ | refine X_p ?_ | refine X_bp ?_)
  rintro _ w2 ⟨rfl, hS⟩
  have hbb : (true == decide (e ≠ 0)) = true := by simp [hne]
  repeat (first | (refine S_w ?_; first | (refine S_d hS ?_) | (refine S_y hS ?_) | ((first | refine M_bA hS ?_ | refine M_b1 hS ?_ | refine M_aA hS ?_ | refine M_a1 hS ?_ | refine M_sl hS ?_ | refine M_s1 hS ?_ | refine M_mm hS ?_); clear hS; intro b w hS) | ((first | refine M_st hS ?_ | refine M_sA hS ?_ | refine M_in hS ?_ | refine M_sR hS ?_); clear hS; intro w hS; (try simp only [List.set_cons_zero, List.set_cons_succ, Nat.zero_add] at hS)) | (refine M_ap hS ?_; clear hS; intro g cap w hS) | refine M_pn ?_ | ((first | refine M_im hS ?_ | refine M_ii hS ?_ | refine M_dl hS ?_); clear hS; intro w hS)) | refine X_k (by (try simp only [Fm.toList, List.set_cons_succ, List.set_cons_zero]); exact rfl) ?_ | refine S_u ?_ | refine S_v ?_ | refine C_sq ?_ | refine C_rg ?_ | refine L_nil ?_ | refine C_bk ?_ | refine C_ct ?_ | refine C_cf ?_ | refine C_sk ?_ | refine C_ex ?_ | refine C_rt ?_ | refine X_e ?_ | refine X_r ?_ | refine X_bh ?_ | refine X_be ?_ | refine X_br ?_ | refine X_bn ?_ | refine X_p ?_ | refine X_bp ?_)
  refine ⟨W_ret3 rfl (Rv.tmp rfl) (Rv.tmp rfl) (Rv.tmp rfl) ⟨_, rfl, hS.sb⟩⟩
set_option maxHeartbeats 4000000 in
set_option maxRecDepth 100000 in
theorem beginT {m cp : Nat} (hm : m ≤ 6) (h1 : 1 ≤ cp) (h2 : cp ≤ 4096) (hS : St F w0 rs w) : CallsR Try.prog 11 #[.int .i64 (m : Nat), .int .i64 (cp : Nat)] w fun r w' =>
    ∃ rb sb mb bi bk, r = .tuple #[.pointer (some ⟨rb, 0, none⟩), .bool true, .bool true] ∧ St F w0 (runR ⟨rb, sb, mb, m, cp, bi, bk, [], [], none, 0, [], none, 0, [], none, 0, [], none, 0, []⟩ rs) w' := by
  refine E_r (m := 37) ?_ Try.func11 rfl Try.ntmps11 rfl; refine C_ft ?_
  repeat (first | (refine S_w ?_; first | (refine M_c (dnewT hm h1 h2 hS) ?_) | (refine S_d hS ?_) | (refine S_y hS ?_) | ((first | refine M_bA hS ?_ | refine M_b1 hS ?_ | refine M_aA hS ?_ | refine M_a1 hS ?_ | refine M_sl hS ?_ | refine M_s1 hS ?_ | refine M_mm hS ?_); clear hS; intro b w hS) | ((first | refine M_st hS ?_ | refine M_sA hS ?_ | refine M_in hS ?_ | refine M_sR hS ?_); clear hS; intro w hS; (try simp only [List.set_cons_zero, List.set_cons_succ, Nat.zero_add] at hS)) | (refine M_ap hS ?_; clear hS; intro g cap w hS) | refine M_pn ?_ | ((first | refine M_im hS ?_ | refine M_ii hS ?_ | refine M_dl hS ?_); clear hS; intro w hS)) | refine X_k (by (try simp only [Fm.toList, List.set_cons_succ, List.set_cons_zero]); exact rfl) ?_ | refine S_u ?_ | refine S_v ?_ | refine C_sq ?_ | refine C_rg ?_ | refine L_nil ?_ | refine C_bk ?_ | refine C_ct ?_ | refine C_cf ?_ | refine C_sk ?_ | refine C_ex ?_ | refine C_rt ?_ | refine X_e ?_ | refine X_r ?_ | refine X_bh ?_ | refine X_be ?_ | refine X_br ?_ | refine X_bn ?_ | refine X_p ?_ | refine X_bp ?_)
  rintro _ w1 ⟨sb, bi, bk, rfl, hS⟩
  repeat (first | (refine S_w ?_; first | (refine M_c (rnewT hm h1 h2 hS) ?_) | (refine S_d hS ?_) | (refine S_y hS ?_) | ((first | refine M_bA hS ?_ | refine M_b1 hS ?_ | refine M_aA hS ?_ | refine M_a1 hS ?_ | refine M_sl hS ?_ | refine M_s1 hS ?_ | refine M_mm hS ?_); clear hS; intro b w hS) | ((first | refine M_st hS ?_ | refine M_sA hS ?_ | refine M_in hS ?_ | refine M_sR hS ?_); clear hS; intro w hS; (try simp only [List.set_cons_zero, List.set_cons_succ, Nat.zero_add] at hS)) | (refine M_ap hS ?_; clear hS; intro g cap w hS) | refine M_pn ?_ | ((first | refine M_im hS ?_ | refine M_ii hS ?_ | refine M_dl hS ?_); clear hS; intro w hS)) | refine X_k (by (try simp only [Fm.toList, List.set_cons_succ, List.set_cons_zero]); exact rfl) ?_ | refine S_u ?_ | refine S_v ?_ | refine C_sq ?_ | refine C_rg ?_ | refine L_nil ?_ | refine C_bk ?_ | refine C_ct ?_ | refine C_cf ?_ | refine C_sk ?_ | refine C_ex ?_ | refine C_rt ?_ | refine X_e ?_ | refine X_r ?_ | refine X_bh ?_ | refine X_be ?_ | refine X_br ?_ | refine X_bn ?_ | refine X_p ?_ | refine X_bp ?_)
  rintro _ w2 ⟨mb, rfl, hS⟩
  repeat (first | (refine S_w ?_; first | (refine S_d hS ?_) | (refine S_y hS ?_) | ((first | refine M_bA hS ?_ | refine M_b1 hS ?_ | refine M_aA hS ?_ | refine M_a1 hS ?_ | refine M_sl hS ?_ | refine M_s1 hS ?_ | refine M_mm hS ?_); clear hS; intro b w hS) | ((first | refine M_st hS ?_ | refine M_sA hS ?_ | refine M_in hS ?_ | refine M_sR hS ?_); clear hS; intro w hS; (try simp only [List.set_cons_zero, List.set_cons_succ, Nat.zero_add] at hS)) | (refine M_ap hS ?_; clear hS; intro g cap w hS) | refine M_pn ?_ | ((first | refine M_im hS ?_ | refine M_ii hS ?_ | refine M_dl hS ?_); clear hS; intro w hS)) | refine X_k (by (try simp only [Fm.toList, List.set_cons_succ, List.set_cons_zero]); exact rfl) ?_ | refine S_u ?_ | refine S_v ?_ | refine C_sq ?_ | refine C_rg ?_ | refine L_nil ?_ | refine C_bk ?_ | refine C_ct ?_ | refine C_cf ?_ | refine C_sk ?_ | refine C_ex ?_ | refine C_rt ?_ | refine X_e ?_ | refine X_r ?_ | refine X_bh ?_ | refine X_be ?_ | refine X_br ?_ | refine X_bn ?_ | refine X_p ?_ | refine X_bp ?_)
  have hS := hS.rowNil 29 1
  have hS := hS.rowNil 45 1
  have hS := St.mv (l := [_, _]) (cs := [_]) hS
  have hS := St.addRo (r := Res.rd 1 none 0 []) hS Rd.nil rfl (fun s _ _ b h => by cases h)
  have hS := St.mv (l := [_, _, _, _]) (cs := [_]) hS
  have hS := St.mv (l := [_, _, _, _, _]) (cs := [_, _, _, _]) hS
  refine ⟨W_ret3 rfl (Rv.tmp rfl) (Rv.tmp rfl) (Rv.tmp rfl) ⟨b, sb, mb, bi, bk, rfl, hS⟩⟩
end
end Go.Proofs.Ytijmggoikieelaa
