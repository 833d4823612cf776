/-
  diagram: made, has, Vars, Nodes, Table, Eval, variable.
-/
import Derived.Test.YtijmggoikieelaaDgIns
namespace Go.Proofs.Ytijmggoikieelaa
open Go.RowKit

def kno (kn : List Nat) (z : Int) : Bool := kn.any fun i => decide ((i : Int) = z)
theorem kno_fd (kn : List Nat) (z : Int) : fd z (knL kn) = if kno kn z then some (.bool true) else none := by
  rw [knL_fd]
  unfold kno
  by_cases h : ∃ i ∈ kn, (i : Int) = z
  · rw [if_pos h, if_pos (by obtain ⟨i, h1, h2⟩ := h; exact List.any_eq_true.2 ⟨i, h1, decide_eq_true h2⟩)]
  · rw [if_neg h, if_neg (by
      intro h'
      obtain ⟨i, h1, h2⟩ := List.any_eq_true.1 h'
      exact h ⟨i, h1, of_decide_eq_true h2⟩)]
theorem kno_mem {kn : List Nat} {i : Nat} : kno kn (i : Int) = true ↔ i ∈ kn := by
  unfold kno
  rw [List.any_eq_true]
  constructor
  · rintro ⟨j, h1, h2⟩
    have := of_decide_eq_true h2
    have e : j = i := by omega
    exact e ▸ h1
  · exact fun h => ⟨i, h, decide_eq_true rfl⟩
/-- a slice that was written out -/
theorem hasSlO {rs : List Res} {b n size : Nat} {xs ys : List Value} {ty : TypeId} {fz : Nat × Nat} (h : HasObj rs b (.cells ys.toArray ty fz) := by infer_instance) (e : ys = xs := by rfl) (hn : ys.length = n * size := by rfl) : HasSl rs (some ⟨b, 0, none⟩) n size xs := ⟨fun hS => objRd hS h e hn⟩
section
variable {F : Nat → Prop} {w0 w : World} {rs : List Res} {sb m cp bi bk c n : Nat} {A : Option Addr} {N : List Dg.Nd} {kn : List Nat}
set_option maxHeartbeats 4000000 in
set_option maxRecDepth 100000 in
theorem dmadeR (h1 : HasObj rs sb (stO m cp n A c bi bk)) (hS : St F w0 rs w) : CallsR Try.prog 44 #[.pointer (some ⟨sb, 0, none⟩)] w fun r w' => r = .bool true ∧ St F w0 rs w' := by
  refine E_r (m := 11) ?_ Try.func44 rfl Try.ntmps44 rfl; refine C_ft ?_
  repeat (first | (refine S_w ?_; first | (refine S_d hS ?_) | (refine S_y hS ?_) | ((first | refine M_bA hS ?_ | refine M_b1 hS ?_ | refine M_aA hS ?_ | refine M_a1 hS ?_ | refine M_sl hS ?_ | refine M_s1 hS ?_ | refine M_mm hS ?_); clear hS; intro b w hS) | ((first | refine M_st hS ?_ | refine M_sA hS ?_ | refine M_in hS ?_ | refine M_sR hS ?_); clear hS; intro w hS; (try simp only [List.set_cons_zero, List.set_cons_succ, Nat.zero_add] at hS)) | (refine M_ap hS ?_; clear hS; intro g cap w hS) | refine M_pn ?_ | ((first | refine M_im hS ?_ | refine M_ii hS ?_ | refine M_dl hS ?_); clear hS; intro w hS)) | refine X_k (by (try simp only [Fm.toList, List.set_cons_succ, List.set_cons_zero]); exact rfl) ?_ | refine S_u ?_ | refine S_v ?_ | refine C_sq ?_ | refine C_rg ?_ | refine L_nil ?_ | refine C_bk ?_ | refine C_ct ?_ | refine C_cf ?_ | refine C_sk ?_ | refine C_ex ?_ | refine C_rt ?_ | refine X_e ?_ | refine X_r ?_ | refine X_bh ?_ | refine X_be ?_ | refine X_br ?_ | refine X_bn ?_ | refine X_p ?_ | refine X_bp ?_)
  refine V_1 ⟨rfl, hS⟩
set_option maxHeartbeats 4000000 in
set_option maxRecDepth 100000 in
theorem dmade0 (hS : St F w0 rs w) : CallsR Try.prog 44 #[.pointer none] w fun r w' => r = .bool false ∧ St F w0 rs w' := by
  refine E_r (m := 11) ?_ Try.func44 rfl Try.ntmps44 rfl; refine C_ft ?_
  repeat (first | (refine S_w ?_; first | (refine S_d hS ?_) | (refine S_y hS ?_) | ((first | refine M_bA hS ?_ | refine M_b1 hS ?_ | refine M_aA hS ?_ | refine M_a1 hS ?_ | refine M_sl hS ?_ | refine M_s1 hS ?_ | refine M_mm hS ?_); clear hS; intro b w hS) | ((first | refine M_st hS ?_ | refine M_sA hS ?_ | refine M_in hS ?_ | refine M_sR hS ?_); clear hS; intro w hS; (try simp only [List.set_cons_zero, List.set_cons_succ, Nat.zero_add] at hS)) | (refine M_ap hS ?_; clear hS; intro g cap w hS) | refine M_pn ?_ | ((first | refine M_im hS ?_ | refine M_ii hS ?_ | refine M_dl hS ?_); clear hS; intro w hS)) | refine X_k (by (try simp only [Fm.toList, List.set_cons_succ, List.set_cons_zero]); exact rfl) ?_ | refine S_u ?_ | refine S_v ?_ | refine C_sq ?_ | refine C_rg ?_ | refine L_nil ?_ | refine C_bk ?_ | refine C_ct ?_ | refine C_cf ?_ | refine C_sk ?_ | refine C_ex ?_ | refine C_rt ?_ | refine X_e ?_ | refine X_r ?_ | refine X_bh ?_ | refine X_be ?_ | refine X_br ?_ | refine X_bn ?_ | refine X_p ?_ | refine X_bp ?_)
  refine V_1 ⟨rfl, hS⟩
/-- a store that New did not return -/
abbrev stZ : Obj := .cells [.int .i64 0, .int .i64 0, .slice none 0 0, .map none, .map none].toArray 88 (0, 0)
set_option maxHeartbeats 4000000 in
set_option maxRecDepth 100000 in
theorem dmadeZ (h1 : HasObj rs sb stZ) (hS : St F w0 rs w) : CallsR Try.prog 44 #[.pointer (some ⟨sb, 0, none⟩)] w fun r w' => r = .bool false ∧ St F w0 rs w' := by
  refine E_r (m := 11) ?_ Try.func44 rfl Try.ntmps44 rfl; refine C_ft ?_
  repeat (first | (refine S_w ?_; first | (refine S_d hS ?_) | (refine S_y hS ?_) | ((first | refine M_bA hS ?_ | refine M_b1 hS ?_ | refine M_aA hS ?_ | refine M_a1 hS ?_ | refine M_sl hS ?_ | refine M_s1 hS ?_ | refine M_mm hS ?_); clear hS; intro b w hS) | ((first | refine M_st hS ?_ | refine M_sA hS ?_ | refine M_in hS ?_ | refine M_sR hS ?_); clear hS; intro w hS; (try simp only [List.set_cons_zero, List.set_cons_succ, Nat.zero_add] at hS)) | (refine M_ap hS ?_; clear hS; intro g cap w hS) | refine M_pn ?_ | ((first | refine M_im hS ?_ | refine M_ii hS ?_ | refine M_dl hS ?_); clear hS; intro w hS)) | refine X_k (by (try simp only [Fm.toList, List.set_cons_succ, List.set_cons_zero]); exact rfl) ?_ | refine S_u ?_ | refine S_v ?_ | refine C_sq ?_ | refine C_rg ?_ | refine L_nil ?_ | refine C_bk ?_ | refine C_ct ?_ | refine C_cf ?_ | refine C_sk ?_ | refine C_ex ?_ | refine C_rt ?_ | refine X_e ?_ | refine X_r ?_ | refine X_bh ?_ | refine X_be ?_ | refine X_br ?_ | refine X_bn ?_ | refine X_p ?_ | refine X_bp ?_)
  refine V_1 ⟨rfl, hS⟩
set_option maxHeartbeats 4000000 in
set_option maxRecDepth 100000 in
theorem dvarsR (h1 : HasObj rs sb (stO m cp n A c bi bk)) (hS : St F w0 rs w) : CallsR Try.prog 28 #[.pointer (some ⟨sb, 0, none⟩)] w fun r w' => r = .int .i64 (m : Nat) ∧ St F w0 rs w' := by
  refine E_r (m := 9) ?_ Try.func28 rfl Try.ntmps28 rfl; refine C_ft ?_
  repeat (first | (refine S_w ?_; first | (refine M_c (dmadeR h1 hS) ?_) | (refine S_d hS ?_) | (refine S_y hS ?_) | ((first | refine M_bA hS ?_ | refine M_b1 hS ?_ | refine M_aA hS ?_ | refine M_a1 hS ?_ | refine M_sl hS ?_ | refine M_s1 hS ?_ | refine M_mm hS ?_); clear hS; intro b w hS) | ((first | refine M_st hS ?_ | refine M_sA hS ?_ | refine M_in hS ?_ | refine M_sR hS ?_); clear hS; intro w hS; (try simp only [List.set_cons_zero, List.set_cons_succ, Nat.zero_add] at hS)) | (refine M_ap hS ?_; clear hS; intro g cap w hS) | refine M_pn ?_ | ((first | refine M_im hS ?_ | refine M_ii hS ?_ | refine M_dl hS ?_); clear hS; intro w hS)) | refine X_k (by (try simp only [Fm.toList, List.set_cons_succ, List.set_cons_zero]); exact rfl) ?_ | refine S_u ?_ | refine S_v ?_ | refine C_sq ?_ | refine C_rg ?_ | refine L_nil ?_ | refine C_bk ?_ | refine C_ct ?_ | refine C_cf ?_ | refine C_sk ?_ | refine C_ex ?_ | refine C_rt ?_ | refine X_e ?_ | refine X_r ?_ | refine X_bh ?_ | refine X_be ?_ | refine X_br ?_ | refine X_bn ?_ | refine X_p ?_ | refine X_bp ?_)
  rintro _ w1 ⟨rfl, hS⟩
  repeat (first | (refine S_w ?_; first | (refine S_d hS ?_) | (refine S_y hS ?_) | ((first | refine M_bA hS ?_ | refine M_b1 hS ?_ | refine M_aA hS ?_ | refine M_a1 hS ?_ | refine M_sl hS ?_ | refine M_s1 hS ?_ | refine M_mm hS ?_); clear hS; intro b w hS) | ((first | refine M_st hS ?_ | refine M_sA hS ?_ | refine M_in hS ?_ | refine M_sR hS ?_); clear hS; intro w hS; (try simp only [List.set_cons_zero, List.set_cons_succ, Nat.zero_add] at hS)) | (refine M_ap hS ?_; clear hS; intro g cap w hS) | refine M_pn ?_ | ((first | refine M_im hS ?_ | refine M_ii hS ?_ | refine M_dl hS ?_); clear hS; intro w hS)) | refine X_k (by (try simp only [Fm.toList, List.set_cons_succ, List.set_cons_zero]); exact rfl) ?_ | refine S_u ?_ | refine S_v ?_ | refine C_sq ?_ | refine C_rg ?_ | refine L_nil ?_ | refine C_bk ?_ | refine C_ct ?_ | refine C_cf ?_ | refine C_sk ?_ | refine C_ex ?_ | refine C_rt ?_ | refine X_e ?_ | refine X_r ?_ | refine X_bh ?_ | refine X_be ?_ | refine X_br ?_ | refine X_bn ?_ | refine X_p ?_ | refine X_bp ?_)
  refine V_1 ⟨rfl, hS⟩
set_option maxHeartbeats 4000000 in
set_option maxRecDepth 100000 in
theorem dnodesR (h1 : HasObj rs sb (stO m cp n A c bi bk)) (hS : St F w0 rs w) : CallsR Try.prog 13 #[.pointer (some ⟨sb, 0, none⟩)] w fun r w' => r = .tuple #[.int .i64 (n : Nat), .int .i64 0] ∧ St F w0 rs w' := by
  refine E_r (m := 11) ?_ Try.func13 rfl Try.ntmps13 rfl; refine C_ft ?_
  repeat (first | (refine S_w ?_; first | (refine M_c (dmadeR h1 hS) ?_) | (refine S_d hS ?_) | (refine S_y hS ?_) | ((first | refine M_bA hS ?_ | refine M_b1 hS ?_ | refine M_aA hS ?_ | refine M_a1 hS ?_ | refine M_sl hS ?_ | refine M_s1 hS ?_ | refine M_mm hS ?_); clear hS; intro b w hS) | ((first | refine M_st hS ?_ | refine M_sA hS ?_ | refine M_in hS ?_ | refine M_sR hS ?_); clear hS; intro w hS; (try simp only [List.set_cons_zero, List.set_cons_succ, Nat.zero_add] at hS)) | (refine M_ap hS ?_; clear hS; intro g cap w hS) | refine M_pn ?_ | ((first | refine M_im hS ?_ | refine M_ii hS ?_ | refine M_dl hS ?_); clear hS; intro w hS)) | refine X_k (by (try simp only [Fm.toList, List.set_cons_succ, List.set_cons_zero]); exact rfl) ?_ | refine S_u ?_ | refine S_v ?_ | refine C_sq ?_ | refine C_rg ?_ | refine L_nil ?_ | refine C_bk ?_ | refine C_ct ?_ | refine C_cf ?_ | refine C_sk ?_ | refine C_ex ?_ | refine C_rt ?_ | refine X_e ?_ | refine X_r ?_ | refine X_bh ?_ | refine X_be ?_ | refine X_br ?_ | refine X_bn ?_ | refine X_p ?_ | refine X_bp ?_)
  rintro _ w1 ⟨rfl, hS⟩
  repeat (first | (refine S_w ?_; first | (refine S_d hS ?_) | (refine S_y hS ?_) | ((first | refine M_bA hS ?_ | refine M_b1 hS ?_ | refine M_aA hS ?_ | refine M_a1 hS ?_ | refine M_sl hS ?_ | refine M_s1 hS ?_ | refine M_mm hS ?_); clear hS; intro b w hS) | ((first | refine M_st hS ?_ | refine M_sA hS ?_ | refine M_in hS ?_ | refine M_sR hS ?_); clear hS; intro w hS; (try simp only [List.set_cons_zero, List.set_cons_succ, Nat.zero_add] at hS)) | (refine M_ap hS ?_; clear hS; intro g cap w hS) | refine M_pn ?_ | ((first | refine M_im hS ?_ | refine M_ii hS ?_ | refine M_dl hS ?_); clear hS; intro w hS)) | refine X_k (by (try simp only [Fm.toList, List.set_cons_succ, List.set_cons_zero]); exact rfl) ?_ | refine S_u ?_ | refine S_v ?_ | refine C_sq ?_ | refine C_rg ?_ | refine L_nil ?_ | refine C_bk ?_ | refine C_ct ?_ | refine C_cf ?_ | refine C_sk ?_ | refine C_ex ?_ | refine C_rt ?_ | refine X_e ?_ | refine X_r ?_ | refine X_bh ?_ | refine X_be ?_ | refine X_br ?_ | refine X_bn ?_ | refine X_p ?_ | refine X_bp ?_)
  refine V_2 ⟨rfl, hS⟩
/-! references -/
set_option maxHeartbeats 4000000 in
set_option maxRecDepth 100000 in
theorem idxRefR {g : FuncId} {cs : List Value} {A : Option Addr} {m c : Nat} {ws : List Int} (p : Int → Bool) (hb : enterB Try.prog g = true) (hm : m ≤ 4294967296) (hA : HasSl rs A m 1 (ws.map iv))
    (hc : ∀ x ∈ ws, ∀ w, St F w0 rs w → CallsR Try.prog g (iv x :: cs).toArray w fun r w' => r = .bool (p x) ∧ St F w0 rs w') (hS : St F w0 rs w) :
    CallsR Try.prog 73 #[.slice A m c, .func (.func g) #[] cs.toArray] w fun r w' => (∃ z : Int, r = .int .i64 z ∧ (0 ≤ z ↔ ws.any p = true)) ∧ St F w0 rs w' := by
  have hl : ws.length = m := by have := (hA.rd hS).1; simpa using this
  refine E_r (m := 17) ?_ Try.func73 rfl Try.ntmps73 rfl; refine C_ft ?_
  repeat (first | (refine S_w ?_; first | (refine S_d hS ?_) | (refine S_y hS ?_) | ((first | refine M_bA hS ?_ | refine M_b1 hS ?_ | refine M_aA hS ?_ | refine M_a1 hS ?_ | refine M_sl hS ?_ | refine M_s1 hS ?_ | refine M_mm hS ?_); clear hS; intro b w hS) | ((first | refine M_st hS ?_ | refine M_sA hS ?_ | refine M_in hS ?_ | refine M_sR hS ?_); clear hS; intro w hS; (try simp only [List.set_cons_zero, List.set_cons_succ, Nat.zero_add] at hS)) | (refine M_ap hS ?_; clear hS; intro g cap w hS) | refine M_pn ?_ | ((first | refine M_im hS ?_ | refine M_ii hS ?_ | refine M_dl hS ?_); clear hS; intro w hS)) | refine X_k (by (try simp only [Fm.toList, List.set_cons_succ, List.set_cons_zero]); exact rfl) ?_ | refine S_u ?_ | refine S_v ?_ | refine C_sq ?_ | refine C_rg ?_ | refine L_nil ?_ | refine C_bk ?_ | refine C_ct ?_ | refine C_cf ?_ | refine C_sk ?_ | refine C_ex ?_ | refine C_rt ?_ | refine X_e ?_ | refine X_r ?_ | refine X_bh ?_ | refine X_be ?_ | refine X_br ?_ | refine X_bn ?_ | refine X_p ?_ | refine X_bp ?_)
  refine C_lp [4, 2, 2, 11] (fun k : Nat => [(8, .int .i64 (k : Nat))]) (fun k w' => k ≤ m ∧ (ws.take k).any p = false ∧ St F w0 rs w') (fun k => m - k) 0 ⟨Nat.zero_le _, rfl, hS⟩ ?_
  clear hS
  rintro k y w ⟨hk, hp, hS⟩
  refine C_fs ?_
  by_cases hlt : k < m
  · obtain ⟨x, hx⟩ : ∃ x, ws[k]? = some x := ⟨ws[k]'(by omega), List.getElem?_eq_getElem _⟩
    have hx2 : (ws.map iv)[k]? = some (iv x) := by rw [List.getElem?_map, hx]; rfl
    have hck := fun w hs => hc x (List.mem_of_getElem? hx) w hs
    repeat (first | (refine S_w ?_; first | (refine M_c (hb := hb) (hck _ hS) ?_) | (refine S_d hS ?_) | (refine S_y hS ?_) | ((first | refine M_bA hS ?_ | refine M_b1 hS ?_ | refine M_aA hS ?_ | refine M_a1 hS ?_ | refine M_sl hS ?_ | refine M_s1 hS ?_ | refine M_mm hS ?_); clear hS; intro b w hS) | ((first | refine M_st hS ?_ | refine M_sA hS ?_ | refine M_in hS ?_ | refine M_sR hS ?_); clear hS; intro w hS; (try simp only [List.set_cons_zero, List.set_cons_succ, Nat.zero_add] at hS)) | (refine M_ap hS ?_; clear hS; intro g cap w hS) | refine M_pn ?_ | ((first | refine M_im hS ?_ | refine M_ii hS ?_ | refine M_dl hS ?_); clear hS; intro w hS)) | refine X_k (by (try simp only [Fm.toList, List.set_cons_succ, List.set_cons_zero]); exact rfl) ?_ | refine S_u ?_ | refine S_v ?_ | refine C_sq ?_ | refine C_rg ?_ | refine L_nil ?_ | refine C_bk ?_ | refine C_ct ?_ | refine C_cf ?_ | refine C_sk ?_ | refine C_ex ?_ | refine C_rt ?_ | refine X_e ?_ | refine X_r ?_ | refine X_bh ?_ | refine X_be ?_ | refine X_br ?_ | refine X_bn ?_ | refine X_p ?_ | refine X_bp ?_)
    rintro _ w1 ⟨rfl, hS⟩
    cases hpk : p x with
    | true =>
      repeat (first | (refine S_w ?_; first | (refine S_d hS ?_) | (refine S_y hS ?_) | ((first | refine M_bA hS ?_ | refine M_b1 hS ?_ | refine M_aA hS ?_ | refine M_a1 hS ?_ | refine M_sl hS ?_ | refine M_s1 hS ?_ | refine M_mm hS ?_); clear hS; intro b w hS) | ((first | refine M_st hS ?_ | refine M_sA hS ?_ | refine M_in hS ?_ | refine M_sR hS ?_); clear hS; intro w hS; (try simp only [List.set_cons_zero, List.set_cons_succ, Nat.zero_add] at hS)) | (refine M_ap hS ?_; clear hS; intro g cap w hS) | refine M_pn ?_ | ((first | refine M_im hS ?_ | refine M_ii hS ?_ | refine M_dl hS ?_); clear hS; intro w hS)) | refine X_k (by (try simp only [Fm.toList, List.set_cons_succ, List.set_cons_zero]); exact rfl) ?_ | refine S_u ?_ | refine S_v ?_ | refine C_sq ?_ | refine C_rg ?_ | refine L_nil ?_ | refine C_bk ?_ | refine C_ct ?_ | refine C_cf ?_ | refine C_sk ?_ | refine C_ex ?_ | refine C_rt ?_ | refine X_e ?_ | refine X_r ?_ | refine X_bh ?_ | refine X_be ?_ | refine X_br ?_ | refine X_bn ?_ | refine X_p ?_ | refine X_bp ?_)
      refine V_1 ⟨⟨((k : Nat) : Int), rfl, fun _ => List.any_eq_true.2 ⟨x, List.mem_of_getElem? hx, hpk⟩, fun _ => by omega⟩, hS⟩
    | false =>
      repeat (first | (refine S_w ?_; first | (refine S_d hS ?_) | (refine S_y hS ?_) | ((first | refine M_bA hS ?_ | refine M_b1 hS ?_ | refine M_aA hS ?_ | refine M_a1 hS ?_ | refine M_sl hS ?_ | refine M_s1 hS ?_ | refine M_mm hS ?_); clear hS; intro b w hS) | ((first | refine M_st hS ?_ | refine M_sA hS ?_ | refine M_in hS ?_ | refine M_sR hS ?_); clear hS; intro w hS; (try simp only [List.set_cons_zero, List.set_cons_succ, Nat.zero_add] at hS)) | (refine M_ap hS ?_; clear hS; intro g cap w hS) | refine M_pn ?_ | ((first | refine M_im hS ?_ | refine M_ii hS ?_ | refine M_dl hS ?_); clear hS; intro w hS)) | refine X_k (by (try simp only [Fm.toList, List.set_cons_succ, List.set_cons_zero]); exact rfl) ?_ | refine S_u ?_ | refine S_v ?_ | refine C_sq ?_ | refine C_rg ?_ | refine L_nil ?_ | refine C_bk ?_ | refine C_ct ?_ | refine C_cf ?_ | refine C_sk ?_ | refine C_ex ?_ | refine C_rt ?_ | refine X_e ?_ | refine X_r ?_ | refine X_bh ?_ | refine X_be ?_ | refine X_br ?_ | refine X_bn ?_ | refine X_p ?_ | refine X_bp ?_)
      refine R_e (k + 1) ⟨by omega, ?_, hS⟩ (by omega)
      rw [List.take_add_one, List.any_append, hp, hx]
      simp [hpk]
  · obtain rfl : k = m := by omega
    repeat (first | (refine S_w ?_; first | (refine S_d hS ?_) | (refine S_y hS ?_) | ((first | refine M_bA hS ?_ | refine M_b1 hS ?_ | refine M_aA hS ?_ | refine M_a1 hS ?_ | refine M_sl hS ?_ | refine M_s1 hS ?_ | refine M_mm hS ?_); clear hS; intro b w hS) | ((first | refine M_st hS ?_ | refine M_sA hS ?_ | refine M_in hS ?_ | refine M_sR hS ?_); clear hS; intro w hS; (try simp only [List.set_cons_zero, List.set_cons_succ, Nat.zero_add] at hS)) | (refine M_ap hS ?_; clear hS; intro g cap w hS) | refine M_pn ?_ | ((first | refine M_im hS ?_ | refine M_ii hS ?_ | refine M_dl hS ?_); clear hS; intro w hS)) | refine X_k (by (try simp only [Fm.toList, List.set_cons_succ, List.set_cons_zero]); exact rfl) ?_ | refine S_u ?_ | refine S_v ?_ | refine C_sq ?_ | refine C_rg ?_ | refine L_nil ?_ | refine C_bk ?_ | refine C_ct ?_ | refine C_cf ?_ | refine C_sk ?_ | refine C_ex ?_ | refine C_rt ?_ | refine X_e ?_ | refine X_r ?_ | refine X_bh ?_ | refine X_be ?_ | refine X_br ?_ | refine X_bn ?_ | refine X_p ?_ | refine X_bp ?_)
    rw [List.take_of_length_le (by omega)] at hp
    refine V_1 ⟨⟨-1, rfl, fun h => absurd h (by decide), fun h => by rw [hp] at h; cases h⟩, hS⟩
set_option maxHeartbeats 4000000 in
set_option maxRecDepth 100000 in
theorem contRefR {g : FuncId} {cs : List Value} {A : Option Addr} {m c : Nat} {ws : List Int} (p : Int → Bool) (hb : enterB Try.prog g = true) (hm : m ≤ 4294967296) (hA : HasSl rs A m 1 (ws.map iv))
    (hc : ∀ x ∈ ws, ∀ w, St F w0 rs w → CallsR Try.prog g (iv x :: cs).toArray w fun r w' => r = .bool (p x) ∧ St F w0 rs w') (hS : St F w0 rs w) :
    CallsR Try.prog 63 #[.slice A m c, .func (.func g) #[] cs.toArray] w fun r w' => r = .bool (ws.any p) ∧ St F w0 rs w' := by
  refine E_r (m := 7) ?_ Try.func63 rfl Try.ntmps63 rfl; refine C_ft ?_
  repeat (first | (refine S_w ?_; first | (refine M_c (idxRefR p hb hm hA hc hS) ?_) | (refine S_d hS ?_) | (refine S_y hS ?_) | ((first | refine M_bA hS ?_ | refine M_b1 hS ?_ | refine M_aA hS ?_ | refine M_a1 hS ?_ | refine M_sl hS ?_ | refine M_s1 hS ?_ | refine M_mm hS ?_); clear hS; intro b w hS) | ((first | refine M_st hS ?_ | refine M_sA hS ?_ | refine M_in hS ?_ | refine M_sR hS ?_); clear hS; intro w hS; (try simp only [List.set_cons_zero, List.set_cons_succ, Nat.zero_add] at hS)) | (refine M_ap hS ?_; clear hS; intro g cap w hS) | refine M_pn ?_ | ((first | refine M_im hS ?_ | refine M_ii hS ?_ | refine M_dl hS ?_); clear hS; intro w hS)) | refine X_k (by (try simp only [Fm.toList, List.set_cons_succ, List.set_cons_zero]); exact rfl) ?_ | refine S_u ?_ | refine S_v ?_ | refine C_sq ?_ | refine C_rg ?_ | refine L_nil ?_ | refine C_bk ?_ | refine C_ct ?_ | refine C_cf ?_ | refine C_sk ?_ | refine C_ex ?_ | refine C_rt ?_ | refine X_e ?_ | refine X_r ?_ | refine X_bh ?_ | refine X_be ?_ | refine X_br ?_ | refine X_bn ?_ | refine X_p ?_ | refine X_bp ?_)
  rintro _ w1 ⟨⟨z, rfl, hz⟩, hS⟩
  by_cases h : 0 ≤ z
  · repeat (first | (refine S_w ?_; first | (refine S_d hS ?_) | (refine S_y hS ?_) | ((first | refine M_bA hS ?_ | refine M_b1 hS ?_ | refine M_aA hS ?_ | refine M_a1 hS ?_ | refine M_sl hS ?_ | refine M_s1 hS ?_ | refine M_mm hS ?_); clear hS; intro b w hS) | ((first | refine M_st hS ?_ | refine M_sA hS ?_ | refine M_in hS ?_ | refine M_sR hS ?_); clear hS; intro w hS; (try simp only [List.set_cons_zero, List.set_cons_succ, Nat.zero_add] at hS)) | (refine M_ap hS ?_; clear hS; intro g cap w hS) | refine M_pn ?_ | ((first | refine M_im hS ?_ | refine M_ii hS ?_ | refine M_dl hS ?_); clear hS; intro w hS)) | refine X_k (by (try simp only [Fm.toList, List.set_cons_succ, List.set_cons_zero]); exact rfl) ?_ | refine S_u ?_ | refine S_v ?_ | refine C_sq ?_ | refine C_rg ?_ | refine L_nil ?_ | refine C_bk ?_ | refine C_ct ?_ | refine C_cf ?_ | refine C_sk ?_ | refine C_ex ?_ | refine C_rt ?_ | refine X_e ?_ | refine X_r ?_ | refine X_bh ?_ | refine X_be ?_ | refine X_br ?_ | refine X_bn ?_ | refine X_p ?_ | refine X_bp ?_)
    refine V_1 ⟨by rw [hz.1 h], hS⟩
  · repeat (first | (refine S_w ?_; first | (refine S_d hS ?_) | (refine S_y hS ?_) | ((first | refine M_bA hS ?_ | refine M_b1 hS ?_ | refine M_aA hS ?_ | refine M_a1 hS ?_ | refine M_sl hS ?_ | refine M_s1 hS ?_ | refine M_mm hS ?_); clear hS; intro b w hS) | ((first | refine M_st hS ?_ | refine M_sA hS ?_ | refine M_in hS ?_ | refine M_sR hS ?_); clear hS; intro w hS; (try simp only [List.set_cons_zero, List.set_cons_succ, Nat.zero_add] at hS)) | (refine M_ap hS ?_; clear hS; intro g cap w hS) | refine M_pn ?_ | ((first | refine M_im hS ?_ | refine M_ii hS ?_ | refine M_dl hS ?_); clear hS; intro w hS)) | refine X_k (by (try simp only [Fm.toList, List.set_cons_succ, List.set_cons_zero]); exact rfl) ?_ | refine S_u ?_ | refine S_v ?_ | refine C_sq ?_ | refine C_rg ?_ | refine L_nil ?_ | refine C_bk ?_ | refine C_ct ?_ | refine C_cf ?_ | refine C_sk ?_ | refine C_ex ?_ | refine C_rt ?_ | refine X_e ?_ | refine X_r ?_ | refine X_bh ?_ | refine X_be ?_ | refine X_br ?_ | refine X_bn ?_ | refine X_p ?_ | refine X_bp ?_)
    refine V_1 ⟨?_, hS⟩
    cases hw : ws.any p with
    | false => rfl
    | true => exact absurd (hz.2 hw) h
set_option maxHeartbeats 4000000 in
set_option maxRecDepth 100000 in
theorem dhas1R {b2 : Nat} (z : Int) (h0 : HasObj rs b2 (.cells #[.pointer (some ⟨sb, 0, none⟩)] 36 (0, 0))) (h1 : HasObj rs sb (stO m cp n A c bi bk)) (h2 : HasDm rs bk iv (knL kn)) (hS : St F w0 rs w) :
    CallsR Try.prog 64 #[.int .i64 z, .pointer (some ⟨b2, 0, none⟩)] w fun r w' => r = .bool (!(kno kn z)) ∧ St F w0 rs w' := by
  have hq := kno_fd kn z
  cases hk : kno kn z with
  | true =>
    rw [if_pos hk] at hq
    refine E_r (m := 9) ?_ Try.func64 rfl Try.ntmps64 rfl; refine C_ft ?_
    repeat (first | (refine S_w ?_; first | (refine S_d hS ?_) | (refine S_y hS ?_) | ((first | refine M_bA hS ?_ | refine M_b1 hS ?_ | refine M_aA hS ?_ | refine M_a1 hS ?_ | refine M_sl hS ?_ | refine M_s1 hS ?_ | refine M_mm hS ?_); clear hS; intro b w hS) | ((first | refine M_st hS ?_ | refine M_sA hS ?_ | refine M_in hS ?_ | refine M_sR hS ?_); clear hS; intro w hS; (try simp only [List.set_cons_zero, List.set_cons_succ, Nat.zero_add] at hS)) | (refine M_ap hS ?_; clear hS; intro g cap w hS) | refine M_pn ?_ | ((first | refine M_im hS ?_ | refine M_ii hS ?_ | refine M_dl hS ?_); clear hS; intro w hS)) | refine X_k (by (try simp only [Fm.toList, List.set_cons_succ, List.set_cons_zero]); exact rfl) ?_ | refine S_u ?_ | refine S_v ?_ | refine C_sq ?_ | refine C_rg ?_ | refine L_nil ?_ | refine C_bk ?_ | refine C_ct ?_ | refine C_cf ?_ | refine C_sk ?_ | refine C_ex ?_ | refine C_rt ?_ | refine X_e ?_ | refine X_r ?_ | refine X_bh ?_ | refine X_be ?_ | refine X_br ?_ | refine X_bn ?_ | refine X_p ?_ | refine X_bp ?_)
    refine V_1 ⟨rfl, hS⟩
  | false =>
    rw [if_neg (by rw [hk]; decide)] at hq
    refine E_r (m := 9) ?_ Try.func64 rfl Try.ntmps64 rfl; refine C_ft ?_
    repeat (first | (refine S_w ?_; first | (refine S_d hS ?_) | (refine S_y hS ?_) | ((first | refine M_bA hS ?_ | refine M_b1 hS ?_ | refine M_aA hS ?_ | refine M_a1 hS ?_ | refine M_sl hS ?_ | refine M_s1 hS ?_ | refine M_mm hS ?_); clear hS; intro b w hS) | ((first | refine M_st hS ?_ | refine M_sA hS ?_ | refine M_in hS ?_ | refine M_sR hS ?_); clear hS; intro w hS; (try simp only [List.set_cons_zero, List.set_cons_succ, Nat.zero_add] at hS)) | (refine M_ap hS ?_; clear hS; intro g cap w hS) | refine M_pn ?_ | ((first | refine M_im hS ?_ | refine M_ii hS ?_ | refine M_dl hS ?_); clear hS; intro w hS)) | refine X_k (by (try simp only [Fm.toList, List.set_cons_succ, List.set_cons_zero]); exact rfl) ?_ | refine S_u ?_ | refine S_v ?_ | refine C_sq ?_ | refine C_rg ?_ | refine L_nil ?_ | refine C_bk ?_ | refine C_ct ?_ | refine C_cf ?_ | refine C_sk ?_ | refine C_ex ?_ | refine C_rt ?_ | refine X_e ?_ | refine X_r ?_ | refine X_bh ?_ | refine X_be ?_ | refine X_br ?_ | refine X_bn ?_ | refine X_p ?_ | refine X_bp ?_)
    refine V_1 ⟨rfl, hS⟩
set_option maxHeartbeats 4000000 in
set_option maxRecDepth 100000 in
theorem dhasR {Al : Option Addr} {k cl : Nat} (zs : List Int) (hk : k ≤ 4294967296) (h1 : HasObj rs sb (stO m cp n A c bi bk)) (h2 : HasDm rs bk iv (knL kn)) (h3 : HasSl rs Al k 1 (zs.map iv)) (hS : St F w0 rs w) :
    CallsR Try.prog 45 #[.pointer (some ⟨sb, 0, none⟩), .slice Al k cl] w fun r w' => r = .int .i64 (if zs.any (fun z => !(kno kn z)) then 8 else 0) ∧ St F w0 rs w' := by
  refine E_r (m := 11) ?_ Try.func45 rfl Try.ntmps45 rfl; refine C_ft ?_
  repeat (first | (refine S_w ?_; first | (refine M_c (dmadeR inferInstance hS) ?_) | (refine S_d hS ?_) | (refine S_y hS ?_) | ((first | refine M_bA hS ?_ | refine M_b1 hS ?_ | refine M_aA hS ?_ | refine M_a1 hS ?_ | refine M_sl hS ?_ | refine M_s1 hS ?_ | refine M_mm hS ?_); clear hS; intro b w hS) | ((first | refine M_st hS ?_ | refine M_sA hS ?_ | refine M_in hS ?_ | refine M_sR hS ?_); clear hS; intro w hS; (try simp only [List.set_cons_zero, List.set_cons_succ, Nat.zero_add] at hS)) | (refine M_ap hS ?_; clear hS; intro g cap w hS) | refine M_pn ?_ | ((first | refine M_im hS ?_ | refine M_ii hS ?_ | refine M_dl hS ?_); clear hS; intro w hS)) | refine X_k (by (try simp only [Fm.toList, List.set_cons_succ, List.set_cons_zero]); exact rfl) ?_ | refine S_u ?_ | refine S_v ?_ | refine C_sq ?_ | refine C_rg ?_ | refine L_nil ?_ | refine C_bk ?_ | refine C_ct ?_ | refine C_cf ?_ | refine C_sk ?_ | refine C_ex ?_ | refine C_rt ?_ | refine X_e ?_ | refine X_r ?_ | refine X_bh ?_ | refine X_be ?_ | refine X_br ?_ | refine X_bn ?_ | refine X_p ?_ | refine X_bp ?_)
  rintro _ w1 ⟨rfl, hS⟩
  repeat (first | (refine S_w ?_; first | (refine M_c (contRefR (cs := [_]) (fun z => !(kno kn z)) rfl hk inferInstance (fun x _ w hs => dhas1R x inferInstance inferInstance inferInstance hs) hS) ?_) | (refine S_d hS ?_) | (refine S_y hS ?_) | ((first | refine M_bA hS ?_ | refine M_b1 hS ?_ | refine M_aA hS ?_ | refine M_a1 hS ?_ | refine M_sl hS ?_ | refine M_s1 hS ?_ | refine M_mm hS ?_); clear hS; intro b w hS) | ((first | refine M_st hS ?_ | refine M_sA hS ?_ | refine M_in hS ?_ | refine M_sR hS ?_); clear hS; intro w hS; (try simp only [List.set_cons_zero, List.set_cons_succ, Nat.zero_add] at hS)) | (refine M_ap hS ?_; clear hS; intro g cap w hS) | refine M_pn ?_ | ((first | refine M_im hS ?_ | refine M_ii hS ?_ | refine M_dl hS ?_); clear hS; intro w hS)) | refine X_k (by (try simp only [Fm.toList, List.set_cons_succ, List.set_cons_zero]); exact rfl) ?_ | refine S_u ?_ | refine S_v ?_ | refine C_sq ?_ | refine C_rg ?_ | refine L_nil ?_ | refine C_bk ?_ | refine C_ct ?_ | refine C_cf ?_ | refine C_sk ?_ | refine C_ex ?_ | refine C_rt ?_ | refine X_e ?_ | refine X_r ?_ | refine X_bh ?_ | refine X_be ?_ | refine X_br ?_ | refine X_bn ?_ | refine X_p ?_ | refine X_bp ?_)
  rintro _ w2 ⟨rfl, hS⟩
  cases hz : zs.any (fun z => !(kno kn z)) with
  | true =>
    repeat (first | (refine S_w ?_; first | (refine S_d hS ?_) | (refine S_y hS ?_) | ((first | refine M_bA hS ?_ | refine M_b1 hS ?_ | refine M_aA hS ?_ | refine M_a1 hS ?_ | refine M_sl hS ?_ | refine M_s1 hS ?_ | refine M_mm hS ?_); clear hS; intro b w hS) | ((first | refine M_st hS ?_ | refine M_sA hS ?_ | refine M_in hS ?_ | refine M_sR hS ?_); clear hS; intro w hS; (try simp only [List.set_cons_zero, List.set_cons_succ, Nat.zero_add] at hS)) | (refine M_ap hS ?_; clear hS; intro g cap w hS) | refine M_pn ?_ | ((first | refine M_im hS ?_ | refine M_ii hS ?_ | refine M_dl hS ?_); clear hS; intro w hS)) | refine X_k (by (try simp only [Fm.toList, List.set_cons_succ, List.set_cons_zero]); exact rfl) ?_ | refine S_u ?_ | refine S_v ?_ | refine C_sq ?_ | refine C_rg ?_ | refine L_nil ?_ | refine C_bk ?_ | refine C_ct ?_ | refine C_cf ?_ | refine C_sk ?_ | refine C_ex ?_ | refine C_rt ?_ | refine X_e ?_ | refine X_r ?_ | refine X_bh ?_ | refine X_be ?_ | refine X_br ?_ | refine X_bn ?_ | refine X_p ?_ | refine X_bp ?_)
    refine V_1 ⟨rfl, hS.sb⟩
  | false =>
    repeat (first | (refine S_w ?_; first | (refine S_d hS ?_) | (refine S_y hS ?_) | ((first | refine M_bA hS ?_ | refine M_b1 hS ?_ | refine M_aA hS ?_ | refine M_a1 hS ?_ | refine M_sl hS ?_ | refine M_s1 hS ?_ | refine M_mm hS ?_); clear hS; intro b w hS) | ((first | refine M_st hS ?_ | refine M_sA hS ?_ | refine M_in hS ?_ | refine M_sR hS ?_); clear hS; intro w hS; (try simp only [List.set_cons_zero, List.set_cons_succ, Nat.zero_add] at hS)) | (refine M_ap hS ?_; clear hS; intro g cap w hS) | refine M_pn ?_ | ((first | refine M_im hS ?_ | refine M_ii hS ?_ | refine M_dl hS ?_); clear hS; intro w hS)) | refine X_k (by (try simp only [Fm.toList, List.set_cons_succ, List.set_cons_zero]); exact rfl) ?_ | refine S_u ?_ | refine S_v ?_ | refine C_sq ?_ | refine C_rg ?_ | refine L_nil ?_ | refine C_bk ?_ | refine C_ct ?_ | refine C_cf ?_ | refine C_sk ?_ | refine C_ex ?_ | refine C_rt ?_ | refine X_e ?_ | refine X_r ?_ | refine X_bh ?_ | refine X_be ?_ | refine X_br ?_ | refine X_bn ?_ | refine X_p ?_ | refine X_bp ?_)
    refine V_1 ⟨rfl, hS.sb⟩
end
end Go.Proofs.Ytijmggoikieelaa
