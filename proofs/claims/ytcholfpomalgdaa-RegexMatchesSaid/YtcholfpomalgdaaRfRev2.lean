/-
  The reference of layer 4: turned, Reverse.
-/
import Derived.Test.YtcholfpomalgdaaRfRev
import Derived.Test.YtcholfpomalgdaaRxRev2
import Derived.Test.YtcholfpomalgdaaRxPrs
namespace Go.Proofs.Ytcholfpomalgdaa
open Go.RowKit

theorem flat_un (op : Nat) (a : T) {n : Nat} (h : a.size = n) : a.flat 0 ++ [⟨op, 0, 0, (n : Int) - 1, 0⟩] = (T.un op a).flat 0 := by
  subst h; simp [T.flat, T.root]
theorem flat_bin (op : Nat) (a b : T) {n m : Nat} (h : a.size = n) (h' : b.size = m) : a.flat 0 ++ b.flat n ++ [⟨op, 0, 0, (n : Int) - 1, (n : Int) + m - 1⟩] = (T.bin op a b).flat 0 := by
  subst h h'; simp [T.flat, T.root]
set_option maxHeartbeats 8000000 in
set_option maxRecDepth 100000 in
theorem turnedR {v : Int} : ∀ (t : T), t.wf v → t.size ≤ 1000 → ∀ (A : Option Addr) (n c : Nat) (w : World), t.size = n → Rd w 5 A n (rxCells (t.flat 0)) →
    CallsR Try.prog 38 #[.slice A n c] w fun r w' => ∃ A' c', r = .slice A' n c' ∧ w'.ownsRow w.heap.size 34 5 (.slice A' n c') n (rxCells (t.rev.flat 0)) ∧ Fr Nof w w' := by
  have leaf : ∀ (t : T) (op p q : Nat), t.size = 1 → t.rev = t → t.flat 0 = [⟨op, p, q, 0, 0⟩] → 1 ≤ op → op ≤ 3 → ∀ (A : Option Addr) (n c : Nat) (w : World), t.size = n → Rd w 5 A n (rxCells (t.flat 0)) →
      CallsR Try.prog 38 #[.slice A n c] w fun r w' => ∃ A' c', r = .slice A' n c' ∧ w'.ownsRow w.heap.size 34 5 (.slice A' n c') n (rxCells (t.rev.flat 0)) ∧ Fr Nof w w' := by
    intro t op p q hsz hrev hfl hop1 hop3 A n c w hn hA
    obtain rfl : n = 1 := by omega
    rw [hrev, hfl]
    rw [hfl] at hA
    have hcs : rxCells [⟨op, p, q, 0, 0⟩] = [vb op, vb p, vb q, .int .i64 0, .int .i64 0] := by simp [rxCells, pcV]
    rw [hcs] at hA ⊢
    have hpd : ([vb op, vb p, vb q, .int .i64 0, .int .i64 0].drop ((((1 : Nat) : Int) - 1).toNat * 5)).take [vb op, vb p, vb q, .int .i64 0, .int .i64 0].length = [vb op, vb p, vb q, .int .i64 0, .int .i64 0] := rfl
    have hch : ∀ w, CallsR Try.prog 41 #[vb op] w fun r w' => r = .int .i64 0 ∧ Fr Nof w w' := fun w => by
      have := childrenR op (by omega) w
      rwa [chN_kids (by omega), kids_zero.2 (by omega)] at this
    have hS := (St.start Nof w).addRo (r := Res.rd 5 A 1 [vb op, vb p, vb q, .int .i64 0, .int .i64 0]) hA rfl (fun _ h => by cases h)
    refine E_r (m := 55) ?_ Try.func38 rfl Try.ntmps38 rfl; refine C_ft ?_
    repeat (first | (refine S_w ?_; first | (refine M_c (hch _) ?_) | (refine S_y hS ?_) | ((first | refine M_bA hS ?_ | refine M_b1 hS ?_ | refine M_aA hS ?_ | refine M_a1 hS ?_ | refine M_sl hS ?_ | refine M_s1 hS ?_ | refine M_mm hS ?_); clear hS; intro b w hS) | ((first | refine M_st hS ?_ | refine M_sA hS ?_ | refine M_in hS ?_ | refine M_sR hS ?_); clear hS; intro w hS; (try simp only [List.set_cons_zero, List.set_cons_succ, Nat.zero_add] at hS)) | (refine M_ap hS ?_; clear hS; intro g cap w hS) | refine M_pn ?_) | refine X_k (by (try simp only [Fm.toList, List.set_cons_succ, List.set_cons_zero]); exact rfl) ?_ | refine S_u ?_ | refine S_v ?_ | refine C_sq ?_ | refine C_rg ?_ | refine L_nil ?_ | refine C_bk ?_ | refine C_ct ?_ | refine C_cf ?_ | refine C_sk ?_ | refine C_ex ?_ | refine C_rt ?_ | refine X_e ?_ | refine X_r ?_ | refine X_bh ?_ | refine X_be ?_ | refine X_br ?_ | refine X_bn ?_ | refine X_p ?_ | refine X_bp ?_)
    rintro _ w2 ⟨rfl, hb2⟩
    have hS := hS.call hb2
    repeat (first | (refine S_w ?_; first | (refine S_y hS ?_) | ((first | refine M_bA hS ?_ | refine M_b1 hS ?_ | refine M_aA hS ?_ | refine M_a1 hS ?_ | refine M_sl hS ?_ | refine M_s1 hS ?_ | refine M_mm hS ?_); clear hS; intro b w hS) | ((first | refine M_st hS ?_ | refine M_sA hS ?_ | refine M_in hS ?_ | refine M_sR hS ?_); clear hS; intro w hS; (try simp only [List.set_cons_zero, List.set_cons_succ, Nat.zero_add] at hS)) | (refine M_ap hS ?_; clear hS; intro g cap w hS) | refine M_pn ?_) | refine X_k (by (try simp only [Fm.toList, List.set_cons_succ, List.set_cons_zero]); exact rfl) ?_ | refine S_u ?_ | refine S_v ?_ | refine C_sq ?_ | refine C_rg ?_ | refine L_nil ?_ | refine C_bk ?_ | refine C_ct ?_ | refine C_cf ?_ | refine C_sk ?_ | refine C_ex ?_ | refine C_rt ?_ | refine X_e ?_ | refine X_r ?_ | refine X_bh ?_ | refine X_be ?_ | refine X_br ?_ | refine X_bn ?_ | refine X_p ?_ | refine X_bp ?_)
    refine V_1 ⟨some ⟨b, 0, none⟩, 1, rfl, objRow hS, hS.fr⟩
  intro t
  induction t with
  | none => intro _ _ A n c w hn hA; exact leaf .none 1 0 0 rfl rfl rfl (by omega) (by omega) A n c w hn hA
  | empty => intro _ _ A n c w hn hA; exact leaf .empty 2 0 0 rfl rfl rfl (by omega) (by omega) A n c w hn hA
  | letter p q => intro _ _ A n c w hn hA; exact leaf (.letter p q) 3 p q rfl rfl rfl (by omega) (by omega) A n c w hn hA
  | un op a ih =>
    intro hwf hs A n c w hn hA
    have hsa := T.size_pos a
    have hsz : (T.un op a).size = a.size + 1 := rfl
    have hra := rev_size a
    have ih := ih hwf.2 (by omega)
    have hfo := flat_ok (.un op a) 0 (wf_up _ hwf) (by omega)
    have hcut := fun w hr => rCutR A n c (.un op a) v (a.size - 1) w hr hwf (by omega) (by omega) hfo
    rw [sub_un] at hcut
    simp only at hcut
    have hjn := fun A c w hr => joinR1 A a.size c (revOp op) (a.rev.flat 0) w hr (by have := kids_one.1 hwf.1; unfold revOp; (repeat' split) <;> omega) (by omega) (by omega)
    rw [flat_un (revOp op) a.rev hra] at hjn
    have hrv : (T.un op a).rev = .un (revOp op) a.rev := rfl
    rw [hrv]
    have hpd : ((rxCells ((T.un op a).flat 0)).drop (((n : Int) - 1).toNat * 5)).take [vb op, vb 0, vb 0, .int .i64 ((a.size - 1 : Nat) : Int), .int .i64 0].length = [vb op, vb 0, vb 0, .int .i64 ((a.size - 1 : Nat) : Int), .int .i64 0] := by
      have h := (At.whole (T.un op a)).drop
      simp only [T.root, pcV] at h
      rw [show (((0 + (T.un op a).size : Nat) : Int) - 1) = (n : Int) - 1 by omega, show (((0 + a.size : Nat) : Int) - 1) = ((a.size - 1 : Nat) : Int) by omega] at h
      exact h
    have hk := kids_one.1 hwf.1
    have hch : ∀ w, CallsR Try.prog 41 #[vb op] w fun r w' => r = .int .i64 1 ∧ Fr Nof w w' := fun w => by
      have := childrenR op (by omega) w
      rwa [chN_kids (by omega), hwf.1] at this
    have hS := (St.start Nof w).addRo (r := Res.rd 5 A n (rxCells ((T.un op a).flat 0))) hA rfl (fun _ h => by cases h)
    obtain rfl : n = a.size + 1 := by omega
    rcases hk with rfl | rfl | rfl | rfl
    all_goals
      refine E_r (m := 55) ?_ Try.func38 rfl Try.ntmps38 rfl; refine C_ft ?_
      repeat (first | (refine S_w ?_; first | (refine M_c (hch _) ?_) | (refine S_y hS ?_) | ((first | refine M_bA hS ?_ | refine M_b1 hS ?_ | refine M_aA hS ?_ | refine M_a1 hS ?_ | refine M_sl hS ?_ | refine M_s1 hS ?_ | refine M_mm hS ?_); clear hS; intro b w hS) | ((first | refine M_st hS ?_ | refine M_sA hS ?_ | refine M_in hS ?_ | refine M_sR hS ?_); clear hS; intro w hS; (try simp only [List.set_cons_zero, List.set_cons_succ, Nat.zero_add] at hS)) | (refine M_ap hS ?_; clear hS; intro g cap w hS) | refine M_pn ?_) | refine X_k (by (try simp only [Fm.toList, List.set_cons_succ, List.set_cons_zero]); exact rfl) ?_ | refine S_u ?_ | refine S_v ?_ | refine C_sq ?_ | refine C_rg ?_ | refine L_nil ?_ | refine C_bk ?_ | refine C_ct ?_ | refine C_cf ?_ | refine C_sk ?_ | refine C_ex ?_ | refine C_rt ?_ | refine X_e ?_ | refine X_r ?_ | refine X_bh ?_ | refine X_be ?_ | refine X_br ?_ | refine X_bn ?_ | refine X_p ?_ | refine X_bp ?_)
      rintro _ w2 ⟨rfl, hb2⟩
      have hS := hS.call hb2
      repeat (first | (refine S_w ?_; first | (refine M_c (hcut _ hS.rdAtM) ?_) | (refine S_y hS ?_) | ((first | refine M_bA hS ?_ | refine M_b1 hS ?_ | refine M_aA hS ?_ | refine M_a1 hS ?_ | refine M_sl hS ?_ | refine M_s1 hS ?_ | refine M_mm hS ?_); clear hS; intro b w hS) | ((first | refine M_st hS ?_ | refine M_sA hS ?_ | refine M_in hS ?_ | refine M_sR hS ?_); clear hS; intro w hS; (try simp only [List.set_cons_zero, List.set_cons_succ, Nat.zero_add] at hS)) | (refine M_ap hS ?_; clear hS; intro g cap w hS) | refine M_pn ?_) | refine X_k (by (try simp only [Fm.toList, List.set_cons_succ, List.set_cons_zero]); exact rfl) ?_ | refine S_u ?_ | refine S_v ?_ | refine C_sq ?_ | refine C_rg ?_ | refine L_nil ?_ | refine C_bk ?_ | refine C_ct ?_ | refine C_cf ?_ | refine C_sk ?_ | refine C_ex ?_ | refine C_rt ?_ | refine X_e ?_ | refine X_r ?_ | refine X_bh ?_ | refine X_be ?_ | refine X_br ?_ | refine X_bn ?_ | refine X_p ?_ | refine X_bp ?_)
      rintro _ w3 ⟨A3, c3, rfl, hown3, hb3⟩
      have hS := hS.freshRow hb3.below hown3
      repeat (first | (refine S_w ?_; first | (refine M_c (ih A3 a.size c3 _ rfl hS.rowAtM) ?_) | (refine S_y hS ?_) | ((first | refine M_bA hS ?_ | refine M_b1 hS ?_ | refine M_aA hS ?_ | refine M_a1 hS ?_ | refine M_sl hS ?_ | refine M_s1 hS ?_ | refine M_mm hS ?_); clear hS; intro b w hS) | ((first | refine M_st hS ?_ | refine M_sA hS ?_ | refine M_in hS ?_ | refine M_sR hS ?_); clear hS; intro w hS; (try simp only [List.set_cons_zero, List.set_cons_succ, Nat.zero_add] at hS)) | (refine M_ap hS ?_; clear hS; intro g cap w hS) | refine M_pn ?_) | refine X_k (by (try simp only [Fm.toList, List.set_cons_succ, List.set_cons_zero]); exact rfl) ?_ | refine S_u ?_ | refine S_v ?_ | refine C_sq ?_ | refine C_rg ?_ | refine L_nil ?_ | refine C_bk ?_ | refine C_ct ?_ | refine C_cf ?_ | refine C_sk ?_ | refine C_ex ?_ | refine C_rt ?_ | refine X_e ?_ | refine X_r ?_ | refine X_bh ?_ | refine X_be ?_ | refine X_br ?_ | refine X_bn ?_ | refine X_p ?_ | refine X_bp ?_)
      rintro _ w4 ⟨A4, c4, rfl, hown4, hb4⟩
      have hS := hS.freshRow hb4.below hown4
      repeat (first | (refine S_w ?_; first | (refine M_c (hjn A4 c4 _ hS.rowAtM) ?_) | (refine S_y hS ?_) | ((first | refine M_bA hS ?_ | refine M_b1 hS ?_ | refine M_aA hS ?_ | refine M_a1 hS ?_ | refine M_sl hS ?_ | refine M_s1 hS ?_ | refine M_mm hS ?_); clear hS; intro b w hS) | ((first | refine M_st hS ?_ | refine M_sA hS ?_ | refine M_in hS ?_ | refine M_sR hS ?_); clear hS; intro w hS; (try simp only [List.set_cons_zero, List.set_cons_succ, Nat.zero_add] at hS)) | (refine M_ap hS ?_; clear hS; intro g cap w hS) | refine M_pn ?_) | refine X_k (by (try simp only [Fm.toList, List.set_cons_succ, List.set_cons_zero]); exact rfl) ?_ | refine S_u ?_ | refine S_v ?_ | refine C_sq ?_ | refine C_rg ?_ | refine L_nil ?_ | refine C_bk ?_ | refine C_ct ?_ | refine C_cf ?_ | refine C_sk ?_ | refine C_ex ?_ | refine C_rt ?_ | refine X_e ?_ | refine X_r ?_ | refine X_bh ?_ | refine X_be ?_ | refine X_br ?_ | refine X_bn ?_ | refine X_p ?_ | refine X_bp ?_)
      rintro _ w5 ⟨A5, c5, rfl, hown5, hb5⟩
      have hS := hS.freshRow hb5.below hown5
      repeat (first | (refine S_w ?_; first | (refine S_y hS ?_) | ((first | refine M_bA hS ?_ | refine M_b1 hS ?_ | refine M_aA hS ?_ | refine M_a1 hS ?_ | refine M_sl hS ?_ | refine M_s1 hS ?_ | refine M_mm hS ?_); clear hS; intro b w hS) | ((first | refine M_st hS ?_ | refine M_sA hS ?_ | refine M_in hS ?_ | refine M_sR hS ?_); clear hS; intro w hS; (try simp only [List.set_cons_zero, List.set_cons_succ, Nat.zero_add] at hS)) | (refine M_ap hS ?_; clear hS; intro g cap w hS) | refine M_pn ?_) | refine X_k (by (try simp only [Fm.toList, List.set_cons_succ, List.set_cons_zero]); exact rfl) ?_ | refine S_u ?_ | refine S_v ?_ | refine C_sq ?_ | refine C_rg ?_ | refine L_nil ?_ | refine C_bk ?_ | refine C_ct ?_ | refine C_cf ?_ | refine C_sk ?_ | refine C_ex ?_ | refine C_rt ?_ | refine X_e ?_ | refine X_r ?_ | refine X_bh ?_ | refine X_be ?_ | refine X_br ?_ | refine X_bn ?_ | refine X_p ?_ | refine X_bp ?_)
      refine V_1 ⟨A5, c5, rfl, hS.rowOwnM, hS.fr⟩
  | bin op a tb iha ihb =>
    intro hwf hs A n c w hn hA
    have hsa := T.size_pos a
    have hsb := T.size_pos tb
    have hsz : (T.bin op a tb).size = a.size + tb.size + 1 := rfl
    have hra := rev_size a
    have hrb := rev_size tb
    have iha := iha hwf.2.1 (by omega)
    have ihb := ihb hwf.2.2 (by omega)
    have hfo := flat_ok (.bin op a tb) 0 (wf_up _ hwf) (by omega)
    have hca := fun w hr => rCutR A n c (.bin op a tb) v (a.size - 1) w hr hwf (by omega) (by omega) hfo
    rw [sub_binA] at hca
    simp only at hca
    have hcb := fun w hr => rCutR A n c (.bin op a tb) v (a.size + tb.size - 1) w hr hwf (by omega) (by omega) hfo
    rw [sub_binB] at hcb
    simp only at hcb
    have hpd : ((rxCells ((T.bin op a tb).flat 0)).drop (((n : Int) - 1).toNat * 5)).take [vb op, vb 0, vb 0, .int .i64 ((a.size - 1 : Nat) : Int), .int .i64 ((a.size + tb.size - 1 : Nat) : Int)].length = [vb op, vb 0, vb 0, .int .i64 ((a.size - 1 : Nat) : Int), .int .i64 ((a.size + tb.size - 1 : Nat) : Int)] := by
      have h := (At.whole (T.bin op a tb)).drop
      simp only [T.root, pcV] at h
      rw [show (((0 + (T.bin op a tb).size : Nat) : Int) - 1) = (n : Int) - 1 by omega, show (((0 + a.size : Nat) : Int) - 1) = ((a.size - 1 : Nat) : Int) by omega, show (((0 + a.size + tb.size : Nat) : Int) - 1) = ((a.size + tb.size - 1 : Nat) : Int) by omega] at h
      exact h
    have hk := kids_two.1 hwf.1
    have hwa := rev_wf a hwf.2.1
    have hwb := rev_wf tb hwf.2.2
    have hoa := flat_ok a.rev 0 (wf_up _ hwa) (by omega)
    have hob := flat_ok tb.rev 0 (wf_up _ hwb) (by omega)
    have hch : ∀ w, CallsR Try.prog 41 #[vb op] w fun r w' => r = .int .i64 2 ∧ Fr Nof w w' := fun w => by
      have := childrenR op (by omega) w
      rwa [chN_kids (by omega), hwf.1] at this
    have hS := (St.start Nof w).addRo (r := Res.rd 5 A n (rxCells ((T.bin op a tb).flat 0))) hA rfl (fun _ h => by cases h)
    by_cases h4 : op = 4
    · subst h4
      have hrv : (T.bin 4 a tb).rev = .bin 4 tb.rev a.rev := rfl
      have hjn := fun A B c d w hr hr' => joinR2 A B tb.size c a.size d 4 (tb.rev.flat 0) a.rev v w hr hr' hwa hoa hra (by omega) (by omega) (by omega) (by omega)
      rw [flat_bin 4 tb.rev a.rev hrb hra, ← hrv] at hjn
      obtain rfl : n = tb.size + a.size + 1 := by omega
      refine E_r (m := 55) ?_ Try.func38 rfl Try.ntmps38 rfl; refine C_ft ?_
      repeat (first | (refine S_w ?_; first | (refine M_c (hch _) ?_) | (refine S_y hS ?_) | ((first | refine M_bA hS ?_ | refine M_b1 hS ?_ | refine M_aA hS ?_ | refine M_a1 hS ?_ | refine M_sl hS ?_ | refine M_s1 hS ?_ | refine M_mm hS ?_); clear hS; intro b w hS) | ((first | refine M_st hS ?_ | refine M_sA hS ?_ | refine M_in hS ?_ | refine M_sR hS ?_); clear hS; intro w hS; (try simp only [List.set_cons_zero, List.set_cons_succ, Nat.zero_add] at hS)) | (refine M_ap hS ?_; clear hS; intro g cap w hS) | refine M_pn ?_) | refine X_k (by (try simp only [Fm.toList, List.set_cons_succ, List.set_cons_zero]); exact rfl) ?_ | refine S_u ?_ | refine S_v ?_ | refine C_sq ?_ | refine C_rg ?_ | refine L_nil ?_ | refine C_bk ?_ | refine C_ct ?_ | refine C_cf ?_ | refine C_sk ?_ | refine C_ex ?_ | refine C_rt ?_ | refine X_e ?_ | refine X_r ?_ | refine X_bh ?_ | refine X_be ?_ | refine X_br ?_ | refine X_bn ?_ | refine X_p ?_ | refine X_bp ?_)
      rintro _ w2 ⟨rfl, hb2⟩
      have hS := hS.call hb2
      repeat (first | (refine S_w ?_; first | (refine S_y hS ?_) | ((first | refine M_bA hS ?_ | refine M_b1 hS ?_ | refine M_aA hS ?_ | refine M_a1 hS ?_ | refine M_sl hS ?_ | refine M_s1 hS ?_ | refine M_mm hS ?_); clear hS; intro b w hS) | ((first | refine M_st hS ?_ | refine M_sA hS ?_ | refine M_in hS ?_ | refine M_sR hS ?_); clear hS; intro w hS; (try simp only [List.set_cons_zero, List.set_cons_succ, Nat.zero_add] at hS)) | (refine M_ap hS ?_; clear hS; intro g cap w hS) | refine M_pn ?_) | refine X_k (by (try simp only [Fm.toList, List.set_cons_succ, List.set_cons_zero]); exact rfl) ?_ | refine S_u ?_ | refine S_v ?_ | refine C_sq ?_ | refine C_rg ?_ | refine L_nil ?_ | refine C_bk ?_ | refine C_ct ?_ | refine C_cf ?_ | refine C_sk ?_ | refine C_ex ?_ | refine C_rt ?_ | refine X_e ?_ | refine X_r ?_ | refine X_bh ?_ | refine X_be ?_ | refine X_br ?_ | refine X_bn ?_ | refine X_p ?_ | refine X_bp ?_)
      refine C_pl (.take 0 (.take 1 (.take 2 (.take 5 (.take 6 (.take 7 (.one 3 (.one 4 (.one 8 (.one 9 (.one 10 (.one 11 .done)))))))))))) hS ?_
      clear hS; intro w hS
      repeat ((with_reducible apply P_t); rfl; first | (refine P_yy hS.sb ?_) | refine P_z hS.sb ?_)
      (with_reducible apply P_one); rfl; refine P_f ?_; intro Q' hQ' hE'
      repeat (first | (refine S_w ?_; first | (refine M_c (hca _ hS.rdAtM) ?_) | (refine S_y hS ?_) | ((first | refine M_bA hS ?_ | refine M_b1 hS ?_ | refine M_aA hS ?_ | refine M_a1 hS ?_ | refine M_sl hS ?_ | refine M_s1 hS ?_ | refine M_mm hS ?_); clear hS; intro b w hS) | ((first | refine M_st hS ?_ | refine M_sA hS ?_ | refine M_in hS ?_ | refine M_sR hS ?_); clear hS; intro w hS; (try simp only [List.set_cons_zero, List.set_cons_succ, Nat.zero_add] at hS)) | (refine M_ap hS ?_; clear hS; intro g cap w hS) | refine M_pn ?_) | refine X_k (by (try simp only [Fm.toList, List.set_cons_succ, List.set_cons_zero]); exact rfl) ?_ | refine S_u ?_ | refine S_v ?_ | refine C_sq ?_ | refine C_rg ?_ | refine L_nil ?_ | refine C_bk ?_ | refine C_ct ?_ | refine C_cf ?_ | refine C_sk ?_ | refine C_ex ?_ | refine C_rt ?_ | refine X_e ?_ | refine X_r ?_ | refine X_bh ?_ | refine X_be ?_ | refine X_br ?_ | refine X_bn ?_ | refine X_p ?_ | refine X_bp ?_)
      rintro _ w5 ⟨A5, c5, rfl, hown5, hb5⟩
      have hS := hS.freshRow hb5.below hown5
      (try refine L_nil ?_); refine hQ' _ _ hS.sb ?_; clear hQ' hE'
      (with_reducible apply P_one); rfl; refine P_f ?_; intro Q' hQ' hE'
      repeat (first | (refine S_w ?_; first | (refine M_c (iha A5 a.size c5 _ rfl hS.rowAtM) ?_) | (refine S_y hS ?_) | ((first | refine M_bA hS ?_ | refine M_b1 hS ?_ | refine M_aA hS ?_ | refine M_a1 hS ?_ | refine M_sl hS ?_ | refine M_s1 hS ?_ | refine M_mm hS ?_); clear hS; intro b w hS) | ((first | refine M_st hS ?_ | refine M_sA hS ?_ | refine M_in hS ?_ | refine M_sR hS ?_); clear hS; intro w hS; (try simp only [List.set_cons_zero, List.set_cons_succ, Nat.zero_add] at hS)) | (refine M_ap hS ?_; clear hS; intro g cap w hS) | refine M_pn ?_) | refine X_k (by (try simp only [Fm.toList, List.set_cons_succ, List.set_cons_zero]); exact rfl) ?_ | refine S_u ?_ | refine S_v ?_ | refine C_sq ?_ | refine C_rg ?_ | refine L_nil ?_ | refine C_bk ?_ | refine C_ct ?_ | refine C_cf ?_ | refine C_sk ?_ | refine C_ex ?_ | refine C_rt ?_ | refine X_e ?_ | refine X_r ?_ | refine X_bh ?_ | refine X_be ?_ | refine X_br ?_ | refine X_bn ?_ | refine X_p ?_ | refine X_bp ?_)
      rintro _ w6 ⟨A6, c6, rfl, hown6, hb6⟩
      have hS := hS.freshRow hb6.below hown6
      (try refine L_nil ?_); refine hQ' _ _ hS.sb ?_; clear hQ' hE'
      (with_reducible apply P_one); rfl; refine P_f ?_; intro Q' hQ' hE'
      repeat (first | (refine S_w ?_; first | (refine M_c (hcb _ hS.rdAtM) ?_) | (refine S_y hS ?_) | ((first | refine M_bA hS ?_ | refine M_b1 hS ?_ | refine M_aA hS ?_ | refine M_a1 hS ?_ | refine M_sl hS ?_ | refine M_s1 hS ?_ | refine M_mm hS ?_); clear hS; intro b w hS) | ((first | refine M_st hS ?_ | refine M_sA hS ?_ | refine M_in hS ?_ | refine M_sR hS ?_); clear hS; intro w hS; (try simp only [List.set_cons_zero, List.set_cons_succ, Nat.zero_add] at hS)) | (refine M_ap hS ?_; clear hS; intro g cap w hS) | refine M_pn ?_) | refine X_k (by (try simp only [Fm.toList, List.set_cons_succ, List.set_cons_zero]); exact rfl) ?_ | refine S_u ?_ | refine S_v ?_ | refine C_sq ?_ | refine C_rg ?_ | refine L_nil ?_ | refine C_bk ?_ | refine C_ct ?_ | refine C_cf ?_ | refine C_sk ?_ | refine C_ex ?_ | refine C_rt ?_ | refine X_e ?_ | refine X_r ?_ | refine X_bh ?_ | refine X_be ?_ | refine X_br ?_ | refine X_bn ?_ | refine X_p ?_ | refine X_bp ?_)
      rintro _ w7 ⟨A7, c7, rfl, hown7, hb7⟩
      have hS := hS.freshRow hb7.below hown7
      (try refine L_nil ?_); refine hQ' _ _ hS.sb ?_; clear hQ' hE'
      (with_reducible apply P_one); rfl; refine P_f ?_; intro Q' hQ' hE'
      repeat (first | (refine S_w ?_; first | (refine M_c (ihb A7 tb.size c7 _ rfl hS.rowAtM) ?_) | (refine S_y hS ?_) | ((first | refine M_bA hS ?_ | refine M_b1 hS ?_ | refine M_aA hS ?_ | refine M_a1 hS ?_ | refine M_sl hS ?_ | refine M_s1 hS ?_ | refine M_mm hS ?_); clear hS; intro b w hS) | ((first | refine M_st hS ?_ | refine M_sA hS ?_ | refine M_in hS ?_ | refine M_sR hS ?_); clear hS; intro w hS; (try simp only [List.set_cons_zero, List.set_cons_succ, Nat.zero_add] at hS)) | (refine M_ap hS ?_; clear hS; intro g cap w hS) | refine M_pn ?_) | refine X_k (by (try simp only [Fm.toList, List.set_cons_succ, List.set_cons_zero]); exact rfl) ?_ | refine S_u ?_ | refine S_v ?_ | refine C_sq ?_ | refine C_rg ?_ | refine L_nil ?_ | refine C_bk ?_ | refine C_ct ?_ | refine C_cf ?_ | refine C_sk ?_ | refine C_ex ?_ | refine C_rt ?_ | refine X_e ?_ | refine X_r ?_ | refine X_bh ?_ | refine X_be ?_ | refine X_br ?_ | refine X_bn ?_ | refine X_p ?_ | refine X_bp ?_)
      rintro _ w8 ⟨A8, c8, rfl, hown8, hb8⟩
      have hS := hS.freshRow hb8.below hown8
      (try refine L_nil ?_); refine hQ' _ _ hS.sb ?_; clear hQ' hE'
      (with_reducible apply P_one); rfl; refine P_f ?_; intro Q' hQ' hE'
      repeat (first | (refine S_w ?_; first | (refine S_y hS ?_) | ((first | refine M_bA hS ?_ | refine M_b1 hS ?_ | refine M_aA hS ?_ | refine M_a1 hS ?_ | refine M_sl hS ?_ | refine M_s1 hS ?_ | refine M_mm hS ?_); clear hS; intro b w hS) | ((first | refine M_st hS ?_ | refine M_sA hS ?_ | refine M_in hS ?_ | refine M_sR hS ?_); clear hS; intro w hS; (try simp only [List.set_cons_zero, List.set_cons_succ, Nat.zero_add] at hS)) | (refine M_ap hS ?_; clear hS; intro g cap w hS) | refine M_pn ?_) | refine X_k (by (try simp only [Fm.toList, List.set_cons_succ, List.set_cons_zero]); exact rfl) ?_ | refine S_u ?_ | refine S_v ?_ | refine C_sq ?_ | refine C_rg ?_ | refine L_nil ?_ | refine C_bk ?_ | refine C_ct ?_ | refine C_cf ?_ | refine C_sk ?_ | refine C_ex ?_ | refine C_rt ?_ | refine X_e ?_ | refine X_r ?_ | refine X_bh ?_ | refine X_be ?_ | refine X_br ?_ | refine X_bn ?_ | refine X_p ?_ | refine X_bp ?_)
      (try refine L_nil ?_); refine hQ' _ _ hS.sb ?_; clear hQ' hE'
      (with_reducible apply P_one); rfl; refine P_f ?_; intro Q' hQ' hE'
      repeat (first | (refine S_w ?_; first | (refine S_y hS ?_) | ((first | refine M_bA hS ?_ | refine M_b1 hS ?_ | refine M_aA hS ?_ | refine M_a1 hS ?_ | refine M_sl hS ?_ | refine M_s1 hS ?_ | refine M_mm hS ?_); clear hS; intro b w hS) | ((first | refine M_st hS ?_ | refine M_sA hS ?_ | refine M_in hS ?_ | refine M_sR hS ?_); clear hS; intro w hS; (try simp only [List.set_cons_zero, List.set_cons_succ, Nat.zero_add] at hS)) | (refine M_ap hS ?_; clear hS; intro g cap w hS) | refine M_pn ?_) | refine X_k (by (try simp only [Fm.toList, List.set_cons_succ, List.set_cons_zero]); exact rfl) ?_ | refine S_u ?_ | refine S_v ?_ | refine C_sq ?_ | refine C_rg ?_ | refine L_nil ?_ | refine C_bk ?_ | refine C_ct ?_ | refine C_cf ?_ | refine C_sk ?_ | refine C_ex ?_ | refine C_rt ?_ | refine X_e ?_ | refine X_r ?_ | refine X_bh ?_ | refine X_be ?_ | refine X_br ?_ | refine X_bn ?_ | refine X_p ?_ | refine X_bp ?_)
      (try refine L_nil ?_); refine hQ' _ _ hS.sb ?_; clear hQ' hE'
      refine P_d ?_
      repeat (first | (refine S_w ?_; first | (refine M_c (hjn A8 A6 c8 c6 _ hS.rowAtM hS.rowAtM) ?_) | (refine S_y hS ?_) | ((first | refine M_bA hS ?_ | refine M_b1 hS ?_ | refine M_aA hS ?_ | refine M_a1 hS ?_ | refine M_sl hS ?_ | refine M_s1 hS ?_ | refine M_mm hS ?_); clear hS; intro b w hS) | ((first | refine M_st hS ?_ | refine M_sA hS ?_ | refine M_in hS ?_ | refine M_sR hS ?_); clear hS; intro w hS; (try simp only [List.set_cons_zero, List.set_cons_succ, Nat.zero_add] at hS)) | (refine M_ap hS ?_; clear hS; intro g cap w hS) | refine M_pn ?_) | refine X_k (by (try simp only [Fm.toList, List.set_cons_succ, List.set_cons_zero]); exact rfl) ?_ | refine S_u ?_ | refine S_v ?_ | refine C_sq ?_ | refine C_rg ?_ | refine L_nil ?_ | refine C_bk ?_ | refine C_ct ?_ | refine C_cf ?_ | refine C_sk ?_ | refine C_ex ?_ | refine C_rt ?_ | refine X_e ?_ | refine X_r ?_ | refine X_bh ?_ | refine X_be ?_ | refine X_br ?_ | refine X_bn ?_ | refine X_p ?_ | refine X_bp ?_)
      rintro _ w9 ⟨A9, c9, rfl, hown9, hb9⟩
      have hS := hS.freshRow hb9.below hown9
      repeat (first | (refine S_w ?_; first | (refine S_y hS ?_) | ((first | refine M_bA hS ?_ | refine M_b1 hS ?_ | refine M_aA hS ?_ | refine M_a1 hS ?_ | refine M_sl hS ?_ | refine M_s1 hS ?_ | refine M_mm hS ?_); clear hS; intro b w hS) | ((first | refine M_st hS ?_ | refine M_sA hS ?_ | refine M_in hS ?_ | refine M_sR hS ?_); clear hS; intro w hS; (try simp only [List.set_cons_zero, List.set_cons_succ, Nat.zero_add] at hS)) | (refine M_ap hS ?_; clear hS; intro g cap w hS) | refine M_pn ?_) | refine X_k (by (try simp only [Fm.toList, List.set_cons_succ, List.set_cons_zero]); exact rfl) ?_ | refine S_u ?_ | refine S_v ?_ | refine C_sq ?_ | refine C_rg ?_ | refine L_nil ?_ | refine C_bk ?_ | refine C_ct ?_ | refine C_cf ?_ | refine C_sk ?_ | refine C_ex ?_ | refine C_rt ?_ | refine X_e ?_ | refine X_r ?_ | refine X_bh ?_ | refine X_be ?_ | refine X_br ?_ | refine X_bn ?_ | refine X_p ?_ | refine X_bp ?_)
      refine V_1 ⟨A9, c9, rfl, hS.rowOwnM, hS.fr⟩
    · have hrv : (T.bin op a tb).rev = .bin op a.rev tb.rev := if_neg h4
      have hjn := fun A B c d w hr hr' => joinR2 A B a.size c tb.size d op (a.rev.flat 0) tb.rev v w hr hr' hwb hob hrb (by omega) (by omega) (by omega) (by omega)
      rw [flat_bin op a.rev tb.rev hra hrb, ← hrv] at hjn
      obtain rfl : n = a.size + tb.size + 1 := by omega
      rcases (show op = 5 ∨ op = 6 by omega) with rfl | rfl
      all_goals
        refine E_r (m := 55) ?_ Try.func38 rfl Try.ntmps38 rfl; refine C_ft ?_
        repeat (first | (refine S_w ?_; first | (refine M_c (hch _) ?_) | (refine S_y hS ?_) | ((first | refine M_bA hS ?_ | refine M_b1 hS ?_ | refine M_aA hS ?_ | refine M_a1 hS ?_ | refine M_sl hS ?_ | refine M_s1 hS ?_ | refine M_mm hS ?_); clear hS; intro b w hS) | ((first | refine M_st hS ?_ | refine M_sA hS ?_ | refine M_in hS ?_ | refine M_sR hS ?_); clear hS; intro w hS; (try simp only [List.set_cons_zero, List.set_cons_succ, Nat.zero_add] at hS)) | (refine M_ap hS ?_; clear hS; intro g cap w hS) | refine M_pn ?_) | refine X_k (by (try simp only [Fm.toList, List.set_cons_succ, List.set_cons_zero]); exact rfl) ?_ | refine S_u ?_ | refine S_v ?_ | refine C_sq ?_ | refine C_rg ?_ | refine L_nil ?_ | refine C_bk ?_ | refine C_ct ?_ | refine C_cf ?_ | refine C_sk ?_ | refine C_ex ?_ | refine C_rt ?_ | refine X_e ?_ | refine X_r ?_ | refine X_bh ?_ | refine X_be ?_ | refine X_br ?_ | refine X_bn ?_ | refine X_p ?_ | refine X_bp ?_)
        rintro _ w2 ⟨rfl, hb2⟩
        have hS := hS.call hb2
        repeat (first | (refine S_w ?_; first | (refine S_y hS ?_) | ((first | refine M_bA hS ?_ | refine M_b1 hS ?_ | refine M_aA hS ?_ | refine M_a1 hS ?_ | refine M_sl hS ?_ | refine M_s1 hS ?_ | refine M_mm hS ?_); clear hS; intro b w hS) | ((first | refine M_st hS ?_ | refine M_sA hS ?_ | refine M_in hS ?_ | refine M_sR hS ?_); clear hS; intro w hS; (try simp only [List.set_cons_zero, List.set_cons_succ, Nat.zero_add] at hS)) | (refine M_ap hS ?_; clear hS; intro g cap w hS) | refine M_pn ?_) | refine X_k (by (try simp only [Fm.toList, List.set_cons_succ, List.set_cons_zero]); exact rfl) ?_ | refine S_u ?_ | refine S_v ?_ | refine C_sq ?_ | refine C_rg ?_ | refine L_nil ?_ | refine C_bk ?_ | refine C_ct ?_ | refine C_cf ?_ | refine C_sk ?_ | refine C_ex ?_ | refine C_rt ?_ | refine X_e ?_ | refine X_r ?_ | refine X_bh ?_ | refine X_be ?_ | refine X_br ?_ | refine X_bn ?_ | refine X_p ?_ | refine X_bp ?_)
        refine C_pl (.take 0 (.take 1 (.take 2 (.take 5 (.take 6 (.take 7 (.one 3 (.one 4 (.one 8 (.one 9 (.one 10 (.one 11 .done)))))))))))) hS ?_
        clear hS; intro w hS
        repeat ((with_reducible apply P_t); rfl; first | (refine P_yy hS.sb ?_) | refine P_z hS.sb ?_)
        (with_reducible apply P_one); rfl; refine P_f ?_; intro Q' hQ' hE'
        repeat (first | (refine S_w ?_; first | (refine M_c (hca _ hS.rdAtM) ?_) | (refine S_y hS ?_) | ((first | refine M_bA hS ?_ | refine M_b1 hS ?_ | refine M_aA hS ?_ | refine M_a1 hS ?_ | refine M_sl hS ?_ | refine M_s1 hS ?_ | refine M_mm hS ?_); clear hS; intro b w hS) | ((first | refine M_st hS ?_ | refine M_sA hS ?_ | refine M_in hS ?_ | refine M_sR hS ?_); clear hS; intro w hS; (try simp only [List.set_cons_zero, List.set_cons_succ, Nat.zero_add] at hS)) | (refine M_ap hS ?_; clear hS; intro g cap w hS) | refine M_pn ?_) | refine X_k (by (try simp only [Fm.toList, List.set_cons_succ, List.set_cons_zero]); exact rfl) ?_ | refine S_u ?_ | refine S_v ?_ | refine C_sq ?_ | refine C_rg ?_ | refine L_nil ?_ | refine C_bk ?_ | refine C_ct ?_ | refine C_cf ?_ | refine C_sk ?_ | refine C_ex ?_ | refine C_rt ?_ | refine X_e ?_ | refine X_r ?_ | refine X_bh ?_ | refine X_be ?_ | refine X_br ?_ | refine X_bn ?_ | refine X_p ?_ | refine X_bp ?_)
        rintro _ w5 ⟨A5, c5, rfl, hown5, hb5⟩
        have hS := hS.freshRow hb5.below hown5
        (try refine L_nil ?_); refine hQ' _ _ hS.sb ?_; clear hQ' hE'
        (with_reducible apply P_one); rfl; refine P_f ?_; intro Q' hQ' hE'
        repeat (first | (refine S_w ?_; first | (refine M_c (iha A5 a.size c5 _ rfl hS.rowAtM) ?_) | (refine S_y hS ?_) | ((first | refine M_bA hS ?_ | refine M_b1 hS ?_ | refine M_aA hS ?_ | refine M_a1 hS ?_ | refine M_sl hS ?_ | refine M_s1 hS ?_ | refine M_mm hS ?_); clear hS; intro b w hS) | ((first | refine M_st hS ?_ | refine M_sA hS ?_ | refine M_in hS ?_ | refine M_sR hS ?_); clear hS; intro w hS; (try simp only [List.set_cons_zero, List.set_cons_succ, Nat.zero_add] at hS)) | (refine M_ap hS ?_; clear hS; intro g cap w hS) | refine M_pn ?_) | refine X_k (by (try simp only [Fm.toList, List.set_cons_succ, List.set_cons_zero]); exact rfl) ?_ | refine S_u ?_ | refine S_v ?_ | refine C_sq ?_ | refine C_rg ?_ | refine L_nil ?_ | refine C_bk ?_ | refine C_ct ?_ | refine C_cf ?_ | refine C_sk ?_ | refine C_ex ?_ | refine C_rt ?_ | refine X_e ?_ | refine X_r ?_ | refine X_bh ?_ | refine X_be ?_ | refine X_br ?_ | refine X_bn ?_ | refine X_p ?_ | refine X_bp ?_)
        rintro _ w6 ⟨A6, c6, rfl, hown6, hb6⟩
        have hS := hS.freshRow hb6.below hown6
        (try refine L_nil ?_); refine hQ' _ _ hS.sb ?_; clear hQ' hE'
        (with_reducible apply P_one); rfl; refine P_f ?_; intro Q' hQ' hE'
        repeat (first | (refine S_w ?_; first | (refine M_c (hcb _ hS.rdAtM) ?_) | (refine S_y hS ?_) | ((first | refine M_bA hS ?_ | refine M_b1 hS ?_ | refine M_aA hS ?_ | refine M_a1 hS ?_ | refine M_sl hS ?_ | refine M_s1 hS ?_ | refine M_mm hS ?_); clear hS; intro b w hS) | ((first | refine M_st hS ?_ | refine M_sA hS ?_ | refine M_in hS ?_ | refine M_sR hS ?_); clear hS; intro w hS; (try simp only [List.set_cons_zero, List.set_cons_succ, Nat.zero_add] at hS)) | (refine M_ap hS ?_; clear hS; intro g cap w hS) | refine M_pn ?_) | refine X_k (by (try simp only [Fm.toList, List.set_cons_succ, List.set_cons_zero]); exact rfl) ?_ | refine S_u ?_ | refine S_v ?_ | refine C_sq ?_ | refine C_rg ?_ | refine L_nil ?_ | refine C_bk ?_ | refine C_ct ?_ | refine C_cf ?_ | refine C_sk ?_ | refine C_ex ?_ | refine C_rt ?_ | refine X_e ?_ | refine X_r ?_ | refine X_bh ?_ | refine X_be ?_ | refine X_br ?_ | refine X_bn ?_ | refine X_p ?_ | refine X_bp ?_)
        rintro _ w7 ⟨A7, c7, rfl, hown7, hb7⟩
        have hS := hS.freshRow hb7.below hown7
        (try refine L_nil ?_); refine hQ' _ _ hS.sb ?_; clear hQ' hE'
        (with_reducible apply P_one); rfl; refine P_f ?_; intro Q' hQ' hE'
        repeat (first | (refine S_w ?_; first | (refine M_c (ihb A7 tb.size c7 _ rfl hS.rowAtM) ?_) | (refine S_y hS ?_) | ((first | refine M_bA hS ?_ | refine M_b1 hS ?_ | refine M_aA hS ?_ | refine M_a1 hS ?_ | refine M_sl hS ?_ | refine M_s1 hS ?_ | refine M_mm hS ?_); clear hS; intro b w hS) | ((first | refine M_st hS ?_ | refine M_sA hS ?_ | refine M_in hS ?_ | refine M_sR hS ?_); clear hS; intro w hS; (try simp only [List.set_cons_zero, List.set_cons_succ, Nat.zero_add] at hS)) | (refine M_ap hS ?_; clear hS; intro g cap w hS) | refine M_pn ?_) | refine X_k (by (try simp only [Fm.toList, List.set_cons_succ, List.set_cons_zero]); exact rfl) ?_ | refine S_u ?_ | refine S_v ?_ | refine C_sq ?_ | refine C_rg ?_ | refine L_nil ?_ | refine C_bk ?_ | refine C_ct ?_ | refine C_cf ?_ | refine C_sk ?_ | refine C_ex ?_ | refine C_rt ?_ | refine X_e ?_ | refine X_r ?_ | refine X_bh ?_ | refine X_be ?_ | refine X_br ?_ | refine X_bn ?_ | refine X_p ?_ | refine X_bp ?_)
        rintro _ w8 ⟨A8, c8, rfl, hown8, hb8⟩
        have hS := hS.freshRow hb8.below hown8
        (try refine L_nil ?_); refine hQ' _ _ hS.sb ?_; clear hQ' hE'
        (with_reducible apply P_one); rfl; refine P_f ?_; intro Q' hQ' hE'
        repeat (first | (refine S_w ?_; first | (refine S_y hS ?_) | ((first | refine M_bA hS ?_ | refine M_b1 hS ?_ | refine M_aA hS ?_ | refine M_a1 hS ?_ | refine M_sl hS ?_ | refine M_s1 hS ?_ | refine M_mm hS ?_); clear hS; intro b w hS) | ((first | refine M_st hS ?_ | refine M_sA hS ?_ | refine M_in hS ?_ | refine M_sR hS ?_); clear hS; intro w hS; (try simp only [List.set_cons_zero, List.set_cons_succ, Nat.zero_add] at hS)) | (refine M_ap hS ?_; clear hS; intro g cap w hS) | refine M_pn ?_) | refine X_k (by (try simp only [Fm.toList, List.set_cons_succ, List.set_cons_zero]); exact rfl) ?_ | refine S_u ?_ | refine S_v ?_ | refine C_sq ?_ | refine C_rg ?_ | refine L_nil ?_ | refine C_bk ?_ | refine C_ct ?_ | refine C_cf ?_ | refine C_sk ?_ | refine C_ex ?_ | refine C_rt ?_ | refine X_e ?_ | refine X_r ?_ | refine X_bh ?_ | refine X_be ?_ | refine X_br ?_ | refine X_bn ?_ | refine X_p ?_ | refine X_bp ?_)
        (try refine L_nil ?_); refine hQ' _ _ hS.sb ?_; clear hQ' hE'
        (with_reducible apply P_one); rfl; refine P_f ?_; intro Q' hQ' hE'
        repeat (first | (refine S_w ?_; first | (refine S_y hS ?_) | ((first | refine M_bA hS ?_ | refine M_b1 hS ?_ | refine M_aA hS ?_ | refine M_a1 hS ?_ | refine M_sl hS ?_ | refine M_s1 hS ?_ | refine M_mm hS ?_); clear hS; intro b w hS) | ((first | refine M_st hS ?_ | refine M_sA hS ?_ | refine M_in hS ?_ | refine M_sR hS ?_); clear hS; intro w hS; (try simp only [List.set_cons_zero, List.set_cons_succ, Nat.zero_add] at hS)) | (refine M_ap hS ?_; clear hS; intro g cap w hS) | refine M_pn ?_) | refine X_k (by (try simp only [Fm.toList, List.set_cons_succ, List.set_cons_zero]); exact rfl) ?_ | refine S_u ?_ | refine S_v ?_ | refine C_sq ?_ | refine C_rg ?_ | refine L_nil ?_ | refine C_bk ?_ | refine C_ct ?_ | refine C_cf ?_ | refine C_sk ?_ | refine C_ex ?_ | refine C_rt ?_ | refine X_e ?_ | refine X_r ?_ | refine X_bh ?_ | refine X_be ?_ | refine X_br ?_ | refine X_bn ?_ | refine X_p ?_ | refine X_bp ?_)
        (try refine L_nil ?_); refine hQ' _ _ hS.sb ?_; clear hQ' hE'
        refine P_d ?_
        repeat (first | (refine S_w ?_; first | (refine M_c (hjn A6 A8 c6 c8 _ hS.rowAtM hS.rowAtM) ?_) | (refine S_y hS ?_) | ((first | refine M_bA hS ?_ | refine M_b1 hS ?_ | refine M_aA hS ?_ | refine M_a1 hS ?_ | refine M_sl hS ?_ | refine M_s1 hS ?_ | refine M_mm hS ?_); clear hS; intro b w hS) | ((first | refine M_st hS ?_ | refine M_sA hS ?_ | refine M_in hS ?_ | refine M_sR hS ?_); clear hS; intro w hS; (try simp only [List.set_cons_zero, List.set_cons_succ, Nat.zero_add] at hS)) | (refine M_ap hS ?_; clear hS; intro g cap w hS) | refine M_pn ?_) | refine X_k (by (try simp only [Fm.toList, List.set_cons_succ, List.set_cons_zero]); exact rfl) ?_ | refine S_u ?_ | refine S_v ?_ | refine C_sq ?_ | refine C_rg ?_ | refine L_nil ?_ | refine C_bk ?_ | refine C_ct ?_ | refine C_cf ?_ | refine C_sk ?_ | refine C_ex ?_ | refine C_rt ?_ | refine X_e ?_ | refine X_r ?_ | refine X_bh ?_ | refine X_be ?_ | refine X_br ?_ | refine X_bn ?_ | refine X_p ?_ | refine X_bp ?_)
        rintro _ w9 ⟨A9, c9, rfl, hown9, hb9⟩
        have hS := hS.freshRow hb9.below hown9
        repeat (first | (refine S_w ?_; first | (refine S_y hS ?_) | ((first | refine M_bA hS ?_ | refine M_b1 hS ?_ | refine M_aA hS ?_ | refine M_a1 hS ?_ | refine M_sl hS ?_ | refine M_s1 hS ?_ | refine M_mm hS ?_); clear hS; intro b w hS) | ((first | refine M_st hS ?_ | refine M_sA hS ?_ | refine M_in hS ?_ | refine M_sR hS ?_); clear hS; intro w hS; (try simp only [List.set_cons_zero, List.set_cons_succ, Nat.zero_add] at hS)) | (refine M_ap hS ?_; clear hS; intro g cap w hS) | refine M_pn ?_) | refine X_k (by (try simp only [Fm.toList, List.set_cons_succ, List.set_cons_zero]); exact rfl) ?_ | refine S_u ?_ | refine S_v ?_ | refine C_sq ?_ | refine C_rg ?_ | refine L_nil ?_ | refine C_bk ?_ | refine C_ct ?_ | refine C_cf ?_ | refine C_sk ?_ | refine C_ex ?_ | refine C_rt ?_ | refine X_e ?_ | refine X_r ?_ | refine X_bh ?_ | refine X_be ?_ | refine X_br ?_ | refine X_bn ?_ | refine X_p ?_ | refine X_bp ?_)
        refine V_1 ⟨A9, c9, rfl, hS.rowOwnM, hS.fr⟩
set_option maxHeartbeats 4000000 in
set_option maxRecDepth 100000 in
theorem rreverseR (A : Option Addr) (n c : Nat) (L : List Pc) (v : Int) (W : World) (hA : Rd W 5 A n (rxCells L)) (hL : ∀ p ∈ L, p.ok) (hn : n ≤ 4294967296) :
    CallsR Try.prog 20 #[.slice A n c, .int .i64 v] W (RvPost L v W) := by
  have hl : L.length = n := by have := hA.1; rw [rxCells_len] at this; omega
  have hS := (St.start Nof W).addRo (r := Res.rd 5 A n (rxCells L)) hA rfl (fun _ h => by cases h)
  refine E_r (m := 13) ?_ Try.func20 rfl Try.ntmps20 rfl; refine C_ft ?_
  repeat (first | (refine S_w ?_; first | (refine M_c (rcheckR A n c L v _ hS.rdAtM hL hn) ?_) | (refine S_y hS ?_) | ((first | refine M_bA hS ?_ | refine M_b1 hS ?_ | refine M_aA hS ?_ | refine M_a1 hS ?_ | refine M_sl hS ?_ | refine M_s1 hS ?_ | refine M_mm hS ?_); clear hS; intro b w hS) | ((first | refine M_st hS ?_ | refine M_sA hS ?_ | refine M_in hS ?_ | refine M_sR hS ?_); clear hS; intro w hS; (try simp only [List.set_cons_zero, List.set_cons_succ, Nat.zero_add] at hS)) | (refine M_ap hS ?_; clear hS; intro g cap w hS) | refine M_pn ?_) | refine X_k (by (try simp only [Fm.toList, List.set_cons_succ, List.set_cons_zero]); exact rfl) ?_ | refine S_u ?_ | refine S_v ?_ | refine C_sq ?_ | refine C_rg ?_ | refine L_nil ?_ | refine C_bk ?_ | refine C_ct ?_ | refine C_cf ?_ | refine C_sk ?_ | refine C_ex ?_ | refine C_rt ?_ | refine X_e ?_ | refine X_r ?_ | refine X_bh ?_ | refine X_be ?_ | refine X_br ?_ | refine X_bn ?_ | refine X_p ?_ | refine X_bp ?_)
  rintro _ w1 ⟨rfl, hb1⟩
  have hS := hS.call hb1
  by_cases he : chkR L v = 0
  · obtain ⟨t, hst, h1, h2, h3, rfl, hv⟩ := chk_tree he
    have hsz : t.size = n := by rw [← hl, T.flat_len]
    have hR := revL_tree hv h1 h2 h3
    have hRl : (t.rev.flat 0).length = n := by rw [T.flat_len, rev_size, hsz]
    rw [he]
    repeat (first | (refine S_w ?_; first | (refine M_c (turnedR t h1 (by omega) A n c _ hsz hS.rdAtM) ?_) | (refine S_y hS ?_) | ((first | refine M_bA hS ?_ | refine M_b1 hS ?_ | refine M_aA hS ?_ | refine M_a1 hS ?_ | refine M_sl hS ?_ | refine M_s1 hS ?_ | refine M_mm hS ?_); clear hS; intro b w hS) | ((first | refine M_st hS ?_ | refine M_sA hS ?_ | refine M_in hS ?_ | refine M_sR hS ?_); clear hS; intro w hS; (try simp only [List.set_cons_zero, List.set_cons_succ, Nat.zero_add] at hS)) | (refine M_ap hS ?_; clear hS; intro g cap w hS) | refine M_pn ?_) | refine X_k (by (try simp only [Fm.toList, List.set_cons_succ, List.set_cons_zero]); exact rfl) ?_ | refine S_u ?_ | refine S_v ?_ | refine C_sq ?_ | refine C_rg ?_ | refine L_nil ?_ | refine C_bk ?_ | refine C_ct ?_ | refine C_cf ?_ | refine C_sk ?_ | refine C_ex ?_ | refine C_rt ?_ | refine X_e ?_ | refine X_r ?_ | refine X_bh ?_ | refine X_be ?_ | refine X_br ?_ | refine X_bn ?_ | refine X_p ?_ | refine X_bp ?_)
    rintro _ w2 ⟨A2, c2, rfl, hown2, hb2⟩
    have hS := hS.freshRow hb2.below hown2
    repeat (first | (refine S_w ?_; first | (refine S_y hS ?_) | ((first | refine M_bA hS ?_ | refine M_b1 hS ?_ | refine M_aA hS ?_ | refine M_a1 hS ?_ | refine M_sl hS ?_ | refine M_s1 hS ?_ | refine M_mm hS ?_); clear hS; intro b w hS) | ((first | refine M_st hS ?_ | refine M_sA hS ?_ | refine M_in hS ?_ | refine M_sR hS ?_); clear hS; intro w hS; (try simp only [List.set_cons_zero, List.set_cons_succ, Nat.zero_add] at hS)) | (refine M_ap hS ?_; clear hS; intro g cap w hS) | refine M_pn ?_) | refine X_k (by (try simp only [Fm.toList, List.set_cons_succ, List.set_cons_zero]); exact rfl) ?_ | refine S_u ?_ | refine S_v ?_ | refine C_sq ?_ | refine C_rg ?_ | refine L_nil ?_ | refine C_bk ?_ | refine C_ct ?_ | refine C_cf ?_ | refine C_sk ?_ | refine C_ex ?_ | refine C_rt ?_ | refine X_e ?_ | refine X_r ?_ | refine X_bh ?_ | refine X_be ?_ | refine X_br ?_ | refine X_bn ?_ | refine X_p ?_ | refine X_bp ?_)
    have hv2 : Value.tuple #[.slice A2 n c2, .int .i64 0] = .tuple #[.slice A2 (revL (t.flat 0) v).length c2, .int .i64 (chkR (t.flat 0) v)] := by rw [hR, hRl, he]
    refine V_2 ⟨A2, c2, hv2, ?_, hS.fr⟩
    rw [hR, hRl]
    exact hS.rowOwnM
  · have hR := revL_bad he
    repeat (first | (refine S_w ?_; first | (refine S_y hS ?_) | ((first | refine M_bA hS ?_ | refine M_b1 hS ?_ | refine M_aA hS ?_ | refine M_a1 hS ?_ | refine M_sl hS ?_ | refine M_s1 hS ?_ | refine M_mm hS ?_); clear hS; intro b w hS) | ((first | refine M_st hS ?_ | refine M_sA hS ?_ | refine M_in hS ?_ | refine M_sR hS ?_); clear hS; intro w hS; (try simp only [List.set_cons_zero, List.set_cons_succ, Nat.zero_add] at hS)) | (refine M_ap hS ?_; clear hS; intro g cap w hS) | refine M_pn ?_) | refine X_k (by (try simp only [Fm.toList, List.set_cons_succ, List.set_cons_zero]); exact rfl) ?_ | refine S_u ?_ | refine S_v ?_ | refine C_sq ?_ | refine C_rg ?_ | refine L_nil ?_ | refine C_bk ?_ | refine C_ct ?_ | refine C_cf ?_ | refine C_sk ?_ | refine C_ex ?_ | refine C_rt ?_ | refine X_e ?_ | refine X_r ?_ | refine X_bh ?_ | refine X_be ?_ | refine X_br ?_ | refine X_bn ?_ | refine X_p ?_ | refine X_bp ?_)
    have hv2 : Value.tuple #[.slice none 0 0, .int .i64 (chkR L v)] = .tuple #[.slice none (revL L v).length 0, .int .i64 (chkR L v)] := by rw [hR]; rfl
    refine V_2 ⟨none, 0, hv2, ?_, hS.fr⟩
    rw [hR]
    exact World.ownsRow_nil _ _ _ _
end Go.Proofs.Ytcholfpomalgdaa
