/-
  The reference of layer 4: First, Cut, Block.
-/
import Derived.Test.YtebdkmfgfjanoaaRfChk2
import Derived.Test.YtebdkmfgfjanoaaRxCut
import Derived.Test.YtebdkmfgfjanoaaRB
namespace Go.Proofs.Ytebdkmfgfjanoaa
open Go.RowKit

set_option maxHeartbeats 8000000 in
set_option maxRecDepth 100000 in
theorem firstR (A : Option Addr) (n c : Nat) (L : List Pc) (hn : n ≤ 4294967296) {v : Int} : ∀ (t : T) (k : Nat), At L k t → t.wf v → ∀ (w : World), Rd w 5 A n (rxCells L) →
    CallsR Try.prog 84 #[.slice A n c, .int .i64 (((k + t.size : Nat) : Int) - 1)] w fun r w' => r = .int .i64 (k : Nat) ∧ Fr Nof w w' := by
  have leaf : ∀ (t : T) (k : Nat), At L k t → kids t.op = 0 → t.op ≤ 3 → 1 ≤ t.op → t.size = 1 → ∀ (w : World), Rd w 5 A n (rxCells L) →
      CallsR Try.prog 84 #[.slice A n c, .int .i64 (((k + t.size : Nat) : Int) - 1)] w fun r w' => r = .int .i64 (k : Nat) ∧ Fr Nof w w' := by
    intro t k hat hk h3 h1 hsz w hA
    have hl : L.length = n := by have := hA.1; rw [rxCells_len] at this; omega
    have hlt := hat.lt
    have hop := hat.op
    have hch : ∀ w, CallsR Try.prog 65 #[vb t.op] w fun r w' => r = .int .i64 0 ∧ Fr Nof w w' := fun w => by
      have := childrenR t.op (by omega) w
      rwa [chN_kids (by omega), hk] at this
    have hS := (St.start Nof w).addRo (r := Res.rd 5 A n (rxCells L)) hA rfl (fun _ h => by cases h)
    have e : (((k + t.size : Nat) : Int) - 1) = (k : Nat) := by omega
    generalize t.op = op at *
    rw [e] at hop ⊢
    refine E_r (m := 28) ?_ Try.func84 rfl Try.ntmps84 rfl; refine C_ft ?_
    repeat (first | (refine S_w ?_; first | (refine M_c (hch _) ?_) | (refine S_y hS ?_) | ((first | refine M_bA hS ?_ | refine M_b1 hS ?_ | refine M_aA hS ?_ | refine M_a1 hS ?_ | refine M_sl hS ?_ | refine M_s1 hS ?_ | refine M_mm hS ?_); clear hS; intro b w hS) | ((first | refine M_st hS ?_ | refine M_sA hS ?_ | refine M_in hS ?_ | refine M_sR hS ?_); clear hS; intro w hS; (try simp only [List.set_cons_zero, List.set_cons_succ, Nat.zero_add] at hS)) | (refine M_ap hS ?_; clear hS; intro g cap w hS) | refine M_pn ?_) | refine X_k (by (try simp only [Fm.toList, List.set_cons_succ, List.set_cons_zero]); exact rfl) ?_ | refine S_u ?_ | refine S_v ?_ | refine C_sq ?_ | refine C_rg ?_ | refine L_nil ?_ | refine C_bk ?_ | refine C_ct ?_ | refine C_cf ?_ | refine C_sk ?_ | refine C_ex ?_ | refine C_rt ?_ | refine X_e ?_ | refine X_r ?_ | refine X_bh ?_ | refine X_be ?_ | refine X_br ?_ | refine X_bn ?_ | refine X_p ?_ | refine X_bp ?_)
    rintro _ w2 ⟨rfl, hb2⟩
    have hS := hS.call hb2
    repeat (first | (refine S_w ?_; first | (refine S_y hS ?_) | ((first | refine M_bA hS ?_ | refine M_b1 hS ?_ | refine M_aA hS ?_ | refine M_a1 hS ?_ | refine M_sl hS ?_ | refine M_s1 hS ?_ | refine M_mm hS ?_); clear hS; intro b w hS) | ((first | refine M_st hS ?_ | refine M_sA hS ?_ | refine M_in hS ?_ | refine M_sR hS ?_); clear hS; intro w hS; (try simp only [List.set_cons_zero, List.set_cons_succ, Nat.zero_add] at hS)) | (refine M_ap hS ?_; clear hS; intro g cap w hS) | refine M_pn ?_) | refine X_k (by (try simp only [Fm.toList, List.set_cons_succ, List.set_cons_zero]); exact rfl) ?_ | refine S_u ?_ | refine S_v ?_ | refine C_sq ?_ | refine C_rg ?_ | refine L_nil ?_ | refine C_bk ?_ | refine C_ct ?_ | refine C_cf ?_ | refine C_sk ?_ | refine C_ex ?_ | refine C_rt ?_ | refine X_e ?_ | refine X_r ?_ | refine X_bh ?_ | refine X_be ?_ | refine X_br ?_ | refine X_bn ?_ | refine X_p ?_ | refine X_bp ?_)
    refine V_1 ⟨rfl, hS.fr⟩
  intro t
  induction t with
  | none => intro k hat _ w hA; exact leaf .none k hat rfl (by decide) (by decide) rfl w hA
  | empty => intro k hat _ w hA; exact leaf .empty k hat rfl (by decide) (by decide) rfl w hA
  | letter p q => intro k hat _ w hA; exact leaf (.letter p q) k hat rfl (show 3 ≤ 3 by decide) (show 1 ≤ 3 by decide) rfl w hA
  | un op a ih =>
    intro k hat hwf w hA
    have hl : L.length = n := by have := hA.1; rw [rxCells_len] at this; omega
    have hlt := hat.lt
    have hpa := T.size_pos a
    have hop : (rxCells L)[(((k + (T.un op a).size : Nat) : Int) - 1).toNat * 5 + 0]? = some (vb op) := hat.op
    have hfa : (rxCells L)[(((k + (T.un op a).size : Nat) : Int) - 1).toNat * 5 + 3]? = some (.int .i64 (((k + a.size : Nat) : Int) - 1)) := hat.fa
    have ih := ih k hat.un hwf.2
    have hsz : (T.un op a).size = a.size + 1 := rfl
    have hop4 := kids_one.1 hwf.1
    have hch : ∀ w, CallsR Try.prog 65 #[vb op] w fun r w' => r = .int .i64 1 ∧ Fr Nof w w' := fun w => by
      have := childrenR op (by omega) w
      rwa [chN_kids (by omega), hwf.1] at this
    have hS := (St.start Nof w).addRo (r := Res.rd 5 A n (rxCells L)) hA rfl (fun _ h => by cases h)
    refine E_r (m := 28) ?_ Try.func84 rfl Try.ntmps84 rfl; refine C_ft ?_
    repeat (first | (refine S_w ?_; first | (refine M_c (hch _) ?_) | (refine S_y hS ?_) | ((first | refine M_bA hS ?_ | refine M_b1 hS ?_ | refine M_aA hS ?_ | refine M_a1 hS ?_ | refine M_sl hS ?_ | refine M_s1 hS ?_ | refine M_mm hS ?_); clear hS; intro b w hS) | ((first | refine M_st hS ?_ | refine M_sA hS ?_ | refine M_in hS ?_ | refine M_sR hS ?_); clear hS; intro w hS; (try simp only [List.set_cons_zero, List.set_cons_succ, Nat.zero_add] at hS)) | (refine M_ap hS ?_; clear hS; intro g cap w hS) | refine M_pn ?_) | refine X_k (by (try simp only [Fm.toList, List.set_cons_succ, List.set_cons_zero]); exact rfl) ?_ | refine S_u ?_ | refine S_v ?_ | refine C_sq ?_ | refine C_rg ?_ | refine L_nil ?_ | refine C_bk ?_ | refine C_ct ?_ | refine C_cf ?_ | refine C_sk ?_ | refine C_ex ?_ | refine C_rt ?_ | refine X_e ?_ | refine X_r ?_ | refine X_bh ?_ | refine X_be ?_ | refine X_br ?_ | refine X_bn ?_ | refine X_p ?_ | refine X_bp ?_)
    rintro _ w2 ⟨rfl, hb2⟩
    have hS := hS.call hb2
    repeat (first | (refine S_w ?_; first | (refine M_c (ih _ hS.rdAtM) ?_) | (refine S_y hS ?_) | ((first | refine M_bA hS ?_ | refine M_b1 hS ?_ | refine M_aA hS ?_ | refine M_a1 hS ?_ | refine M_sl hS ?_ | refine M_s1 hS ?_ | refine M_mm hS ?_); clear hS; intro b w hS) | ((first | refine M_st hS ?_ | refine M_sA hS ?_ | refine M_in hS ?_ | refine M_sR hS ?_); clear hS; intro w hS; (try simp only [List.set_cons_zero, List.set_cons_succ, Nat.zero_add] at hS)) | (refine M_ap hS ?_; clear hS; intro g cap w hS) | refine M_pn ?_) | refine X_k (by (try simp only [Fm.toList, List.set_cons_succ, List.set_cons_zero]); exact rfl) ?_ | refine S_u ?_ | refine S_v ?_ | refine C_sq ?_ | refine C_rg ?_ | refine L_nil ?_ | refine C_bk ?_ | refine C_ct ?_ | refine C_cf ?_ | refine C_sk ?_ | refine C_ex ?_ | refine C_rt ?_ | refine X_e ?_ | refine X_r ?_ | refine X_bh ?_ | refine X_be ?_ | refine X_br ?_ | refine X_bn ?_ | refine X_p ?_ | refine X_bp ?_)
    rintro _ w3 ⟨rfl, hb3⟩
    have hS := hS.call hb3
    repeat (first | (refine S_w ?_; first | (refine S_y hS ?_) | ((first | refine M_bA hS ?_ | refine M_b1 hS ?_ | refine M_aA hS ?_ | refine M_a1 hS ?_ | refine M_sl hS ?_ | refine M_s1 hS ?_ | refine M_mm hS ?_); clear hS; intro b w hS) | ((first | refine M_st hS ?_ | refine M_sA hS ?_ | refine M_in hS ?_ | refine M_sR hS ?_); clear hS; intro w hS; (try simp only [List.set_cons_zero, List.set_cons_succ, Nat.zero_add] at hS)) | (refine M_ap hS ?_; clear hS; intro g cap w hS) | refine M_pn ?_) | refine X_k (by (try simp only [Fm.toList, List.set_cons_succ, List.set_cons_zero]); exact rfl) ?_ | refine S_u ?_ | refine S_v ?_ | refine C_sq ?_ | refine C_rg ?_ | refine L_nil ?_ | refine C_bk ?_ | refine C_ct ?_ | refine C_cf ?_ | refine C_sk ?_ | refine C_ex ?_ | refine C_rt ?_ | refine X_e ?_ | refine X_r ?_ | refine X_bh ?_ | refine X_be ?_ | refine X_br ?_ | refine X_bn ?_ | refine X_p ?_ | refine X_bp ?_)
    refine V_1 ⟨rfl, hS.fr⟩
  | bin op a b iha ihb =>
    intro k hat hwf w hA
    have hl : L.length = n := by have := hA.1; rw [rxCells_len] at this; omega
    have hlt := hat.lt
    have hpa := T.size_pos a
    have hpb := T.size_pos b
    have hop : (rxCells L)[(((k + (T.bin op a b).size : Nat) : Int) - 1).toNat * 5 + 0]? = some (vb op) := hat.op
    have hfa : (rxCells L)[(((k + (T.bin op a b).size : Nat) : Int) - 1).toNat * 5 + 3]? = some (.int .i64 (((k + a.size : Nat) : Int) - 1)) := hat.fa
    have iha := iha k hat.left hwf.2.1
    have hsz : (T.bin op a b).size = a.size + b.size + 1 := rfl
    have hop4 := kids_two.1 hwf.1
    have hch : ∀ w, CallsR Try.prog 65 #[vb op] w fun r w' => r = .int .i64 2 ∧ Fr Nof w w' := fun w => by
      have := childrenR op (by omega) w
      rwa [chN_kids (by omega), hwf.1] at this
    have hS := (St.start Nof w).addRo (r := Res.rd 5 A n (rxCells L)) hA rfl (fun _ h => by cases h)
    refine E_r (m := 28) ?_ Try.func84 rfl Try.ntmps84 rfl; refine C_ft ?_
    repeat (first | (refine S_w ?_; first | (refine M_c (hch _) ?_) | (refine S_y hS ?_) | ((first | refine M_bA hS ?_ | refine M_b1 hS ?_ | refine M_aA hS ?_ | refine M_a1 hS ?_ | refine M_sl hS ?_ | refine M_s1 hS ?_ | refine M_mm hS ?_); clear hS; intro b w hS) | ((first | refine M_st hS ?_ | refine M_sA hS ?_ | refine M_in hS ?_ | refine M_sR hS ?_); clear hS; intro w hS; (try simp only [List.set_cons_zero, List.set_cons_succ, Nat.zero_add] at hS)) | (refine M_ap hS ?_; clear hS; intro g cap w hS) | refine M_pn ?_) | refine X_k (by (try simp only [Fm.toList, List.set_cons_succ, List.set_cons_zero]); exact rfl) ?_ | refine S_u ?_ | refine S_v ?_ | refine C_sq ?_ | refine C_rg ?_ | refine L_nil ?_ | refine C_bk ?_ | refine C_ct ?_ | refine C_cf ?_ | refine C_sk ?_ | refine C_ex ?_ | refine C_rt ?_ | refine X_e ?_ | refine X_r ?_ | refine X_bh ?_ | refine X_be ?_ | refine X_br ?_ | refine X_bn ?_ | refine X_p ?_ | refine X_bp ?_)
    rintro _ w2 ⟨rfl, hb2⟩
    have hS := hS.call hb2
    repeat (first | (refine S_w ?_; first | (refine M_c (iha _ hS.rdAtM) ?_) | (refine S_y hS ?_) | ((first | refine M_bA hS ?_ | refine M_b1 hS ?_ | refine M_aA hS ?_ | refine M_a1 hS ?_ | refine M_sl hS ?_ | refine M_s1 hS ?_ | refine M_mm hS ?_); clear hS; intro b w hS) | ((first | refine M_st hS ?_ | refine M_sA hS ?_ | refine M_in hS ?_ | refine M_sR hS ?_); clear hS; intro w hS; (try simp only [List.set_cons_zero, List.set_cons_succ, Nat.zero_add] at hS)) | (refine M_ap hS ?_; clear hS; intro g cap w hS) | refine M_pn ?_) | refine X_k (by (try simp only [Fm.toList, List.set_cons_succ, List.set_cons_zero]); exact rfl) ?_ | refine S_u ?_ | refine S_v ?_ | refine C_sq ?_ | refine C_rg ?_ | refine L_nil ?_ | refine C_bk ?_ | refine C_ct ?_ | refine C_cf ?_ | refine C_sk ?_ | refine C_ex ?_ | refine C_rt ?_ | refine X_e ?_ | refine X_r ?_ | refine X_bh ?_ | refine X_be ?_ | refine X_br ?_ | refine X_bn ?_ | refine X_p ?_ | refine X_bp ?_)
    rintro _ w3 ⟨rfl, hb3⟩
    have hS := hS.call hb3
    repeat (first | (refine S_w ?_; first | (refine S_y hS ?_) | ((first | refine M_bA hS ?_ | refine M_b1 hS ?_ | refine M_aA hS ?_ | refine M_a1 hS ?_ | refine M_sl hS ?_ | refine M_s1 hS ?_ | refine M_mm hS ?_); clear hS; intro b w hS) | ((first | refine M_st hS ?_ | refine M_sA hS ?_ | refine M_in hS ?_ | refine M_sR hS ?_); clear hS; intro w hS; (try simp only [List.set_cons_zero, List.set_cons_succ, Nat.zero_add] at hS)) | (refine M_ap hS ?_; clear hS; intro g cap w hS) | refine M_pn ?_) | refine X_k (by (try simp only [Fm.toList, List.set_cons_succ, List.set_cons_zero]); exact rfl) ?_ | refine S_u ?_ | refine S_v ?_ | refine C_sq ?_ | refine C_rg ?_ | refine L_nil ?_ | refine C_bk ?_ | refine C_ct ?_ | refine C_cf ?_ | refine C_sk ?_ | refine C_ex ?_ | refine C_rt ?_ | refine X_e ?_ | refine X_r ?_ | refine X_bh ?_ | refine X_be ?_ | refine X_br ?_ | refine X_bn ?_ | refine X_p ?_ | refine X_bp ?_)
    refine V_1 ⟨rfl, hS.fr⟩
theorem At.sub {t : T} {i : Nat} (h : i < t.size) : At (t.flat 0) (t.sub 0 i).1 (t.sub 0 i).2 := by
  obtain ⟨_, _, _, h4⟩ := sub_at t 0 i (Nat.zero_le _) (by omega)
  intro j p hj
  rw [Nat.sub_zero] at h4
  rw [← h4, List.getElem?_take] at hj
  split at hj
  · rwa [List.getElem?_drop] at hj
  · cases hj
theorem rxSnoc {M : List Pc} {q : Nat} {p : Pc} (h : M[q]? = some p) : rxCells (M.take (q + 1)) = rxCells (M.take q) ++ pcV p := by
  rw [List.take_add_one, h]; simp [rxCells]
set_option maxHeartbeats 8000000 in
set_option maxRecDepth 100000 in
theorem rCutR (A : Option Addr) (n c : Nat) (t : T) (v : Int) (i : Nat) (W : World) (hA : Rd W 5 A n (rxCells (t.flat 0))) (hw : t.wf v) (hs : t.size ≤ 4294967295) (hi : i < t.size) (hlet : ∀ p ∈ t.flat 0, p.ok) :
    CallsR Try.prog 56 #[.slice A n c, .int .i64 i] W fun r w' => ∃ A' c', r = .slice A' (t.sub 0 i).2.size c' ∧ w'.ownsRow W.heap.size 55 5 (.slice A' (t.sub 0 i).2.size c') (t.sub 0 i).2.size (rxCells ((t.sub 0 i).2.flat 0)) ∧ Fr Nof W w' := by
  have hl : t.size = n := by have := hA.1; rw [rxCells_len, T.flat_len] at this; omega
  obtain ⟨h1, h2, h3, h4⟩ := sub_at t 0 i (Nat.zero_le _) (by omega)
  have hwu := sub_wf (v := v) 0 i hw
  have hat := At.sub hi
  generalize t.sub 0 i = ju at h1 h2 h3 h4 hwu hat ⊢
  obtain ⟨j, u⟩ := ju
  simp only [Nat.sub_zero] at h1 h2 h3 h4 hwu hat ⊢
  have hfl := T.flat_len j u
  have hfu := T.flat_len 0 u
  have hup := T.size_pos u
  have hsh := shift_flat (v := v) j u 0 hwu
  rw [Nat.add_zero] at hsh
  have hlow := flat_low u j hwu
  have hin : ∀ p ∈ u.flat j, p.ok := fun p hp => by
    rw [← h4] at hp
    exact hlet p (List.mem_of_mem_drop (List.mem_of_mem_take hp))
  have hfst := fun w hr => firstR A n c (t.flat 0) (by omega) u j hat hwu w hr
  rw [show (((j + u.size : Nat) : Int) - 1) = (i : Nat) by omega] at hfst
  have hS := ((St.start Nof W).addRo (r := Res.rd 5 A n (rxCells (t.flat 0))) hA rfl (fun _ h => by cases h)).rowNil 55 5
  refine E_r (m := 43) ?_ Try.func56 rfl Try.ntmps56 rfl; refine C_ft ?_
  repeat (first | (refine S_w ?_; first | (refine M_c (hfst _ hS.rdAtM) ?_) | (refine S_y hS ?_) | ((first | refine M_bA hS ?_ | refine M_b1 hS ?_ | refine M_aA hS ?_ | refine M_a1 hS ?_ | refine M_sl hS ?_ | refine M_s1 hS ?_ | refine M_mm hS ?_); clear hS; intro b w hS) | ((first | refine M_st hS ?_ | refine M_sA hS ?_ | refine M_in hS ?_ | refine M_sR hS ?_); clear hS; intro w hS; (try simp only [List.set_cons_zero, List.set_cons_succ, Nat.zero_add] at hS)) | (refine M_ap hS ?_; clear hS; intro g cap w hS) | refine M_pn ?_) | refine X_k (by (try simp only [Fm.toList, List.set_cons_succ, List.set_cons_zero]); exact rfl) ?_ | refine S_u ?_ | refine S_v ?_ | refine C_sq ?_ | refine C_rg ?_ | refine L_nil ?_ | refine C_bk ?_ | refine C_ct ?_ | refine C_cf ?_ | refine C_sk ?_ | refine C_ex ?_ | refine C_rt ?_ | refine X_e ?_ | refine X_r ?_ | refine X_bh ?_ | refine X_be ?_ | refine X_br ?_ | refine X_bn ?_ | refine X_p ?_ | refine X_bp ?_)
  rintro _ w1 ⟨rfl, hb1⟩
  have hS := hS.call hb1
  repeat (first | (refine S_w ?_; first | (refine S_y hS ?_) | ((first | refine M_bA hS ?_ | refine M_b1 hS ?_ | refine M_aA hS ?_ | refine M_a1 hS ?_ | refine M_sl hS ?_ | refine M_s1 hS ?_ | refine M_mm hS ?_); clear hS; intro b w hS) | ((first | refine M_st hS ?_ | refine M_sA hS ?_ | refine M_in hS ?_ | refine M_sR hS ?_); clear hS; intro w hS; (try simp only [List.set_cons_zero, List.set_cons_succ, Nat.zero_add] at hS)) | (refine M_ap hS ?_; clear hS; intro g cap w hS) | refine M_pn ?_) | refine X_k (by (try simp only [Fm.toList, List.set_cons_succ, List.set_cons_zero]); exact rfl) ?_ | refine S_u ?_ | refine S_v ?_ | refine C_sq ?_ | refine C_rg ?_ | refine L_nil ?_ | refine C_bk ?_ | refine C_ct ?_ | refine C_cf ?_ | refine C_sk ?_ | refine C_ex ?_ | refine C_rt ?_ | refine X_e ?_ | refine X_r ?_ | refine X_bh ?_ | refine X_be ?_ | refine X_br ?_ | refine X_bn ?_ | refine X_p ?_ | refine X_bp ?_)
  refine C_lp [6, 3, 4, 31, 1] (fun s : Nat × Value => [(6, s.2), (7, .int .i64 ((j + s.1 : Nat) : Int))])
    (fun s w' => s.1 ≤ u.size ∧ St Nof W [Res.row 55 5 s.2 s.1 (rxCells ((u.flat 0).take s.1)), Res.rd 5 A n (rxCells (t.flat 0))] w') (fun s => u.size - s.1) (0, .slice none 0 0) ⟨Nat.zero_le _, by simpa [rxCells] using hS⟩ ?_
  clear hS
  rintro ⟨q, r⟩ y w ⟨hq, hS⟩
  simp only at hq hS ⊢
  refine C_fs ?_
  obtain ⟨A7, c7, rfl, _, _⟩ := ownsRow_slice (hS.get (r := Res.row 55 5 r q (rxCells ((u.flat 0).take q))) (by repeat (first | exact List.Mem.head _ | assumption | apply List.Mem.tail)))
  by_cases hlt : q < u.size
  · obtain ⟨p, hp⟩ : ∃ p, (u.flat j)[q]? = some p := ⟨(u.flat j)[q], List.getElem?_eq_getElem (by omega)⟩
    have hpo := hin p (List.mem_of_getElem? hp)
    have hpl := hlow p (List.mem_of_getElem? hp)
    have hpd := rxCells_drop (hat q p hp)
    have hp0 : (u.flat 0)[q]? = some (shPc j p) := by rw [← hsh, List.getElem?_map, hp]; rfl
    have hsn := rxSnoc hp0
    have hk2 := kids_le p.op
    have hop10 : 1 ≤ p.op ∧ p.op ≤ 10 := by
      have : ∀ (t : T) (k : Nat), t.wf v → ∀ p ∈ t.flat k, 1 ≤ p.op ∧ p.op ≤ 10 := fun t => by
        induction t with
        | none => intro k _ p hp; simp [T.flat, T.root] at hp; subst hp; decide
        | empty => intro k _ p hp; simp [T.flat, T.root] at hp; subst hp; decide
        | letter a b => intro k _ p hp; simp [T.flat, T.root] at hp; subst hp; exact ⟨show 1 ≤ 3 by decide, show 3 ≤ 10 by decide⟩
        | un op a ih =>
          intro k h p hp
          have := kids_one.1 h.1
          rcases List.mem_append.1 (by simpa only [T.flat] using hp) with hp | hp
          · exact ih k h.2 p hp
          · simp [T.root] at hp; subst hp; simp only; omega
        | bin op a b iha ihb =>
          intro k h p hp
          have := kids_two.1 h.1
          rcases List.mem_append.1 (by simpa only [T.flat] using hp) with hp | hp
          · exact iha k h.2.1 p hp
          · rcases List.mem_append.1 hp with hp | hp
            · exact ihb _ h.2.2 p hp
            · simp [T.root] at hp; subst hp; simp only; omega
      exact this u j hwu p (List.mem_of_getElem? hp)
    have hch : ∀ w, CallsR Try.prog 65 #[vb p.op] w fun r w' => r = .int .i64 (kids p.op : Nat) ∧ Fr Nof w w' := fun w => by
      rw [← chN_kids hop10]; exact childrenR p.op hpo.op w
    obtain ⟨op, pos, neg, pa, pb⟩ := p
    obtain ⟨g1, g2, g3, g4, g5⟩ := hpo
    simp only [pcV] at g1 g2 g3 g4 g5 hpl hk2 hpd hch
    rcases (show kids op = 0 ∨ kids op = 1 ∨ kids op = 2 by omega) with hk | hk | hk
    · have hsv : pcV (shPc j ⟨op, pos, neg, pa, pb⟩) = [vb op, vb pos, vb neg, .int .i64 pa, .int .i64 pb] := by simp [shPc, pcV, hk]
      rw [hsv] at hsn
      rw [hk] at hch
      repeat (first | (refine S_w ?_; first | (refine M_c (hch _) ?_) | (refine S_y hS ?_) | ((first | refine M_bA hS ?_ | refine M_b1 hS ?_ | refine M_aA hS ?_ | refine M_a1 hS ?_ | refine M_sl hS ?_ | refine M_s1 hS ?_ | refine M_mm hS ?_); clear hS; intro b w hS) | ((first | refine M_st hS ?_ | refine M_sA hS ?_ | refine M_in hS ?_ | refine M_sR hS ?_); clear hS; intro w hS; (try simp only [List.set_cons_zero, List.set_cons_succ, Nat.zero_add] at hS)) | (refine M_ap hS ?_; clear hS; intro g cap w hS) | refine M_pn ?_) | refine X_k (by (try simp only [Fm.toList, List.set_cons_succ, List.set_cons_zero]); exact rfl) ?_ | refine S_u ?_ | refine S_v ?_ | refine C_sq ?_ | refine C_rg ?_ | refine L_nil ?_ | refine C_bk ?_ | refine C_ct ?_ | refine C_cf ?_ | refine C_sk ?_ | refine C_ex ?_ | refine C_rt ?_ | refine X_e ?_ | refine X_r ?_ | refine X_bh ?_ | refine X_be ?_ | refine X_br ?_ | refine X_bn ?_ | refine X_p ?_ | refine X_bp ?_)
      rintro _ w2 ⟨rfl, hb2⟩
      have hS := hS.call hb2
      repeat (first | (refine S_w ?_; first | (refine M_c (hch _) ?_) | (refine S_y hS ?_) | ((first | refine M_bA hS ?_ | refine M_b1 hS ?_ | refine M_aA hS ?_ | refine M_a1 hS ?_ | refine M_sl hS ?_ | refine M_s1 hS ?_ | refine M_mm hS ?_); clear hS; intro b w hS) | ((first | refine M_st hS ?_ | refine M_sA hS ?_ | refine M_in hS ?_ | refine M_sR hS ?_); clear hS; intro w hS; (try simp only [List.set_cons_zero, List.set_cons_succ, Nat.zero_add] at hS)) | (refine M_ap hS ?_; clear hS; intro g cap w hS) | refine M_pn ?_) | refine X_k (by (try simp only [Fm.toList, List.set_cons_succ, List.set_cons_zero]); exact rfl) ?_ | refine S_u ?_ | refine S_v ?_ | refine C_sq ?_ | refine C_rg ?_ | refine L_nil ?_ | refine C_bk ?_ | refine C_ct ?_ | refine C_cf ?_ | refine C_sk ?_ | refine C_ex ?_ | refine C_rt ?_ | refine X_e ?_ | refine X_r ?_ | refine X_bh ?_ | refine X_be ?_ | refine X_br ?_ | refine X_bn ?_ | refine X_p ?_ | refine X_bp ?_)
      rintro _ w3 ⟨rfl, hb3⟩
      have hS := hS.call hb3
      repeat (first | (refine S_w ?_; first | (refine S_y hS ?_) | ((first | refine M_bA hS ?_ | refine M_b1 hS ?_ | refine M_aA hS ?_ | refine M_a1 hS ?_ | refine M_sl hS ?_ | refine M_s1 hS ?_ | refine M_mm hS ?_); clear hS; intro b w hS) | ((first | refine M_st hS ?_ | refine M_sA hS ?_ | refine M_in hS ?_ | refine M_sR hS ?_); clear hS; intro w hS; (try simp only [List.set_cons_zero, List.set_cons_succ, Nat.zero_add] at hS)) | (refine M_ap hS ?_; clear hS; intro g cap w hS) | refine M_pn ?_) | refine X_k (by (try simp only [Fm.toList, List.set_cons_succ, List.set_cons_zero]); exact rfl) ?_ | refine S_u ?_ | refine S_v ?_ | refine C_sq ?_ | refine C_rg ?_ | refine L_nil ?_ | refine C_bk ?_ | refine C_ct ?_ | refine C_cf ?_ | refine C_sk ?_ | refine C_ex ?_ | refine C_rt ?_ | refine X_e ?_ | refine X_r ?_ | refine X_bh ?_ | refine X_be ?_ | refine X_br ?_ | refine X_bn ?_ | refine X_p ?_ | refine X_bp ?_)
      refine R_e (q + 1, .slice (some ⟨g, 0, none⟩) (q + 1) cap) ⟨by simp only; omega, ?_⟩ (by simp only; omega)
      rw [hsn]
      exact hS.sb
    · have hsv : pcV (shPc j ⟨op, pos, neg, pa, pb⟩) = [vb op, vb pos, vb neg, .int .i64 (pa - j), .int .i64 pb] := by simp [shPc, pcV, hk]
      rw [hsv] at hsn
      rw [hk] at hch
      have hpl1 := hpl.1 (by omega)
      repeat (first | (refine S_w ?_; first | (refine M_c (hch _) ?_) | (refine S_y hS ?_) | ((first | refine M_bA hS ?_ | refine M_b1 hS ?_ | refine M_aA hS ?_ | refine M_a1 hS ?_ | refine M_sl hS ?_ | refine M_s1 hS ?_ | refine M_mm hS ?_); clear hS; intro b w hS) | ((first | refine M_st hS ?_ | refine M_sA hS ?_ | refine M_in hS ?_ | refine M_sR hS ?_); clear hS; intro w hS; (try simp only [List.set_cons_zero, List.set_cons_succ, Nat.zero_add] at hS)) | (refine M_ap hS ?_; clear hS; intro g cap w hS) | refine M_pn ?_) | refine X_k (by (try simp only [Fm.toList, List.set_cons_succ, List.set_cons_zero]); exact rfl) ?_ | refine S_u ?_ | refine S_v ?_ | refine C_sq ?_ | refine C_rg ?_ | refine L_nil ?_ | refine C_bk ?_ | refine C_ct ?_ | refine C_cf ?_ | refine C_sk ?_ | refine C_ex ?_ | refine C_rt ?_ | refine X_e ?_ | refine X_r ?_ | refine X_bh ?_ | refine X_be ?_ | refine X_br ?_ | refine X_bn ?_ | refine X_p ?_ | refine X_bp ?_)
      rintro _ w2 ⟨rfl, hb2⟩
      have hS := hS.call hb2
      repeat (first | (refine S_w ?_; first | (refine M_c (hch _) ?_) | (refine S_y hS ?_) | ((first | refine M_bA hS ?_ | refine M_b1 hS ?_ | refine M_aA hS ?_ | refine M_a1 hS ?_ | refine M_sl hS ?_ | refine M_s1 hS ?_ | refine M_mm hS ?_); clear hS; intro b w hS) | ((first | refine M_st hS ?_ | refine M_sA hS ?_ | refine M_in hS ?_ | refine M_sR hS ?_); clear hS; intro w hS; (try simp only [List.set_cons_zero, List.set_cons_succ, Nat.zero_add] at hS)) | (refine M_ap hS ?_; clear hS; intro g cap w hS) | refine M_pn ?_) | refine X_k (by (try simp only [Fm.toList, List.set_cons_succ, List.set_cons_zero]); exact rfl) ?_ | refine S_u ?_ | refine S_v ?_ | refine C_sq ?_ | refine C_rg ?_ | refine L_nil ?_ | refine C_bk ?_ | refine C_ct ?_ | refine C_cf ?_ | refine C_sk ?_ | refine C_ex ?_ | refine C_rt ?_ | refine X_e ?_ | refine X_r ?_ | refine X_bh ?_ | refine X_be ?_ | refine X_br ?_ | refine X_bn ?_ | refine X_p ?_ | refine X_bp ?_)
      rintro _ w3 ⟨rfl, hb3⟩
      have hS := hS.call hb3
      repeat (first | (refine S_w ?_; first | (refine S_y hS ?_) | ((first | refine M_bA hS ?_ | refine M_b1 hS ?_ | refine M_aA hS ?_ | refine M_a1 hS ?_ | refine M_sl hS ?_ | refine M_s1 hS ?_ | refine M_mm hS ?_); clear hS; intro b w hS) | ((first | refine M_st hS ?_ | refine M_sA hS ?_ | refine M_in hS ?_ | refine M_sR hS ?_); clear hS; intro w hS; (try simp only [List.set_cons_zero, List.set_cons_succ, Nat.zero_add] at hS)) | (refine M_ap hS ?_; clear hS; intro g cap w hS) | refine M_pn ?_) | refine X_k (by (try simp only [Fm.toList, List.set_cons_succ, List.set_cons_zero]); exact rfl) ?_ | refine S_u ?_ | refine S_v ?_ | refine C_sq ?_ | refine C_rg ?_ | refine L_nil ?_ | refine C_bk ?_ | refine C_ct ?_ | refine C_cf ?_ | refine C_sk ?_ | refine C_ex ?_ | refine C_rt ?_ | refine X_e ?_ | refine X_r ?_ | refine X_bh ?_ | refine X_be ?_ | refine X_br ?_ | refine X_bn ?_ | refine X_p ?_ | refine X_bp ?_)
      refine R_e (q + 1, .slice (some ⟨g, 0, none⟩) (q + 1) cap) ⟨by simp only; omega, ?_⟩ (by simp only; omega)
      rw [hsn]
      exact hS.sb
    · have hsv : pcV (shPc j ⟨op, pos, neg, pa, pb⟩) = [vb op, vb pos, vb neg, .int .i64 (pa - j), .int .i64 (pb - j)] := by simp [shPc, pcV, hk]
      rw [hsv] at hsn
      rw [hk] at hch
      have hpl1 := hpl.1 (by omega)
      have hpl2 := hpl.2 (by omega)
      repeat (first | (refine S_w ?_; first | (refine M_c (hch _) ?_) | (refine S_y hS ?_) | ((first | refine M_bA hS ?_ | refine M_b1 hS ?_ | refine M_aA hS ?_ | refine M_a1 hS ?_ | refine M_sl hS ?_ | refine M_s1 hS ?_ | refine M_mm hS ?_); clear hS; intro b w hS) | ((first | refine M_st hS ?_ | refine M_sA hS ?_ | refine M_in hS ?_ | refine M_sR hS ?_); clear hS; intro w hS; (try simp only [List.set_cons_zero, List.set_cons_succ, Nat.zero_add] at hS)) | (refine M_ap hS ?_; clear hS; intro g cap w hS) | refine M_pn ?_) | refine X_k (by (try simp only [Fm.toList, List.set_cons_succ, List.set_cons_zero]); exact rfl) ?_ | refine S_u ?_ | refine S_v ?_ | refine C_sq ?_ | refine C_rg ?_ | refine L_nil ?_ | refine C_bk ?_ | refine C_ct ?_ | refine C_cf ?_ | refine C_sk ?_ | refine C_ex ?_ | refine C_rt ?_ | refine X_e ?_ | refine X_r ?_ | refine X_bh ?_ | refine X_be ?_ | refine X_br ?_ | refine X_bn ?_ | refine X_p ?_ | refine X_bp ?_)
      rintro _ w2 ⟨rfl, hb2⟩
      have hS := hS.call hb2
      repeat (first | (refine S_w ?_; first | (refine M_c (hch _) ?_) | (refine S_y hS ?_) | ((first | refine M_bA hS ?_ | refine M_b1 hS ?_ | refine M_aA hS ?_ | refine M_a1 hS ?_ | refine M_sl hS ?_ | refine M_s1 hS ?_ | refine M_mm hS ?_); clear hS; intro b w hS) | ((first | refine M_st hS ?_ | refine M_sA hS ?_ | refine M_in hS ?_ | refine M_sR hS ?_); clear hS; intro w hS; (try simp only [List.set_cons_zero, List.set_cons_succ, Nat.zero_add] at hS)) | (refine M_ap hS ?_; clear hS; intro g cap w hS) | refine M_pn ?_) | refine X_k (by (try simp only [Fm.toList, List.set_cons_succ, List.set_cons_zero]); exact rfl) ?_ | refine S_u ?_ | refine S_v ?_ | refine C_sq ?_ | refine C_rg ?_ | refine L_nil ?_ | refine C_bk ?_ | refine C_ct ?_ | refine C_cf ?_ | refine C_sk ?_ | refine C_ex ?_ | refine C_rt ?_ | refine X_e ?_ | refine X_r ?_ | refine X_bh ?_ | refine X_be ?_ | refine X_br ?_ | refine X_bn ?_ | refine X_p ?_ | refine X_bp ?_)
      rintro _ w3 ⟨rfl, hb3⟩
      have hS := hS.call hb3
      repeat (first | (refine S_w ?_; first | (refine S_y hS ?_) | ((first | refine M_bA hS ?_ | refine M_b1 hS ?_ | refine M_aA hS ?_ | refine M_a1 hS ?_ | refine M_sl hS ?_ | refine M_s1 hS ?_ | refine M_mm hS ?_); clear hS; intro b w hS) | ((first | refine M_st hS ?_ | refine M_sA hS ?_ | refine M_in hS ?_ | refine M_sR hS ?_); clear hS; intro w hS; (try simp only [List.set_cons_zero, List.set_cons_succ, Nat.zero_add] at hS)) | (refine M_ap hS ?_; clear hS; intro g cap w hS) | refine M_pn ?_) | refine X_k (by (try simp only [Fm.toList, List.set_cons_succ, List.set_cons_zero]); exact rfl) ?_ | refine S_u ?_ | refine S_v ?_ | refine C_sq ?_ | refine C_rg ?_ | refine L_nil ?_ | refine C_bk ?_ | refine C_ct ?_ | refine C_cf ?_ | refine C_sk ?_ | refine C_ex ?_ | refine C_rt ?_ | refine X_e ?_ | refine X_r ?_ | refine X_bh ?_ | refine X_be ?_ | refine X_br ?_ | refine X_bn ?_ | refine X_p ?_ | refine X_bp ?_)
      refine R_e (q + 1, .slice (some ⟨g, 0, none⟩) (q + 1) cap) ⟨by simp only; omega, ?_⟩ (by simp only; omega)
      rw [hsn]
      exact hS.sb
  · obtain rfl : q = u.size := by omega
    rw [List.take_of_length_le (by omega)] at hS
    repeat (first | (refine S_w ?_; first | (refine S_y hS ?_) | ((first | refine M_bA hS ?_ | refine M_b1 hS ?_ | refine M_aA hS ?_ | refine M_a1 hS ?_ | refine M_sl hS ?_ | refine M_s1 hS ?_ | refine M_mm hS ?_); clear hS; intro b w hS) | ((first | refine M_st hS ?_ | refine M_sA hS ?_ | refine M_in hS ?_ | refine M_sR hS ?_); clear hS; intro w hS; (try simp only [List.set_cons_zero, List.set_cons_succ, Nat.zero_add] at hS)) | (refine M_ap hS ?_; clear hS; intro g cap w hS) | refine M_pn ?_) | refine X_k (by (try simp only [Fm.toList, List.set_cons_succ, List.set_cons_zero]); exact rfl) ?_ | refine S_u ?_ | refine S_v ?_ | refine C_sq ?_ | refine C_rg ?_ | refine L_nil ?_ | refine C_bk ?_ | refine C_ct ?_ | refine C_cf ?_ | refine C_sk ?_ | refine C_ex ?_ | refine C_rt ?_ | refine X_e ?_ | refine X_r ?_ | refine X_bh ?_ | refine X_be ?_ | refine X_br ?_ | refine X_bn ?_ | refine X_p ?_ | refine X_bp ?_)
    refine V_1 ⟨A7, c7, rfl, hS.rowOwnM, hS.fr⟩
end Go.Proofs.Ytebdkmfgfjanoaa
