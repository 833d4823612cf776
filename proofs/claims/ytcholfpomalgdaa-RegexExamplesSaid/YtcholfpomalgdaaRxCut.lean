/-
  regex.cut, Block: the block of a piece.
-/
import Derived.Test.YtcholfpomalgdaaRxSub
namespace Go.Proofs.Ytcholfpomalgdaa
open Go.RowKit

theorem rxCells_sub (L : List Pc) (i j : Nat) : subL (rxCells L) i j 5 = rxCells ((L.drop i).take (j - i)) := by
  have hd : ∀ (L : List Pc) (i : Nat), (rxCells L).drop (i * 5) = rxCells (L.drop i) := fun L i => by
    induction i generalizing L with
    | zero => simp
    | succ i ih =>
      cases L with
      | nil => simp [rxCells]
      | cons p L =>
        have : (i + 1) * 5 = (pcV p).length + i * 5 := by rw [pcV_len]; omega
        rw [this, ← List.drop_drop]
        simp only [rxCells, List.flatMap_cons, List.drop_left, List.drop_succ_cons] at ih ⊢
        exact ih L
  have ht : ∀ (L : List Pc) (i : Nat), (rxCells L).take (i * 5) = rxCells (L.take i) := fun L i => by
    induction i generalizing L with
    | zero => simp [rxCells]
    | succ i ih =>
      cases L with
      | nil => simp [rxCells]
      | cons p L =>
        have : (i + 1) * 5 = (pcV p).length + i * 5 := by rw [pcV_len]; omega
        rw [this]
        simp only [rxCells, List.flatMap_cons, List.take_succ_cons] at ih ⊢
        rw [List.take_length_add_append]
        rw [ih L]
  rw [subL, hd, ht]
theorem rxCells_snoc {M : List Pc} {q : Nat} {p : Pc} (h : M[q]? = some p) : rxCells (M.take (q + 1)) = rxCells (M.take q) ++ pcV p := by
  rw [List.take_add_one, h]; simp [rxCells]
set_option maxHeartbeats 8000000 in
set_option maxRecDepth 100000 in
theorem rxCutR (A B : Option Addr) (n c m d : Nat) (t : T) (v : Int) (i : Nat) (W : World) (hA : Rd W 5 A n (rxCells (t.flat 0))) (hB : Rd W 1 B m (ints [t])) (hw : t.wf v) (hs : t.size ≤ 4294967295) (hc : n ≤ c) (hi : i < t.size) (hlet : ∀ p ∈ t.flat 0, p.ok) :
    CallsR Try.prog 34 #[.slice A n c, .slice B m d, .int .i64 i] W fun r w' => ∃ A' c', r = .slice A' (t.sub 0 i).2.size c' ∧ w'.ownsRow W.heap.size 34 5 (.slice A' (t.sub 0 i).2.size c') (t.sub 0 i).2.size (rxCells ((t.sub 0 i).2.flat 0)) ∧ Fr Nof W w' := by
  have hl : t.size = n := by have := hA.1; rw [rxCells_len, T.flat_len] at this; omega
  have hm : t.size = m := by have := hB.1; rw [ints_len] at this; simpa [stkSize] using this
  obtain ⟨h1, h2, h3, h4⟩ := sub_at t 0 i (Nat.zero_le _) (by omega)
  have hwu := sub_wf (v := v) 0 i hw
  generalize t.sub 0 i = ju at h1 h2 h3 h4 hwu ⊢
  obtain ⟨j, u⟩ := ju
  simp only [Nat.sub_zero] at h1 h2 h3 h4 hwu ⊢
  have hS := ((St.start Nof W).addRo (r := Res.rd 1 B m (ints [t])) hB rfl (fun _ h => by cases h)).addRo (r := Res.rd 5 A n (rxCells (t.flat 0))) hA rfl (fun s h hro => by
    rcases List.mem_cons.1 h with rfl | h
    · cases hro
    · cases h)
  have hfi : (ints [t])[((i : Nat) : Int).toNat]? = some (vn j) := by
    simp only [Int.toNat_natCast, ints, stkFirst, stkSize, List.nil_append, List.getElem?_map, h3, Option.map_some]
  have hfl := T.flat_len j u
  have hfu := T.flat_len 0 u
  have hup := T.size_pos u
  have hsh := shift_flat (v := v) j u 0 hwu
  rw [Nat.add_zero] at hsh
  have hlow := flat_low u j hwu
  have hin : ∀ p ∈ u.flat j, p.ok := fun p hp => by
    rw [← h4] at hp
    exact hlet p (List.mem_of_mem_drop (List.mem_of_mem_take hp))
  have hS := hS.addSub (c := c) (i := ((j : Nat) : Int).toNat) (j := (((i : Nat) : Int) + 1).toNat) (size := 5) (A := A) (n := n) (List.mem_cons_self ..) (by omega) (by omega) hc
  rw [rxCells_sub] at hS
  have e1 : ((t.flat 0).drop ((j : Nat) : Int).toNat).take ((((i : Nat) : Int) + 1).toNat - ((j : Nat) : Int).toNat) = u.flat j := by
    rw [← h4]; congr 1; omega
  rw [e1] at hS
  replace hS := hS.rowNil 34 5
  refine E_r (m := 48) ?_ Try.func34 rfl Try.ntmps34 rfl; refine C_ft ?_
  repeat (first | (refine S_w ?_; first | (refine S_y hS ?_) | ((first | refine M_bA hS ?_ | refine M_b1 hS ?_ | refine M_aA hS ?_ | refine M_a1 hS ?_ | refine M_sl hS ?_ | refine M_s1 hS ?_ | refine M_mm hS ?_); clear hS; intro b w hS) | ((first | refine M_st hS ?_ | refine M_sA hS ?_ | refine M_in hS ?_ | refine M_sR hS ?_); clear hS; intro w hS; (try simp only [List.set_cons_zero, List.set_cons_succ, Nat.zero_add] at hS)) | (refine M_ap hS ?_; clear hS; intro g cap w hS) | refine M_pn ?_) | refine X_k (by (try simp only [Fm.toList, List.set_cons_succ, List.set_cons_zero]); exact rfl) ?_ | refine S_u ?_ | refine S_v ?_ | refine C_sq ?_ | refine C_rg ?_ | refine L_nil ?_ | refine C_bk ?_ | refine C_ct ?_ | refine C_cf ?_ | refine C_sk ?_ | refine C_ex ?_ | refine C_rt ?_ | refine X_e ?_ | refine X_r ?_ | refine X_bh ?_ | refine X_be ?_ | refine X_br ?_ | refine X_bn ?_ | refine X_p ?_ | refine X_bp ?_)
  refine C_lp [8, 1, 1, 2, 10, 28, 1] (fun s : Nat × Value => [(8, s.2), (22, .int .i64 (s.1 : Nat))])
    (fun s w' => s.1 ≤ u.size ∧ St Nof W [Res.row 34 5 s.2 s.1 (rxCells ((u.flat 0).take s.1)), Res.rd 5 (subA A c ((j : Nat) : Int).toNat 5) ((((i : Nat) : Int) + 1).toNat - ((j : Nat) : Int).toNat) (rxCells (u.flat j))] w') (fun s => u.size - s.1) (0, .slice none 0 0) ⟨Nat.zero_le _, by simpa [rxCells] using hS.sb⟩ ?_
  clear hS
  rintro ⟨q, r⟩ y w ⟨hq, hS⟩
  simp only at hq hS ⊢
  refine C_fs ?_
  obtain ⟨A7, c7, rfl, _, _⟩ := ownsRow_slice (hS.get (r := Res.row 34 5 r q (rxCells ((u.flat 0).take q))) (by repeat (first | exact List.Mem.head _ | assumption | apply List.Mem.tail)))
  by_cases hlt : q < u.size
  · obtain ⟨p, hp⟩ : ∃ p, (u.flat j)[q]? = some p := ⟨(u.flat j)[q], List.getElem?_eq_getElem (by omega)⟩
    have hpo := hin p (List.mem_of_getElem? hp)
    have hpl := hlow p (List.mem_of_getElem? hp)
    have hpd := rxCells_drop hp
    have hp0 : (u.flat 0)[q]? = some (shPc j p) := by rw [← hsh, List.getElem?_map, hp]; rfl
    have hsn := rxCells_snoc hp0
    have hlo := ops_look p.op
    have hk2 := kids_le p.op
    obtain ⟨op, pos, neg, pa, pb⟩ := p
    obtain ⟨g1, g2, g3, g4, g5⟩ := hpo
    simp only [pcV] at g1 g2 g3 g4 g5 hpl hlo hk2 hpd
    repeat (first | (refine S_w ?_; first | (refine S_y hS ?_) | ((first | refine M_bA hS ?_ | refine M_b1 hS ?_ | refine M_aA hS ?_ | refine M_a1 hS ?_ | refine M_sl hS ?_ | refine M_s1 hS ?_ | refine M_mm hS ?_); clear hS; intro b w hS) | ((first | refine M_st hS ?_ | refine M_sA hS ?_ | refine M_in hS ?_ | refine M_sR hS ?_); clear hS; intro w hS; (try simp only [List.set_cons_zero, List.set_cons_succ, Nat.zero_add] at hS)) | (refine M_ap hS ?_; clear hS; intro g cap w hS) | refine M_pn ?_) | refine X_k (by (try simp only [Fm.toList, List.set_cons_succ, List.set_cons_zero]); exact rfl) ?_ | refine S_u ?_ | refine S_v ?_ | refine C_sq ?_ | refine C_rg ?_ | refine L_nil ?_ | refine C_bk ?_ | refine C_ct ?_ | refine C_cf ?_ | refine C_sk ?_ | refine C_ex ?_ | refine C_rt ?_ | refine X_e ?_ | refine X_r ?_ | refine X_bh ?_ | refine X_be ?_ | refine X_br ?_ | refine X_bn ?_ | refine X_p ?_ | refine X_bp ?_)
    refine C_pl (.take 1 (.take 2 (.one 0 (.one 3 (.one 4 (.one 5 .done)))))) hS ?_; clear hS; intro w hS; (with_reducible apply P_t); rfl; refine P_y hS.sb (by first | exact Yfc | exact Yp) ?_; (with_reducible apply P_t); rfl; refine P_y hS.sb Yld ?_; (with_reducible apply P_one); rfl; refine P_f ?_; intro Q' hQ' hE'; refine S_w ?_; refine M_c (opsR _) ?_; rintro _ wo ⟨bm, rfl, hlo, hho, hfo⟩; have hS := hS.freshObj hfo hho hlo; clear hlo hho hfo; (try refine L_nil ?_); refine hQ' _ _ hS.sb ?_; clear hQ' hE'; (with_reducible apply P_one); rfl; refine P_f ?_; intro Q' hQ' hE'; refine S_w ?_; refine S_q hS Ymp ?_; (try refine L_nil ?_); refine hQ' _ _ hS.sb ?_; clear hQ' hE'; (with_reducible apply P_one); rfl; refine P_f ?_; intro Q' hQ' hE'; refine S_w ?_; refine S_q hS Yp ?_; (try refine L_nil ?_); refine hQ' _ _ hS.sb ?_; clear hQ' hE'; (with_reducible apply P_one); rfl; refine P_f ?_; intro Q' hQ' hE'; refine S_w ?_; refine S_q hS Yp ?_; (try refine L_nil ?_); refine hQ' _ _ hS.sb ?_; clear hQ' hE'; refine P_d ?_
    rcases (show kids op = 0 ∨ kids op = 1 ∨ kids op = 2 by omega) with hk | hk | hk
    · have hsv : pcV (shPc j ⟨op, pos, neg, pa, pb⟩) = [vb op, vb pos, vb neg, .int .i64 pa, .int .i64 pb] := by simp [shPc, pcV, hk]
      rw [hsv] at hsn
      repeat (first | (refine S_w ?_; first | (refine S_y hS ?_) | ((first | refine M_bA hS ?_ | refine M_b1 hS ?_ | refine M_aA hS ?_ | refine M_a1 hS ?_ | refine M_sl hS ?_ | refine M_s1 hS ?_ | refine M_mm hS ?_); clear hS; intro b w hS) | ((first | refine M_st hS ?_ | refine M_sA hS ?_ | refine M_in hS ?_ | refine M_sR hS ?_); clear hS; intro w hS; (try simp only [List.set_cons_zero, List.set_cons_succ, Nat.zero_add] at hS)) | (refine M_ap hS ?_; clear hS; intro g cap w hS) | refine M_pn ?_) | refine X_k (by (try simp only [Fm.toList, List.set_cons_succ, List.set_cons_zero]); exact rfl) ?_ | refine S_u ?_ | refine S_v ?_ | refine C_sq ?_ | refine C_rg ?_ | refine L_nil ?_ | refine C_bk ?_ | refine C_ct ?_ | refine C_cf ?_ | refine C_sk ?_ | refine C_ex ?_ | refine C_rt ?_ | refine X_e ?_ | refine X_r ?_ | refine X_bh ?_ | refine X_be ?_ | refine X_br ?_ | refine X_bn ?_ | refine X_p ?_ | refine X_bp ?_)
      refine R_e (q + 1, .slice (some ⟨g, 0, none⟩) (q + 1) cap) ⟨by simp only; omega, ?_⟩ (by simp only; omega)
      rw [hsn]
      exact hS.sb
    · have hsv : pcV (shPc j ⟨op, pos, neg, pa, pb⟩) = [vb op, vb pos, vb neg, .int .i64 (pa - j), .int .i64 pb] := by simp [shPc, pcV, hk]
      rw [hsv] at hsn
      have hpl1 := hpl.1 (by omega)
      repeat (first | (refine S_w ?_; first | (refine S_y hS ?_) | ((first | refine M_bA hS ?_ | refine M_b1 hS ?_ | refine M_aA hS ?_ | refine M_a1 hS ?_ | refine M_sl hS ?_ | refine M_s1 hS ?_ | refine M_mm hS ?_); clear hS; intro b w hS) | ((first | refine M_st hS ?_ | refine M_sA hS ?_ | refine M_in hS ?_ | refine M_sR hS ?_); clear hS; intro w hS; (try simp only [List.set_cons_zero, List.set_cons_succ, Nat.zero_add] at hS)) | (refine M_ap hS ?_; clear hS; intro g cap w hS) | refine M_pn ?_) | refine X_k (by (try simp only [Fm.toList, List.set_cons_succ, List.set_cons_zero]); exact rfl) ?_ | refine S_u ?_ | refine S_v ?_ | refine C_sq ?_ | refine C_rg ?_ | refine L_nil ?_ | refine C_bk ?_ | refine C_ct ?_ | refine C_cf ?_ | refine C_sk ?_ | refine C_ex ?_ | refine C_rt ?_ | refine X_e ?_ | refine X_r ?_ | refine X_bh ?_ | refine X_be ?_ | refine X_br ?_ | refine X_bn ?_ | refine X_p ?_ | refine X_bp ?_)
      refine R_e (q + 1, .slice (some ⟨g, 0, none⟩) (q + 1) cap) ⟨by simp only; omega, ?_⟩ (by simp only; omega)
      rw [hsn]
      exact hS.sb
    · have hsv : pcV (shPc j ⟨op, pos, neg, pa, pb⟩) = [vb op, vb pos, vb neg, .int .i64 (pa - j), .int .i64 (pb - j)] := by simp [shPc, pcV, hk]
      rw [hsv] at hsn
      have hpl1 := hpl.1 (by omega)
      have hpl2 := hpl.2 (by omega)
      repeat (first | (refine S_w ?_; first | (refine S_y hS ?_) | ((first | refine M_bA hS ?_ | refine M_b1 hS ?_ | refine M_aA hS ?_ | refine M_a1 hS ?_ | refine M_sl hS ?_ | refine M_s1 hS ?_ | refine M_mm hS ?_); clear hS; intro b w hS) | ((first | refine M_st hS ?_ | refine M_sA hS ?_ | refine M_in hS ?_ | refine M_sR hS ?_); clear hS; intro w hS; (try simp only [List.set_cons_zero, List.set_cons_succ, Nat.zero_add] at hS)) | (refine M_ap hS ?_; clear hS; intro g cap w hS) | refine M_pn ?_) | refine X_k (by (try simp only [Fm.toList, List.set_cons_succ, List.set_cons_zero]); exact rfl) ?_ | refine S_u ?_ | refine S_v ?_ | refine C_sq ?_ | refine C_rg ?_ | refine L_nil ?_ | refine C_bk ?_ | refine C_ct ?_ | refine C_cf ?_ | refine C_sk ?_ | refine C_ex ?_ | refine C_rt ?_ | refine X_e ?_ | refine X_r ?_ | refine X_bh ?_ | refine X_be ?_ | refine X_br ?_ | refine X_bn ?_ | refine X_p ?_ | refine X_bp ?_)
      refine R_e (q + 1, .slice (some ⟨g, 0, none⟩) (q + 1) cap) ⟨by simp only; omega, ?_⟩ (by simp only; omega)
      rw [hsn]
      exact hS.sb
  · obtain rfl : q = u.size := by omega
    rw [List.take_of_length_le (by omega)] at hS
    repeat (first | (refine S_w ?_; first | (refine S_y hS ?_) | ((first | refine M_bA hS ?_ | refine M_b1 hS ?_ | refine M_aA hS ?_ | refine M_a1 hS ?_ | refine M_sl hS ?_ | refine M_s1 hS ?_ | refine M_mm hS ?_); clear hS; intro b w hS) | ((first | refine M_st hS ?_ | refine M_sA hS ?_ | refine M_in hS ?_ | refine M_sR hS ?_); clear hS; intro w hS; (try simp only [List.set_cons_zero, List.set_cons_succ, Nat.zero_add] at hS)) | (refine M_ap hS ?_; clear hS; intro g cap w hS) | refine M_pn ?_) | refine X_k (by (try simp only [Fm.toList, List.set_cons_succ, List.set_cons_zero]); exact rfl) ?_ | refine S_u ?_ | refine S_v ?_ | refine C_sq ?_ | refine C_rg ?_ | refine L_nil ?_ | refine C_bk ?_ | refine C_ct ?_ | refine C_cf ?_ | refine C_sk ?_ | refine C_ex ?_ | refine C_rt ?_ | refine X_e ?_ | refine X_r ?_ | refine X_bh ?_ | refine X_be ?_ | refine X_br ?_ | refine X_bn ?_ | refine X_p ?_ | refine X_bp ?_)
    refine V_1 ⟨A7, c7, rfl, hS.rowOwnM, hS.fr⟩
/-- what Block answers -/
def blkE (L : List Pc) (v i : Int) : Int := if chkR L v ≠ 0 then chkR L v else if i < 0 ∨ (L.length : Int) ≤ i then 8 else 0
def blkL (L : List Pc) (v i : Int) : List Pc := if blkE L v i = 0 then (match treeOf L v with
  | some t => (t.sub 0 i.toNat).2.flat 0
  | none => []) else []
def BkPost (L : List Pc) (v i : Int) (W : World) (r : Value) (w' : World) : Prop :=
  ∃ A c, r = .tuple #[.slice A (blkL L v i).length c, .int .i64 (blkE L v i)] ∧ w'.ownsRow W.heap.size 34 5 (.slice A (blkL L v i).length c) (blkL L v i).length (rxCells (blkL L v i)) ∧ Fr Nof W w'
theorem blk_bad {L : List Pc} {v i e : Int} {W w' : World} (h : blkE L v i = e) (he : e ≠ 0) (hf : Fr Nof W w') : BkPost L v i W (.tuple #[.slice none 0 0, .int .i64 e]) w' := by
  have h0 : blkL L v i = [] := if_neg (by rw [h]; exact he)
  refine ⟨none, 0, ?_, ?_, hf⟩
  · rw [h0, h]; rfl
  · rw [h0]; exact World.ownsRow_nil _ _ _ _
set_option maxHeartbeats 4000000 in
set_option maxRecDepth 100000 in
theorem blockR (A : Option Addr) (n c : Nat) (L : List Pc) (v i : Int) (W : World) (hA : Rd W 5 A n (rxCells L)) (hL : ∀ p ∈ L, p.ok) (hn : n ≤ 4294967296) (hc : n ≤ c) :
    CallsR Try.prog 12 #[.slice A n c, .int .i64 v, .int .i64 i] W (BkPost L v i W) := by
  have hl : L.length = n := by have := hA.1; rw [rxCells_len] at this; omega
  have hS := (St.start Nof W).addRo (r := Res.rd 5 A n (rxCells L)) hA rfl (fun _ h => by cases h)
  refine E_r (m := 30) ?_ Try.func12 rfl Try.ntmps12 rfl; refine C_ft ?_
  repeat (first | (refine S_w ?_; first | (refine M_c (checkR A n c L v _ ((inferInstance : HasSl _ A _ _ _).rd hS) hL hn) ?_) | (refine S_y hS ?_) | ((first | refine M_bA hS ?_ | refine M_b1 hS ?_ | refine M_aA hS ?_ | refine M_a1 hS ?_ | refine M_sl hS ?_ | refine M_s1 hS ?_ | refine M_mm hS ?_); clear hS; intro b w hS) | ((first | refine M_st hS ?_ | refine M_sA hS ?_ | refine M_in hS ?_ | refine M_sR hS ?_); clear hS; intro w hS; (try simp only [List.set_cons_zero, List.set_cons_succ, Nat.zero_add] at hS)) | (refine M_ap hS ?_; clear hS; intro g cap w hS) | refine M_pn ?_) | refine X_k (by (try simp only [Fm.toList, List.set_cons_succ, List.set_cons_zero]); exact rfl) ?_ | refine S_u ?_ | refine S_v ?_ | refine C_sq ?_ | refine C_rg ?_ | refine L_nil ?_ | refine C_bk ?_ | refine C_ct ?_ | refine C_cf ?_ | refine C_sk ?_ | refine C_ex ?_ | refine C_rt ?_ | refine X_e ?_ | refine X_r ?_ | refine X_bh ?_ | refine X_be ?_ | refine X_br ?_ | refine X_bn ?_ | refine X_p ?_ | refine X_bp ?_)
  rintro _ w1 ⟨A1, c1, rfl, hown, hb1⟩
  by_cases he : chkR L v = 0
  · obtain ⟨t, hst, h1, h2, h3, rfl, hv⟩ := chk_tree he
    have hsz : t.size = n := by rw [← hl, T.flat_len]
    have hF : chkF (t.flat 0) v = ints [t] := by rw [chkF, if_pos he, hst]
    have hFl : (ints [t]).length = n := by rw [ints_len]; simpa [stkSize] using hsz
    rw [hF, hFl] at hown
    have hS := hS.freshRow hb1.below hown
    rw [he, hF, hFl]
    by_cases hi : i < 0 ∨ (n : Int) ≤ i
    · have hE : blkE (t.flat 0) v i = 8 := by rw [blkE, if_neg (by simpa using he), if_pos (by rw [hl]; exact hi)]
      rcases hi with hi | hi
      all_goals
        repeat (first | (refine S_w ?_; first | (refine S_y hS ?_) | ((first | refine M_bA hS ?_ | refine M_b1 hS ?_ | refine M_aA hS ?_ | refine M_a1 hS ?_ | refine M_sl hS ?_ | refine M_s1 hS ?_ | refine M_mm hS ?_); clear hS; intro b w hS) | ((first | refine M_st hS ?_ | refine M_sA hS ?_ | refine M_in hS ?_ | refine M_sR hS ?_); clear hS; intro w hS; (try simp only [List.set_cons_zero, List.set_cons_succ, Nat.zero_add] at hS)) | (refine M_ap hS ?_; clear hS; intro g cap w hS) | refine M_pn ?_) | refine X_k (by (try simp only [Fm.toList, List.set_cons_succ, List.set_cons_zero]); exact rfl) ?_ | refine S_u ?_ | refine S_v ?_ | refine C_sq ?_ | refine C_rg ?_ | refine L_nil ?_ | refine C_bk ?_ | refine C_ct ?_ | refine C_cf ?_ | refine C_sk ?_ | refine C_ex ?_ | refine C_rt ?_ | refine X_e ?_ | refine X_r ?_ | refine X_bh ?_ | refine X_be ?_ | refine X_br ?_ | refine X_bn ?_ | refine X_p ?_ | refine X_bp ?_)
        refine V_2 (blk_bad hE (by decide) hS.fr)
    · obtain ⟨k, rfl⟩ := Int.eq_ofNat_of_zero_le (show 0 ≤ i by omega)
      have hE : blkE (t.flat 0) v k = 0 := by rw [blkE, if_neg (by simpa using he), if_neg (by rw [hl]; exact hi)]
      have hB : blkL (t.flat 0) v k = (t.sub 0 k).2.flat 0 := by rw [blkL, if_pos hE, fmtR_tree hv h1 h2 h3]; rfl
      repeat (first | (refine S_w ?_; first | (refine M_c (rxCutR A A1 n c n c1 t v k _ ((inferInstance : HasSl _ A _ _ _).rd hS) ((inferInstance : HasSl _ A1 _ _ _).rd hS) h1 (by omega) hc (by omega) hL) ?_) | (refine S_y hS ?_) | ((first | refine M_bA hS ?_ | refine M_b1 hS ?_ | refine M_aA hS ?_ | refine M_a1 hS ?_ | refine M_sl hS ?_ | refine M_s1 hS ?_ | refine M_mm hS ?_); clear hS; intro b w hS) | ((first | refine M_st hS ?_ | refine M_sA hS ?_ | refine M_in hS ?_ | refine M_sR hS ?_); clear hS; intro w hS; (try simp only [List.set_cons_zero, List.set_cons_succ, Nat.zero_add] at hS)) | (refine M_ap hS ?_; clear hS; intro g cap w hS) | refine M_pn ?_) | refine X_k (by (try simp only [Fm.toList, List.set_cons_succ, List.set_cons_zero]); exact rfl) ?_ | refine S_u ?_ | refine S_v ?_ | refine C_sq ?_ | refine C_rg ?_ | refine L_nil ?_ | refine C_bk ?_ | refine C_ct ?_ | refine C_cf ?_ | refine C_sk ?_ | refine C_ex ?_ | refine C_rt ?_ | refine X_e ?_ | refine X_r ?_ | refine X_bh ?_ | refine X_be ?_ | refine X_br ?_ | refine X_bn ?_ | refine X_p ?_ | refine X_bp ?_)
      rintro _ w2 ⟨A2, c2, rfl, hown2, hb2⟩
      have hS := hS.freshRow hb2.below hown2
      repeat (first | (refine S_w ?_; first | (refine S_y hS ?_) | ((first | refine M_bA hS ?_ | refine M_b1 hS ?_ | refine M_aA hS ?_ | refine M_a1 hS ?_ | refine M_sl hS ?_ | refine M_s1 hS ?_ | refine M_mm hS ?_); clear hS; intro b w hS) | ((first | refine M_st hS ?_ | refine M_sA hS ?_ | refine M_in hS ?_ | refine M_sR hS ?_); clear hS; intro w hS; (try simp only [List.set_cons_zero, List.set_cons_succ, Nat.zero_add] at hS)) | (refine M_ap hS ?_; clear hS; intro g cap w hS) | refine M_pn ?_) | refine X_k (by (try simp only [Fm.toList, List.set_cons_succ, List.set_cons_zero]); exact rfl) ?_ | refine S_u ?_ | refine S_v ?_ | refine C_sq ?_ | refine C_rg ?_ | refine L_nil ?_ | refine C_bk ?_ | refine C_ct ?_ | refine C_cf ?_ | refine C_sk ?_ | refine C_ex ?_ | refine C_rt ?_ | refine X_e ?_ | refine X_r ?_ | refine X_bh ?_ | refine X_be ?_ | refine X_br ?_ | refine X_bn ?_ | refine X_p ?_ | refine X_bp ?_)
      refine V_2 ⟨A2, c2, by rw [hB, hE, T.flat_len], ?_, hS.fr⟩
      rw [hB, T.flat_len]
      exact hS.rowOwnM
  · have hE : blkE L v i = chkR L v := if_pos he
    have hS := hS.call hb1
    repeat (first | (refine S_w ?_; first | (refine S_y hS ?_) | ((first | refine M_bA hS ?_ | refine M_b1 hS ?_ | refine M_aA hS ?_ | refine M_a1 hS ?_ | refine M_sl hS ?_ | refine M_s1 hS ?_ | refine M_mm hS ?_); clear hS; intro b w hS) | ((first | refine M_st hS ?_ | refine M_sA hS ?_ | refine M_in hS ?_ | refine M_sR hS ?_); clear hS; intro w hS; (try simp only [List.set_cons_zero, List.set_cons_succ, Nat.zero_add] at hS)) | (refine M_ap hS ?_; clear hS; intro g cap w hS) | refine M_pn ?_) | refine X_k (by (try simp only [Fm.toList, List.set_cons_succ, List.set_cons_zero]); exact rfl) ?_ | refine S_u ?_ | refine S_v ?_ | refine C_sq ?_ | refine C_rg ?_ | refine L_nil ?_ | refine C_bk ?_ | refine C_ct ?_ | refine C_cf ?_ | refine C_sk ?_ | refine C_ex ?_ | refine C_rt ?_ | refine X_e ?_ | refine X_r ?_ | refine X_bh ?_ | refine X_be ?_ | refine X_br ?_ | refine X_bn ?_ | refine X_p ?_ | refine X_bp ?_)
    refine V_2 (blk_bad hE he hS.fr)
end Go.Proofs.Ytcholfpomalgdaa
