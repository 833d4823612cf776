/-
  The reference's join, derive, Derive.
-/
import Derived.Test.YtebdkmfgfjanoaaRmAcc
import Derived.Test.YtebdkmfgfjanoaaRfRev
import Derived.Test.YtebdkmfgfjanoaaMtDer3
namespace Go.Proofs.Ytebdkmfgfjanoaa
open Go.RowKit

set_option maxHeartbeats 8000000 in
set_option maxRecDepth 100000 in
theorem jnR1 (A : Option Addr) (n c op : Nat) (L : List Pc) (W : World) (hA : Rd W 5 A n (rxCells L)) (hop : op < 256) (h0 : 0 < n) (hn : n ≤ 1000000) :
    CallsR Try.prog 57 #[vb op, .slice A n c, .slice none 0 0] W fun r w' => ∃ A' c', r = .slice A' (n + 1) c' ∧ w'.ownsRow W.heap.size 55 5 (.slice A' (n + 1) c') (n + 1) (rxCells (L ++ [⟨op, 0, 0, (n : Int) - 1, 0⟩])) ∧ Fr Nof W w' := by
  have hl : L.length = n := by have := hA.1; rw [rxCells_len] at this; omega
  have h1 := rxCells_one L
  have hS := ((St.start Nof W).addRo (r := Res.rd 5 A n (rxCells L)) hA rfl (fun _ h => by cases h)).rowNil 55 5
  have hcs : rxCells (L ++ [⟨op, 0, 0, (n : Int) - 1, 0⟩]) = rxCells L ++ [vb op, vb 0, vb 0, .int .i64 ((n : Int) - 1), .int .i64 0] := by rw [rxCells_append]; simp [rxCells, pcV]
  rw [hcs]
  refine E_r (m := 65) ?_ Try.func57 rfl Try.ntmps57 rfl; refine C_ft ?_
  repeat (first | (refine S_w ?_; first | (refine M_aR hS ?_; clear hS; intro g cap w hS) | (refine S_y hS ?_) | ((first | refine M_bA hS ?_ | refine M_b1 hS ?_ | refine M_aA hS ?_ | refine M_a1 hS ?_ | refine M_sl hS ?_ | refine M_s1 hS ?_ | refine M_mm hS ?_); clear hS; intro b w hS) | ((first | refine M_st hS ?_ | refine M_sA hS ?_ | refine M_in hS ?_ | refine M_sR hS ?_); clear hS; intro w hS; (try simp only [List.set_cons_zero, List.set_cons_succ, Nat.zero_add] at hS)) | (refine M_ap hS ?_; clear hS; intro g cap w hS) | refine M_pn ?_) | refine X_k (by (try simp only [Fm.toList, List.set_cons_succ, List.set_cons_zero]); exact rfl) ?_ | refine S_u ?_ | refine S_v ?_ | refine C_sq ?_ | refine C_rg ?_ | refine L_nil ?_ | refine C_bk ?_ | refine C_ct ?_ | refine C_cf ?_ | refine C_sk ?_ | refine C_ex ?_ | refine C_rt ?_ | refine X_e ?_ | refine X_r ?_ | refine X_bh ?_ | refine X_be ?_ | refine X_br ?_ | refine X_bn ?_ | refine X_p ?_ | refine X_bp ?_)
  rw [Nat.zero_add, List.nil_append] at hS
  rw [Nat.zero_add]
  have hS0 := hS
  refine C_lp [7, 3, 2, 34, 22] (fun i : Nat => [(7, .slice (some ⟨g, 0, none⟩) n cap), (8, .int .i64 (i : Nat))]) (fun i w' => i = 0 ∧ St Nof W [Res.row 55 5 (.slice (some ⟨g, 0, none⟩) n cap) n (rxCells L), Res.rd 5 A n (rxCells L)] w') (fun i => i) 0 ⟨rfl, hS⟩ ?_
  clear hS hS0
  rintro i y w ⟨rfl, hS⟩
  refine C_fs ?_
  repeat (first | (refine S_w ?_; first | (refine S_y hS ?_) | ((first | refine M_bA hS ?_ | refine M_b1 hS ?_ | refine M_aA hS ?_ | refine M_a1 hS ?_ | refine M_sl hS ?_ | refine M_s1 hS ?_ | refine M_mm hS ?_); clear hS; intro b w hS) | ((first | refine M_st hS ?_ | refine M_sA hS ?_ | refine M_in hS ?_ | refine M_sR hS ?_); clear hS; intro w hS; (try simp only [List.set_cons_zero, List.set_cons_succ, Nat.zero_add] at hS)) | (refine M_ap hS ?_; clear hS; intro g cap w hS) | refine M_pn ?_) | refine X_k (by (try simp only [Fm.toList, List.set_cons_succ, List.set_cons_zero]); exact rfl) ?_ | refine S_u ?_ | refine S_v ?_ | refine C_sq ?_ | refine C_rg ?_ | refine L_nil ?_ | refine C_bk ?_ | refine C_ct ?_ | refine C_cf ?_ | refine C_sk ?_ | refine C_ex ?_ | refine C_rt ?_ | refine X_e ?_ | refine X_r ?_ | refine X_bh ?_ | refine X_be ?_ | refine X_br ?_ | refine X_bn ?_ | refine X_p ?_ | refine X_bp ?_)
  refine V_1 ⟨_, _, rfl, hS.rowOwnM, hS.fr⟩
set_option maxHeartbeats 8000000 in
set_option maxRecDepth 100000 in
theorem jnR2 (A B : Option Addr) (n c m d op : Nat) (L : List Pc) (t : T) (v : Int) (W : World) (hA : Rd W 5 A n (rxCells L)) (hB : Rd W 5 B m (rxCells (t.flat 0))) (hw : t.wf v) (hlet : ∀ p ∈ t.flat 0, p.ok) (hm : t.size = m) (hop : op < 256) (h0 : 0 < n) (hn : n ≤ 1000000) (hm2 : m ≤ 1000000) :
    CallsR Try.prog 57 #[vb op, .slice A n c, .slice B m d] W fun r w' => ∃ A' c', r = .slice A' (n + m + 1) c' ∧ w'.ownsRow W.heap.size 55 5 (.slice A' (n + m + 1) c') (n + m + 1) (rxCells (L ++ t.flat n ++ [⟨op, 0, 0, (n : Int) - 1, ((n + m : Nat) : Int) - 1⟩])) ∧ Fr Nof W w' := by
  have hl : L.length = n := by have := hA.1; rw [rxCells_len] at this; omega
  have h1 := rxCells_one L
  have hpos := T.size_pos t
  have hfl := T.flat_len 0 t
  have hfn := T.flat_len n t
  have hup : (t.flat 0).map (upPc n) = t.flat n := up_flat (v := v) n t 0 hw
  have hlow := flat_low t 0 hw
  have hhigh := flat_high t 0 hw
  have hops := wf_ops t 0 hw
  have hS := (((St.start Nof W).addRo (r := Res.rd 5 B m (rxCells (t.flat 0))) hB rfl (fun _ h => by cases h)).addRo (r := Res.rd 5 A n (rxCells L)) hA rfl (fun s h hro => by
    rcases List.mem_cons.1 h with rfl | h
    · cases hro
    · cases h)).rowNil 55 5
  have hcs : rxCells (L ++ t.flat n ++ [⟨op, 0, 0, (n : Int) - 1, ((n + m : Nat) : Int) - 1⟩]) = rxCells (L ++ t.flat n) ++ [vb op, vb 0, vb 0, .int .i64 ((n : Int) - 1), .int .i64 (((n + m : Nat) : Int) - 1)] := by rw [rxCells_append]; simp [rxCells, pcV]
  rw [hcs]
  refine E_r (m := 65) ?_ Try.func57 rfl Try.ntmps57 rfl; refine C_ft ?_
  repeat (first | (refine S_w ?_; first | (refine M_aR hS ?_; clear hS; intro g cap w hS) | (refine S_y hS ?_) | ((first | refine M_bA hS ?_ | refine M_b1 hS ?_ | refine M_aA hS ?_ | refine M_a1 hS ?_ | refine M_sl hS ?_ | refine M_s1 hS ?_ | refine M_mm hS ?_); clear hS; intro b w hS) | ((first | refine M_st hS ?_ | refine M_sA hS ?_ | refine M_in hS ?_ | refine M_sR hS ?_); clear hS; intro w hS; (try simp only [List.set_cons_zero, List.set_cons_succ, Nat.zero_add] at hS)) | (refine M_ap hS ?_; clear hS; intro g cap w hS) | refine M_pn ?_) | refine X_k (by (try simp only [Fm.toList, List.set_cons_succ, List.set_cons_zero]); exact rfl) ?_ | refine S_u ?_ | refine S_v ?_ | refine C_sq ?_ | refine C_rg ?_ | refine L_nil ?_ | refine C_bk ?_ | refine C_ct ?_ | refine C_cf ?_ | refine C_sk ?_ | refine C_ex ?_ | refine C_rt ?_ | refine X_e ?_ | refine X_r ?_ | refine X_bh ?_ | refine X_be ?_ | refine X_br ?_ | refine X_bn ?_ | refine X_p ?_ | refine X_bp ?_)
  rw [Nat.zero_add, List.nil_append] at hS
  rw [Nat.zero_add]
  refine C_lp [7, 3, 2, 34, 22] (fun s : Nat × Value => [(7, s.2), (8, .int .i64 (s.1 : Nat))]) (fun s w' => s.1 ≤ m ∧ St Nof W [Res.row 55 5 s.2 (n + s.1) (rxCells (L ++ (t.flat n).take s.1)), Res.rd 5 A n (rxCells L), Res.rd 5 B m (rxCells (t.flat 0))] w') (fun s => m - s.1) (0, .slice (some ⟨g, 0, none⟩) n cap) ⟨Nat.zero_le _, by simpa using hS⟩ ?_
  clear hS
  rintro ⟨q, r⟩ y w ⟨hq, hS⟩
  simp only at hq hS ⊢
  refine C_fs ?_
  obtain ⟨A7, c7, rfl, _, _⟩ := ownsRow_slice (hS.get (r := Res.row 55 5 r (n + q) (rxCells (L ++ (t.flat n).take q))) (by repeat (first | exact List.Mem.head _ | assumption | apply List.Mem.tail)))
  by_cases hlt : q < m
  · obtain ⟨p, hp⟩ : ∃ p, (t.flat 0)[q]? = some p := ⟨(t.flat 0)[q], List.getElem?_eq_getElem (by omega)⟩
    have hpo := hlet p (List.mem_of_getElem? hp)
    have hpl := hlow p (List.mem_of_getElem? hp)
    have hph := hhigh p (List.mem_of_getElem? hp)
    have hpd := rxCells_drop hp
    have hp0 : (t.flat n)[q]? = some (upPc n p) := by rw [← hup, List.getElem?_map, hp]; rfl
    have hsn : rxCells (L ++ (t.flat n).take (q + 1)) = rxCells (L ++ (t.flat n).take q) ++ pcV (upPc n p) := by
      rw [rxCells_append, rxSnoc hp0, rxCells_append, List.append_assoc]
    have hk2 := kids_le p.op
    have hop10 := hops p (List.mem_of_getElem? hp)
    have hch : ∀ w, CallsR Try.prog 65 #[vb p.op] w fun r w' => r = .int .i64 (kids p.op : Nat) ∧ Fr Nof w w' := fun w => by
      rw [← chN_kids hop10]; exact childrenR p.op hpo.op w
    obtain ⟨po, pos, neg, pa, pb⟩ := p
    obtain ⟨g1, g2, g3, g4, g5⟩ := hpo
    simp only [pcV] at g1 g2 g3 g4 g5 hpl hph hk2 hpd hch
    rcases (show kids po = 0 ∨ kids po = 1 ∨ kids po = 2 by omega) with hk | hk | hk
    · have hsv : pcV (upPc n ⟨po, pos, neg, pa, pb⟩) = [vb po, vb pos, vb neg, .int .i64 pa, .int .i64 pb] := by simp [upPc, pcV, hk]
      rw [hsv] at hsn
      rw [hk] at hch
      repeat (first | (refine S_w ?_; first | (refine M_c (hch _) ?_) | (refine S_y hS ?_) | ((first | refine M_bA hS ?_ | refine M_b1 hS ?_ | refine M_aA hS ?_ | refine M_a1 hS ?_ | refine M_sl hS ?_ | refine M_s1 hS ?_ | refine M_mm hS ?_); clear hS; intro b w hS) | ((first | refine M_st hS ?_ | refine M_sA hS ?_ | refine M_in hS ?_ | refine M_sR hS ?_); clear hS; intro w hS; (try simp only [List.set_cons_zero, List.set_cons_succ, Nat.zero_add] at hS)) | (refine M_ap hS ?_; clear hS; intro g cap w hS) | refine M_pn ?_) | refine X_k (by (try simp only [Fm.toList, List.set_cons_succ, List.set_cons_zero]); exact rfl) ?_ | refine S_u ?_ | refine S_v ?_ | refine C_sq ?_ | refine C_rg ?_ | refine L_nil ?_ | refine C_bk ?_ | refine C_ct ?_ | refine C_cf ?_ | refine C_sk ?_ | refine C_ex ?_ | refine C_rt ?_ | refine X_e ?_ | refine X_r ?_ | refine X_bh ?_ | refine X_be ?_ | refine X_br ?_ | refine X_bn ?_ | refine X_p ?_ | refine X_bp ?_)
      rintro _ w2 ⟨rfl, hb2⟩
      have hS := hS.call hb2
      repeat (first | (refine S_w ?_; first | (refine M_c (hch _) ?_) | (refine S_y hS ?_) | ((first | refine M_bA hS ?_ | refine M_b1 hS ?_ | refine M_aA hS ?_ | refine M_a1 hS ?_ | refine M_sl hS ?_ | refine M_s1 hS ?_ | refine M_mm hS ?_); clear hS; intro b w hS) | ((first | refine M_st hS ?_ | refine M_sA hS ?_ | refine M_in hS ?_ | refine M_sR hS ?_); clear hS; intro w hS; (try simp only [List.set_cons_zero, List.set_cons_succ, Nat.zero_add] at hS)) | (refine M_ap hS ?_; clear hS; intro g cap w hS) | refine M_pn ?_) | refine X_k (by (try simp only [Fm.toList, List.set_cons_succ, List.set_cons_zero]); exact rfl) ?_ | refine S_u ?_ | refine S_v ?_ | refine C_sq ?_ | refine C_rg ?_ | refine L_nil ?_ | refine C_bk ?_ | refine C_ct ?_ | refine C_cf ?_ | refine C_sk ?_ | refine C_ex ?_ | refine C_rt ?_ | refine X_e ?_ | refine X_r ?_ | refine X_bh ?_ | refine X_be ?_ | refine X_br ?_ | refine X_bn ?_ | refine X_p ?_ | refine X_bp ?_)
      rintro _ w3 ⟨rfl, hb3⟩
      have hS := hS.call hb3
      repeat (first | (refine S_w ?_; first | (refine S_y hS ?_) | ((first | refine M_bA hS ?_ | refine M_b1 hS ?_ | refine M_aA hS ?_ | refine M_a1 hS ?_ | refine M_sl hS ?_ | refine M_s1 hS ?_ | refine M_mm hS ?_); clear hS; intro b w hS) | ((first | refine M_st hS ?_ | refine M_sA hS ?_ | refine M_in hS ?_ | refine M_sR hS ?_); clear hS; intro w hS; (try simp only [List.set_cons_zero, List.set_cons_succ, Nat.zero_add] at hS)) | (refine M_ap hS ?_; clear hS; intro g cap w hS) | refine M_pn ?_) | refine X_k (by (try simp only [Fm.toList, List.set_cons_succ, List.set_cons_zero]); exact rfl) ?_ | refine S_u ?_ | refine S_v ?_ | refine C_sq ?_ | refine C_rg ?_ | refine L_nil ?_ | refine C_bk ?_ | refine C_ct ?_ | refine C_cf ?_ | refine C_sk ?_ | refine C_ex ?_ | refine C_rt ?_ | refine X_e ?_ | refine X_r ?_ | refine X_bh ?_ | refine X_be ?_ | refine X_br ?_ | refine X_bn ?_ | refine X_p ?_ | refine X_bp ?_)
      refine R_e (q + 1, .slice (some ⟨g, 0, none⟩) (n + q + 1) cap) ⟨by simp only; omega, ?_⟩ (by simp only; omega)
      simp only
      rw [hsn]
      exact hS.sb
    · have hsv : pcV (upPc n ⟨po, pos, neg, pa, pb⟩) = [vb po, vb pos, vb neg, .int .i64 (pa + n), .int .i64 pb] := by simp [upPc, pcV, hk]
      rw [hsv] at hsn
      rw [hk] at hch
      have hpl1 := hpl.1 (by omega)
      repeat (first | (refine S_w ?_; first | (refine M_c (hch _) ?_) | (refine S_y hS ?_) | ((first | refine M_bA hS ?_ | refine M_b1 hS ?_ | refine M_aA hS ?_ | refine M_a1 hS ?_ | refine M_sl hS ?_ | refine M_s1 hS ?_ | refine M_mm hS ?_); clear hS; intro b w hS) | ((first | refine M_st hS ?_ | refine M_sA hS ?_ | refine M_in hS ?_ | refine M_sR hS ?_); clear hS; intro w hS; (try simp only [List.set_cons_zero, List.set_cons_succ, Nat.zero_add] at hS)) | (refine M_ap hS ?_; clear hS; intro g cap w hS) | refine M_pn ?_) | refine X_k (by (try simp only [Fm.toList, List.set_cons_succ, List.set_cons_zero]); exact rfl) ?_ | refine S_u ?_ | refine S_v ?_ | refine C_sq ?_ | refine C_rg ?_ | refine L_nil ?_ | refine C_bk ?_ | refine C_ct ?_ | refine C_cf ?_ | refine C_sk ?_ | refine C_ex ?_ | refine C_rt ?_ | refine X_e ?_ | refine X_r ?_ | refine X_bh ?_ | refine X_be ?_ | refine X_br ?_ | refine X_bn ?_ | refine X_p ?_ | refine X_bp ?_)
      rintro _ w2 ⟨rfl, hb2⟩
      have hS := hS.call hb2
      repeat (first | (refine S_w ?_; first | (refine M_c (hch _) ?_) | (refine S_y hS ?_) | ((first | refine M_bA hS ?_ | refine M_b1 hS ?_ | refine M_aA hS ?_ | refine M_a1 hS ?_ | refine M_sl hS ?_ | refine M_s1 hS ?_ | refine M_mm hS ?_); clear hS; intro b w hS) | ((first | refine M_st hS ?_ | refine M_sA hS ?_ | refine M_in hS ?_ | refine M_sR hS ?_); clear hS; intro w hS; (try simp only [List.set_cons_zero, List.set_cons_succ, Nat.zero_add] at hS)) | (refine M_ap hS ?_; clear hS; intro g cap w hS) | refine M_pn ?_) | refine X_k (by (try simp only [Fm.toList, List.set_cons_succ, List.set_cons_zero]); exact rfl) ?_ | refine S_u ?_ | refine S_v ?_ | refine C_sq ?_ | refine C_rg ?_ | refine L_nil ?_ | refine C_bk ?_ | refine C_ct ?_ | refine C_cf ?_ | refine C_sk ?_ | refine C_ex ?_ | refine C_rt ?_ | refine X_e ?_ | refine X_r ?_ | refine X_bh ?_ | refine X_be ?_ | refine X_br ?_ | refine X_bn ?_ | refine X_p ?_ | refine X_bp ?_)
      rintro _ w3 ⟨rfl, hb3⟩
      have hS := hS.call hb3
      repeat (first | (refine S_w ?_; first | (refine S_y hS ?_) | ((first | refine M_bA hS ?_ | refine M_b1 hS ?_ | refine M_aA hS ?_ | refine M_a1 hS ?_ | refine M_sl hS ?_ | refine M_s1 hS ?_ | refine M_mm hS ?_); clear hS; intro b w hS) | ((first | refine M_st hS ?_ | refine M_sA hS ?_ | refine M_in hS ?_ | refine M_sR hS ?_); clear hS; intro w hS; (try simp only [List.set_cons_zero, List.set_cons_succ, Nat.zero_add] at hS)) | (refine M_ap hS ?_; clear hS; intro g cap w hS) | refine M_pn ?_) | refine X_k (by (try simp only [Fm.toList, List.set_cons_succ, List.set_cons_zero]); exact rfl) ?_ | refine S_u ?_ | refine S_v ?_ | refine C_sq ?_ | refine C_rg ?_ | refine L_nil ?_ | refine C_bk ?_ | refine C_ct ?_ | refine C_cf ?_ | refine C_sk ?_ | refine C_ex ?_ | refine C_rt ?_ | refine X_e ?_ | refine X_r ?_ | refine X_bh ?_ | refine X_be ?_ | refine X_br ?_ | refine X_bn ?_ | refine X_p ?_ | refine X_bp ?_)
      refine R_e (q + 1, .slice (some ⟨g, 0, none⟩) (n + q + 1) cap) ⟨by simp only; omega, ?_⟩ (by simp only; omega)
      simp only
      rw [hsn]
      exact hS.sb
    · have hsv : pcV (upPc n ⟨po, pos, neg, pa, pb⟩) = [vb po, vb pos, vb neg, .int .i64 (pa + n), .int .i64 (pb + n)] := by simp [upPc, pcV, hk]
      rw [hsv] at hsn
      rw [hk] at hch
      have hpl1 := hpl.1 (by omega)
      have hpl2 := hpl.2 (by omega)
      repeat (first | (refine S_w ?_; first | (refine M_c (hch _) ?_) | (refine S_y hS ?_) | ((first | refine M_bA hS ?_ | refine M_b1 hS ?_ | refine M_aA hS ?_ | refine M_a1 hS ?_ | refine M_sl hS ?_ | refine M_s1 hS ?_ | refine M_mm hS ?_); clear hS; intro b w hS) | ((first | refine M_st hS ?_ | refine M_sA hS ?_ | refine M_in hS ?_ | refine M_sR hS ?_); clear hS; intro w hS; (try simp only [List.set_cons_zero, List.set_cons_succ, Nat.zero_add] at hS)) | (refine M_ap hS ?_; clear hS; intro g cap w hS) | refine M_pn ?_) | refine X_k (by (try simp only [Fm.toList, List.set_cons_succ, List.set_cons_zero]); exact rfl) ?_ | refine S_u ?_ | refine S_v ?_ | refine C_sq ?_ | refine C_rg ?_ | refine L_nil ?_ | refine C_bk ?_ | refine C_ct ?_ | refine C_cf ?_ | refine C_sk ?_ | refine C_ex ?_ | refine C_rt ?_ | refine X_e ?_ | refine X_r ?_ | refine X_bh ?_ | refine X_be ?_ | refine X_br ?_ | refine X_bn ?_ | refine X_p ?_ | refine X_bp ?_)
      rintro _ w2 ⟨rfl, hb2⟩
      have hS := hS.call hb2
      repeat (first | (refine S_w ?_; first | (refine M_c (hch _) ?_) | (refine S_y hS ?_) | ((first | refine M_bA hS ?_ | refine M_b1 hS ?_ | refine M_aA hS ?_ | refine M_a1 hS ?_ | refine M_sl hS ?_ | refine M_s1 hS ?_ | refine M_mm hS ?_); clear hS; intro b w hS) | ((first | refine M_st hS ?_ | refine M_sA hS ?_ | refine M_in hS ?_ | refine M_sR hS ?_); clear hS; intro w hS; (try simp only [List.set_cons_zero, List.set_cons_succ, Nat.zero_add] at hS)) | (refine M_ap hS ?_; clear hS; intro g cap w hS) | refine M_pn ?_) | refine X_k (by (try simp only [Fm.toList, List.set_cons_succ, List.set_cons_zero]); exact rfl) ?_ | refine S_u ?_ | refine S_v ?_ | refine C_sq ?_ | refine C_rg ?_ | refine L_nil ?_ | refine C_bk ?_ | refine C_ct ?_ | refine C_cf ?_ | refine C_sk ?_ | refine C_ex ?_ | refine C_rt ?_ | refine X_e ?_ | refine X_r ?_ | refine X_bh ?_ | refine X_be ?_ | refine X_br ?_ | refine X_bn ?_ | refine X_p ?_ | refine X_bp ?_)
      rintro _ w3 ⟨rfl, hb3⟩
      have hS := hS.call hb3
      repeat (first | (refine S_w ?_; first | (refine S_y hS ?_) | ((first | refine M_bA hS ?_ | refine M_b1 hS ?_ | refine M_aA hS ?_ | refine M_a1 hS ?_ | refine M_sl hS ?_ | refine M_s1 hS ?_ | refine M_mm hS ?_); clear hS; intro b w hS) | ((first | refine M_st hS ?_ | refine M_sA hS ?_ | refine M_in hS ?_ | refine M_sR hS ?_); clear hS; intro w hS; (try simp only [List.set_cons_zero, List.set_cons_succ, Nat.zero_add] at hS)) | (refine M_ap hS ?_; clear hS; intro g cap w hS) | refine M_pn ?_) | refine X_k (by (try simp only [Fm.toList, List.set_cons_succ, List.set_cons_zero]); exact rfl) ?_ | refine S_u ?_ | refine S_v ?_ | refine C_sq ?_ | refine C_rg ?_ | refine L_nil ?_ | refine C_bk ?_ | refine C_ct ?_ | refine C_cf ?_ | refine C_sk ?_ | refine C_ex ?_ | refine C_rt ?_ | refine X_e ?_ | refine X_r ?_ | refine X_bh ?_ | refine X_be ?_ | refine X_br ?_ | refine X_bn ?_ | refine X_p ?_ | refine X_bp ?_)
      refine R_e (q + 1, .slice (some ⟨g, 0, none⟩) (n + q + 1) cap) ⟨by simp only; omega, ?_⟩ (by simp only; omega)
      simp only
      rw [hsn]
      exact hS.sb
  · obtain rfl : q = m := by omega
    rw [List.take_of_length_le (by omega)] at hS
    repeat (first | (refine S_w ?_; first | (refine S_y hS ?_) | ((first | refine M_bA hS ?_ | refine M_b1 hS ?_ | refine M_aA hS ?_ | refine M_a1 hS ?_ | refine M_sl hS ?_ | refine M_s1 hS ?_ | refine M_mm hS ?_); clear hS; intro b w hS) | ((first | refine M_st hS ?_ | refine M_sA hS ?_ | refine M_in hS ?_ | refine M_sR hS ?_); clear hS; intro w hS; (try simp only [List.set_cons_zero, List.set_cons_succ, Nat.zero_add] at hS)) | (refine M_ap hS ?_; clear hS; intro g cap w hS) | refine M_pn ?_) | refine X_k (by (try simp only [Fm.toList, List.set_cons_succ, List.set_cons_zero]); exact rfl) ?_ | refine S_u ?_ | refine S_v ?_ | refine C_sq ?_ | refine C_rg ?_ | refine L_nil ?_ | refine C_bk ?_ | refine C_ct ?_ | refine C_cf ?_ | refine C_sk ?_ | refine C_ex ?_ | refine C_rt ?_ | refine X_e ?_ | refine X_r ?_ | refine X_bh ?_ | refine X_be ?_ | refine X_br ?_ | refine X_bn ?_ | refine X_p ?_ | refine X_bp ?_)
    refine V_1 ⟨_, _, rfl, hS.rowOwnM, hS.fr⟩
theorem flat_un' (op : Nat) (a : T) {n : Nat} (h : a.size = n) : a.flat 0 ++ [⟨op, 0, 0, (n : Int) - 1, 0⟩] = (T.un op a).flat 0 := by
  subst h; simp [T.flat, T.root]
theorem flat_bin' (op : Nat) (a b : T) {n m : Nat} (h : a.size = n) (h' : b.size = m) : a.flat 0 ++ b.flat n ++ [⟨op, 0, 0, (n : Int) - 1, ((n + m : Nat) : Int) - 1⟩] = (T.bin op a b).flat 0 := by
  subst h h'; simp [T.flat, T.root]
def RdPost (x : Nat) (t : T) (w : World) (r : Value) (w' : World) : Prop :=
  ∃ A' c', r = .slice A' (der x t).size c' ∧ w'.ownsRow w.heap.size 55 5 (.slice A' (der x t).size c') (der x t).size (rxCells ((der x t).flat 0)) ∧ Fr Nof w w'
theorem der_le {x : Nat} {t : T} (h : t.size ≤ 64) : (der x t).size ≤ 4224 := Nat.le_trans (der_size x t) (Nat.mul_le_mul h (show t.size + 2 ≤ 66 by omega))
set_option maxHeartbeats 16000000 in
set_option maxRecDepth 100000 in
theorem rderR {v : Int} {x : Nat} (hv : 0 ≤ v ∧ v ≤ 6) (hx : x < 256) : ∀ (t : T), t.wf v → t.plain = true → t.size ≤ 64 → ∀ (A : Option Addr) (n c : Nat) (w : World), t.size = n → Rd w 5 A n (rxCells (t.flat 0)) →
    CallsR Try.prog 41 #[.slice A n c, .int .i64 v, vb x] w (RdPost x t w) := by
  have leaf : ∀ (t : T) (op : Nat), t.size = 1 → der x t = .none → t.flat 0 = [⟨op, 0, 0, 0, 0⟩] → 1 ≤ op → op ≤ 2 → ∀ (A : Option Addr) (n c : Nat) (w : World), t.size = n → Rd w 5 A n (rxCells (t.flat 0)) →
      CallsR Try.prog 41 #[.slice A n c, .int .i64 v, vb x] w (RdPost x t w) := by
    intro t op hsz hd hfl hop1 hop2 A n c w hn hA
    obtain rfl : n = 1 := by omega
    unfold RdPost
    rw [hd]
    rw [hfl] at hA
    have hcs : rxCells [⟨op, 0, 0, 0, 0⟩] = [vb op, vb 0, vb 0, .int .i64 0, .int .i64 0] := by simp [rxCells, pcV]
    have hco : rxCells (T.none.flat 0) = [.int .u8 1, .int .u8 0, .int .u8 0, .int .i64 0, .int .i64 0] := by simp [rxCells, pcV, T.flat, T.root]
    rw [hcs] at hA
    have hpd : ([vb op, vb 0, vb 0, .int .i64 0, .int .i64 0].drop ((((1 : Nat) : Int) - 1).toNat * 5)).take [vb op, vb 0, vb 0, .int .i64 0, .int .i64 0].length = [vb op, vb 0, vb 0, .int .i64 0, .int .i64 0] := rfl
    have hS := (St.start Nof w).addRo (r := Res.rd 5 A 1 [vb op, vb 0, vb 0, .int .i64 0, .int .i64 0]) hA rfl (fun _ h => by cases h)
    rcases (show op = 1 ∨ op = 2 by omega) with rfl | rfl
    all_goals
      refine E_r (m := 87) ?_ Try.func41 rfl Try.ntmps41 rfl; refine C_ft ?_
      repeat (first | (refine S_w ?_; first | (refine S_y hS ?_) | ((first | refine M_bA hS ?_ | refine M_b1 hS ?_ | refine M_aA hS ?_ | refine M_a1 hS ?_ | refine M_sl hS ?_ | refine M_s1 hS ?_ | refine M_mm hS ?_); clear hS; intro b w hS) | ((first | refine M_st hS ?_ | refine M_sA hS ?_ | refine M_in hS ?_ | refine M_sR hS ?_); clear hS; intro w hS; (try simp only [List.set_cons_zero, List.set_cons_succ, Nat.zero_add] at hS)) | (refine M_ap hS ?_; clear hS; intro g cap w hS) | refine M_pn ?_) | refine X_k (by (try simp only [Fm.toList, List.set_cons_succ, List.set_cons_zero]); exact rfl) ?_ | refine S_u ?_ | refine S_v ?_ | refine C_sq ?_ | refine C_rg ?_ | refine L_nil ?_ | refine C_bk ?_ | refine C_ct ?_ | refine C_cf ?_ | refine C_sk ?_ | refine C_ex ?_ | refine C_rt ?_ | refine X_e ?_ | refine X_r ?_ | refine X_bh ?_ | refine X_be ?_ | refine X_br ?_ | refine X_bn ?_ | refine X_p ?_ | refine X_bp ?_)
      rw [hco]
      refine V_1 ⟨some ⟨b, 0, none⟩, 1, rfl, objRow (n := 1) hS, hS.fr⟩
  intro t
  induction t with
  | none => intro _ _ _ A n c w hn hA; exact leaf .none 1 rfl rfl rfl (by omega) (by omega) A n c w hn hA
  | empty => intro _ _ _ A n c w hn hA; exact leaf .empty 2 rfl rfl rfl (by omega) (by omega) A n c w hn hA
  | letter p q =>
    intro hwf hpl hs A n c w hn hA
    obtain rfl : n = 1 := hn.symm
    have hpo := flat_ok (.letter p q) 0 (wf_up _ hwf) (by omega) ⟨3, p, q, 0, 0⟩ (by simp [T.flat, T.root])
    have hcs : rxCells ((T.letter p q).flat 0) = [vb 3, vb p, vb q, .int .i64 0, .int .i64 0] := by simp [rxCells, pcV, T.flat, T.root]
    rw [hcs] at hA
    have hpd : ([vb 3, vb p, vb q, .int .i64 0, .int .i64 0].drop ((((1 : Nat) : Int) - 1).toNat * 5)).take [vb 3, vb p, vb q, .int .i64 0, .int .i64 0].length = [vb 3, vb p, vb q, .int .i64 0, .int .i64 0] := rfl
    have hS := (St.start Nof w).addRo (r := Res.rd 5 A 1 [vb 3, vb p, vb q, .int .i64 0, .int .i64 0]) hA rfl (fun _ h => by cases h)
    unfold RdPost
    have hL := fun w => Calls.toR (kitLetter_any p q x hpo.pos hpo.neg hx w)
    cases hb : hasB p q x with
    | true =>
      have hd : der x (.letter p q) = .empty := if_pos hb
      have hco : rxCells (T.empty.flat 0) = [.int .u8 2, .int .u8 0, .int .u8 0, .int .i64 0, .int .i64 0] := by simp [rxCells, pcV, T.flat, T.root]
      rw [hb] at hL
      rw [hd, hco]
      refine E_r (m := 87) ?_ Try.func41 rfl Try.ntmps41 rfl; refine C_ft ?_
      repeat (first | (refine S_w ?_; first | (refine M_c (hL _) ?_) | (refine S_y hS ?_) | ((first | refine M_bA hS ?_ | refine M_b1 hS ?_ | refine M_aA hS ?_ | refine M_a1 hS ?_ | refine M_sl hS ?_ | refine M_s1 hS ?_ | refine M_mm hS ?_); clear hS; intro b w hS) | ((first | refine M_st hS ?_ | refine M_sA hS ?_ | refine M_in hS ?_ | refine M_sR hS ?_); clear hS; intro w hS; (try simp only [List.set_cons_zero, List.set_cons_succ, Nat.zero_add] at hS)) | (refine M_ap hS ?_; clear hS; intro g cap w hS) | refine M_pn ?_) | refine X_k (by (try simp only [Fm.toList, List.set_cons_succ, List.set_cons_zero]); exact rfl) ?_ | refine S_u ?_ | refine S_v ?_ | refine C_sq ?_ | refine C_rg ?_ | refine L_nil ?_ | refine C_bk ?_ | refine C_ct ?_ | refine C_cf ?_ | refine C_sk ?_ | refine C_ex ?_ | refine C_rt ?_ | refine X_e ?_ | refine X_r ?_ | refine X_bh ?_ | refine X_be ?_ | refine X_br ?_ | refine X_bn ?_ | refine X_p ?_ | refine X_bp ?_)
      rintro _ w1 ⟨rfl, rfl⟩
      repeat (first | (refine S_w ?_; first | (refine S_y hS ?_) | ((first | refine M_bA hS ?_ | refine M_b1 hS ?_ | refine M_aA hS ?_ | refine M_a1 hS ?_ | refine M_sl hS ?_ | refine M_s1 hS ?_ | refine M_mm hS ?_); clear hS; intro b w hS) | ((first | refine M_st hS ?_ | refine M_sA hS ?_ | refine M_in hS ?_ | refine M_sR hS ?_); clear hS; intro w hS; (try simp only [List.set_cons_zero, List.set_cons_succ, Nat.zero_add] at hS)) | (refine M_ap hS ?_; clear hS; intro g cap w hS) | refine M_pn ?_) | refine X_k (by (try simp only [Fm.toList, List.set_cons_succ, List.set_cons_zero]); exact rfl) ?_ | refine S_u ?_ | refine S_v ?_ | refine C_sq ?_ | refine C_rg ?_ | refine L_nil ?_ | refine C_bk ?_ | refine C_ct ?_ | refine C_cf ?_ | refine C_sk ?_ | refine C_ex ?_ | refine C_rt ?_ | refine X_e ?_ | refine X_r ?_ | refine X_bh ?_ | refine X_be ?_ | refine X_br ?_ | refine X_bn ?_ | refine X_p ?_ | refine X_bp ?_)
      refine V_1 ⟨some ⟨b, 0, none⟩, 1, rfl, objRow (n := 1) hS, hS.fr⟩
    | false =>
      have hd : der x (.letter p q) = .none := if_neg (by rw [hb]; decide)
      have hco : rxCells (T.none.flat 0) = [.int .u8 1, .int .u8 0, .int .u8 0, .int .i64 0, .int .i64 0] := by simp [rxCells, pcV, T.flat, T.root]
      rw [hb] at hL
      rw [hd, hco]
      refine E_r (m := 87) ?_ Try.func41 rfl Try.ntmps41 rfl; refine C_ft ?_
      repeat (first | (refine S_w ?_; first | (refine M_c (hL _) ?_) | (refine S_y hS ?_) | ((first | refine M_bA hS ?_ | refine M_b1 hS ?_ | refine M_aA hS ?_ | refine M_a1 hS ?_ | refine M_sl hS ?_ | refine M_s1 hS ?_ | refine M_mm hS ?_); clear hS; intro b w hS) | ((first | refine M_st hS ?_ | refine M_sA hS ?_ | refine M_in hS ?_ | refine M_sR hS ?_); clear hS; intro w hS; (try simp only [List.set_cons_zero, List.set_cons_succ, Nat.zero_add] at hS)) | (refine M_ap hS ?_; clear hS; intro g cap w hS) | refine M_pn ?_) | refine X_k (by (try simp only [Fm.toList, List.set_cons_succ, List.set_cons_zero]); exact rfl) ?_ | refine S_u ?_ | refine S_v ?_ | refine C_sq ?_ | refine C_rg ?_ | refine L_nil ?_ | refine C_bk ?_ | refine C_ct ?_ | refine C_cf ?_ | refine C_sk ?_ | refine C_ex ?_ | refine C_rt ?_ | refine X_e ?_ | refine X_r ?_ | refine X_bh ?_ | refine X_be ?_ | refine X_br ?_ | refine X_bn ?_ | refine X_p ?_ | refine X_bp ?_)
      rintro _ w1 ⟨rfl, rfl⟩
      repeat (first | (refine S_w ?_; first | (refine S_y hS ?_) | ((first | refine M_bA hS ?_ | refine M_b1 hS ?_ | refine M_aA hS ?_ | refine M_a1 hS ?_ | refine M_sl hS ?_ | refine M_s1 hS ?_ | refine M_mm hS ?_); clear hS; intro b w hS) | ((first | refine M_st hS ?_ | refine M_sA hS ?_ | refine M_in hS ?_ | refine M_sR hS ?_); clear hS; intro w hS; (try simp only [List.set_cons_zero, List.set_cons_succ, Nat.zero_add] at hS)) | (refine M_ap hS ?_; clear hS; intro g cap w hS) | refine M_pn ?_) | refine X_k (by (try simp only [Fm.toList, List.set_cons_succ, List.set_cons_zero]); exact rfl) ?_ | refine S_u ?_ | refine S_v ?_ | refine C_sq ?_ | refine C_rg ?_ | refine L_nil ?_ | refine C_bk ?_ | refine C_ct ?_ | refine C_cf ?_ | refine C_sk ?_ | refine C_ex ?_ | refine C_rt ?_ | refine X_e ?_ | refine X_r ?_ | refine X_bh ?_ | refine X_be ?_ | refine X_br ?_ | refine X_bn ?_ | refine X_p ?_ | refine X_bp ?_)
      refine V_1 ⟨some ⟨b, 0, none⟩, 1, rfl, objRow (n := 1) hS, hS.fr⟩
  | un op a ih =>
    intro hwf hpl hs A n c w hn hA
    have hpl0 := hpl
    simp only [T.plain, Bool.and_eq_true, Bool.not_eq_true', isLook] at hpl
    have hsa := T.size_pos a
    have hsz : (T.un op a).size = a.size + 1 := rfl
    have ih := ih hwf.2 hpl.2 (by omega)
    have hda := der_le (x := x) (t := a) (by omega)
    have hdp := T.size_pos (der x a)
    have hfo := flat_ok (.un op a) 0 (wf_up _ hwf) (by omega)
    have hcut := fun w hr => rCutR A n c (.un op a) v (a.size - 1) w hr hwf (by omega) (by omega) hfo
    rw [sub_un] at hcut
    simp only at hcut
    have hpd : ((rxCells ((T.un op a).flat 0)).drop (((n : Int) - 1).toNat * 5)).take [vb op, vb 0, vb 0, .int .i64 ((a.size - 1 : Nat) : Int), .int .i64 0].length = [vb op, vb 0, vb 0, .int .i64 ((a.size - 1 : Nat) : Int), .int .i64 0] := by
      have h := (At.whole (T.un op a)).drop
      simp only [T.root, pcV] at h
      rw [show (((0 + (T.un op a).size : Nat) : Int) - 1) = (n : Int) - 1 by omega, show (((0 + a.size : Nat) : Int) - 1) = ((a.size - 1 : Nat) : Int) by omega] at h
      exact h
    have hk := kids_one.1 hwf.1
    have h78 : op = 7 ∨ op = 8 := by
      have := hpl.1
      simp at this
      omega
    have hS := (St.start Nof w).addRo (r := Res.rd 5 A n (rxCells ((T.un op a).flat 0))) hA rfl (fun _ h => by cases h)
    obtain rfl : n = a.size + 1 := by omega
    rcases h78 with rfl | rfl
    · have hjn := fun A c w hr => jnR1 A (der x a).size c 7 ((der x a).flat 0) w hr (by omega) (by omega) (by omega)
      rw [flat_un' 7 (der x a) rfl] at hjn
      refine E_r (m := 87) ?_ Try.func41 rfl Try.ntmps41 rfl; refine C_ft ?_
      repeat (first | (refine S_w ?_; first | (refine M_c (hcut _ hS.rdAtM) ?_) | (refine S_y hS ?_) | ((first | refine M_bA hS ?_ | refine M_b1 hS ?_ | refine M_aA hS ?_ | refine M_a1 hS ?_ | refine M_sl hS ?_ | refine M_s1 hS ?_ | refine M_mm hS ?_); clear hS; intro b w hS) | ((first | refine M_st hS ?_ | refine M_sA hS ?_ | refine M_in hS ?_ | refine M_sR hS ?_); clear hS; intro w hS; (try simp only [List.set_cons_zero, List.set_cons_succ, Nat.zero_add] at hS)) | (refine M_ap hS ?_; clear hS; intro g cap w hS) | refine M_pn ?_) | refine X_k (by (try simp only [Fm.toList, List.set_cons_succ, List.set_cons_zero]); exact rfl) ?_ | refine S_u ?_ | refine S_v ?_ | refine C_sq ?_ | refine C_rg ?_ | refine L_nil ?_ | refine C_bk ?_ | refine C_ct ?_ | refine C_cf ?_ | refine C_sk ?_ | refine C_ex ?_ | refine C_rt ?_ | refine X_e ?_ | refine X_r ?_ | refine X_bh ?_ | refine X_be ?_ | refine X_br ?_ | refine X_bn ?_ | refine X_p ?_ | refine X_bp ?_)
      rintro _ w3 ⟨A3, c3, rfl, hown3, hb3⟩
      have hS := hS.freshRow hb3.below hown3
      repeat (first | (refine S_w ?_; first | (refine M_c (ih A3 a.size c3 _ rfl hS.rowAtM) ?_) | (refine S_y hS ?_) | ((first | refine M_bA hS ?_ | refine M_b1 hS ?_ | refine M_aA hS ?_ | refine M_a1 hS ?_ | refine M_sl hS ?_ | refine M_s1 hS ?_ | refine M_mm hS ?_); clear hS; intro b w hS) | ((first | refine M_st hS ?_ | refine M_sA hS ?_ | refine M_in hS ?_ | refine M_sR hS ?_); clear hS; intro w hS; (try simp only [List.set_cons_zero, List.set_cons_succ, Nat.zero_add] at hS)) | (refine M_ap hS ?_; clear hS; intro g cap w hS) | refine M_pn ?_) | refine X_k (by (try simp only [Fm.toList, List.set_cons_succ, List.set_cons_zero]); exact rfl) ?_ | refine S_u ?_ | refine S_v ?_ | refine C_sq ?_ | refine C_rg ?_ | refine L_nil ?_ | refine C_bk ?_ | refine C_ct ?_ | refine C_cf ?_ | refine C_sk ?_ | refine C_ex ?_ | refine C_rt ?_ | refine X_e ?_ | refine X_r ?_ | refine X_bh ?_ | refine X_be ?_ | refine X_br ?_ | refine X_bn ?_ | refine X_p ?_ | refine X_bp ?_)
      rintro _ w4 ⟨A4, c4, rfl, hown4, hb4⟩
      have hS := hS.freshRow hb4.below hown4
      repeat (first | (refine S_w ?_; first | (refine M_c (hjn A4 c4 _ hS.rowAtM) ?_) | (refine S_y hS ?_) | ((first | refine M_bA hS ?_ | refine M_b1 hS ?_ | refine M_aA hS ?_ | refine M_a1 hS ?_ | refine M_sl hS ?_ | refine M_s1 hS ?_ | refine M_mm hS ?_); clear hS; intro b w hS) | ((first | refine M_st hS ?_ | refine M_sA hS ?_ | refine M_in hS ?_ | refine M_sR hS ?_); clear hS; intro w hS; (try simp only [List.set_cons_zero, List.set_cons_succ, Nat.zero_add] at hS)) | (refine M_ap hS ?_; clear hS; intro g cap w hS) | refine M_pn ?_) | refine X_k (by (try simp only [Fm.toList, List.set_cons_succ, List.set_cons_zero]); exact rfl) ?_ | refine S_u ?_ | refine S_v ?_ | refine C_sq ?_ | refine C_rg ?_ | refine L_nil ?_ | refine C_bk ?_ | refine C_ct ?_ | refine C_cf ?_ | refine C_sk ?_ | refine C_ex ?_ | refine C_rt ?_ | refine X_e ?_ | refine X_r ?_ | refine X_bh ?_ | refine X_be ?_ | refine X_br ?_ | refine X_bn ?_ | refine X_p ?_ | refine X_bp ?_)
      rintro _ w5 ⟨A5, c5, rfl, hown5, hb5⟩
      have hS := hS.freshRow hb5.below hown5
      repeat (first | (refine S_w ?_; first | (refine S_y hS ?_) | ((first | refine M_bA hS ?_ | refine M_b1 hS ?_ | refine M_aA hS ?_ | refine M_a1 hS ?_ | refine M_sl hS ?_ | refine M_s1 hS ?_ | refine M_mm hS ?_); clear hS; intro b w hS) | ((first | refine M_st hS ?_ | refine M_sA hS ?_ | refine M_in hS ?_ | refine M_sR hS ?_); clear hS; intro w hS; (try simp only [List.set_cons_zero, List.set_cons_succ, Nat.zero_add] at hS)) | (refine M_ap hS ?_; clear hS; intro g cap w hS) | refine M_pn ?_) | refine X_k (by (try simp only [Fm.toList, List.set_cons_succ, List.set_cons_zero]); exact rfl) ?_ | refine S_u ?_ | refine S_v ?_ | refine C_sq ?_ | refine C_rg ?_ | refine L_nil ?_ | refine C_bk ?_ | refine C_ct ?_ | refine C_cf ?_ | refine C_sk ?_ | refine C_ex ?_ | refine C_rt ?_ | refine X_e ?_ | refine X_r ?_ | refine X_bh ?_ | refine X_be ?_ | refine X_br ?_ | refine X_bn ?_ | refine X_p ?_ | refine X_bp ?_)
      refine V_1 ⟨A5, c5, rfl, hS.rowOwnM, hS.fr⟩
    · have hjn := fun A B c d w hr hr' => jnR2 A B (der x a).size c (a.size + 1) d 4 ((der x a).flat 0) (.un 8 a) v w hr hr' hwf hfo rfl (by omega) (by omega) (by omega) (by omega)
      rw [flat_bin' (n := (der x a).size) (m := a.size + 1) 4 (der x a) (.un 8 a) rfl rfl] at hjn
      refine E_r (m := 87) ?_ Try.func41 rfl Try.ntmps41 rfl; refine C_ft ?_
      repeat (first | (refine S_w ?_; first | (refine M_c (hcut _ hS.rdAtM) ?_) | (refine S_y hS ?_) | ((first | refine M_bA hS ?_ | refine M_b1 hS ?_ | refine M_aA hS ?_ | refine M_a1 hS ?_ | refine M_sl hS ?_ | refine M_s1 hS ?_ | refine M_mm hS ?_); clear hS; intro b w hS) | ((first | refine M_st hS ?_ | refine M_sA hS ?_ | refine M_in hS ?_ | refine M_sR hS ?_); clear hS; intro w hS; (try simp only [List.set_cons_zero, List.set_cons_succ, Nat.zero_add] at hS)) | (refine M_ap hS ?_; clear hS; intro g cap w hS) | refine M_pn ?_) | refine X_k (by (try simp only [Fm.toList, List.set_cons_succ, List.set_cons_zero]); exact rfl) ?_ | refine S_u ?_ | refine S_v ?_ | refine C_sq ?_ | refine C_rg ?_ | refine L_nil ?_ | refine C_bk ?_ | refine C_ct ?_ | refine C_cf ?_ | refine C_sk ?_ | refine C_ex ?_ | refine C_rt ?_ | refine X_e ?_ | refine X_r ?_ | refine X_bh ?_ | refine X_be ?_ | refine X_br ?_ | refine X_bn ?_ | refine X_p ?_ | refine X_bp ?_)
      rintro _ w3 ⟨A3, c3, rfl, hown3, hb3⟩
      have hS := hS.freshRow hb3.below hown3
      repeat (first | (refine S_w ?_; first | (refine M_c (ih A3 a.size c3 _ rfl hS.rowAtM) ?_) | (refine S_y hS ?_) | ((first | refine M_bA hS ?_ | refine M_b1 hS ?_ | refine M_aA hS ?_ | refine M_a1 hS ?_ | refine M_sl hS ?_ | refine M_s1 hS ?_ | refine M_mm hS ?_); clear hS; intro b w hS) | ((first | refine M_st hS ?_ | refine M_sA hS ?_ | refine M_in hS ?_ | refine M_sR hS ?_); clear hS; intro w hS; (try simp only [List.set_cons_zero, List.set_cons_succ, Nat.zero_add] at hS)) | (refine M_ap hS ?_; clear hS; intro g cap w hS) | refine M_pn ?_) | refine X_k (by (try simp only [Fm.toList, List.set_cons_succ, List.set_cons_zero]); exact rfl) ?_ | refine S_u ?_ | refine S_v ?_ | refine C_sq ?_ | refine C_rg ?_ | refine L_nil ?_ | refine C_bk ?_ | refine C_ct ?_ | refine C_cf ?_ | refine C_sk ?_ | refine C_ex ?_ | refine C_rt ?_ | refine X_e ?_ | refine X_r ?_ | refine X_bh ?_ | refine X_be ?_ | refine X_br ?_ | refine X_bn ?_ | refine X_p ?_ | refine X_bp ?_)
      rintro _ w4 ⟨A4, c4, rfl, hown4, hb4⟩
      have hS := hS.freshRow hb4.below hown4
      repeat (first | (refine S_w ?_; first | (refine M_c (hjn A4 A c4 c _ hS.rowAtM hS.rdAtM) ?_) | (refine S_y hS ?_) | ((first | refine M_bA hS ?_ | refine M_b1 hS ?_ | refine M_aA hS ?_ | refine M_a1 hS ?_ | refine M_sl hS ?_ | refine M_s1 hS ?_ | refine M_mm hS ?_); clear hS; intro b w hS) | ((first | refine M_st hS ?_ | refine M_sA hS ?_ | refine M_in hS ?_ | refine M_sR hS ?_); clear hS; intro w hS; (try simp only [List.set_cons_zero, List.set_cons_succ, Nat.zero_add] at hS)) | (refine M_ap hS ?_; clear hS; intro g cap w hS) | refine M_pn ?_) | refine X_k (by (try simp only [Fm.toList, List.set_cons_succ, List.set_cons_zero]); exact rfl) ?_ | refine S_u ?_ | refine S_v ?_ | refine C_sq ?_ | refine C_rg ?_ | refine L_nil ?_ | refine C_bk ?_ | refine C_ct ?_ | refine C_cf ?_ | refine C_sk ?_ | refine C_ex ?_ | refine C_rt ?_ | refine X_e ?_ | refine X_r ?_ | refine X_bh ?_ | refine X_be ?_ | refine X_br ?_ | refine X_bn ?_ | refine X_p ?_ | refine X_bp ?_)
      rintro _ w5 ⟨A5, c5, rfl, hown5, hb5⟩
      have hS := hS.freshRow hb5.below hown5
      repeat (first | (refine S_w ?_; first | (refine S_y hS ?_) | ((first | refine M_bA hS ?_ | refine M_b1 hS ?_ | refine M_aA hS ?_ | refine M_a1 hS ?_ | refine M_sl hS ?_ | refine M_s1 hS ?_ | refine M_mm hS ?_); clear hS; intro b w hS) | ((first | refine M_st hS ?_ | refine M_sA hS ?_ | refine M_in hS ?_ | refine M_sR hS ?_); clear hS; intro w hS; (try simp only [List.set_cons_zero, List.set_cons_succ, Nat.zero_add] at hS)) | (refine M_ap hS ?_; clear hS; intro g cap w hS) | refine M_pn ?_) | refine X_k (by (try simp only [Fm.toList, List.set_cons_succ, List.set_cons_zero]); exact rfl) ?_ | refine S_u ?_ | refine S_v ?_ | refine C_sq ?_ | refine C_rg ?_ | refine L_nil ?_ | refine C_bk ?_ | refine C_ct ?_ | refine C_cf ?_ | refine C_sk ?_ | refine C_ex ?_ | refine C_rt ?_ | refine X_e ?_ | refine X_r ?_ | refine X_bh ?_ | refine X_be ?_ | refine X_br ?_ | refine X_bn ?_ | refine X_p ?_ | refine X_bp ?_)
      refine V_1 ⟨A5, c5, rfl, hS.rowOwnM, hS.fr⟩
  | bin op a tb iha ihb =>
    intro hwf hpl hs A n c w hn hA
    simp only [T.plain, Bool.and_eq_true] at hpl
    have hsa := T.size_pos a
    have hsb := T.size_pos tb
    have hsz : (T.bin op a tb).size = a.size + tb.size + 1 := rfl
    have iha := iha hwf.2.1 hpl.2.1 (by omega)
    have ihb := ihb hwf.2.2 hpl.2.2 (by omega)
    have hda := der_le (x := x) (t := a) (by omega)
    have hdb := der_le (x := x) (t := tb) (by omega)
    have hdpa := T.size_pos (der x a)
    have hdpb := T.size_pos (der x tb)
    have hdoa := der_ok (v := v) x a hwf.2.1 hpl.2.1
    have hdob := der_ok (v := v) x tb hwf.2.2 hpl.2.2
    have hoa := flat_ok (der x a) 0 (wf_up _ hdoa.1) (by omega)
    have hob := flat_ok (der x tb) 0 (wf_up _ hdob.1) (by omega)
    have hfb := flat_ok tb 0 (wf_up _ hwf.2.2) (by omega)
    have hfo := flat_ok (.bin op a tb) 0 (wf_up _ hwf) (by omega)
    have hca := fun w hr => rCutR A n c (.bin op a tb) v (a.size - 1) w hr hwf (by omega) (by omega) hfo
    rw [sub_binA] at hca
    simp only at hca
    have hcb := fun w hr => rCutR A n c (.bin op a tb) v (a.size + tb.size - 1) w hr hwf (by omega) (by omega) hfo
    rw [sub_binB] at hcb
    simp only at hcb
    have hpd : ((rxCells ((T.bin op a tb).flat 0)).drop (((n : Int) - 1).toNat * 5)).take [vb op, vb 0, vb 0, .int .i64 ((a.size - 1 : Nat) : Int), .int .i64 ((a.size + tb.size - 1 : Nat) : Int)].length = [vb op, vb 0, vb 0, .int .i64 ((a.size - 1 : Nat) : Int), .int .i64 ((a.size + tb.size - 1 : Nat) : Int)] := by
      have h := (At.whole (T.bin op a tb)).drop
      simp only [T.root, pcV] at h
      rw [show (((0 + (T.bin op a tb).size : Nat) : Int) - 1) = (n : Int) - 1 by omega, show (((0 + a.size : Nat) : Int) - 1) = ((a.size - 1 : Nat) : Int) by omega, show (((0 + a.size + tb.size : Nat) : Int) - 1) = ((a.size + tb.size - 1 : Nat) : Int) by omega] at h
      exact h
    have hk := kids_two.1 hwf.1
    have hS := (St.start Nof w).addRo (r := Res.rd 5 A n (rxCells ((T.bin op a tb).flat 0))) hA rfl (fun _ h => by cases h)
    by_cases h4 : op = 4
    · subst h4
      have hj1 := fun A B c d w hr hr' => jnR2 A B (der x a).size c tb.size d 4 ((der x a).flat 0) tb v w hr hr' hwf.2.2 hfb rfl (by omega) (by omega) (by omega) (by omega)
      rw [flat_bin' 4 (der x a) tb rfl rfl] at hj1
      have hac := fun A c w hr => racceptsT a v [] A none a.size c 0 0 w hr Rd.nil hv hwf.2.1 (plain_free a true hpl.2.1) (by omega) (by omega) (fun _ h => by cases h)
      have hsc : (T.bin 4 (der x a) tb).size = (der x a).size + tb.size + 1 := rfl
      unfold RdPost
      cases hm : mt [] a 0 0 with
      | true =>
        rw [hm] at hac
        have hd : der x (.bin 4 a tb) = .bin 5 (.bin 4 (der x a) tb) (der x tb) := if_pos hm
        have hj2 := fun A B c d w hr hr' => jnR2 A B ((der x a).size + tb.size + 1) c (der x tb).size d 5 ((T.bin 4 (der x a) tb).flat 0) (der x tb) v w hr hr' hdob.1 hob rfl (by omega) (by omega) (by omega) (by omega)
        rw [flat_bin' (n := (der x a).size + tb.size + 1) 5 (.bin 4 (der x a) tb) (der x tb) rfl rfl] at hj2
        rw [hd]
        obtain rfl : n = a.size + tb.size + 1 := by omega
        refine E_r (m := 87) ?_ Try.func41 rfl Try.ntmps41 rfl; refine C_ft ?_
        repeat (first | (refine S_w ?_; first | (refine M_c (hca _ hS.rdAtM) ?_) | (refine S_y hS ?_) | ((first | refine M_bA hS ?_ | refine M_b1 hS ?_ | refine M_aA hS ?_ | refine M_a1 hS ?_ | refine M_sl hS ?_ | refine M_s1 hS ?_ | refine M_mm hS ?_); clear hS; intro b w hS) | ((first | refine M_st hS ?_ | refine M_sA hS ?_ | refine M_in hS ?_ | refine M_sR hS ?_); clear hS; intro w hS; (try simp only [List.set_cons_zero, List.set_cons_succ, Nat.zero_add] at hS)) | (refine M_ap hS ?_; clear hS; intro g cap w hS) | refine M_pn ?_) | refine X_k (by (try simp only [Fm.toList, List.set_cons_succ, List.set_cons_zero]); exact rfl) ?_ | refine S_u ?_ | refine S_v ?_ | refine C_sq ?_ | refine C_rg ?_ | refine L_nil ?_ | refine C_bk ?_ | refine C_ct ?_ | refine C_cf ?_ | refine C_sk ?_ | refine C_ex ?_ | refine C_rt ?_ | refine X_e ?_ | refine X_r ?_ | refine X_bh ?_ | refine X_be ?_ | refine X_br ?_ | refine X_bn ?_ | refine X_p ?_ | refine X_bp ?_)
        rintro _ w3 ⟨A3, c3, rfl, hown3, hb3⟩
        have hS := hS.freshRow hb3.below hown3
        repeat (first | (refine S_w ?_; first | (refine M_c (iha A3 a.size c3 _ rfl hS.rowAtM) ?_) | (refine S_y hS ?_) | ((first | refine M_bA hS ?_ | refine M_b1 hS ?_ | refine M_aA hS ?_ | refine M_a1 hS ?_ | refine M_sl hS ?_ | refine M_s1 hS ?_ | refine M_mm hS ?_); clear hS; intro b w hS) | ((first | refine M_st hS ?_ | refine M_sA hS ?_ | refine M_in hS ?_ | refine M_sR hS ?_); clear hS; intro w hS; (try simp only [List.set_cons_zero, List.set_cons_succ, Nat.zero_add] at hS)) | (refine M_ap hS ?_; clear hS; intro g cap w hS) | refine M_pn ?_) | refine X_k (by (try simp only [Fm.toList, List.set_cons_succ, List.set_cons_zero]); exact rfl) ?_ | refine S_u ?_ | refine S_v ?_ | refine C_sq ?_ | refine C_rg ?_ | refine L_nil ?_ | refine C_bk ?_ | refine C_ct ?_ | refine C_cf ?_ | refine C_sk ?_ | refine C_ex ?_ | refine C_rt ?_ | refine X_e ?_ | refine X_r ?_ | refine X_bh ?_ | refine X_be ?_ | refine X_br ?_ | refine X_bn ?_ | refine X_p ?_ | refine X_bp ?_)
        rintro _ w4 ⟨A4, c4, rfl, hown4, hb4⟩
        have hS := hS.freshRow hb4.below hown4
        repeat (first | (refine S_w ?_; first | (refine M_c (hcb _ hS.rdAtM) ?_) | (refine S_y hS ?_) | ((first | refine M_bA hS ?_ | refine M_b1 hS ?_ | refine M_aA hS ?_ | refine M_a1 hS ?_ | refine M_sl hS ?_ | refine M_s1 hS ?_ | refine M_mm hS ?_); clear hS; intro b w hS) | ((first | refine M_st hS ?_ | refine M_sA hS ?_ | refine M_in hS ?_ | refine M_sR hS ?_); clear hS; intro w hS; (try simp only [List.set_cons_zero, List.set_cons_succ, Nat.zero_add] at hS)) | (refine M_ap hS ?_; clear hS; intro g cap w hS) | refine M_pn ?_) | refine X_k (by (try simp only [Fm.toList, List.set_cons_succ, List.set_cons_zero]); exact rfl) ?_ | refine S_u ?_ | refine S_v ?_ | refine C_sq ?_ | refine C_rg ?_ | refine L_nil ?_ | refine C_bk ?_ | refine C_ct ?_ | refine C_cf ?_ | refine C_sk ?_ | refine C_ex ?_ | refine C_rt ?_ | refine X_e ?_ | refine X_r ?_ | refine X_bh ?_ | refine X_be ?_ | refine X_br ?_ | refine X_bn ?_ | refine X_p ?_ | refine X_bp ?_)
        rintro _ w5 ⟨A5, c5, rfl, hown5, hb5⟩
        have hS := hS.freshRow hb5.below hown5
        repeat (first | (refine S_w ?_; first | (refine M_c (ihb A5 tb.size c5 _ rfl hS.rowAtM) ?_) | (refine S_y hS ?_) | ((first | refine M_bA hS ?_ | refine M_b1 hS ?_ | refine M_aA hS ?_ | refine M_a1 hS ?_ | refine M_sl hS ?_ | refine M_s1 hS ?_ | refine M_mm hS ?_); clear hS; intro b w hS) | ((first | refine M_st hS ?_ | refine M_sA hS ?_ | refine M_in hS ?_ | refine M_sR hS ?_); clear hS; intro w hS; (try simp only [List.set_cons_zero, List.set_cons_succ, Nat.zero_add] at hS)) | (refine M_ap hS ?_; clear hS; intro g cap w hS) | refine M_pn ?_) | refine X_k (by (try simp only [Fm.toList, List.set_cons_succ, List.set_cons_zero]); exact rfl) ?_ | refine S_u ?_ | refine S_v ?_ | refine C_sq ?_ | refine C_rg ?_ | refine L_nil ?_ | refine C_bk ?_ | refine C_ct ?_ | refine C_cf ?_ | refine C_sk ?_ | refine C_ex ?_ | refine C_rt ?_ | refine X_e ?_ | refine X_r ?_ | refine X_bh ?_ | refine X_be ?_ | refine X_br ?_ | refine X_bn ?_ | refine X_p ?_ | refine X_bp ?_)
        rintro _ w6 ⟨A6, c6, rfl, hown6, hb6⟩
        have hS := hS.freshRow hb6.below hown6
        repeat (first | (refine S_w ?_; first | (refine M_c (hj1 A4 A5 c4 c5 _ hS.rowAtM hS.rowAtM) ?_) | (refine S_y hS ?_) | ((first | refine M_bA hS ?_ | refine M_b1 hS ?_ | refine M_aA hS ?_ | refine M_a1 hS ?_ | refine M_sl hS ?_ | refine M_s1 hS ?_ | refine M_mm hS ?_); clear hS; intro b w hS) | ((first | refine M_st hS ?_ | refine M_sA hS ?_ | refine M_in hS ?_ | refine M_sR hS ?_); clear hS; intro w hS; (try simp only [List.set_cons_zero, List.set_cons_succ, Nat.zero_add] at hS)) | (refine M_ap hS ?_; clear hS; intro g cap w hS) | refine M_pn ?_) | refine X_k (by (try simp only [Fm.toList, List.set_cons_succ, List.set_cons_zero]); exact rfl) ?_ | refine S_u ?_ | refine S_v ?_ | refine C_sq ?_ | refine C_rg ?_ | refine L_nil ?_ | refine C_bk ?_ | refine C_ct ?_ | refine C_cf ?_ | refine C_sk ?_ | refine C_ex ?_ | refine C_rt ?_ | refine X_e ?_ | refine X_r ?_ | refine X_bh ?_ | refine X_be ?_ | refine X_br ?_ | refine X_bn ?_ | refine X_p ?_ | refine X_bp ?_)
        rintro _ w7 ⟨A7, c7, rfl, hown7, hb7⟩
        have hS := hS.freshRow hb7.below hown7
        repeat (first | (refine S_w ?_; first | (refine M_c (hac A3 c3 _ hS.rowAtM) ?_) | (refine S_y hS ?_) | ((first | refine M_bA hS ?_ | refine M_b1 hS ?_ | refine M_aA hS ?_ | refine M_a1 hS ?_ | refine M_sl hS ?_ | refine M_s1 hS ?_ | refine M_mm hS ?_); clear hS; intro b w hS) | ((first | refine M_st hS ?_ | refine M_sA hS ?_ | refine M_in hS ?_ | refine M_sR hS ?_); clear hS; intro w hS; (try simp only [List.set_cons_zero, List.set_cons_succ, Nat.zero_add] at hS)) | (refine M_ap hS ?_; clear hS; intro g cap w hS) | refine M_pn ?_) | refine X_k (by (try simp only [Fm.toList, List.set_cons_succ, List.set_cons_zero]); exact rfl) ?_ | refine S_u ?_ | refine S_v ?_ | refine C_sq ?_ | refine C_rg ?_ | refine L_nil ?_ | refine C_bk ?_ | refine C_ct ?_ | refine C_cf ?_ | refine C_sk ?_ | refine C_ex ?_ | refine C_rt ?_ | refine X_e ?_ | refine X_r ?_ | refine X_bh ?_ | refine X_be ?_ | refine X_br ?_ | refine X_bn ?_ | refine X_p ?_ | refine X_bp ?_)
        rintro _ w8 ⟨rfl, hb8⟩
        have hS := hS.call hb8
        repeat (first | (refine S_w ?_; first | (refine M_c (hj2 A7 A6 c7 c6 _ hS.rowAtM hS.rowAtM) ?_) | (refine S_y hS ?_) | ((first | refine M_bA hS ?_ | refine M_b1 hS ?_ | refine M_aA hS ?_ | refine M_a1 hS ?_ | refine M_sl hS ?_ | refine M_s1 hS ?_ | refine M_mm hS ?_); clear hS; intro b w hS) | ((first | refine M_st hS ?_ | refine M_sA hS ?_ | refine M_in hS ?_ | refine M_sR hS ?_); clear hS; intro w hS; (try simp only [List.set_cons_zero, List.set_cons_succ, Nat.zero_add] at hS)) | (refine M_ap hS ?_; clear hS; intro g cap w hS) | refine M_pn ?_) | refine X_k (by (try simp only [Fm.toList, List.set_cons_succ, List.set_cons_zero]); exact rfl) ?_ | refine S_u ?_ | refine S_v ?_ | refine C_sq ?_ | refine C_rg ?_ | refine L_nil ?_ | refine C_bk ?_ | refine C_ct ?_ | refine C_cf ?_ | refine C_sk ?_ | refine C_ex ?_ | refine C_rt ?_ | refine X_e ?_ | refine X_r ?_ | refine X_bh ?_ | refine X_be ?_ | refine X_br ?_ | refine X_bn ?_ | refine X_p ?_ | refine X_bp ?_)
        rintro _ w9 ⟨A9, c9, rfl, hown9, hb9⟩
        have hS := hS.freshRow hb9.below hown9
        repeat (first | (refine S_w ?_; first | (refine S_y hS ?_) | ((first | refine M_bA hS ?_ | refine M_b1 hS ?_ | refine M_aA hS ?_ | refine M_a1 hS ?_ | refine M_sl hS ?_ | refine M_s1 hS ?_ | refine M_mm hS ?_); clear hS; intro b w hS) | ((first | refine M_st hS ?_ | refine M_sA hS ?_ | refine M_in hS ?_ | refine M_sR hS ?_); clear hS; intro w hS; (try simp only [List.set_cons_zero, List.set_cons_succ, Nat.zero_add] at hS)) | (refine M_ap hS ?_; clear hS; intro g cap w hS) | refine M_pn ?_) | refine X_k (by (try simp only [Fm.toList, List.set_cons_succ, List.set_cons_zero]); exact rfl) ?_ | refine S_u ?_ | refine S_v ?_ | refine C_sq ?_ | refine C_rg ?_ | refine L_nil ?_ | refine C_bk ?_ | refine C_ct ?_ | refine C_cf ?_ | refine C_sk ?_ | refine C_ex ?_ | refine C_rt ?_ | refine X_e ?_ | refine X_r ?_ | refine X_bh ?_ | refine X_be ?_ | refine X_br ?_ | refine X_bn ?_ | refine X_p ?_ | refine X_bp ?_)
        refine V_1 ⟨A9, c9, rfl, hS.rowOwnM, hS.fr⟩
      | false =>
        rw [hm] at hac
        have hd : der x (.bin 4 a tb) = .bin 4 (der x a) tb := by
          show (if mt [] a 0 0 then T.bin 5 (.bin 4 (der x a) tb) (der x tb) else .bin 4 (der x a) tb) = _
          rw [hm]; rfl
        rw [hd]
        obtain rfl : n = a.size + tb.size + 1 := by omega
        refine E_r (m := 87) ?_ Try.func41 rfl Try.ntmps41 rfl; refine C_ft ?_
        repeat (first | (refine S_w ?_; first | (refine M_c (hca _ hS.rdAtM) ?_) | (refine S_y hS ?_) | ((first | refine M_bA hS ?_ | refine M_b1 hS ?_ | refine M_aA hS ?_ | refine M_a1 hS ?_ | refine M_sl hS ?_ | refine M_s1 hS ?_ | refine M_mm hS ?_); clear hS; intro b w hS) | ((first | refine M_st hS ?_ | refine M_sA hS ?_ | refine M_in hS ?_ | refine M_sR hS ?_); clear hS; intro w hS; (try simp only [List.set_cons_zero, List.set_cons_succ, Nat.zero_add] at hS)) | (refine M_ap hS ?_; clear hS; intro g cap w hS) | refine M_pn ?_) | refine X_k (by (try simp only [Fm.toList, List.set_cons_succ, List.set_cons_zero]); exact rfl) ?_ | refine S_u ?_ | refine S_v ?_ | refine C_sq ?_ | refine C_rg ?_ | refine L_nil ?_ | refine C_bk ?_ | refine C_ct ?_ | refine C_cf ?_ | refine C_sk ?_ | refine C_ex ?_ | refine C_rt ?_ | refine X_e ?_ | refine X_r ?_ | refine X_bh ?_ | refine X_be ?_ | refine X_br ?_ | refine X_bn ?_ | refine X_p ?_ | refine X_bp ?_)
        rintro _ w3 ⟨A3, c3, rfl, hown3, hb3⟩
        have hS := hS.freshRow hb3.below hown3
        repeat (first | (refine S_w ?_; first | (refine M_c (iha A3 a.size c3 _ rfl hS.rowAtM) ?_) | (refine S_y hS ?_) | ((first | refine M_bA hS ?_ | refine M_b1 hS ?_ | refine M_aA hS ?_ | refine M_a1 hS ?_ | refine M_sl hS ?_ | refine M_s1 hS ?_ | refine M_mm hS ?_); clear hS; intro b w hS) | ((first | refine M_st hS ?_ | refine M_sA hS ?_ | refine M_in hS ?_ | refine M_sR hS ?_); clear hS; intro w hS; (try simp only [List.set_cons_zero, List.set_cons_succ, Nat.zero_add] at hS)) | (refine M_ap hS ?_; clear hS; intro g cap w hS) | refine M_pn ?_) | refine X_k (by (try simp only [Fm.toList, List.set_cons_succ, List.set_cons_zero]); exact rfl) ?_ | refine S_u ?_ | refine S_v ?_ | refine C_sq ?_ | refine C_rg ?_ | refine L_nil ?_ | refine C_bk ?_ | refine C_ct ?_ | refine C_cf ?_ | refine C_sk ?_ | refine C_ex ?_ | refine C_rt ?_ | refine X_e ?_ | refine X_r ?_ | refine X_bh ?_ | refine X_be ?_ | refine X_br ?_ | refine X_bn ?_ | refine X_p ?_ | refine X_bp ?_)
        rintro _ w4 ⟨A4, c4, rfl, hown4, hb4⟩
        have hS := hS.freshRow hb4.below hown4
        repeat (first | (refine S_w ?_; first | (refine M_c (hcb _ hS.rdAtM) ?_) | (refine S_y hS ?_) | ((first | refine M_bA hS ?_ | refine M_b1 hS ?_ | refine M_aA hS ?_ | refine M_a1 hS ?_ | refine M_sl hS ?_ | refine M_s1 hS ?_ | refine M_mm hS ?_); clear hS; intro b w hS) | ((first | refine M_st hS ?_ | refine M_sA hS ?_ | refine M_in hS ?_ | refine M_sR hS ?_); clear hS; intro w hS; (try simp only [List.set_cons_zero, List.set_cons_succ, Nat.zero_add] at hS)) | (refine M_ap hS ?_; clear hS; intro g cap w hS) | refine M_pn ?_) | refine X_k (by (try simp only [Fm.toList, List.set_cons_succ, List.set_cons_zero]); exact rfl) ?_ | refine S_u ?_ | refine S_v ?_ | refine C_sq ?_ | refine C_rg ?_ | refine L_nil ?_ | refine C_bk ?_ | refine C_ct ?_ | refine C_cf ?_ | refine C_sk ?_ | refine C_ex ?_ | refine C_rt ?_ | refine X_e ?_ | refine X_r ?_ | refine X_bh ?_ | refine X_be ?_ | refine X_br ?_ | refine X_bn ?_ | refine X_p ?_ | refine X_bp ?_)
        rintro _ w5 ⟨A5, c5, rfl, hown5, hb5⟩
        have hS := hS.freshRow hb5.below hown5
        repeat (first | (refine S_w ?_; first | (refine M_c (ihb A5 tb.size c5 _ rfl hS.rowAtM) ?_) | (refine S_y hS ?_) | ((first | refine M_bA hS ?_ | refine M_b1 hS ?_ | refine M_aA hS ?_ | refine M_a1 hS ?_ | refine M_sl hS ?_ | refine M_s1 hS ?_ | refine M_mm hS ?_); clear hS; intro b w hS) | ((first | refine M_st hS ?_ | refine M_sA hS ?_ | refine M_in hS ?_ | refine M_sR hS ?_); clear hS; intro w hS; (try simp only [List.set_cons_zero, List.set_cons_succ, Nat.zero_add] at hS)) | (refine M_ap hS ?_; clear hS; intro g cap w hS) | refine M_pn ?_) | refine X_k (by (try simp only [Fm.toList, List.set_cons_succ, List.set_cons_zero]); exact rfl) ?_ | refine S_u ?_ | refine S_v ?_ | refine C_sq ?_ | refine C_rg ?_ | refine L_nil ?_ | refine C_bk ?_ | refine C_ct ?_ | refine C_cf ?_ | refine C_sk ?_ | refine C_ex ?_ | refine C_rt ?_ | refine X_e ?_ | refine X_r ?_ | refine X_bh ?_ | refine X_be ?_ | refine X_br ?_ | refine X_bn ?_ | refine X_p ?_ | refine X_bp ?_)
        rintro _ w6 ⟨A6, c6, rfl, hown6, hb6⟩
        have hS := hS.freshRow hb6.below hown6
        repeat (first | (refine S_w ?_; first | (refine M_c (hj1 A4 A5 c4 c5 _ hS.rowAtM hS.rowAtM) ?_) | (refine S_y hS ?_) | ((first | refine M_bA hS ?_ | refine M_b1 hS ?_ | refine M_aA hS ?_ | refine M_a1 hS ?_ | refine M_sl hS ?_ | refine M_s1 hS ?_ | refine M_mm hS ?_); clear hS; intro b w hS) | ((first | refine M_st hS ?_ | refine M_sA hS ?_ | refine M_in hS ?_ | refine M_sR hS ?_); clear hS; intro w hS; (try simp only [List.set_cons_zero, List.set_cons_succ, Nat.zero_add] at hS)) | (refine M_ap hS ?_; clear hS; intro g cap w hS) | refine M_pn ?_) | refine X_k (by (try simp only [Fm.toList, List.set_cons_succ, List.set_cons_zero]); exact rfl) ?_ | refine S_u ?_ | refine S_v ?_ | refine C_sq ?_ | refine C_rg ?_ | refine L_nil ?_ | refine C_bk ?_ | refine C_ct ?_ | refine C_cf ?_ | refine C_sk ?_ | refine C_ex ?_ | refine C_rt ?_ | refine X_e ?_ | refine X_r ?_ | refine X_bh ?_ | refine X_be ?_ | refine X_br ?_ | refine X_bn ?_ | refine X_p ?_ | refine X_bp ?_)
        rintro _ w7 ⟨A7, c7, rfl, hown7, hb7⟩
        have hS := hS.freshRow hb7.below hown7
        repeat (first | (refine S_w ?_; first | (refine M_c (hac A3 c3 _ hS.rowAtM) ?_) | (refine S_y hS ?_) | ((first | refine M_bA hS ?_ | refine M_b1 hS ?_ | refine M_aA hS ?_ | refine M_a1 hS ?_ | refine M_sl hS ?_ | refine M_s1 hS ?_ | refine M_mm hS ?_); clear hS; intro b w hS) | ((first | refine M_st hS ?_ | refine M_sA hS ?_ | refine M_in hS ?_ | refine M_sR hS ?_); clear hS; intro w hS; (try simp only [List.set_cons_zero, List.set_cons_succ, Nat.zero_add] at hS)) | (refine M_ap hS ?_; clear hS; intro g cap w hS) | refine M_pn ?_) | refine X_k (by (try simp only [Fm.toList, List.set_cons_succ, List.set_cons_zero]); exact rfl) ?_ | refine S_u ?_ | refine S_v ?_ | refine C_sq ?_ | refine C_rg ?_ | refine L_nil ?_ | refine C_bk ?_ | refine C_ct ?_ | refine C_cf ?_ | refine C_sk ?_ | refine C_ex ?_ | refine C_rt ?_ | refine X_e ?_ | refine X_r ?_ | refine X_bh ?_ | refine X_be ?_ | refine X_br ?_ | refine X_bn ?_ | refine X_p ?_ | refine X_bp ?_)
        rintro _ w8 ⟨rfl, hb8⟩
        have hS := hS.call hb8
        repeat (first | (refine S_w ?_; first | (refine S_y hS ?_) | ((first | refine M_bA hS ?_ | refine M_b1 hS ?_ | refine M_aA hS ?_ | refine M_a1 hS ?_ | refine M_sl hS ?_ | refine M_s1 hS ?_ | refine M_mm hS ?_); clear hS; intro b w hS) | ((first | refine M_st hS ?_ | refine M_sA hS ?_ | refine M_in hS ?_ | refine M_sR hS ?_); clear hS; intro w hS; (try simp only [List.set_cons_zero, List.set_cons_succ, Nat.zero_add] at hS)) | (refine M_ap hS ?_; clear hS; intro g cap w hS) | refine M_pn ?_) | refine X_k (by (try simp only [Fm.toList, List.set_cons_succ, List.set_cons_zero]); exact rfl) ?_ | refine S_u ?_ | refine S_v ?_ | refine C_sq ?_ | refine C_rg ?_ | refine L_nil ?_ | refine C_bk ?_ | refine C_ct ?_ | refine C_cf ?_ | refine C_sk ?_ | refine C_ex ?_ | refine C_rt ?_ | refine X_e ?_ | refine X_r ?_ | refine X_bh ?_ | refine X_be ?_ | refine X_br ?_ | refine X_bn ?_ | refine X_p ?_ | refine X_bp ?_)
        refine V_1 ⟨A7, c7, rfl, hS.rowOwnM, hS.fr⟩
    · have hd : der x (.bin op a tb) = .bin op (der x a) (der x tb) := if_neg h4
      have hjn := fun A B c d w hr hr' => jnR2 A B (der x a).size c (der x tb).size d op ((der x a).flat 0) (der x tb) v w hr hr' hdob.1 hob rfl (by omega) (by omega) (by omega) (by omega)
      rw [flat_bin' op (der x a) (der x tb) rfl rfl] at hjn
      unfold RdPost
      rw [hd]
      obtain rfl : n = a.size + tb.size + 1 := by omega
      rcases (show op = 5 ∨ op = 6 by omega) with rfl | rfl
      all_goals
        refine E_r (m := 87) ?_ Try.func41 rfl Try.ntmps41 rfl; refine C_ft ?_
        repeat (first | (refine S_w ?_; first | (refine M_c (hca _ hS.rdAtM) ?_) | (refine S_y hS ?_) | ((first | refine M_bA hS ?_ | refine M_b1 hS ?_ | refine M_aA hS ?_ | refine M_a1 hS ?_ | refine M_sl hS ?_ | refine M_s1 hS ?_ | refine M_mm hS ?_); clear hS; intro b w hS) | ((first | refine M_st hS ?_ | refine M_sA hS ?_ | refine M_in hS ?_ | refine M_sR hS ?_); clear hS; intro w hS; (try simp only [List.set_cons_zero, List.set_cons_succ, Nat.zero_add] at hS)) | (refine M_ap hS ?_; clear hS; intro g cap w hS) | refine M_pn ?_) | refine X_k (by (try simp only [Fm.toList, List.set_cons_succ, List.set_cons_zero]); exact rfl) ?_ | refine S_u ?_ | refine S_v ?_ | refine C_sq ?_ | refine C_rg ?_ | refine L_nil ?_ | refine C_bk ?_ | refine C_ct ?_ | refine C_cf ?_ | refine C_sk ?_ | refine C_ex ?_ | refine C_rt ?_ | refine X_e ?_ | refine X_r ?_ | refine X_bh ?_ | refine X_be ?_ | refine X_br ?_ | refine X_bn ?_ | refine X_p ?_ | refine X_bp ?_)
        rintro _ w3 ⟨A3, c3, rfl, hown3, hb3⟩
        have hS := hS.freshRow hb3.below hown3
        repeat (first | (refine S_w ?_; first | (refine M_c (iha A3 a.size c3 _ rfl hS.rowAtM) ?_) | (refine S_y hS ?_) | ((first | refine M_bA hS ?_ | refine M_b1 hS ?_ | refine M_aA hS ?_ | refine M_a1 hS ?_ | refine M_sl hS ?_ | refine M_s1 hS ?_ | refine M_mm hS ?_); clear hS; intro b w hS) | ((first | refine M_st hS ?_ | refine M_sA hS ?_ | refine M_in hS ?_ | refine M_sR hS ?_); clear hS; intro w hS; (try simp only [List.set_cons_zero, List.set_cons_succ, Nat.zero_add] at hS)) | (refine M_ap hS ?_; clear hS; intro g cap w hS) | refine M_pn ?_) | refine X_k (by (try simp only [Fm.toList, List.set_cons_succ, List.set_cons_zero]); exact rfl) ?_ | refine S_u ?_ | refine S_v ?_ | refine C_sq ?_ | refine C_rg ?_ | refine L_nil ?_ | refine C_bk ?_ | refine C_ct ?_ | refine C_cf ?_ | refine C_sk ?_ | refine C_ex ?_ | refine C_rt ?_ | refine X_e ?_ | refine X_r ?_ | refine X_bh ?_ | refine X_be ?_ | refine X_br ?_ | refine X_bn ?_ | refine X_p ?_ | refine X_bp ?_)
        rintro _ w4 ⟨A4, c4, rfl, hown4, hb4⟩
        have hS := hS.freshRow hb4.below hown4
        repeat (first | (refine S_w ?_; first | (refine M_c (hcb _ hS.rdAtM) ?_) | (refine S_y hS ?_) | ((first | refine M_bA hS ?_ | refine M_b1 hS ?_ | refine M_aA hS ?_ | refine M_a1 hS ?_ | refine M_sl hS ?_ | refine M_s1 hS ?_ | refine M_mm hS ?_); clear hS; intro b w hS) | ((first | refine M_st hS ?_ | refine M_sA hS ?_ | refine M_in hS ?_ | refine M_sR hS ?_); clear hS; intro w hS; (try simp only [List.set_cons_zero, List.set_cons_succ, Nat.zero_add] at hS)) | (refine M_ap hS ?_; clear hS; intro g cap w hS) | refine M_pn ?_) | refine X_k (by (try simp only [Fm.toList, List.set_cons_succ, List.set_cons_zero]); exact rfl) ?_ | refine S_u ?_ | refine S_v ?_ | refine C_sq ?_ | refine C_rg ?_ | refine L_nil ?_ | refine C_bk ?_ | refine C_ct ?_ | refine C_cf ?_ | refine C_sk ?_ | refine C_ex ?_ | refine C_rt ?_ | refine X_e ?_ | refine X_r ?_ | refine X_bh ?_ | refine X_be ?_ | refine X_br ?_ | refine X_bn ?_ | refine X_p ?_ | refine X_bp ?_)
        rintro _ w5 ⟨A5, c5, rfl, hown5, hb5⟩
        have hS := hS.freshRow hb5.below hown5
        repeat (first | (refine S_w ?_; first | (refine M_c (ihb A5 tb.size c5 _ rfl hS.rowAtM) ?_) | (refine S_y hS ?_) | ((first | refine M_bA hS ?_ | refine M_b1 hS ?_ | refine M_aA hS ?_ | refine M_a1 hS ?_ | refine M_sl hS ?_ | refine M_s1 hS ?_ | refine M_mm hS ?_); clear hS; intro b w hS) | ((first | refine M_st hS ?_ | refine M_sA hS ?_ | refine M_in hS ?_ | refine M_sR hS ?_); clear hS; intro w hS; (try simp only [List.set_cons_zero, List.set_cons_succ, Nat.zero_add] at hS)) | (refine M_ap hS ?_; clear hS; intro g cap w hS) | refine M_pn ?_) | refine X_k (by (try simp only [Fm.toList, List.set_cons_succ, List.set_cons_zero]); exact rfl) ?_ | refine S_u ?_ | refine S_v ?_ | refine C_sq ?_ | refine C_rg ?_ | refine L_nil ?_ | refine C_bk ?_ | refine C_ct ?_ | refine C_cf ?_ | refine C_sk ?_ | refine C_ex ?_ | refine C_rt ?_ | refine X_e ?_ | refine X_r ?_ | refine X_bh ?_ | refine X_be ?_ | refine X_br ?_ | refine X_bn ?_ | refine X_p ?_ | refine X_bp ?_)
        rintro _ w6 ⟨A6, c6, rfl, hown6, hb6⟩
        have hS := hS.freshRow hb6.below hown6
        repeat (first | (refine S_w ?_; first | (refine M_c (hjn A4 A6 c4 c6 _ hS.rowAtM hS.rowAtM) ?_) | (refine S_y hS ?_) | ((first | refine M_bA hS ?_ | refine M_b1 hS ?_ | refine M_aA hS ?_ | refine M_a1 hS ?_ | refine M_sl hS ?_ | refine M_s1 hS ?_ | refine M_mm hS ?_); clear hS; intro b w hS) | ((first | refine M_st hS ?_ | refine M_sA hS ?_ | refine M_in hS ?_ | refine M_sR hS ?_); clear hS; intro w hS; (try simp only [List.set_cons_zero, List.set_cons_succ, Nat.zero_add] at hS)) | (refine M_ap hS ?_; clear hS; intro g cap w hS) | refine M_pn ?_) | refine X_k (by (try simp only [Fm.toList, List.set_cons_succ, List.set_cons_zero]); exact rfl) ?_ | refine S_u ?_ | refine S_v ?_ | refine C_sq ?_ | refine C_rg ?_ | refine L_nil ?_ | refine C_bk ?_ | refine C_ct ?_ | refine C_cf ?_ | refine C_sk ?_ | refine C_ex ?_ | refine C_rt ?_ | refine X_e ?_ | refine X_r ?_ | refine X_bh ?_ | refine X_be ?_ | refine X_br ?_ | refine X_bn ?_ | refine X_p ?_ | refine X_bp ?_)
        rintro _ w7 ⟨A7, c7, rfl, hown7, hb7⟩
        have hS := hS.freshRow hb7.below hown7
        repeat (first | (refine S_w ?_; first | (refine S_y hS ?_) | ((first | refine M_bA hS ?_ | refine M_b1 hS ?_ | refine M_aA hS ?_ | refine M_a1 hS ?_ | refine M_sl hS ?_ | refine M_s1 hS ?_ | refine M_mm hS ?_); clear hS; intro b w hS) | ((first | refine M_st hS ?_ | refine M_sA hS ?_ | refine M_in hS ?_ | refine M_sR hS ?_); clear hS; intro w hS; (try simp only [List.set_cons_zero, List.set_cons_succ, Nat.zero_add] at hS)) | (refine M_ap hS ?_; clear hS; intro g cap w hS) | refine M_pn ?_) | refine X_k (by (try simp only [Fm.toList, List.set_cons_succ, List.set_cons_zero]); exact rfl) ?_ | refine S_u ?_ | refine S_v ?_ | refine C_sq ?_ | refine C_rg ?_ | refine L_nil ?_ | refine C_bk ?_ | refine C_ct ?_ | refine C_cf ?_ | refine C_sk ?_ | refine C_ex ?_ | refine C_rt ?_ | refine X_e ?_ | refine X_r ?_ | refine X_bh ?_ | refine X_be ?_ | refine X_br ?_ | refine X_bn ?_ | refine X_p ?_ | refine X_bp ?_)
        refine V_1 ⟨A7, c7, rfl, hS.rowOwnM, hS.fr⟩
set_option maxHeartbeats 4000000 in
set_option maxRecDepth 100000 in
theorem rderiveE (L : List Pc) (v e : Int) (x : Nat) (A : Option Addr) (n c : Nat) (W : World) (hA : Rd W 5 A n (rxCells L)) (hL : ∀ p ∈ L, p.ok) (hn : n ≤ 4294967296) (h : nulE L v = e) (he : e ≠ 0) :
    CallsR Try.prog 24 #[.slice A n c, .int .i64 v, .int .u8 (x : Nat)] W fun r w' => r = .tuple #[.slice none 0 0, .int .i64 e] ∧ Fr Nof W w' := by
  have hS := St.start Nof W
  have hT := rnullE L v e A n c W hA hL hn h he
  refine E_r (m := 30) ?_ Try.func24 rfl Try.ntmps24 rfl; refine C_ft ?_
  repeat (first | (refine S_w ?_; first | (refine M_c (hT) ?_) | (refine S_y hS ?_) | ((first | refine M_bA hS ?_ | refine M_b1 hS ?_ | refine M_aA hS ?_ | refine M_a1 hS ?_ | refine M_sl hS ?_ | refine M_s1 hS ?_ | refine M_mm hS ?_); clear hS; intro b w hS) | ((first | refine M_st hS ?_ | refine M_sA hS ?_ | refine M_in hS ?_ | refine M_sR hS ?_); clear hS; intro w hS; (try simp only [List.set_cons_zero, List.set_cons_succ, Nat.zero_add] at hS)) | (refine M_ap hS ?_; clear hS; intro g cap w hS) | refine M_pn ?_) | refine X_k (by (try simp only [Fm.toList, List.set_cons_succ, List.set_cons_zero]); exact rfl) ?_ | refine S_u ?_ | refine S_v ?_ | refine C_sq ?_ | refine C_rg ?_ | refine L_nil ?_ | refine C_bk ?_ | refine C_ct ?_ | refine C_cf ?_ | refine C_sk ?_ | refine C_ex ?_ | refine C_rt ?_ | refine X_e ?_ | refine X_r ?_ | refine X_bh ?_ | refine X_be ?_ | refine X_br ?_ | refine X_bn ?_ | refine X_p ?_ | refine X_bp ?_)
  rintro _ w1 ⟨rfl, hb⟩
  have hS := hS.call hb
  repeat (first | (refine S_w ?_; first | (refine S_y hS ?_) | ((first | refine M_bA hS ?_ | refine M_b1 hS ?_ | refine M_aA hS ?_ | refine M_a1 hS ?_ | refine M_sl hS ?_ | refine M_s1 hS ?_ | refine M_mm hS ?_); clear hS; intro b w hS) | ((first | refine M_st hS ?_ | refine M_sA hS ?_ | refine M_in hS ?_ | refine M_sR hS ?_); clear hS; intro w hS; (try simp only [List.set_cons_zero, List.set_cons_succ, Nat.zero_add] at hS)) | (refine M_ap hS ?_; clear hS; intro g cap w hS) | refine M_pn ?_) | refine X_k (by (try simp only [Fm.toList, List.set_cons_succ, List.set_cons_zero]); exact rfl) ?_ | refine S_u ?_ | refine S_v ?_ | refine C_sq ?_ | refine C_rg ?_ | refine L_nil ?_ | refine C_bk ?_ | refine C_ct ?_ | refine C_cf ?_ | refine C_sk ?_ | refine C_ex ?_ | refine C_rt ?_ | refine X_e ?_ | refine X_r ?_ | refine X_bh ?_ | refine X_be ?_ | refine X_br ?_ | refine X_bn ?_ | refine X_p ?_ | refine X_bp ?_)
  refine V_2 ⟨rfl, hS.fr⟩
set_option maxHeartbeats 4000000 in
set_option maxRecDepth 100000 in
theorem rderiveT (t : T) (v : Int) (x : Nat) (A : Option Addr) (n c : Nat) (W : World) (hA : Rd W 5 A n (rxCells (t.flat 0))) (hv : 0 ≤ v ∧ v ≤ 6) (h1 : t.wf v) (h2 : t.free true = true) (h3 : t.size ≤ 64) (hp : t.plain = true) (hx : x < 256) :
    CallsR Try.prog 24 #[.slice A n c, .int .i64 v, .int .u8 (x : Nat)] W (DPost v x t W) := by
  have hsz : t.size = n := by have := hA.1; rw [rxCells_len, T.flat_len] at this; omega
  have hds := der_le (x := x) h3
  have hNT := rnullT t v A n c W hA hv h1 h2 h3 hp
  have hD := rderR hv hx t h1 hp h3
  obtain ⟨vn, rfl⟩ := Int.eq_ofNat_of_zero_le hv.1
  have h64 := two_le6 (k := vn) (by omega)
  have hS := (St.start Nof W).addRo (r := Res.rd 5 A n (rxCells (t.flat 0))) hA rfl (fun _ h => by cases h)
  refine E_r (m := 30) ?_ Try.func24 rfl Try.ntmps24 rfl; refine C_ft ?_
  repeat (first | (refine S_w ?_; first | (refine M_c (hNT) ?_) | (refine S_y hS ?_) | ((first | refine M_bA hS ?_ | refine M_b1 hS ?_ | refine M_aA hS ?_ | refine M_a1 hS ?_ | refine M_sl hS ?_ | refine M_s1 hS ?_ | refine M_mm hS ?_); clear hS; intro b w hS) | ((first | refine M_st hS ?_ | refine M_sA hS ?_ | refine M_in hS ?_ | refine M_sR hS ?_); clear hS; intro w hS; (try simp only [List.set_cons_zero, List.set_cons_succ, Nat.zero_add] at hS)) | (refine M_ap hS ?_; clear hS; intro g cap w hS) | refine M_pn ?_) | refine X_k (by (try simp only [Fm.toList, List.set_cons_succ, List.set_cons_zero]); exact rfl) ?_ | refine S_u ?_ | refine S_v ?_ | refine C_sq ?_ | refine C_rg ?_ | refine L_nil ?_ | refine C_bk ?_ | refine C_ct ?_ | refine C_cf ?_ | refine C_sk ?_ | refine C_ex ?_ | refine C_rt ?_ | refine X_e ?_ | refine X_r ?_ | refine X_bh ?_ | refine X_be ?_ | refine X_br ?_ | refine X_bn ?_ | refine X_p ?_ | refine X_bp ?_)
  rintro _ w1 ⟨rfl, hb1⟩
  have hS := hS.call hb1
  have hKL := fun w => Calls.toR (kitLettersN vn (by omega) w)
  repeat (first | (refine S_w ?_; first | (refine M_c (hKL _) ?_) | (refine S_y hS ?_) | ((first | refine M_bA hS ?_ | refine M_b1 hS ?_ | refine M_aA hS ?_ | refine M_a1 hS ?_ | refine M_sl hS ?_ | refine M_s1 hS ?_ | refine M_mm hS ?_); clear hS; intro b w hS) | ((first | refine M_st hS ?_ | refine M_sA hS ?_ | refine M_in hS ?_ | refine M_sR hS ?_); clear hS; intro w hS; (try simp only [List.set_cons_zero, List.set_cons_succ, Nat.zero_add] at hS)) | (refine M_ap hS ?_; clear hS; intro g cap w hS) | refine M_pn ?_) | refine X_k (by (try simp only [Fm.toList, List.set_cons_succ, List.set_cons_zero]); exact rfl) ?_ | refine S_u ?_ | refine S_v ?_ | refine C_sq ?_ | refine C_rg ?_ | refine L_nil ?_ | refine C_bk ?_ | refine C_ct ?_ | refine C_cf ?_ | refine C_sk ?_ | refine C_ex ?_ | refine C_rt ?_ | refine X_e ?_ | refine X_r ?_ | refine X_bh ?_ | refine X_be ?_ | refine X_br ?_ | refine X_bn ?_ | refine X_p ?_ | refine X_bp ?_)
  rintro _ w2 ⟨rfl, rfl⟩
  by_cases hlt : two vn ≤ x
  · have hE : dE vn x t = 1 := by unfold dE; rw [Int.toNat_natCast, if_pos hlt]
    repeat (first | (refine S_w ?_; first | (refine S_y hS ?_) | ((first | refine M_bA hS ?_ | refine M_b1 hS ?_ | refine M_aA hS ?_ | refine M_a1 hS ?_ | refine M_sl hS ?_ | refine M_s1 hS ?_ | refine M_mm hS ?_); clear hS; intro b w hS) | ((first | refine M_st hS ?_ | refine M_sA hS ?_ | refine M_in hS ?_ | refine M_sR hS ?_); clear hS; intro w hS; (try simp only [List.set_cons_zero, List.set_cons_succ, Nat.zero_add] at hS)) | (refine M_ap hS ?_; clear hS; intro g cap w hS) | refine M_pn ?_) | refine X_k (by (try simp only [Fm.toList, List.set_cons_succ, List.set_cons_zero]); exact rfl) ?_ | refine S_u ?_ | refine S_v ?_ | refine C_sq ?_ | refine C_rg ?_ | refine L_nil ?_ | refine C_bk ?_ | refine C_ct ?_ | refine C_cf ?_ | refine C_sk ?_ | refine C_ex ?_ | refine C_rt ?_ | refine X_e ?_ | refine X_r ?_ | refine X_bh ?_ | refine X_be ?_ | refine X_br ?_ | refine X_bn ?_ | refine X_p ?_ | refine X_bp ?_)
    refine V_2 (dPost_err hE (by decide) hS.fr)
  · repeat (first | (refine S_w ?_; first | (refine M_c (hD A n c _ hsz hS.rdAtM) ?_) | (refine S_y hS ?_) | ((first | refine M_bA hS ?_ | refine M_b1 hS ?_ | refine M_aA hS ?_ | refine M_a1 hS ?_ | refine M_sl hS ?_ | refine M_s1 hS ?_ | refine M_mm hS ?_); clear hS; intro b w hS) | ((first | refine M_st hS ?_ | refine M_sA hS ?_ | refine M_in hS ?_ | refine M_sR hS ?_); clear hS; intro w hS; (try simp only [List.set_cons_zero, List.set_cons_succ, Nat.zero_add] at hS)) | (refine M_ap hS ?_; clear hS; intro g cap w hS) | refine M_pn ?_) | refine X_k (by (try simp only [Fm.toList, List.set_cons_succ, List.set_cons_zero]); exact rfl) ?_ | refine S_u ?_ | refine S_v ?_ | refine C_sq ?_ | refine C_rg ?_ | refine L_nil ?_ | refine C_bk ?_ | refine C_ct ?_ | refine C_cf ?_ | refine C_sk ?_ | refine C_ex ?_ | refine C_rt ?_ | refine X_e ?_ | refine X_r ?_ | refine X_bh ?_ | refine X_be ?_ | refine X_br ?_ | refine X_bn ?_ | refine X_p ?_ | refine X_bp ?_)
    rintro _ w3 ⟨A3, c3, rfl, hown3, hb3⟩
    have hS := hS.freshRow hb3.below hown3
    by_cases h6 : 64 < (der x t).size
    · have hE : dE vn x t = 4 := by unfold dE; rw [Int.toNat_natCast, if_neg hlt, if_pos h6]
      repeat (first | (refine S_w ?_; first | (refine S_y hS ?_) | ((first | refine M_bA hS ?_ | refine M_b1 hS ?_ | refine M_aA hS ?_ | refine M_a1 hS ?_ | refine M_sl hS ?_ | refine M_s1 hS ?_ | refine M_mm hS ?_); clear hS; intro b w hS) | ((first | refine M_st hS ?_ | refine M_sA hS ?_ | refine M_in hS ?_ | refine M_sR hS ?_); clear hS; intro w hS; (try simp only [List.set_cons_zero, List.set_cons_succ, Nat.zero_add] at hS)) | (refine M_ap hS ?_; clear hS; intro g cap w hS) | refine M_pn ?_) | refine X_k (by (try simp only [Fm.toList, List.set_cons_succ, List.set_cons_zero]); exact rfl) ?_ | refine S_u ?_ | refine S_v ?_ | refine C_sq ?_ | refine C_rg ?_ | refine L_nil ?_ | refine C_bk ?_ | refine C_ct ?_ | refine C_cf ?_ | refine C_sk ?_ | refine C_ex ?_ | refine C_rt ?_ | refine X_e ?_ | refine X_r ?_ | refine X_bh ?_ | refine X_be ?_ | refine X_br ?_ | refine X_bn ?_ | refine X_p ?_ | refine X_bp ?_)
      refine V_2 (dPost_err hE (by decide) hS.fr)
    · have hE : dE vn x t = 0 := by unfold dE; rw [Int.toNat_natCast, if_neg hlt, if_neg h6]
      have hdl : dL vn x t = (der x t).flat 0 := if_pos hE
      repeat (first | (refine S_w ?_; first | (refine S_y hS ?_) | ((first | refine M_bA hS ?_ | refine M_b1 hS ?_ | refine M_aA hS ?_ | refine M_a1 hS ?_ | refine M_sl hS ?_ | refine M_s1 hS ?_ | refine M_mm hS ?_); clear hS; intro b w hS) | ((first | refine M_st hS ?_ | refine M_sA hS ?_ | refine M_in hS ?_ | refine M_sR hS ?_); clear hS; intro w hS; (try simp only [List.set_cons_zero, List.set_cons_succ, Nat.zero_add] at hS)) | (refine M_ap hS ?_; clear hS; intro g cap w hS) | refine M_pn ?_) | refine X_k (by (try simp only [Fm.toList, List.set_cons_succ, List.set_cons_zero]); exact rfl) ?_ | refine S_u ?_ | refine S_v ?_ | refine C_sq ?_ | refine C_rg ?_ | refine L_nil ?_ | refine C_bk ?_ | refine C_ct ?_ | refine C_cf ?_ | refine C_sk ?_ | refine C_ex ?_ | refine C_rt ?_ | refine X_e ?_ | refine X_r ?_ | refine X_bh ?_ | refine X_be ?_ | refine X_br ?_ | refine X_bn ?_ | refine X_p ?_ | refine X_bp ?_)
      have hv2 : Value.tuple #[.slice A3 (der x t).size c3, .int .i64 0] = .tuple #[.slice A3 (dL vn x t).length c3, .int .i64 (dE vn x t)] := by rw [hdl, T.flat_len, hE]
      refine V_2 ⟨A3, c3, hv2, ?_, hS.fr⟩
      rw [hdl, T.flat_len]
      exact hS.rowOwnM
end Go.Proofs.Ytebdkmfgfjanoaa
