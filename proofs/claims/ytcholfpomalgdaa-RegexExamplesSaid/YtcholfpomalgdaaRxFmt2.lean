/-
  regex.Check, Plain, Format.
-/
import Derived.Test.YtcholfpomalgdaaRxFmt
namespace Go.Proofs.Ytcholfpomalgdaa
open Go.RowKit

theorem checkF {A : Option Addr} {n c : Nat} {L : List Pc} {v : Int} {W : World} (hA : Rd W 5 A n (rxCells L)) (hL : ∀ p ∈ L, p.ok) (hn : n ≤ 4294967296) :
    CallsR Try.prog 27 #[.slice A n c, .int .i64 v] W fun r w' => (∃ A' m c', r = .tuple #[.slice A' m c', .int .i64 (chkR L v)]) ∧ Fr Nof W w' :=
  (checkR A n c L v W hA hL hn).mono fun _ _ ⟨A', c', he, _, hf⟩ => ⟨⟨A', _, c', he⟩, hf⟩
set_option maxHeartbeats 4000000 in
set_option maxRecDepth 100000 in
theorem CheckR (A : Option Addr) (n c : Nat) (L : List Pc) (v : Int) (W : World) (hA : Rd W 5 A n (rxCells L)) (hL : ∀ p ∈ L, p.ok) (hn : n ≤ 4294967296) :
    CallsR Try.prog 22 #[.slice A n c, .int .i64 v] W fun r w' => r = .int .i64 (chkR L v) ∧ Fr Nof W w' := by
  have hS := (St.start Nof W).addRo (r := Res.rd 5 A n (rxCells L)) hA rfl (fun _ h => by cases h)
  refine E_r (m := 12) ?_ Try.func22 rfl Try.ntmps22 rfl; refine C_ft ?_
  repeat (first | (refine S_w ?_; first | (refine M_c (checkF ((inferInstance : HasSl _ A _ _ _).rd hS) hL hn) ?_) | (refine S_y hS ?_) | ((first | refine M_bA hS ?_ | refine M_b1 hS ?_ | refine M_aA hS ?_ | refine M_a1 hS ?_ | refine M_sl hS ?_ | refine M_s1 hS ?_ | refine M_mm hS ?_); clear hS; intro b w hS) | ((first | refine M_st hS ?_ | refine M_sA hS ?_ | refine M_in hS ?_ | refine M_sR hS ?_); clear hS; intro w hS; (try simp only [List.set_cons_zero, List.set_cons_succ, Nat.zero_add] at hS)) | (refine M_ap hS ?_; clear hS; intro g cap w hS) | refine M_pn ?_) | refine X_k (by (try simp only [Fm.toList, List.set_cons_succ, List.set_cons_zero]); exact rfl) ?_ | refine S_u ?_ | refine S_v ?_ | refine C_sq ?_ | refine C_rg ?_ | refine L_nil ?_ | refine C_bk ?_ | refine C_ct ?_ | refine C_cf ?_ | refine C_sk ?_ | refine C_ex ?_ | refine C_rt ?_ | refine X_e ?_ | refine X_r ?_ | refine X_bh ?_ | refine X_be ?_ | refine X_br ?_ | refine X_bn ?_ | refine X_p ?_ | refine X_bp ?_)
  rintro _ w1 ⟨⟨A1, m, c1, rfl⟩, hb1⟩
  have hS := hS.call hb1
  repeat (first | (refine S_w ?_; first | (refine S_y hS ?_) | ((first | refine M_bA hS ?_ | refine M_b1 hS ?_ | refine M_aA hS ?_ | refine M_a1 hS ?_ | refine M_sl hS ?_ | refine M_s1 hS ?_ | refine M_mm hS ?_); clear hS; intro b w hS) | ((first | refine M_st hS ?_ | refine M_sA hS ?_ | refine M_in hS ?_ | refine M_sR hS ?_); clear hS; intro w hS; (try simp only [List.set_cons_zero, List.set_cons_succ, Nat.zero_add] at hS)) | (refine M_ap hS ?_; clear hS; intro g cap w hS) | refine M_pn ?_) | refine X_k (by (try simp only [Fm.toList, List.set_cons_succ, List.set_cons_zero]); exact rfl) ?_ | refine S_u ?_ | refine S_v ?_ | refine C_sq ?_ | refine C_rg ?_ | refine L_nil ?_ | refine C_bk ?_ | refine C_ct ?_ | refine C_cf ?_ | refine C_sk ?_ | refine C_ex ?_ | refine C_rt ?_ | refine X_e ?_ | refine X_r ?_ | refine X_bh ?_ | refine X_be ?_ | refine X_br ?_ | refine X_bn ?_ | refine X_p ?_ | refine X_bp ?_)
  refine V_1 ⟨rfl, hS.fr⟩
/-- the tree of a valid list -/
theorem chk_tree {L : List Pc} {v : Int} (h : chkR L v = 0) : ∃ t : T, (stkRun v L []) = (0, [t]) ∧ t.wf v ∧ t.free true = true ∧ t.size ≤ 64 ∧ L = t.flat 0 ∧ 0 ≤ v ∧ v ≤ 6 := by
  obtain ⟨hv, t, h1, h2, h3, h4⟩ := chkR_zero.1 h
  refine ⟨t, ?_, h1, h2, h3, h4, hv⟩
  subst h4
  have := stkRun_tree (v := v) t [] [] h1
  simpa [stkSize, stkRun] using this
def treeOf (L : List Pc) (v : Int) : Option T := if chkR L v = 0 then (stkRun v L []).2.head? else none
def fmtR (L : List Pc) (v : Int) : List UInt8 := match treeOf L v with | some t => t.text | none => []
theorem fmtR_tree {v : Int} {t : T} (hv : 0 ≤ v ∧ v ≤ 6) (h1 : t.wf v) (h2 : t.free true = true) (h3 : t.size ≤ 64) : treeOf (t.flat 0) v = some t := by
  have h : chkR (t.flat 0) v = 0 := chkR_zero.2 ⟨hv, t, h1, h2, h3, rfl⟩
  have := stkRun_tree (v := v) t [] [] h1
  have : stkRun v (t.flat 0) [] = (0, [t]) := by simpa [stkSize, stkRun] using this
  rw [treeOf, if_pos h, this]; rfl
theorem fmtR_bad {L : List Pc} {v : Int} (h : chkR L v ≠ 0) : fmtR L v = [] := by rw [fmtR, treeOf, if_neg h]
theorem fmtR_len (L : List Pc) (v : Int) : (fmtR L v).length ≤ 2176 := by
  by_cases h : chkR L v = 0
  · obtain ⟨t, _, h1, h2, h3, rfl, hv⟩ := chk_tree h
    rw [fmtR, fmtR_tree hv h1 h2 h3]
    have := T.text_len t
    simp only; omega
  · rw [fmtR_bad h]; simp
set_option maxHeartbeats 4000000 in
set_option maxRecDepth 100000 in
theorem formatR (A : Option Addr) (n c : Nat) (L : List Pc) (v : Int) (W : World) (hA : Rd W 5 A n (rxCells L)) (hL : ∀ p ∈ L, p.ok) (hn : n ≤ 4294967296) :
    CallsR Try.prog 11 #[.slice A n c, .int .i64 v] W fun r w' => r = .tuple #[.string ⟨(fmtR L v).toArray⟩, .int .i64 (chkR L v)] ∧ Fr Nof W w' := by
  have hl : L.length = n := by have := hA.1; rw [rxCells_len] at this; omega
  have hS := (St.start Nof W).addRo (r := Res.rd 5 A n (rxCells L)) hA rfl (fun _ h => by cases h)
  refine E_r (m := 24) ?_ Try.func11 rfl Try.ntmps11 rfl; refine C_ft ?_
  by_cases he : chkR L v = 0
  · obtain ⟨t, hst, h1, h2, h3, rfl, hv⟩ := chk_tree he
    have hf : fmtR (t.flat 0) v = t.text := by rw [fmtR, fmtR_tree hv h1 h2 h3]
    have hsz : t.size = n := by rw [← hl, T.flat_len]
    have hpos := T.size_pos t
    repeat (first | (refine S_w ?_; first | (refine M_c (checkF ((inferInstance : HasSl _ A _ _ _).rd hS) hL hn) ?_) | (refine S_y hS ?_) | ((first | refine M_bA hS ?_ | refine M_b1 hS ?_ | refine M_aA hS ?_ | refine M_a1 hS ?_ | refine M_sl hS ?_ | refine M_s1 hS ?_ | refine M_mm hS ?_); clear hS; intro b w hS) | ((first | refine M_st hS ?_ | refine M_sA hS ?_ | refine M_in hS ?_ | refine M_sR hS ?_); clear hS; intro w hS; (try simp only [List.set_cons_zero, List.set_cons_succ, Nat.zero_add] at hS)) | (refine M_ap hS ?_; clear hS; intro g cap w hS) | refine M_pn ?_) | refine X_k (by (try simp only [Fm.toList, List.set_cons_succ, List.set_cons_zero]); exact rfl) ?_ | refine S_u ?_ | refine S_v ?_ | refine C_sq ?_ | refine C_rg ?_ | refine L_nil ?_ | refine C_bk ?_ | refine C_ct ?_ | refine C_cf ?_ | refine C_sk ?_ | refine C_ex ?_ | refine C_rt ?_ | refine X_e ?_ | refine X_r ?_ | refine X_bh ?_ | refine X_be ?_ | refine X_br ?_ | refine X_bn ?_ | refine X_p ?_ | refine X_bp ?_)
    rintro _ w1 ⟨⟨A1, m, c1, rfl⟩, hb1⟩
    have hS := hS.call hb1
    rw [he]
    repeat (first | (refine S_w ?_; first | (refine S_y hS ?_) | ((first | refine M_bA hS ?_ | refine M_b1 hS ?_ | refine M_aA hS ?_ | refine M_a1 hS ?_ | refine M_sl hS ?_ | refine M_s1 hS ?_ | refine M_mm hS ?_); clear hS; intro b w hS) | ((first | refine M_st hS ?_ | refine M_sA hS ?_ | refine M_in hS ?_ | refine M_sR hS ?_); clear hS; intro w hS; (try simp only [List.set_cons_zero, List.set_cons_succ, Nat.zero_add] at hS)) | (refine M_ap hS ?_; clear hS; intro g cap w hS) | refine M_pn ?_) | refine X_k (by (try simp only [Fm.toList, List.set_cons_succ, List.set_cons_zero]); exact rfl) ?_ | refine S_u ?_ | refine S_v ?_ | refine C_sq ?_ | refine C_rg ?_ | refine L_nil ?_ | refine C_bk ?_ | refine C_ct ?_ | refine C_cf ?_ | refine C_sk ?_ | refine C_ex ?_ | refine C_rt ?_ | refine X_e ?_ | refine X_r ?_ | refine X_bh ?_ | refine X_be ?_ | refine X_br ?_ | refine X_bn ?_ | refine X_p ?_ | refine X_bp ?_)
    rename_i be _ bv _ _ bb _ _
    have hi : (((0 + t.size : Nat) : Int) - 1) = (n : Int) - 1 := by omega
    have hw := fun (fty : TypeId) rs w => writeR A n c (t.flat 0) be bb bv b fty hl hn (v := v) t 0 (At.whole t) h1 Nof W rs w []
    rw [hi] at hw
    have hB : Bst Nof W bb [] _ w := ⟨.pointer none, .slice none 0 0, .inl rfl, (hS.rowNil 5 1).p3.p3⟩
    repeat (first | (refine S_w ?_; first | (refine M_c (hw _ _ _ hB (by simp; omega) inferInstance inferInstance inferInstance inferInstance) ?_) | (refine S_y hS ?_) | ((first | refine M_bA hS ?_ | refine M_b1 hS ?_ | refine M_aA hS ?_ | refine M_a1 hS ?_ | refine M_sl hS ?_ | refine M_s1 hS ?_ | refine M_mm hS ?_); clear hS; intro b w hS) | ((first | refine M_st hS ?_ | refine M_sA hS ?_ | refine M_in hS ?_ | refine M_sR hS ?_); clear hS; intro w hS; (try simp only [List.set_cons_zero, List.set_cons_succ, Nat.zero_add] at hS)) | (refine M_ap hS ?_; clear hS; intro g cap w hS) | refine M_pn ?_) | refine X_k (by (try simp only [Fm.toList, List.set_cons_succ, List.set_cons_zero]); exact rfl) ?_ | refine S_u ?_ | refine S_v ?_ | refine C_sq ?_ | refine C_rg ?_ | refine L_nil ?_ | refine C_bk ?_ | refine C_ct ?_ | refine C_cf ?_ | refine C_sk ?_ | refine C_ex ?_ | refine C_rt ?_ | refine X_e ?_ | refine X_r ?_ | refine X_bh ?_ | refine X_be ?_ | refine X_br ?_ | refine X_bn ?_ | refine X_p ?_ | refine X_bp ?_)
    rintro _ w2 ⟨rfl, hB⟩
    clear hS
    have hS := St.start Nof w2
    repeat (first | (refine S_w ?_; first | (refine M_c (strR (fun _ h => h) hB) ?_) | (refine S_y hS ?_) | ((first | refine M_bA hS ?_ | refine M_b1 hS ?_ | refine M_aA hS ?_ | refine M_a1 hS ?_ | refine M_sl hS ?_ | refine M_s1 hS ?_ | refine M_mm hS ?_); clear hS; intro b w hS) | ((first | refine M_st hS ?_ | refine M_sA hS ?_ | refine M_in hS ?_ | refine M_sR hS ?_); clear hS; intro w hS; (try simp only [List.set_cons_zero, List.set_cons_succ, Nat.zero_add] at hS)) | (refine M_ap hS ?_; clear hS; intro g cap w hS) | refine M_pn ?_) | refine X_k (by (try simp only [Fm.toList, List.set_cons_succ, List.set_cons_zero]); exact rfl) ?_ | refine S_u ?_ | refine S_v ?_ | refine C_sq ?_ | refine C_rg ?_ | refine L_nil ?_ | refine C_bk ?_ | refine C_ct ?_ | refine C_cf ?_ | refine C_sk ?_ | refine C_ex ?_ | refine C_rt ?_ | refine X_e ?_ | refine X_r ?_ | refine X_bh ?_ | refine X_be ?_ | refine X_br ?_ | refine X_bn ?_ | refine X_p ?_ | refine X_bp ?_)
    rintro _ w3 ⟨rfl, hf3⟩
    clear hS
    have hS := St.start Nof w3
    repeat (first | (refine S_w ?_; first | (refine S_y hS ?_) | ((first | refine M_bA hS ?_ | refine M_b1 hS ?_ | refine M_aA hS ?_ | refine M_a1 hS ?_ | refine M_sl hS ?_ | refine M_s1 hS ?_ | refine M_mm hS ?_); clear hS; intro b w hS) | ((first | refine M_st hS ?_ | refine M_sA hS ?_ | refine M_in hS ?_ | refine M_sR hS ?_); clear hS; intro w hS; (try simp only [List.set_cons_zero, List.set_cons_succ, Nat.zero_add] at hS)) | (refine M_ap hS ?_; clear hS; intro g cap w hS) | refine M_pn ?_) | refine X_k (by (try simp only [Fm.toList, List.set_cons_succ, List.set_cons_zero]); exact rfl) ?_ | refine S_u ?_ | refine S_v ?_ | refine C_sq ?_ | refine C_rg ?_ | refine L_nil ?_ | refine C_bk ?_ | refine C_ct ?_ | refine C_cf ?_ | refine C_sk ?_ | refine C_ex ?_ | refine C_rt ?_ | refine X_e ?_ | refine X_r ?_ | refine X_bh ?_ | refine X_be ?_ | refine X_br ?_ | refine X_bn ?_ | refine X_p ?_ | refine X_bp ?_)
    refine V_2 ⟨by rw [hf], hf3⟩
  · have hf := fmtR_bad he
    repeat (first | (refine S_w ?_; first | (refine M_c (checkF ((inferInstance : HasSl _ A _ _ _).rd hS) hL hn) ?_) | (refine S_y hS ?_) | ((first | refine M_bA hS ?_ | refine M_b1 hS ?_ | refine M_aA hS ?_ | refine M_a1 hS ?_ | refine M_sl hS ?_ | refine M_s1 hS ?_ | refine M_mm hS ?_); clear hS; intro b w hS) | ((first | refine M_st hS ?_ | refine M_sA hS ?_ | refine M_in hS ?_ | refine M_sR hS ?_); clear hS; intro w hS; (try simp only [List.set_cons_zero, List.set_cons_succ, Nat.zero_add] at hS)) | (refine M_ap hS ?_; clear hS; intro g cap w hS) | refine M_pn ?_) | refine X_k (by (try simp only [Fm.toList, List.set_cons_succ, List.set_cons_zero]); exact rfl) ?_ | refine S_u ?_ | refine S_v ?_ | refine C_sq ?_ | refine C_rg ?_ | refine L_nil ?_ | refine C_bk ?_ | refine C_ct ?_ | refine C_cf ?_ | refine C_sk ?_ | refine C_ex ?_ | refine C_rt ?_ | refine X_e ?_ | refine X_r ?_ | refine X_bh ?_ | refine X_be ?_ | refine X_br ?_ | refine X_bn ?_ | refine X_p ?_ | refine X_bp ?_)
    rintro _ w1 ⟨⟨A1, m, c1, rfl⟩, hb1⟩
    have hS := hS.call hb1
    repeat (first | (refine S_w ?_; first | (refine S_y hS ?_) | ((first | refine M_bA hS ?_ | refine M_b1 hS ?_ | refine M_aA hS ?_ | refine M_a1 hS ?_ | refine M_sl hS ?_ | refine M_s1 hS ?_ | refine M_mm hS ?_); clear hS; intro b w hS) | ((first | refine M_st hS ?_ | refine M_sA hS ?_ | refine M_in hS ?_ | refine M_sR hS ?_); clear hS; intro w hS; (try simp only [List.set_cons_zero, List.set_cons_succ, Nat.zero_add] at hS)) | (refine M_ap hS ?_; clear hS; intro g cap w hS) | refine M_pn ?_) | refine X_k (by (try simp only [Fm.toList, List.set_cons_succ, List.set_cons_zero]); exact rfl) ?_ | refine S_u ?_ | refine S_v ?_ | refine C_sq ?_ | refine C_rg ?_ | refine L_nil ?_ | refine C_bk ?_ | refine C_ct ?_ | refine C_cf ?_ | refine C_sk ?_ | refine C_ex ?_ | refine C_rt ?_ | refine X_e ?_ | refine X_r ?_ | refine X_bh ?_ | refine X_be ?_ | refine X_br ?_ | refine X_bn ?_ | refine X_p ?_ | refine X_bp ?_)
    refine V_2 ⟨by rw [hf], hS.fr⟩

/-! Plain -/
def isLook (op : Nat) : Bool := op == 9 || op == 10
def plnB (L : List Pc) : Bool := L.all fun p => !isLook p.op
def plnR (L : List Pc) (v : Int) : Bool := if chkR L v = 0 then plnB L else false
theorem pln_take_succ {L : List Pc} {i : Nat} {p : Pc} (h : L[i]? = some p) : plnB (L.take (i + 1)) = (plnB (L.take i) && !isLook p.op) := by
  rw [plnB, List.take_add_one, h]; simp [plnB]
theorem pln_false {L : List Pc} {i : Nat} {p : Pc} (h : L[i]? = some p) (hp : isLook p.op = true) : plnB L = false := by
  rw [plnB, List.all_eq_false]
  exact ⟨p, List.mem_of_getElem? h, by simp [hp]⟩
set_option maxHeartbeats 4000000 in
set_option maxRecDepth 100000 in
theorem plainR (A : Option Addr) (n c : Nat) (L : List Pc) (v : Int) (W : World) (hA : Rd W 5 A n (rxCells L)) (hL : ∀ p ∈ L, p.ok) (hn : n ≤ 4294967296) :
    CallsR Try.prog 13 #[.slice A n c, .int .i64 v] W fun r w' => r = .tuple #[.bool (plnR L v), .int .i64 (chkR L v)] ∧ Fr Nof W w' := by
  have hl : L.length = n := by have := hA.1; rw [rxCells_len] at this; omega
  have hS := (St.start Nof W).addRo (r := Res.rd 5 A n (rxCells L)) hA rfl (fun _ h => by cases h)
  refine E_r (m := 32) ?_ Try.func13 rfl Try.ntmps13 rfl; refine C_ft ?_
  repeat (first | (refine S_w ?_; first | (refine M_c (checkF ((inferInstance : HasSl _ A _ _ _).rd hS) hL hn) ?_) | (refine S_y hS ?_) | ((first | refine M_bA hS ?_ | refine M_b1 hS ?_ | refine M_aA hS ?_ | refine M_a1 hS ?_ | refine M_sl hS ?_ | refine M_s1 hS ?_ | refine M_mm hS ?_); clear hS; intro b w hS) | ((first | refine M_st hS ?_ | refine M_sA hS ?_ | refine M_in hS ?_ | refine M_sR hS ?_); clear hS; intro w hS; (try simp only [List.set_cons_zero, List.set_cons_succ, Nat.zero_add] at hS)) | (refine M_ap hS ?_; clear hS; intro g cap w hS) | refine M_pn ?_) | refine X_k (by (try simp only [Fm.toList, List.set_cons_succ, List.set_cons_zero]); exact rfl) ?_ | refine S_u ?_ | refine S_v ?_ | refine C_sq ?_ | refine C_rg ?_ | refine L_nil ?_ | refine C_bk ?_ | refine C_ct ?_ | refine C_cf ?_ | refine C_sk ?_ | refine C_ex ?_ | refine C_rt ?_ | refine X_e ?_ | refine X_r ?_ | refine X_bh ?_ | refine X_be ?_ | refine X_br ?_ | refine X_bn ?_ | refine X_p ?_ | refine X_bp ?_)
  rintro _ w1 ⟨⟨A1, m, c1, rfl⟩, hb1⟩
  have hS := hS.call hb1
  by_cases he : chkR L v = 0
  · have hp : plnR L v = plnB L := if_pos he
    rw [he]
    repeat (first | (refine S_w ?_; first | (refine S_y hS ?_) | ((first | refine M_bA hS ?_ | refine M_b1 hS ?_ | refine M_aA hS ?_ | refine M_a1 hS ?_ | refine M_sl hS ?_ | refine M_s1 hS ?_ | refine M_mm hS ?_); clear hS; intro b w hS) | ((first | refine M_st hS ?_ | refine M_sA hS ?_ | refine M_in hS ?_ | refine M_sR hS ?_); clear hS; intro w hS; (try simp only [List.set_cons_zero, List.set_cons_succ, Nat.zero_add] at hS)) | (refine M_ap hS ?_; clear hS; intro g cap w hS) | refine M_pn ?_) | refine X_k (by (try simp only [Fm.toList, List.set_cons_succ, List.set_cons_zero]); exact rfl) ?_ | refine S_u ?_ | refine S_v ?_ | refine C_sq ?_ | refine C_rg ?_ | refine L_nil ?_ | refine C_bk ?_ | refine C_ct ?_ | refine C_cf ?_ | refine C_sk ?_ | refine C_ex ?_ | refine C_rt ?_ | refine X_e ?_ | refine X_r ?_ | refine X_bh ?_ | refine X_be ?_ | refine X_br ?_ | refine X_bn ?_ | refine X_p ?_ | refine X_bp ?_)
    refine C_lp [4, 2, 3, 1, 11, 13] (fun i : Nat => [(21, .int .i64 (i : Nat))]) (fun i w' => i ≤ n ∧ plnB (L.take i) = true ∧ St Nof W [Res.rd 5 A n (rxCells L)] w') (fun i => n - i) 0 ⟨Nat.zero_le _, rfl, hS⟩ ?_
    clear hS
    rintro i y w ⟨hi, hpl, hS⟩
    refine C_fs ?_
    by_cases hlt : i < n
    · obtain ⟨p, hx⟩ : ∃ p, L[i]? = some p := ⟨L[i], List.getElem?_eq_getElem (by omega)⟩
      have hpo := (hL p (List.mem_of_getElem? hx)).op
      have hpd := rxCells_drop hx
      by_cases h9 : p.op = 9
      · have hpf := pln_false hx (by rw [h9]; rfl)
        repeat (first | (refine S_w ?_; first | (refine S_y hS ?_) | ((first | refine M_bA hS ?_ | refine M_b1 hS ?_ | refine M_aA hS ?_ | refine M_a1 hS ?_ | refine M_sl hS ?_ | refine M_s1 hS ?_ | refine M_mm hS ?_); clear hS; intro b w hS) | ((first | refine M_st hS ?_ | refine M_sA hS ?_ | refine M_in hS ?_ | refine M_sR hS ?_); clear hS; intro w hS; (try simp only [List.set_cons_zero, List.set_cons_succ, Nat.zero_add] at hS)) | (refine M_ap hS ?_; clear hS; intro g cap w hS) | refine M_pn ?_) | refine X_k (by (try simp only [Fm.toList, List.set_cons_succ, List.set_cons_zero]); exact rfl) ?_ | refine S_u ?_ | refine S_v ?_ | refine C_sq ?_ | refine C_rg ?_ | refine L_nil ?_ | refine C_bk ?_ | refine C_ct ?_ | refine C_cf ?_ | refine C_sk ?_ | refine C_ex ?_ | refine C_rt ?_ | refine X_e ?_ | refine X_r ?_ | refine X_bh ?_ | refine X_be ?_ | refine X_br ?_ | refine X_bn ?_ | refine X_p ?_ | refine X_bp ?_)
        refine V_2 ⟨by rw [hp, hpf], hS.sub (List.Sublist.cons _ (List.Sublist.refl _)) |>.fr⟩
      · by_cases h10 : p.op = 10
        · have hpf := pln_false hx (by rw [h10]; rfl)
          repeat (first | (refine S_w ?_; first | (refine S_y hS ?_) | ((first | refine M_bA hS ?_ | refine M_b1 hS ?_ | refine M_aA hS ?_ | refine M_a1 hS ?_ | refine M_sl hS ?_ | refine M_s1 hS ?_ | refine M_mm hS ?_); clear hS; intro b w hS) | ((first | refine M_st hS ?_ | refine M_sA hS ?_ | refine M_in hS ?_ | refine M_sR hS ?_); clear hS; intro w hS; (try simp only [List.set_cons_zero, List.set_cons_succ, Nat.zero_add] at hS)) | (refine M_ap hS ?_; clear hS; intro g cap w hS) | refine M_pn ?_) | refine X_k (by (try simp only [Fm.toList, List.set_cons_succ, List.set_cons_zero]); exact rfl) ?_ | refine S_u ?_ | refine S_v ?_ | refine C_sq ?_ | refine C_rg ?_ | refine L_nil ?_ | refine C_bk ?_ | refine C_ct ?_ | refine C_cf ?_ | refine C_sk ?_ | refine C_ex ?_ | refine C_rt ?_ | refine X_e ?_ | refine X_r ?_ | refine X_bh ?_ | refine X_be ?_ | refine X_br ?_ | refine X_bn ?_ | refine X_p ?_ | refine X_bp ?_)
          refine V_2 ⟨by rw [hp, hpf], hS.sub (List.Sublist.cons _ (List.Sublist.refl _)) |>.fr⟩
        · have hnl : isLook p.op = false := by simp [isLook, h9, h10]
          have hs := pln_take_succ hx
          rw [hpl, hnl] at hs
          repeat (first | (refine S_w ?_; first | (refine S_y hS ?_) | ((first | refine M_bA hS ?_ | refine M_b1 hS ?_ | refine M_aA hS ?_ | refine M_a1 hS ?_ | refine M_sl hS ?_ | refine M_s1 hS ?_ | refine M_mm hS ?_); clear hS; intro b w hS) | ((first | refine M_st hS ?_ | refine M_sA hS ?_ | refine M_in hS ?_ | refine M_sR hS ?_); clear hS; intro w hS; (try simp only [List.set_cons_zero, List.set_cons_succ, Nat.zero_add] at hS)) | (refine M_ap hS ?_; clear hS; intro g cap w hS) | refine M_pn ?_) | refine X_k (by (try simp only [Fm.toList, List.set_cons_succ, List.set_cons_zero]); exact rfl) ?_ | refine S_u ?_ | refine S_v ?_ | refine C_sq ?_ | refine C_rg ?_ | refine L_nil ?_ | refine C_bk ?_ | refine C_ct ?_ | refine C_cf ?_ | refine C_sk ?_ | refine C_ex ?_ | refine C_rt ?_ | refine X_e ?_ | refine X_r ?_ | refine X_bh ?_ | refine X_be ?_ | refine X_br ?_ | refine X_bn ?_ | refine X_p ?_ | refine X_bp ?_)
          refine R_e (i + 1) ⟨by omega, hs, hS.sb⟩ (by omega)
    · obtain rfl : i = n := by omega
      rw [List.take_of_length_le (by omega)] at hpl
      repeat (first | (refine S_w ?_; first | (refine S_y hS ?_) | ((first | refine M_bA hS ?_ | refine M_b1 hS ?_ | refine M_aA hS ?_ | refine M_a1 hS ?_ | refine M_sl hS ?_ | refine M_s1 hS ?_ | refine M_mm hS ?_); clear hS; intro b w hS) | ((first | refine M_st hS ?_ | refine M_sA hS ?_ | refine M_in hS ?_ | refine M_sR hS ?_); clear hS; intro w hS; (try simp only [List.set_cons_zero, List.set_cons_succ, Nat.zero_add] at hS)) | (refine M_ap hS ?_; clear hS; intro g cap w hS) | refine M_pn ?_) | refine X_k (by (try simp only [Fm.toList, List.set_cons_succ, List.set_cons_zero]); exact rfl) ?_ | refine S_u ?_ | refine S_v ?_ | refine C_sq ?_ | refine C_rg ?_ | refine L_nil ?_ | refine C_bk ?_ | refine C_ct ?_ | refine C_cf ?_ | refine C_sk ?_ | refine C_ex ?_ | refine C_rt ?_ | refine X_e ?_ | refine X_r ?_ | refine X_bh ?_ | refine X_be ?_ | refine X_br ?_ | refine X_bn ?_ | refine X_p ?_ | refine X_bp ?_)
      refine V_2 ⟨by rw [hp, hpl], hS.fr⟩
  · have hp : plnR L v = false := if_neg he
    repeat (first | (refine S_w ?_; first | (refine S_y hS ?_) | ((first | refine M_bA hS ?_ | refine M_b1 hS ?_ | refine M_aA hS ?_ | refine M_a1 hS ?_ | refine M_sl hS ?_ | refine M_s1 hS ?_ | refine M_mm hS ?_); clear hS; intro b w hS) | ((first | refine M_st hS ?_ | refine M_sA hS ?_ | refine M_in hS ?_ | refine M_sR hS ?_); clear hS; intro w hS; (try simp only [List.set_cons_zero, List.set_cons_succ, Nat.zero_add] at hS)) | (refine M_ap hS ?_; clear hS; intro g cap w hS) | refine M_pn ?_) | refine X_k (by (try simp only [Fm.toList, List.set_cons_succ, List.set_cons_zero]); exact rfl) ?_ | refine S_u ?_ | refine S_v ?_ | refine C_sq ?_ | refine C_rg ?_ | refine L_nil ?_ | refine C_bk ?_ | refine C_ct ?_ | refine C_cf ?_ | refine C_sk ?_ | refine C_ex ?_ | refine C_rt ?_ | refine X_e ?_ | refine X_r ?_ | refine X_bh ?_ | refine X_be ?_ | refine X_br ?_ | refine X_bn ?_ | refine X_p ?_ | refine X_bp ?_)
    refine V_2 ⟨by rw [hp], hS.fr⟩
end Go.Proofs.Ytcholfpomalgdaa
