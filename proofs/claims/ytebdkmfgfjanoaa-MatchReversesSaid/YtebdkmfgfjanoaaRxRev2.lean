/-
  regex.Reverse.
-/
import Derived.Test.YtebdkmfgfjanoaaRxRev
namespace Go.Proofs.Ytebdkmfgfjanoaa
open Go.RowKit

section
variable {P : Program} {l : Fm} {w w0 : World} {fn : Func} {R : Value → World → Prop} {F : Nat → Prop} {rs : List Res}
/-- two results, the first in a cell -/
theorem V_ct {a b ba : Nat} {t ta : TypeId} {va vb : Value} {fa : Nat × Nat} (hS : St F w0 rs w) (h : R (.tuple #[va, vb]) w) (hr : fn.results = #[.cell a t, .tmp b] := by rfl) (ha : fnth l a = some (.pointer (some ⟨ba, 0, none⟩)) := by rfl)
    (hma : HasObj rs ba (.cells #[va] ta fa) := by infer_instance) (hta : flatT P t = true := by rfl) (hb : fnth l b = some vb := by rfl) : Wx (bodyPost P fn fun e w' => ∃ v, e = .returned v ∧ R v w') .ret l [] w :=
  ⟨W_ret2 hr (Rv.one hS ha hma.mem hta) (Rv.tmp hb) h⟩
end
/-- what Reverse answers -/
def revL (L : List Pc) (v : Int) : List Pc := match treeOf L v with
  | some t => t.rev.flat 0
  | none => []
theorem revL_tree {v : Int} {t : T} (hv : 0 ≤ v ∧ v ≤ 6) (h1 : t.wf v) (h2 : t.free true = true) (h3 : t.size ≤ 64) : revL (t.flat 0) v = t.rev.flat 0 := by rw [revL, fmtR_tree hv h1 h2 h3]
theorem revL_bad {L : List Pc} {v : Int} (h : chkR L v ≠ 0) : revL L v = [] := by rw [revL, treeOf, if_neg h]
def RvPost (L : List Pc) (v : Int) (W : World) (r : Value) (w' : World) : Prop :=
  ∃ A c, r = .tuple #[.slice A (revL L v).length c, .int .i64 (chkR L v)] ∧ w'.ownsRow W.heap.size 55 5 (.slice A (revL L v).length c) (revL L v).length (rxCells (revL L v)) ∧ Fr Nof W w'
set_option maxHeartbeats 4000000 in
set_option maxRecDepth 100000 in
theorem reverseR (A : Option Addr) (n c : Nat) (L : List Pc) (v : Int) (W : World) (hA : Rd W 5 A n (rxCells L)) (hL : ∀ p ∈ L, p.ok) (hn : n ≤ 4294967296) :
    CallsR Try.prog 31 #[.slice A n c, .int .i64 v] W (RvPost L v W) := by
  have hl : L.length = n := by have := hA.1; rw [rxCells_len] at this; omega
  have hS := (St.start Nof W).addRo (r := Res.rd 5 A n (rxCells L)) hA rfl (fun _ h => by cases h)
  refine E_r (m := 23) ?_ Try.func31 rfl Try.ntmps31 rfl; refine C_ft ?_
  repeat (first | (refine S_w ?_; first | (refine M_c (checkF ((inferInstance : HasSl _ A _ _ _).rd hS) hL hn) ?_) | (refine S_y hS ?_) | ((first | refine M_bA hS ?_ | refine M_b1 hS ?_ | refine M_aA hS ?_ | refine M_a1 hS ?_ | refine M_sl hS ?_ | refine M_s1 hS ?_ | refine M_mm hS ?_); clear hS; intro b w hS) | ((first | refine M_st hS ?_ | refine M_sA hS ?_ | refine M_in hS ?_ | refine M_sR hS ?_); clear hS; intro w hS; (try simp only [List.set_cons_zero, List.set_cons_succ, Nat.zero_add] at hS)) | (refine M_ap hS ?_; clear hS; intro g cap w hS) | refine M_pn ?_) | refine X_k (by (try simp only [Fm.toList, List.set_cons_succ, List.set_cons_zero]); exact rfl) ?_ | refine S_u ?_ | refine S_v ?_ | refine C_sq ?_ | refine C_rg ?_ | refine L_nil ?_ | refine C_bk ?_ | refine C_ct ?_ | refine C_cf ?_ | refine C_sk ?_ | refine C_ex ?_ | refine C_rt ?_ | refine X_e ?_ | refine X_r ?_ | refine X_bh ?_ | refine X_be ?_ | refine X_br ?_ | refine X_bn ?_ | refine X_p ?_ | refine X_bp ?_)
  rintro _ w1 ⟨⟨A1, m, c1, rfl⟩, hb1⟩
  have hS := hS.call hb1
  by_cases he : chkR L v = 0
  · obtain ⟨t, hst, h1, h2, h3, rfl, hv⟩ := chk_tree he
    have hsz : t.size = n := by rw [← hl, T.flat_len]
    have hR := revL_tree hv h1 h2 h3
    have hRl : (t.rev.flat 0).length = n := by rw [T.flat_len, rev_size, hsz]
    have hpos := T.size_pos t
    rw [he]
    repeat (first | (refine S_w ?_; first | (refine S_y hS ?_) | ((first | refine M_bA hS ?_ | refine M_b1 hS ?_ | refine M_aA hS ?_ | refine M_a1 hS ?_ | refine M_sl hS ?_ | refine M_s1 hS ?_ | refine M_mm hS ?_); clear hS; intro b w hS) | ((first | refine M_st hS ?_ | refine M_sA hS ?_ | refine M_in hS ?_ | refine M_sR hS ?_); clear hS; intro w hS; (try simp only [List.set_cons_zero, List.set_cons_succ, Nat.zero_add] at hS)) | (refine M_ap hS ?_; clear hS; intro g cap w hS) | refine M_pn ?_) | refine X_k (by (try simp only [Fm.toList, List.set_cons_succ, List.set_cons_zero]); exact rfl) ?_ | refine S_u ?_ | refine S_v ?_ | refine C_sq ?_ | refine C_rg ?_ | refine L_nil ?_ | refine C_bk ?_ | refine C_ct ?_ | refine C_cf ?_ | refine C_sk ?_ | refine C_ex ?_ | refine C_rt ?_ | refine X_e ?_ | refine X_r ?_ | refine X_bh ?_ | refine X_be ?_ | refine X_br ?_ | refine X_bn ?_ | refine X_p ?_ | refine X_bp ?_)
    rename_i be _ bo _ _ _
    have hi : (((0 + t.size : Nat) : Int) - 1) = (n : Int) - 1 := by omega
    have ht := fun (fty : TypeId) rs w => turnR A n c (t.flat 0) be b bo fty hl hn (v := v) t 0 (At.whole t) h1 Nof W rs w []
    rw [hi] at ht
    have hO : Ost Nof W bo [] _ w := ⟨none, 0, (hS.rowNil 55 5).p3.p3⟩
    repeat (first | (refine S_w ?_; first | (refine M_c (ht _ _ _ hO (by simp only [List.length_nil]; omega) inferInstance inferInstance inferInstance) ?_) | (refine S_y hS ?_) | ((first | refine M_bA hS ?_ | refine M_b1 hS ?_ | refine M_aA hS ?_ | refine M_a1 hS ?_ | refine M_sl hS ?_ | refine M_s1 hS ?_ | refine M_mm hS ?_); clear hS; intro b w hS) | ((first | refine M_st hS ?_ | refine M_sA hS ?_ | refine M_in hS ?_ | refine M_sR hS ?_); clear hS; intro w hS; (try simp only [List.set_cons_zero, List.set_cons_succ, Nat.zero_add] at hS)) | (refine M_ap hS ?_; clear hS; intro g cap w hS) | refine M_pn ?_) | refine X_k (by (try simp only [Fm.toList, List.set_cons_succ, List.set_cons_zero]); exact rfl) ?_ | refine S_u ?_ | refine S_v ?_ | refine C_sq ?_ | refine C_rg ?_ | refine L_nil ?_ | refine C_bk ?_ | refine C_ct ?_ | refine C_cf ?_ | refine C_sk ?_ | refine C_ex ?_ | refine C_rt ?_ | refine X_e ?_ | refine X_r ?_ | refine X_bh ?_ | refine X_be ?_ | refine X_br ?_ | refine X_bn ?_ | refine X_p ?_ | refine X_bp ?_)
    rintro _ w2 ⟨rfl, A2, c2, hS⟩
    rw [List.nil_append, List.length_nil, hRl] at hS
    repeat (first | (refine S_w ?_; first | (refine S_y hS ?_) | ((first | refine M_bA hS ?_ | refine M_b1 hS ?_ | refine M_aA hS ?_ | refine M_a1 hS ?_ | refine M_sl hS ?_ | refine M_s1 hS ?_ | refine M_mm hS ?_); clear hS; intro b w hS) | ((first | refine M_st hS ?_ | refine M_sA hS ?_ | refine M_in hS ?_ | refine M_sR hS ?_); clear hS; intro w hS; (try simp only [List.set_cons_zero, List.set_cons_succ, Nat.zero_add] at hS)) | (refine M_ap hS ?_; clear hS; intro g cap w hS) | refine M_pn ?_) | refine X_k (by (try simp only [Fm.toList, List.set_cons_succ, List.set_cons_zero]); exact rfl) ?_ | refine S_u ?_ | refine S_v ?_ | refine C_sq ?_ | refine C_rg ?_ | refine L_nil ?_ | refine C_bk ?_ | refine C_ct ?_ | refine C_cf ?_ | refine C_sk ?_ | refine C_ex ?_ | refine C_rt ?_ | refine X_e ?_ | refine X_r ?_ | refine X_bh ?_ | refine X_be ?_ | refine X_br ?_ | refine X_bn ?_ | refine X_p ?_ | refine X_bp ?_)
    refine V_ct (va := .slice A2 n c2) (vb := .int .i64 0) hS ⟨A2, c2, by rw [hR, hRl, he], by rw [hR, hRl]; exact hS.rowOwnM, hS.fr⟩
  · have hR := revL_bad he
    repeat (first | (refine S_w ?_; first | (refine S_y hS ?_) | ((first | refine M_bA hS ?_ | refine M_b1 hS ?_ | refine M_aA hS ?_ | refine M_a1 hS ?_ | refine M_sl hS ?_ | refine M_s1 hS ?_ | refine M_mm hS ?_); clear hS; intro b w hS) | ((first | refine M_st hS ?_ | refine M_sA hS ?_ | refine M_in hS ?_ | refine M_sR hS ?_); clear hS; intro w hS; (try simp only [List.set_cons_zero, List.set_cons_succ, Nat.zero_add] at hS)) | (refine M_ap hS ?_; clear hS; intro g cap w hS) | refine M_pn ?_) | refine X_k (by (try simp only [Fm.toList, List.set_cons_succ, List.set_cons_zero]); exact rfl) ?_ | refine S_u ?_ | refine S_v ?_ | refine C_sq ?_ | refine C_rg ?_ | refine L_nil ?_ | refine C_bk ?_ | refine C_ct ?_ | refine C_cf ?_ | refine C_sk ?_ | refine C_ex ?_ | refine C_rt ?_ | refine X_e ?_ | refine X_r ?_ | refine X_bh ?_ | refine X_be ?_ | refine X_br ?_ | refine X_bn ?_ | refine X_p ?_ | refine X_bp ?_)
    refine V_ct (va := .slice none 0 0) (vb := .int .i64 (chkR L v)) hS ⟨none, 0, by rw [hR]; rfl, by rw [hR]; exact World.ownsRow_nil _ _ _ _, hS.fr⟩
end Go.Proofs.Ytebdkmfgfjanoaa
