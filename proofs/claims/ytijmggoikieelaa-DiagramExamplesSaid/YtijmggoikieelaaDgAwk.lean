/-
  The chapter's examples: awake.
-/
import Derived.Test.YtijmggoikieelaaDgMu2
import Derived.Test.YtijmggoikieelaaRgKit
namespace Go.Proofs.Ytijmggoikieelaa
open Go.RowKit

def aN1 : List Dg.Nd := [.leaf 0, .leaf 1, .test 1 0 1, .test 0 2 1]
def aN2 : List Dg.Nd := aN1 ++ [.test 0 0 2]
theorem SI0 (m : Nat) : Dg.SI m [] [] [] := ⟨Dg.Inv.nil, fun t h => (by cases h), fun i h => (by cases h)⟩
theorem a_d1 : insD (fun x => ([0, 1, 1, 1] : List Int).getD x 0) 2 16 [] [] = (3, 0, aN1, [3]) := by kernel_rfl
theorem a_d2 : insD (fun x => ([0, 0, 0, 1] : List Int).getD x 0) 2 16 aN1 [3] = (4, 0, aN2, [3, 4]) := by kernel_rfl
theorem a_d3 : insD (fun x => valO 1 (Dg.ev aN2 3 x) (Dg.ev aN2 4 x)) 2 16 aN2 [3, 4] = (3, 0, aN2, [3, 4]) := by kernel_rfl
theorem a_d4 : insD (fun x => maxI (Dg.ev aN2 3 (x ||| two 0)) (Dg.ev aN2 3 (andN x (two 0)))) 2 16 aN2 [3, 4] = (1, 0, aN2, [3, 4, 1]) := by kernel_rfl
theorem a_d5 : insD (fun x => ([0, 1, 1, 1] : List Int).getD x 0) 2 3 [] [] = (0, 10, [], []) := by kernel_rfl
theorem a_t : Dg.tabOf 2 aN2 1 = [1, 1, 1, 1] := by kernel_rfl
theorem a_s1 : (Dg.ddT 2 [] [Dg.tabOf 2 aN1 3]).length = 4 := by kernel_rfl
theorem a_s2 : (Dg.ddT 2 [] [Dg.tabOf 2 aN2 1]).length = 1 := by kernel_rfl
theorem a_ok1 : Dg.Ok 2 aN1 := by
  have h := (SI0 2).put (t := [0, 1, 1, 1]) rfl (f := fun x => ([0, 1, 1, 1] : List Int).getD x 0) (fun y _ => rfl) (r := 3) (N' := aN1) (by kernel_rfl)
  exact h.1.inv.ok
theorem a_ok2 : Dg.Ok 2 aN2 := by
  have h := (SI0 2).put (t := [0, 1, 1, 1]) rfl (f := fun x => ([0, 1, 1, 1] : List Int).getD x 0) (fun y _ => rfl) (r := 3) (N' := aN1) (by kernel_rfl)
  have h2 := h.1.put (t := [0, 0, 0, 1]) rfl (f := fun x => ([0, 0, 0, 1] : List Int).getD x 0) (fun y _ => rfl) (r := 4) (N' := aN2) (by kernel_rfl)
  exact h2.1.inv.ok
section
variable {F : Nat → Prop} {w0 w : World} {rs : List Res}
set_option maxHeartbeats 16000000 in
set_option maxRecDepth 100000 in
theorem awakeR (hS : St F w0 rs w) : CallsR Try.prog 10 #[] w fun r w' => r = .bool true ∧ St F w0 rs w' := by
  refine E_r (m := 155) ?_ Try.func10 rfl Try.ntmps10 rfl; refine C_ft ?_
  repeat (first | (refine S_w ?_; first | (refine M_c (dnewT (m := 2) (cp := 16) (by decide) (by decide) (by decide) hS) ?_) | (refine S_d hS ?_) | (refine S_y hS ?_) | ((first | refine M_bA hS ?_ | refine M_b1 hS ?_ | refine M_aA hS ?_ | refine M_a1 hS ?_ | refine M_sl hS ?_ | refine M_s1 hS ?_ | refine M_mm hS ?_); clear hS; intro b w hS) | ((first | refine M_st hS ?_ | refine M_sA hS ?_ | refine M_in hS ?_ | refine M_sR hS ?_); clear hS; intro w hS; (try simp only [List.set_cons_zero, List.set_cons_succ, Nat.zero_add] at hS)) | (refine M_ap hS ?_; clear hS; intro g cap w hS) | refine M_pn ?_ | ((first | refine M_im hS ?_ | refine M_ii hS ?_ | refine M_dl hS ?_); clear hS; intro w hS)) | refine X_k (by (try simp only [Fm.toList, List.set_cons_succ, List.set_cons_zero]); exact rfl) ?_ | refine S_u ?_ | refine S_v ?_ | refine C_sq ?_ | refine C_rg ?_ | refine L_nil ?_ | refine C_bk ?_ | refine C_ct ?_ | refine C_cf ?_ | refine C_sk ?_ | refine C_ex ?_ | refine C_rt ?_ | refine X_e ?_ | refine X_r ?_ | refine X_bh ?_ | refine X_be ?_ | refine X_br ?_ | refine X_bn ?_ | refine X_p ?_ | refine X_bp ?_)
  rintro _ w1 ⟨s1, i1, k1, rfl, hS⟩
  repeat (first | (refine S_w ?_; first | (refine M_c (dnewT (m := 2) (cp := 3) (by decide) (by decide) (by decide) hS) ?_) | (refine S_d hS ?_) | (refine S_y hS ?_) | ((first | refine M_bA hS ?_ | refine M_b1 hS ?_ | refine M_aA hS ?_ | refine M_a1 hS ?_ | refine M_sl hS ?_ | refine M_s1 hS ?_ | refine M_mm hS ?_); clear hS; intro b w hS) | ((first | refine M_st hS ?_ | refine M_sA hS ?_ | refine M_in hS ?_ | refine M_sR hS ?_); clear hS; intro w hS; (try simp only [List.set_cons_zero, List.set_cons_succ, Nat.zero_add] at hS)) | (refine M_ap hS ?_; clear hS; intro g cap w hS) | refine M_pn ?_ | ((first | refine M_im hS ?_ | refine M_ii hS ?_ | refine M_dl hS ?_); clear hS; intro w hS)) | refine X_k (by (try simp only [Fm.toList, List.set_cons_succ, List.set_cons_zero]); exact rfl) ?_ | refine S_u ?_ | refine S_v ?_ | refine C_sq ?_ | refine C_rg ?_ | refine L_nil ?_ | refine C_bk ?_ | refine C_ct ?_ | refine C_cf ?_ | refine C_sk ?_ | refine C_ex ?_ | refine C_rt ?_ | refine X_e ?_ | refine X_r ?_ | refine X_bh ?_ | refine X_be ?_ | refine X_br ?_ | refine X_bn ?_ | refine X_p ?_ | refine X_bp ?_)
  rintro _ w2 ⟨s2, i2, k2, rfl, hS⟩
  have hS := hS.mv4
  repeat (first | (refine S_w ?_; first | (refine S_d hS ?_) | (refine S_y hS ?_) | ((first | refine M_bA hS ?_ | refine M_b1 hS ?_ | refine M_aA hS ?_ | refine M_a1 hS ?_ | refine M_sl hS ?_ | refine M_s1 hS ?_ | refine M_mm hS ?_); clear hS; intro b w hS) | ((first | refine M_st hS ?_ | refine M_sA hS ?_ | refine M_in hS ?_ | refine M_sR hS ?_); clear hS; intro w hS; (try simp only [List.set_cons_zero, List.set_cons_succ, Nat.zero_add] at hS)) | (refine M_ap hS ?_; clear hS; intro g cap w hS) | refine M_pn ?_ | ((first | refine M_im hS ?_ | refine M_ii hS ?_ | refine M_dl hS ?_); clear hS; intro w hS)) | refine X_k (by (try simp only [Fm.toList, List.set_cons_succ, List.set_cons_zero]); exact rfl) ?_ | refine S_u ?_ | refine S_v ?_ | refine C_sq ?_ | refine C_rg ?_ | refine L_nil ?_ | refine C_bk ?_ | refine C_ct ?_ | refine C_cf ?_ | refine C_sk ?_ | refine C_ex ?_ | refine C_rt ?_ | refine X_e ?_ | refine X_r ?_ | refine X_bh ?_ | refine X_be ?_ | refine X_br ?_ | refine X_bn ?_ | refine X_p ?_ | refine X_bp ?_)
  obtain ⟨b1, hb1⟩ : ∃ y, y = b := ⟨b, rfl⟩
  subst hb1
  have hS := hS.mv1
  have c1 := dfrtT (At := some ⟨b1, 0, none⟩) (n := 4) (ct := 4) [0, 1, 1, 1] rfl (by decide) (by have h := (SI0 2).inv.ok; exact h) (by decide) (by decide) (hasSlO (b := b1)) hS
  rw [a_d1] at c1
  refine S_w ?_
  refine M_c c1 ?_
  rintro _ w3 ⟨rfl, A3, c3, hS⟩
  simp only at hS ⊢
  repeat (first | (refine S_w ?_; first | (refine M_c (dszT 3 (by decide) a_ok1 (by decide) (by decide) (List.mem_singleton.2 rfl) inferInstance inferInstance inferInstance hS) ?_) | (refine S_d hS ?_) | (refine S_y hS ?_) | ((first | refine M_bA hS ?_ | refine M_b1 hS ?_ | refine M_aA hS ?_ | refine M_a1 hS ?_ | refine M_sl hS ?_ | refine M_s1 hS ?_ | refine M_mm hS ?_); clear hS; intro b w hS) | ((first | refine M_st hS ?_ | refine M_sA hS ?_ | refine M_in hS ?_ | refine M_sR hS ?_); clear hS; intro w hS; (try simp only [List.set_cons_zero, List.set_cons_succ, Nat.zero_add] at hS)) | (refine M_ap hS ?_; clear hS; intro g cap w hS) | refine M_pn ?_ | ((first | refine M_im hS ?_ | refine M_ii hS ?_ | refine M_dl hS ?_); clear hS; intro w hS)) | refine X_k (by (try simp only [Fm.toList, List.set_cons_succ, List.set_cons_zero]); exact rfl) ?_ | refine S_u ?_ | refine S_v ?_ | refine C_sq ?_ | refine C_rg ?_ | refine L_nil ?_ | refine C_bk ?_ | refine C_ct ?_ | refine C_cf ?_ | refine C_sk ?_ | refine C_ex ?_ | refine C_rt ?_ | refine X_e ?_ | refine X_r ?_ | refine X_bh ?_ | refine X_be ?_ | refine X_br ?_ | refine X_bn ?_ | refine X_p ?_ | refine X_bp ?_)
  rintro _ w4 ⟨rfl, hS⟩
  rw [a_s1]
  repeat (first | (refine S_w ?_; first | (refine S_d hS ?_) | (refine S_y hS ?_) | ((first | refine M_bA hS ?_ | refine M_b1 hS ?_ | refine M_aA hS ?_ | refine M_a1 hS ?_ | refine M_sl hS ?_ | refine M_s1 hS ?_ | refine M_mm hS ?_); clear hS; intro b w hS) | ((first | refine M_st hS ?_ | refine M_sA hS ?_ | refine M_in hS ?_ | refine M_sR hS ?_); clear hS; intro w hS; (try simp only [List.set_cons_zero, List.set_cons_succ, Nat.zero_add] at hS)) | (refine M_ap hS ?_; clear hS; intro g cap w hS) | refine M_pn ?_ | ((first | refine M_im hS ?_ | refine M_ii hS ?_ | refine M_dl hS ?_); clear hS; intro w hS)) | refine X_k (by (try simp only [Fm.toList, List.set_cons_succ, List.set_cons_zero]); exact rfl) ?_ | refine S_u ?_ | refine S_v ?_ | refine C_sq ?_ | refine C_rg ?_ | refine L_nil ?_ | refine C_bk ?_ | refine C_ct ?_ | refine C_cf ?_ | refine C_sk ?_ | refine C_ex ?_ | refine C_rt ?_ | refine X_e ?_ | refine X_r ?_ | refine X_bh ?_ | refine X_be ?_ | refine X_br ?_ | refine X_bn ?_ | refine X_p ?_ | refine X_bp ?_)
  obtain ⟨b2, hb2⟩ : ∃ y, y = b := ⟨b, rfl⟩
  subst hb2
  have hS := hS.mv1
  have c2' := dfrtT (At := some ⟨b2, 0, none⟩) (n := 4) (ct := 4) [0, 0, 0, 1] rfl (by decide) a_ok1 (by decide) (by decide) (hasSlO (b := b2)) hS
  rw [a_d2] at c2'
  refine S_w ?_
  refine M_c c2' ?_
  rintro _ w5 ⟨rfl, A5, c5, hS⟩
  simp only at hS ⊢
  have c3' := fun w hS => dappT (F := F) (w0 := w0) (w := w) (op := 1) (a := 3) (b := 4) (N := aN2) (kn := [3, 4]) (rs := Res.obj b2 (.cells [.int .i64 0, .int .i64 0, .int .i64 0, .int .i64 1].toArray 3 (0, 0)) :: Res.obj b1 (.cells [.int .i64 0, .int .i64 1, .int .i64 1, .int .i64 1].toArray 3 (0, 0)) :: stR s2 2 3 [] [] i2 k2 none 0 rs) (sb := s1) (m := 2) (cp := 16) (bi := i1) (bk := k1) (A := A5) (c := c5) (by decide) (by decide) (by decide) (by decide) (by decide) (by decide) (by decide) a_ok2 (by decide) (by decide) hS
  rw [a_d3] at c3'
  repeat (first | (refine S_w ?_; first | (refine M_c (c3' _ hS) ?_) | (refine S_d hS ?_) | (refine S_y hS ?_) | ((first | refine M_bA hS ?_ | refine M_b1 hS ?_ | refine M_aA hS ?_ | refine M_a1 hS ?_ | refine M_sl hS ?_ | refine M_s1 hS ?_ | refine M_mm hS ?_); clear hS; intro b w hS) | ((first | refine M_st hS ?_ | refine M_sA hS ?_ | refine M_in hS ?_ | refine M_sR hS ?_); clear hS; intro w hS; (try simp only [List.set_cons_zero, List.set_cons_succ, Nat.zero_add] at hS)) | (refine M_ap hS ?_; clear hS; intro g cap w hS) | refine M_pn ?_ | ((first | refine M_im hS ?_ | refine M_ii hS ?_ | refine M_dl hS ?_); clear hS; intro w hS)) | refine X_k (by (try simp only [Fm.toList, List.set_cons_succ, List.set_cons_zero]); exact rfl) ?_ | refine S_u ?_ | refine S_v ?_ | refine C_sq ?_ | refine C_rg ?_ | refine L_nil ?_ | refine C_bk ?_ | refine C_ct ?_ | refine C_cf ?_ | refine C_sk ?_ | refine C_ex ?_ | refine C_rt ?_ | refine X_e ?_ | refine X_r ?_ | refine X_bh ?_ | refine X_be ?_ | refine X_br ?_ | refine X_bn ?_ | refine X_p ?_ | refine X_bp ?_)
  rintro _ w6 ⟨rfl, A6, c6, hS⟩
  simp only at hS ⊢
  have c4 := fun w hS => dexiT (F := F) (w0 := w0) (w := w) (r := 3) (v := 0) (N := aN2) (kn := [3, 4]) (rs := Res.obj b2 (.cells [.int .i64 0, .int .i64 0, .int .i64 0, .int .i64 1].toArray 3 (0, 0)) :: Res.obj b1 (.cells [.int .i64 0, .int .i64 1, .int .i64 1, .int .i64 1].toArray 3 (0, 0)) :: stR s2 2 3 [] [] i2 k2 none 0 rs) (sb := s1) (m := 2) (cp := 16) (bi := i1) (bk := k1) (A := A6) (c := c6) (by decide) (by decide) (by decide) (by decide) a_ok2 (by decide) (by decide) hS
  rw [a_d4] at c4
  repeat (first | (refine S_w ?_; first | (refine M_c (c4 _ hS) ?_) | (refine S_d hS ?_) | (refine S_y hS ?_) | ((first | refine M_bA hS ?_ | refine M_b1 hS ?_ | refine M_aA hS ?_ | refine M_a1 hS ?_ | refine M_sl hS ?_ | refine M_s1 hS ?_ | refine M_mm hS ?_); clear hS; intro b w hS) | ((first | refine M_st hS ?_ | refine M_sA hS ?_ | refine M_in hS ?_ | refine M_sR hS ?_); clear hS; intro w hS; (try simp only [List.set_cons_zero, List.set_cons_succ, Nat.zero_add] at hS)) | (refine M_ap hS ?_; clear hS; intro g cap w hS) | refine M_pn ?_ | ((first | refine M_im hS ?_ | refine M_ii hS ?_ | refine M_dl hS ?_); clear hS; intro w hS)) | refine X_k (by (try simp only [Fm.toList, List.set_cons_succ, List.set_cons_zero]); exact rfl) ?_ | refine S_u ?_ | refine S_v ?_ | refine C_sq ?_ | refine C_rg ?_ | refine L_nil ?_ | refine C_bk ?_ | refine C_ct ?_ | refine C_cf ?_ | refine C_sk ?_ | refine C_ex ?_ | refine C_rt ?_ | refine X_e ?_ | refine X_r ?_ | refine X_bh ?_ | refine X_be ?_ | refine X_br ?_ | refine X_bn ?_ | refine X_p ?_ | refine X_bp ?_)
  rintro _ w7 ⟨rfl, A7, c7, hS⟩
  simp only at hS ⊢
  repeat (first | (refine S_w ?_; first | (refine M_c (dtabT (N := aN2) (kn := [3, 4, 1]) (m := 2) 1 (by decide) a_ok2 (by decide) (by decide) inferInstance inferInstance inferInstance hS) ?_) | (refine S_d hS ?_) | (refine S_y hS ?_) | ((first | refine M_bA hS ?_ | refine M_b1 hS ?_ | refine M_aA hS ?_ | refine M_a1 hS ?_ | refine M_sl hS ?_ | refine M_s1 hS ?_ | refine M_mm hS ?_); clear hS; intro b w hS) | ((first | refine M_st hS ?_ | refine M_sA hS ?_ | refine M_in hS ?_ | refine M_sR hS ?_); clear hS; intro w hS; (try simp only [List.set_cons_zero, List.set_cons_succ, Nat.zero_add] at hS)) | (refine M_ap hS ?_; clear hS; intro g cap w hS) | refine M_pn ?_ | ((first | refine M_im hS ?_ | refine M_ii hS ?_ | refine M_dl hS ?_); clear hS; intro w hS)) | refine X_k (by (try simp only [Fm.toList, List.set_cons_succ, List.set_cons_zero]); exact rfl) ?_ | refine S_u ?_ | refine S_v ?_ | refine C_sq ?_ | refine C_rg ?_ | refine L_nil ?_ | refine C_bk ?_ | refine C_ct ?_ | refine C_cf ?_ | refine C_sk ?_ | refine C_ex ?_ | refine C_rt ?_ | refine X_e ?_ | refine X_r ?_ | refine X_bh ?_ | refine X_be ?_ | refine X_br ?_ | refine X_bn ?_ | refine X_p ?_ | refine X_bp ?_)
  rintro _ w8 ⟨A8, c8, rfl, hS⟩
  rw [a_t] at hS
  repeat (first | (refine S_w ?_; first | (refine M_c (dszT (N := aN2) (kn := [3, 4, 1]) (m := 2) 1 (by decide) a_ok2 (by decide) (by decide) (by decide) inferInstance inferInstance inferInstance hS) ?_) | (refine S_d hS ?_) | (refine S_y hS ?_) | ((first | refine M_bA hS ?_ | refine M_b1 hS ?_ | refine M_aA hS ?_ | refine M_a1 hS ?_ | refine M_sl hS ?_ | refine M_s1 hS ?_ | refine M_mm hS ?_); clear hS; intro b w hS) | ((first | refine M_st hS ?_ | refine M_sA hS ?_ | refine M_in hS ?_ | refine M_sR hS ?_); clear hS; intro w hS; (try simp only [List.set_cons_zero, List.set_cons_succ, Nat.zero_add] at hS)) | (refine M_ap hS ?_; clear hS; intro g cap w hS) | refine M_pn ?_ | ((first | refine M_im hS ?_ | refine M_ii hS ?_ | refine M_dl hS ?_); clear hS; intro w hS)) | refine X_k (by (try simp only [Fm.toList, List.set_cons_succ, List.set_cons_zero]); exact rfl) ?_ | refine S_u ?_ | refine S_v ?_ | refine C_sq ?_ | refine C_rg ?_ | refine L_nil ?_ | refine C_bk ?_ | refine C_ct ?_ | refine C_cf ?_ | refine C_sk ?_ | refine C_ex ?_ | refine C_rt ?_ | refine X_e ?_ | refine X_r ?_ | refine X_bh ?_ | refine X_be ?_ | refine X_br ?_ | refine X_bn ?_ | refine X_p ?_ | refine X_bp ?_)
  rintro _ w9 ⟨rfl, hS⟩
  rw [a_s2]
  repeat (first | (refine S_w ?_; first | (refine S_d hS ?_) | (refine S_y hS ?_) | ((first | refine M_bA hS ?_ | refine M_b1 hS ?_ | refine M_aA hS ?_ | refine M_a1 hS ?_ | refine M_sl hS ?_ | refine M_s1 hS ?_ | refine M_mm hS ?_); clear hS; intro b w hS) | ((first | refine M_st hS ?_ | refine M_sA hS ?_ | refine M_in hS ?_ | refine M_sR hS ?_); clear hS; intro w hS; (try simp only [List.set_cons_zero, List.set_cons_succ, Nat.zero_add] at hS)) | (refine M_ap hS ?_; clear hS; intro g cap w hS) | refine M_pn ?_ | ((first | refine M_im hS ?_ | refine M_ii hS ?_ | refine M_dl hS ?_); clear hS; intro w hS)) | refine X_k (by (try simp only [Fm.toList, List.set_cons_succ, List.set_cons_zero]); exact rfl) ?_ | refine S_u ?_ | refine S_v ?_ | refine C_sq ?_ | refine C_rg ?_ | refine L_nil ?_ | refine C_bk ?_ | refine C_ct ?_ | refine C_cf ?_ | refine C_sk ?_ | refine C_ex ?_ | refine C_rt ?_ | refine X_e ?_ | refine X_r ?_ | refine X_bh ?_ | refine X_be ?_ | refine X_br ?_ | refine X_bn ?_ | refine X_p ?_ | refine X_bp ?_)
  obtain ⟨b3, hb3⟩ : ∃ y, y = b := ⟨b, rfl⟩
  subst hb3
  have hS : St F w0 (Res.obj b3 (.cells [.int .i64 0, .int .i64 1, .int .i64 1, .int .i64 1].toArray 3 (0, 0)) :: Res.row 3 1 (.slice A8 (two 2) c8) (two 2) (([1, 1, 1, 1] : List Int).map iv) :: stR s2 2 3 [] [] i2 k2 none 0 rs) w := hS.sb
  have hS := hS.mv2
  have c5' := dfrtT (At := some ⟨b3, 0, none⟩) (n := 4) (ct := 4) [0, 1, 1, 1] rfl (by decide) (by have h := (SI0 2).inv.ok; exact h) (by decide) (by decide) (hasSlO (b := b3)) hS
  rw [a_d5] at c5'
  refine S_w ?_
  refine M_c c5' ?_
  rintro _ w10 ⟨rfl, A10, c10, hS⟩
  simp only at hS ⊢
  repeat (first | (refine S_w ?_; first | (refine M_c (dnodesR inferInstance hS) ?_) | (refine S_d hS ?_) | (refine S_y hS ?_) | ((first | refine M_bA hS ?_ | refine M_b1 hS ?_ | refine M_aA hS ?_ | refine M_a1 hS ?_ | refine M_sl hS ?_ | refine M_s1 hS ?_ | refine M_mm hS ?_); clear hS; intro b w hS) | ((first | refine M_st hS ?_ | refine M_sA hS ?_ | refine M_in hS ?_ | refine M_sR hS ?_); clear hS; intro w hS; (try simp only [List.set_cons_zero, List.set_cons_succ, Nat.zero_add] at hS)) | (refine M_ap hS ?_; clear hS; intro g cap w hS) | refine M_pn ?_ | ((first | refine M_im hS ?_ | refine M_ii hS ?_ | refine M_dl hS ?_); clear hS; intro w hS)) | refine X_k (by (try simp only [Fm.toList, List.set_cons_succ, List.set_cons_zero]); exact rfl) ?_ | refine S_u ?_ | refine S_v ?_ | refine C_sq ?_ | refine C_rg ?_ | refine L_nil ?_ | refine C_bk ?_ | refine C_ct ?_ | refine C_cf ?_ | refine C_sk ?_ | refine C_ex ?_ | refine C_rt ?_ | refine X_e ?_ | refine X_r ?_ | refine X_bh ?_ | refine X_be ?_ | refine X_br ?_ | refine X_bn ?_ | refine X_p ?_ | refine X_bp ?_)
  rintro _ w11 ⟨rfl, hS⟩
  have hl0 : (([] : List Dg.Nd).length : Int) = 0 := rfl
  rw [hl0]
  repeat (first | (refine S_w ?_; first | (refine M_c (eqIntsR (xs := [1, 1, 1, 1]) (ys := [1, 1, 1, 1]) (n := two 2) (k := 4) (by decide) (by decide) inferInstance (hasSlO (b := b)) hS) ?_) | (refine S_d hS ?_) | (refine S_y hS ?_) | ((first | refine M_bA hS ?_ | refine M_b1 hS ?_ | refine M_aA hS ?_ | refine M_a1 hS ?_ | refine M_sl hS ?_ | refine M_s1 hS ?_ | refine M_mm hS ?_); clear hS; intro b w hS) | ((first | refine M_st hS ?_ | refine M_sA hS ?_ | refine M_in hS ?_ | refine M_sR hS ?_); clear hS; intro w hS; (try simp only [List.set_cons_zero, List.set_cons_succ, Nat.zero_add] at hS)) | (refine M_ap hS ?_; clear hS; intro g cap w hS) | refine M_pn ?_ | ((first | refine M_im hS ?_ | refine M_ii hS ?_ | refine M_dl hS ?_); clear hS; intro w hS)) | refine X_k (by (try simp only [Fm.toList, List.set_cons_succ, List.set_cons_zero]); exact rfl) ?_ | refine S_u ?_ | refine S_v ?_ | refine C_sq ?_ | refine C_rg ?_ | refine L_nil ?_ | refine C_bk ?_ | refine C_ct ?_ | refine C_cf ?_ | refine C_sk ?_ | refine C_ex ?_ | refine C_rt ?_ | refine X_e ?_ | refine X_r ?_ | refine X_bh ?_ | refine X_be ?_ | refine X_br ?_ | refine X_bn ?_ | refine X_p ?_ | refine X_bp ?_)
  rintro _ w12 ⟨rfl, hS⟩
  repeat (first | (refine S_w ?_; first | (refine S_d hS ?_) | (refine S_y hS ?_) | ((first | refine M_bA hS ?_ | refine M_b1 hS ?_ | refine M_aA hS ?_ | refine M_a1 hS ?_ | refine M_sl hS ?_ | refine M_s1 hS ?_ | refine M_mm hS ?_); clear hS; intro b w hS) | ((first | refine M_st hS ?_ | refine M_sA hS ?_ | refine M_in hS ?_ | refine M_sR hS ?_); clear hS; intro w hS; (try simp only [List.set_cons_zero, List.set_cons_succ, Nat.zero_add] at hS)) | (refine M_ap hS ?_; clear hS; intro g cap w hS) | refine M_pn ?_ | ((first | refine M_im hS ?_ | refine M_ii hS ?_ | refine M_dl hS ?_); clear hS; intro w hS)) | refine X_k (by (try simp only [Fm.toList, List.set_cons_succ, List.set_cons_zero]); exact rfl) ?_ | refine S_u ?_ | refine S_v ?_ | refine C_sq ?_ | refine C_rg ?_ | refine L_nil ?_ | refine C_bk ?_ | refine C_ct ?_ | refine C_cf ?_ | refine C_sk ?_ | refine C_ex ?_ | refine C_rt ?_ | refine X_e ?_ | refine X_r ?_ | refine X_bh ?_ | refine X_be ?_ | refine X_br ?_ | refine X_bn ?_ | refine X_p ?_ | refine X_bp ?_)
  refine V_1 ⟨rfl, hS.sb⟩
end
end Go.Proofs.Ytijmggoikieelaa
