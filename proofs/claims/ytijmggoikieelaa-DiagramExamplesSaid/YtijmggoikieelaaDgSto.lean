/-
  diagram's store in memory; add.
-/
import Derived.Test.YtijmggoikieelaaDA
import Derived.Test.YtijmggoikieelaaDB
import Derived.Test.YtijmggoikieelaaEE
namespace Go.Proofs.Ytijmggoikieelaa
open Go.RowKit

/-! a node in memory -/
def nv : Dg.Nd → Int
  | .leaf _ => -1
  | .test k _ _ => k
def nc : Dg.Nd → Int
  | .leaf c => c
  | .test _ _ _ => 0
def nl : Dg.Nd → Nat
  | .leaf _ => 0
  | .test _ lo _ => lo
def nh : Dg.Nd → Nat
  | .leaf _ => 0
  | .test _ _ hi => hi
def ndL (n : Dg.Nd) : List Value := [.int .i64 (nv n), .int .i64 (nc n), .int .i64 (nl n : Nat), .int .i64 (nh n : Nat)]
def ndV (n : Dg.Nd) : Value := .agg (ndL n).toArray
theorem ndL_inj (a b : Dg.Nd) (h : ndL a = ndL b) : a = b := by
  simp only [ndL, List.cons.injEq, Value.int.injEq, true_and, and_true] at h
  cases a <;> cases b <;> simp [nv, nc, nl, nh] at h ⊢ <;> omega
def cellsN (N : List Dg.Nd) : List Value := N.flatMap ndL
theorem cellsN_len : ∀ N : List Dg.Nd, (cellsN N).length = N.length * 4
  | [] => rfl
  | n :: N => by
    have := cellsN_len N
    simp only [cellsN, List.flatMap_cons, List.length_append, List.length_cons] at this ⊢
    rw [this]; simp [ndL]; omega
theorem cellsN_snoc (N : List Dg.Nd) (n : Dg.Nd) : cellsN (N ++ [n]) = cellsN N ++ ndL n := by simp [cellsN]
theorem cellsN_drop : ∀ {N : List Dg.Nd} {i : Nat} {n : Dg.Nd}, N[i]? = some n → ((cellsN N).drop (i * 4)).take (ndL n).length = ndL n
  | [], _, _, h => by cases h
  | a :: N, 0, n, h => by
    simp only [List.getElem?_cons_zero, Option.some.injEq] at h
    subst h
    simp only [cellsN, List.flatMap_cons, Nat.zero_mul, List.drop_zero]
    rw [List.take_append_of_le_length (by simp [ndL])]
    exact List.take_length
  | a :: N, i + 1, n, h => by
    simp only [List.getElem?_cons_succ] at h
    have ih := cellsN_drop h
    have e : (i + 1) * 4 = (ndL a).length + i * 4 := by simp [ndL]; omega
    simp only [cellsN, List.flatMap_cons] at ih ⊢
    rw [e, List.drop_append, List.drop_of_length_le (by omega), List.nil_append, show (ndL a).length + i * 4 - (ndL a).length = i * 4 by omega]
    exact ih
theorem cellsN_take : ∀ (N M : List Dg.Nd), (cellsN (N ++ M)).take (N.length * 4) = cellsN N := fun N M => by
  have h := cellsN_len N
  simp only [cellsN, List.flatMap_append] at h ⊢
  rw [← h, List.take_append_of_le_length (Nat.le_refl _), List.take_length]
instance kcNd : IsKc Try.prog 100 ndV := ⟨kc_ints (n := 4) ndL (fun _ => rfl) (fun _ => rfl) (fun _ => rfl) ndL_inj (by kernel_rfl) (by kernel_rfl)⟩
instance kcRef : IsKc Try.prog 45 iv := ⟨kc_int Try.underlying45⟩
instance kvNd {n : Dg.Nd} : IsKv ndV (.agg (ndL n).toArray) n := ⟨rfl⟩
/-! the maps -/
def idxF (k : Nat) (N : List Dg.Nd) : List (Dg.Nd × Value) := (N.zipIdx k).map fun p => (p.1, .int .i64 (p.2 : Nat))
def idxL (N : List Dg.Nd) : List (Dg.Nd × Value) := idxF 0 N
def knL (kn : List Nat) : List (Int × Value) := kn.map fun (i : Nat) => (((i : Nat) : Int), Value.bool true)
theorem idxF_app (k : Nat) (N M : List Dg.Nd) : idxF k (N ++ M) = idxF k N ++ idxF (k + N.length) M := by
  simp only [idxF, List.zipIdx_append, List.map_append]
theorem idxF_fd (n : Dg.Nd) : ∀ (N : List Dg.Nd) (k : Nat), fd n (idxF k N) = if n ∈ N then some (.int .i64 ((k + N.idxOf n : Nat) : Int)) else none
  | [], k => rfl
  | a :: N, k => by
    have ih := idxF_fd n N (k + 1)
    simp only [idxF, List.zipIdx_cons, List.map_cons, fd, fdI] at ih ⊢
    by_cases e : n = a
    · subst e
      simp [List.idxOf_cons_self]
    · rw [if_neg e, fdI_add]
      simp only [Option.map_map]
      have h2 : ∀ q : Option (Nat × Value), Option.map ((fun x => x.2) ∘ fun p => (0 + 1 + p.1, p.2)) q = Option.map (fun x => x.2) q := fun q => by cases q <;> rfl
      rw [h2, ih]
      have e' : ¬ a = n := fun h => e h.symm
      by_cases hm : n ∈ N
      · rw [if_pos hm, if_pos (List.mem_cons_of_mem _ hm), List.idxOf_cons, show (a == n) = false by simpa using e', cond_false]
        congr 3; omega
      · rw [if_neg hm, if_neg (by simp [e, hm])]
theorem idxL_yes {n : Dg.Nd} {N : List Dg.Nd} (h : n ∈ N) : fd n (idxL N) = some (.int .i64 ((N.idxOf n : Nat) : Int)) := by
  rw [idxL, idxF_fd, if_pos h, Nat.zero_add]
theorem idxL_no {n : Dg.Nd} {N : List Dg.Nd} (h : n ∉ N) : fd n (idxL N) = none := by
  rw [idxL, idxF_fd, if_neg h]
theorem fd_none {α β : Type} [DecidableEq α] {a : α} {L : List (α × β)} (h : fd a L = none) : fdI a L 0 = none := by
  unfold fd at h
  cases hq : fdI a L 0 with
  | none => rfl
  | some q => rw [hq] at h; cases h
theorem idxL_put {n : Dg.Nd} {N : List Dg.Nd} (h : n ∉ N) : putL n (.int .i64 (N.length : Nat)) (idxL N) = idxL (N ++ [n]) := by
  rw [(fdI_none (fd_none (idxL_no h))).1, idxL, idxL, idxF_app, Nat.zero_add]
  rfl
theorem knL_fd (z : Int) : ∀ kn : List Nat, fd z (knL kn) = if ∃ i ∈ kn, (i : Int) = z then some (.bool true) else none
  | [] => by simp [fd, knL, fdI]
  | a :: kn => by
    have ih := knL_fd z kn
    simp only [knL, List.map_cons, fd, fdI] at ih ⊢
    by_cases e : z = (a : Int)
    · rw [if_pos e, if_pos ⟨a, List.mem_cons_self .., e.symm⟩]; rfl
    · rw [if_neg e, fdI_add]
      simp only [Option.map_map]
      have h2 : ∀ q : Option (Nat × Value), Option.map ((fun x => x.2) ∘ fun p => (0 + 1 + p.1, p.2)) q = Option.map (fun x => x.2) q := fun q => by cases q <;> rfl
      rw [h2, ih]
      by_cases hm : ∃ i ∈ kn, (i : Int) = z
      · obtain ⟨i, h1, h3⟩ := hm
        rw [if_pos ⟨i, h1, h3⟩, if_pos ⟨i, List.mem_cons_of_mem _ h1, h3⟩]
      · rw [if_neg hm, if_neg]
        rintro ⟨i, h1, h3⟩
        rcases List.mem_cons.1 h1 with rfl | h1
        · exact e h3.symm
        · exact hm ⟨i, h1, h3⟩
theorem knL_yes {z : Int} {kn : List Nat} {i : Nat} (h : i ∈ kn) (e : (i : Int) = z) : fd z (knL kn) = some (.bool true) := by rw [knL_fd, if_pos ⟨i, h, e⟩]
theorem knL_no {z : Int} {kn : List Nat} (h : ∀ i ∈ kn, (i : Int) ≠ z) : fd z (knL kn) = none := by
  rw [knL_fd, if_neg]
  rintro ⟨i, h1, h2⟩
  exact h i h1 h2
theorem knL_put (i : Nat) : ∀ kn : List Nat, putL (i : Int) (.bool true) (knL kn) = knL (Dg.kadd kn i)
  | [] => rfl
  | a :: kn => by
    have ih := knL_put i kn
    simp only [knL, List.map_cons, putL] at ih ⊢
    by_cases e : i = a
    · subst e
      rw [if_pos rfl]
      simp [Dg.kadd]
    · rw [if_neg (by omega), ih]
      unfold Dg.kadd
      by_cases h : i ∈ kn
      · rw [if_pos h, if_pos (List.mem_cons_of_mem _ h)]; rfl
      · rw [if_neg h, if_neg (by simp [e, h])]; rfl
/-! the store -/
abbrev stO (m cp : Nat) (n : Nat) (A : Option Addr) (c bi bk : Nat) : Obj := .cells [.int .i64 (m : Nat), .int .i64 (cp : Nat), .slice A n c, .map (some bi), .map (some bk)].toArray 88 (0, 0)
abbrev stR (sb m cp : Nat) (N : List Dg.Nd) (kn : List Nat) (bi bk : Nat) (A : Option Addr) (c : Nat) (rs : List Res) : List Res :=
  Res.obj sb (stO m cp N.length A c bi bk) :: Res.row 100 4 (.slice A N.length c) N.length (cellsN N) :: Res.dm ndV bi (idxL N) :: Res.dm iv bk (knL kn) :: rs
section
variable {F : Nat → Prop} {w0 w : World} {rs : List Res} {sb m cp bi bk c : Nat} {A : Option Addr} {N : List Dg.Nd} {kn : List Nat}
set_option maxHeartbeats 4000000 in
set_option maxRecDepth 100000 in
theorem daddR (n : Dg.Nd) (hS : St F w0 (stR sb m cp N kn bi bk A c rs) w) (hN : N.length ≤ 1000000) : CallsR Try.prog 66 #[.pointer (some ⟨sb, 0, none⟩), .agg (ndL n).toArray] w fun r w' =>
    ∃ A' c', r = .int .i64 ((Dg.add N n).1 : Nat) ∧ St F w0 (stR sb m cp (Dg.add N n).2 kn bi bk A' c' rs) w' := by
  have hlen := cellsN_len N
  by_cases hn : n ∈ N
  · have hfd := idxL_yes hn
    refine E_r (m := 38) ?_ Try.func66 rfl Try.ntmps66 rfl; refine C_ft ?_
    repeat (first | (refine S_w ?_; first | (refine S_d hS ?_) | (refine S_y hS ?_) | ((first | refine M_bA hS ?_ | refine M_b1 hS ?_ | refine M_aA hS ?_ | refine M_a1 hS ?_ | refine M_sl hS ?_ | refine M_s1 hS ?_ | refine M_mm hS ?_); clear hS; intro b w hS) | ((first | refine M_st hS ?_ | refine M_sA hS ?_ | refine M_in hS ?_ | refine M_sR hS ?_); clear hS; intro w hS; (try simp only [List.set_cons_zero, List.set_cons_succ, Nat.zero_add] at hS)) | (refine M_ap hS ?_; clear hS; intro g cap w hS) | refine M_pn ?_ | ((first | refine M_im hS ?_ | refine M_ii hS ?_ | refine M_dl hS ?_); clear hS; intro w hS)) | refine X_k (by (try simp only [Fm.toList, List.set_cons_succ, List.set_cons_zero]); exact rfl) ?_ | refine S_u ?_ | refine S_v ?_ | refine C_sq ?_ | refine C_rg ?_ | refine L_nil ?_ | refine C_bk ?_ | refine C_ct ?_ | refine C_cf ?_ | refine C_sk ?_ | refine C_ex ?_ | refine C_rt ?_ | refine X_e ?_ | refine X_r ?_ | refine X_bh ?_ | refine X_be ?_ | refine X_br ?_ | refine X_bn ?_ | refine X_p ?_ | refine X_bp ?_)
    refine C_qt hS ?_; (repeat (first | (refine Q_w ?_; first | (refine Q_d ?_) | (refine Q_y ?_)) | refine Q_u ?_)); refine Q_n ?_; clear hS; intro w hS
    repeat (first | (refine S_w ?_; first | (refine S_d hS ?_) | (refine S_y hS ?_) | ((first | refine M_bA hS ?_ | refine M_b1 hS ?_ | refine M_aA hS ?_ | refine M_a1 hS ?_ | refine M_sl hS ?_ | refine M_s1 hS ?_ | refine M_mm hS ?_); clear hS; intro b w hS) | ((first | refine M_st hS ?_ | refine M_sA hS ?_ | refine M_in hS ?_ | refine M_sR hS ?_); clear hS; intro w hS; (try simp only [List.set_cons_zero, List.set_cons_succ, Nat.zero_add] at hS)) | (refine M_ap hS ?_; clear hS; intro g cap w hS) | refine M_pn ?_ | ((first | refine M_im hS ?_ | refine M_ii hS ?_ | refine M_dl hS ?_); clear hS; intro w hS)) | refine X_k (by (try simp only [Fm.toList, List.set_cons_succ, List.set_cons_zero]); exact rfl) ?_ | refine S_u ?_ | refine S_v ?_ | refine C_sq ?_ | refine C_rg ?_ | refine L_nil ?_ | refine C_bk ?_ | refine C_ct ?_ | refine C_cf ?_ | refine C_sk ?_ | refine C_ex ?_ | refine C_rt ?_ | refine X_e ?_ | refine X_r ?_ | refine X_bh ?_ | refine X_be ?_ | refine X_br ?_ | refine X_bn ?_ | refine X_p ?_ | refine X_bp ?_)
    refine V_1 ⟨A, c, ?_, ?_⟩
    · rw [Dg.add, if_pos hn]
    · rw [Dg.add, if_pos hn]
      exact hS.sb
  · have hfd := idxL_no hn
    refine E_r (m := 38) ?_ Try.func66 rfl Try.ntmps66 rfl; refine C_ft ?_
    repeat (first | (refine S_w ?_; first | (refine S_d hS ?_) | (refine S_y hS ?_) | ((first | refine M_bA hS ?_ | refine M_b1 hS ?_ | refine M_aA hS ?_ | refine M_a1 hS ?_ | refine M_sl hS ?_ | refine M_s1 hS ?_ | refine M_mm hS ?_); clear hS; intro b w hS) | ((first | refine M_st hS ?_ | refine M_sA hS ?_ | refine M_in hS ?_ | refine M_sR hS ?_); clear hS; intro w hS; (try simp only [List.set_cons_zero, List.set_cons_succ, Nat.zero_add] at hS)) | (refine M_ap hS ?_; clear hS; intro g cap w hS) | refine M_pn ?_ | ((first | refine M_im hS ?_ | refine M_ii hS ?_ | refine M_dl hS ?_); clear hS; intro w hS)) | refine X_k (by (try simp only [Fm.toList, List.set_cons_succ, List.set_cons_zero]); exact rfl) ?_ | refine S_u ?_ | refine S_v ?_ | refine C_sq ?_ | refine C_rg ?_ | refine L_nil ?_ | refine C_bk ?_ | refine C_ct ?_ | refine C_cf ?_ | refine C_sk ?_ | refine C_ex ?_ | refine C_rt ?_ | refine X_e ?_ | refine X_r ?_ | refine X_bh ?_ | refine X_be ?_ | refine X_br ?_ | refine X_bn ?_ | refine X_p ?_ | refine X_bp ?_)
    refine C_qt hS ?_; (repeat (first | (refine Q_w ?_; first | (refine Q_d ?_) | (refine Q_y ?_)) | refine Q_u ?_)); refine Q_n ?_; clear hS; intro w hS
    repeat (first | (refine S_w ?_; first | (refine S_d hS ?_) | (refine S_y hS ?_) | ((first | refine M_bA hS ?_ | refine M_b1 hS ?_ | refine M_aA hS ?_ | refine M_a1 hS ?_ | refine M_sl hS ?_ | refine M_s1 hS ?_ | refine M_mm hS ?_); clear hS; intro b w hS) | ((first | refine M_st hS ?_ | refine M_sA hS ?_ | refine M_in hS ?_ | refine M_sR hS ?_); clear hS; intro w hS; (try simp only [List.set_cons_zero, List.set_cons_succ, Nat.zero_add] at hS)) | (refine M_ap hS ?_; clear hS; intro g cap w hS) | refine M_pn ?_ | ((first | refine M_im hS ?_ | refine M_ii hS ?_ | refine M_dl hS ?_); clear hS; intro w hS)) | refine X_k (by (try simp only [Fm.toList, List.set_cons_succ, List.set_cons_zero]); exact rfl) ?_ | refine S_u ?_ | refine S_v ?_ | refine C_sq ?_ | refine C_rg ?_ | refine L_nil ?_ | refine C_bk ?_ | refine C_ct ?_ | refine C_cf ?_ | refine C_sk ?_ | refine C_ex ?_ | refine C_rt ?_ | refine X_e ?_ | refine X_r ?_ | refine X_bh ?_ | refine X_be ?_ | refine X_br ?_ | refine X_bn ?_ | refine X_p ?_ | refine X_bp ?_)
    obtain ⟨box, hbox⟩ : ∃ x, x = b := ⟨b, rfl⟩
    subst hbox
    refine C_p0 (.take 0 (.take 1 (.take 2 (.take 3 (.two 4 5 (.one 5 (.one 6 (.one 7 (.one 8 (.one 9 (.one 10 .done)))))) (.two 4 6 (.one 6 (.one 7 (.one 8 (.one 9 (.one 10 .done))))) (.one 4 (.one 7 (.one 8 (.one 9 (.one 10 .done))))))))))) (fun (z1 : Nat × Nat × Nat) f => (((((((((f.upd 23 (.pointer (some ⟨sb, 0, none⟩))).upd 24 (.pointer (some ⟨sb, 0, none⟩))).upd 25 (.pointer (some ⟨sb, 0, none⟩))).upd 26 (.pointer (some ⟨sb, 2, none⟩))).upd 27 (.slice A N.length c)).upd 28 (.agg (ndL n).toArray)).upd 29 (.slice (some ⟨z1.1, 0, none⟩) 1 1)).upd 30 (.slice (some ⟨z1.2.1, 0, none⟩) (N.length + 1) z1.2.2)).upd 31 (.pointer (some ⟨sb, 0, none⟩))).upd 32 (.pointer (some ⟨sb, 2, none⟩))) (fun z1 => [Res.obj box (.cells (ndL n).toArray 100 (0, 0)), Res.obj sb (.cells [.int .i64 (m : Nat), .int .i64 (cp : Nat), .slice (some ⟨z1.2.1, 0, none⟩) (N.length + 1) z1.2.2, .map (some bi), .map (some bk)].toArray 88 (0, 0)), Res.row 100 4 (.slice (some ⟨z1.2.1, 0, none⟩) (N.length + 1) z1.2.2) (N.length + 1) (cellsN N ++ ndL n), Res.dm ndV bi (idxL N), Res.dm iv bk (knL kn)] ++ rs) hS ?_ ?_
    · clear hS; intro w hS
      repeat ((with_reducible apply P_t); rfl; first | (refine P_a (by first | exact Yp | exact Ya | exact Yt | exact Yf | exact Yfc | exact Yfe) ?_) | refine P_b ?_)
      (with_reducible apply P_two); rfl; rfl
      · refine P_f ?_; intro Q' hQ' hE'
        repeat (first | (refine S_w ?_; first | (refine S_d hS ?_) | (refine S_y hS ?_) | ((first | refine M_bA hS ?_ | refine M_b1 hS ?_ | refine M_aA hS ?_ | refine M_a1 hS ?_ | refine M_sl hS ?_ | refine M_s1 hS ?_ | refine M_mm hS ?_); clear hS; intro b w hS) | ((first | refine M_st hS ?_ | refine M_sA hS ?_ | refine M_in hS ?_ | refine M_sR hS ?_); clear hS; intro w hS; (try simp only [List.set_cons_zero, List.set_cons_succ, Nat.zero_add] at hS)) | (refine M_ap hS ?_; clear hS; intro g cap w hS) | refine M_pn ?_ | ((first | refine M_im hS ?_ | refine M_ii hS ?_ | refine M_dl hS ?_); clear hS; intro w hS)) | refine X_k (by (try simp only [Fm.toList, List.set_cons_succ, List.set_cons_zero]); exact rfl) ?_ | refine S_u ?_ | refine S_v ?_ | refine C_sq ?_ | refine C_rg ?_ | refine L_nil ?_ | refine C_bk ?_ | refine C_ct ?_ | refine C_cf ?_ | refine C_sk ?_ | refine C_ex ?_ | refine C_rt ?_ | refine X_e ?_ | refine X_r ?_ | refine X_bh ?_ | refine X_be ?_ | refine X_br ?_ | refine X_bn ?_ | refine X_p ?_ | refine X_bp ?_)
        (try refine L_nil ?_); refine hQ' _ _ trivial ?_; clear hQ' hE'
        (with_reducible apply P_one); rfl; refine P_f ?_; intro Q' hQ' hE'
        repeat (first | (refine S_w ?_; first | (refine S_d hS ?_) | (refine S_y hS ?_) | ((first | refine M_bA hS ?_ | refine M_b1 hS ?_ | refine M_aA hS ?_ | refine M_a1 hS ?_ | refine M_sl hS ?_ | refine M_s1 hS ?_ | refine M_mm hS ?_); clear hS; intro b w hS) | ((first | refine M_st hS ?_ | refine M_sA hS ?_ | refine M_in hS ?_ | refine M_sR hS ?_); clear hS; intro w hS; (try simp only [List.set_cons_zero, List.set_cons_succ, Nat.zero_add] at hS)) | (refine M_ap hS ?_; clear hS; intro g cap w hS) | refine M_pn ?_ | ((first | refine M_im hS ?_ | refine M_ii hS ?_ | refine M_dl hS ?_); clear hS; intro w hS)) | refine X_k (by (try simp only [Fm.toList, List.set_cons_succ, List.set_cons_zero]); exact rfl) ?_ | refine S_u ?_ | refine S_v ?_ | refine C_sq ?_ | refine C_rg ?_ | refine L_nil ?_ | refine C_bk ?_ | refine C_ct ?_ | refine C_cf ?_ | refine C_sk ?_ | refine C_ex ?_ | refine C_rt ?_ | refine X_e ?_ | refine X_r ?_ | refine X_bh ?_ | refine X_be ?_ | refine X_br ?_ | refine X_bn ?_ | refine X_p ?_ | refine X_bp ?_)
        (try refine L_nil ?_); refine hQ' _ _ trivial ?_; clear hQ' hE'
        (with_reducible apply P_one); rfl; refine P_f ?_; intro Q' hQ' hE'
        repeat (first | (refine S_w ?_; first | (refine S_d hS ?_) | (refine S_y hS ?_) | ((first | refine M_bA hS ?_ | refine M_b1 hS ?_ | refine M_aA hS ?_ | refine M_a1 hS ?_ | refine M_sl hS ?_ | refine M_s1 hS ?_ | refine M_mm hS ?_); clear hS; intro b w hS) | ((first | refine M_st hS ?_ | refine M_sA hS ?_ | refine M_in hS ?_ | refine M_sR hS ?_); clear hS; intro w hS; (try simp only [List.set_cons_zero, List.set_cons_succ, Nat.zero_add] at hS)) | (refine M_ap hS ?_; clear hS; intro g cap w hS) | refine M_pn ?_ | ((first | refine M_im hS ?_ | refine M_ii hS ?_ | refine M_dl hS ?_); clear hS; intro w hS)) | refine X_k (by (try simp only [Fm.toList, List.set_cons_succ, List.set_cons_zero]); exact rfl) ?_ | refine S_u ?_ | refine S_v ?_ | refine C_sq ?_ | refine C_rg ?_ | refine L_nil ?_ | refine C_bk ?_ | refine C_ct ?_ | refine C_cf ?_ | refine C_sk ?_ | refine C_ex ?_ | refine C_rt ?_ | refine X_e ?_ | refine X_r ?_ | refine X_bh ?_ | refine X_be ?_ | refine X_br ?_ | refine X_bn ?_ | refine X_p ?_ | refine X_bp ?_)
        (try refine L_nil ?_); refine hQ' _ _ trivial ?_; clear hQ' hE'
        (with_reducible apply P_one); rfl; refine P_f ?_; intro Q' hQ' hE'
        repeat (first | (refine S_w ?_; first | (refine S_d hS ?_) | (refine S_y hS ?_) | ((first | refine M_bA hS ?_ | refine M_b1 hS ?_ | refine M_aA hS ?_ | refine M_a1 hS ?_ | refine M_sl hS ?_ | refine M_s1 hS ?_ | refine M_mm hS ?_); clear hS; intro b w hS) | ((first | refine M_st hS ?_ | refine M_sA hS ?_ | refine M_in hS ?_ | refine M_sR hS ?_); clear hS; intro w hS; (try simp only [List.set_cons_zero, List.set_cons_succ, Nat.zero_add] at hS)) | (refine M_ap hS ?_; clear hS; intro g cap w hS) | refine M_pn ?_ | ((first | refine M_im hS ?_ | refine M_ii hS ?_ | refine M_dl hS ?_); clear hS; intro w hS)) | refine X_k (by (try simp only [Fm.toList, List.set_cons_succ, List.set_cons_zero]); exact rfl) ?_ | refine S_u ?_ | refine S_v ?_ | refine C_sq ?_ | refine C_rg ?_ | refine L_nil ?_ | refine C_bk ?_ | refine C_ct ?_ | refine C_cf ?_ | refine C_sk ?_ | refine C_ex ?_ | refine C_rt ?_ | refine X_e ?_ | refine X_r ?_ | refine X_bh ?_ | refine X_be ?_ | refine X_br ?_ | refine X_bn ?_ | refine X_p ?_ | refine X_bp ?_)
        (try refine L_nil ?_); refine hQ' _ _ trivial ?_; clear hQ' hE'
        (with_reducible apply P_one); rfl; refine P_f ?_; intro Q' hQ' hE'
        repeat (first | (refine S_w ?_; first | (refine S_d hS ?_) | (refine S_y hS ?_) | ((first | refine M_bA hS ?_ | refine M_b1 hS ?_ | refine M_aA hS ?_ | refine M_a1 hS ?_ | refine M_sl hS ?_ | refine M_s1 hS ?_ | refine M_mm hS ?_); clear hS; intro b w hS) | ((first | refine M_st hS ?_ | refine M_sA hS ?_ | refine M_in hS ?_ | refine M_sR hS ?_); clear hS; intro w hS; (try simp only [List.set_cons_zero, List.set_cons_succ, Nat.zero_add] at hS)) | (refine M_ap hS ?_; clear hS; intro g cap w hS) | refine M_pn ?_ | ((first | refine M_im hS ?_ | refine M_ii hS ?_ | refine M_dl hS ?_); clear hS; intro w hS)) | refine X_k (by (try simp only [Fm.toList, List.set_cons_succ, List.set_cons_zero]); exact rfl) ?_ | refine S_u ?_ | refine S_v ?_ | refine C_sq ?_ | refine C_rg ?_ | refine L_nil ?_ | refine C_bk ?_ | refine C_ct ?_ | refine C_cf ?_ | refine C_sk ?_ | refine C_ex ?_ | refine C_rt ?_ | refine X_e ?_ | refine X_r ?_ | refine X_bh ?_ | refine X_be ?_ | refine X_br ?_ | refine X_bn ?_ | refine X_p ?_ | refine X_bp ?_)
        (try refine L_nil ?_); refine hQ' _ _ trivial ?_; clear hQ' hE'
        (with_reducible apply P_one); rfl; refine P_f ?_; intro Q' hQ' hE'
        repeat (first | (refine S_w ?_; first | (refine S_d hS ?_) | (refine S_y hS ?_) | ((first | refine M_bA hS ?_ | refine M_b1 hS ?_ | refine M_aA hS ?_ | refine M_a1 hS ?_ | refine M_sl hS ?_ | refine M_s1 hS ?_ | refine M_mm hS ?_); clear hS; intro b w hS) | ((first | refine M_st hS ?_ | refine M_sA hS ?_ | refine M_in hS ?_ | refine M_sR hS ?_); clear hS; intro w hS; (try simp only [List.set_cons_zero, List.set_cons_succ, Nat.zero_add] at hS)) | (refine M_ap hS ?_; clear hS; intro g cap w hS) | refine M_pn ?_ | ((first | refine M_im hS ?_ | refine M_ii hS ?_ | refine M_dl hS ?_); clear hS; intro w hS)) | refine X_k (by (try simp only [Fm.toList, List.set_cons_succ, List.set_cons_zero]); exact rfl) ?_ | refine S_u ?_ | refine S_v ?_ | refine C_sq ?_ | refine C_rg ?_ | refine L_nil ?_ | refine C_bk ?_ | refine C_ct ?_ | refine C_cf ?_ | refine C_sk ?_ | refine C_ex ?_ | refine C_rt ?_ | refine X_e ?_ | refine X_r ?_ | refine X_bh ?_ | refine X_be ?_ | refine X_br ?_ | refine X_bn ?_ | refine X_p ?_ | refine X_bp ?_)
        (try refine L_nil ?_); refine hQ' _ _ trivial ?_; clear hQ' hE'
        (with_reducible apply P_one); rfl; refine P_f ?_; intro Q' hQ' hE'
        repeat (first | (refine S_w ?_; first | (refine S_d hS ?_) | (refine S_y hS ?_) | ((first | refine M_bA hS ?_ | refine M_b1 hS ?_ | refine M_aA hS ?_ | refine M_a1 hS ?_ | refine M_sl hS ?_ | refine M_s1 hS ?_ | refine M_mm hS ?_); clear hS; intro b w hS) | ((first | refine M_st hS ?_ | refine M_sA hS ?_ | refine M_in hS ?_ | refine M_sR hS ?_); clear hS; intro w hS; (try simp only [List.set_cons_zero, List.set_cons_succ, Nat.zero_add] at hS)) | (refine M_ap hS ?_; clear hS; intro g cap w hS) | refine M_pn ?_ | ((first | refine M_im hS ?_ | refine M_ii hS ?_ | refine M_dl hS ?_); clear hS; intro w hS)) | refine X_k (by (try simp only [Fm.toList, List.set_cons_succ, List.set_cons_zero]); exact rfl) ?_ | refine S_u ?_ | refine S_v ?_ | refine C_sq ?_ | refine C_rg ?_ | refine L_nil ?_ | refine C_bk ?_ | refine C_ct ?_ | refine C_cf ?_ | refine C_sk ?_ | refine C_ex ?_ | refine C_rt ?_ | refine X_e ?_ | refine X_r ?_ | refine X_bh ?_ | refine X_be ?_ | refine X_br ?_ | refine X_bn ?_ | refine X_p ?_ | refine X_bp ?_)
        (try refine L_nil ?_); refine hQ' _ _ trivial ?_; clear hQ' hE'
        refine P_e (b, g, cap) hS.sb
      · refine P_f ?_; intro Q' hQ' hE'
        repeat (first | (refine S_w ?_; first | (refine S_d hS ?_) | (refine S_y hS ?_) | ((first | refine M_bA hS ?_ | refine M_b1 hS ?_ | refine M_aA hS ?_ | refine M_a1 hS ?_ | refine M_sl hS ?_ | refine M_s1 hS ?_ | refine M_mm hS ?_); clear hS; intro b w hS) | ((first | refine M_st hS ?_ | refine M_sA hS ?_ | refine M_in hS ?_ | refine M_sR hS ?_); clear hS; intro w hS; (try simp only [List.set_cons_zero, List.set_cons_succ, Nat.zero_add] at hS)) | (refine M_ap hS ?_; clear hS; intro g cap w hS) | refine M_pn ?_ | ((first | refine M_im hS ?_ | refine M_ii hS ?_ | refine M_dl hS ?_); clear hS; intro w hS)) | refine X_k (by (try simp only [Fm.toList, List.set_cons_succ, List.set_cons_zero]); exact rfl) ?_ | refine S_u ?_ | refine S_v ?_ | refine C_sq ?_ | refine C_rg ?_ | refine L_nil ?_ | refine C_bk ?_ | refine C_ct ?_ | refine C_cf ?_ | refine C_sk ?_ | refine C_ex ?_ | refine C_rt ?_ | refine X_e ?_ | refine X_r ?_ | refine X_bh ?_ | refine X_be ?_ | refine X_br ?_ | refine X_bn ?_ | refine X_p ?_ | refine X_bp ?_)
        (try refine L_nil ?_); refine hQ' _ _ trivial ?_; clear hQ' hE'
        (with_reducible apply P_two); rfl; rfl
        · refine P_f ?_; intro Q' hQ' hE'
          repeat (first | (refine S_w ?_; first | (refine S_d hS ?_) | (refine S_y hS ?_) | ((first | refine M_bA hS ?_ | refine M_b1 hS ?_ | refine M_aA hS ?_ | refine M_a1 hS ?_ | refine M_sl hS ?_ | refine M_s1 hS ?_ | refine M_mm hS ?_); clear hS; intro b w hS) | ((first | refine M_st hS ?_ | refine M_sA hS ?_ | refine M_in hS ?_ | refine M_sR hS ?_); clear hS; intro w hS; (try simp only [List.set_cons_zero, List.set_cons_succ, Nat.zero_add] at hS)) | (refine M_ap hS ?_; clear hS; intro g cap w hS) | refine M_pn ?_ | ((first | refine M_im hS ?_ | refine M_ii hS ?_ | refine M_dl hS ?_); clear hS; intro w hS)) | refine X_k (by (try simp only [Fm.toList, List.set_cons_succ, List.set_cons_zero]); exact rfl) ?_ | refine S_u ?_ | refine S_v ?_ | refine C_sq ?_ | refine C_rg ?_ | refine L_nil ?_ | refine C_bk ?_ | refine C_ct ?_ | refine C_cf ?_ | refine C_sk ?_ | refine C_ex ?_ | refine C_rt ?_ | refine X_e ?_ | refine X_r ?_ | refine X_bh ?_ | refine X_be ?_ | refine X_br ?_ | refine X_bn ?_ | refine X_p ?_ | refine X_bp ?_)
          (try refine L_nil ?_); refine hQ' _ _ trivial ?_; clear hQ' hE'
          (with_reducible apply P_one); rfl; refine P_f ?_; intro Q' hQ' hE'
          repeat (first | (refine S_w ?_; first | (refine S_d hS ?_) | (refine S_y hS ?_) | ((first | refine M_bA hS ?_ | refine M_b1 hS ?_ | refine M_aA hS ?_ | refine M_a1 hS ?_ | refine M_sl hS ?_ | refine M_s1 hS ?_ | refine M_mm hS ?_); clear hS; intro b w hS) | ((first | refine M_st hS ?_ | refine M_sA hS ?_ | refine M_in hS ?_ | refine M_sR hS ?_); clear hS; intro w hS; (try simp only [List.set_cons_zero, List.set_cons_succ, Nat.zero_add] at hS)) | (refine M_ap hS ?_; clear hS; intro g cap w hS) | refine M_pn ?_ | ((first | refine M_im hS ?_ | refine M_ii hS ?_ | refine M_dl hS ?_); clear hS; intro w hS)) | refine X_k (by (try simp only [Fm.toList, List.set_cons_succ, List.set_cons_zero]); exact rfl) ?_ | refine S_u ?_ | refine S_v ?_ | refine C_sq ?_ | refine C_rg ?_ | refine L_nil ?_ | refine C_bk ?_ | refine C_ct ?_ | refine C_cf ?_ | refine C_sk ?_ | refine C_ex ?_ | refine C_rt ?_ | refine X_e ?_ | refine X_r ?_ | refine X_bh ?_ | refine X_be ?_ | refine X_br ?_ | refine X_bn ?_ | refine X_p ?_ | refine X_bp ?_)
          (try refine L_nil ?_); refine hQ' _ _ trivial ?_; clear hQ' hE'
          (with_reducible apply P_one); rfl; refine P_f ?_; intro Q' hQ' hE'
          repeat (first | (refine S_w ?_; first | (refine S_d hS ?_) | (refine S_y hS ?_) | ((first | refine M_bA hS ?_ | refine M_b1 hS ?_ | refine M_aA hS ?_ | refine M_a1 hS ?_ | refine M_sl hS ?_ | refine M_s1 hS ?_ | refine M_mm hS ?_); clear hS; intro b w hS) | ((first | refine M_st hS ?_ | refine M_sA hS ?_ | refine M_in hS ?_ | refine M_sR hS ?_); clear hS; intro w hS; (try simp only [List.set_cons_zero, List.set_cons_succ, Nat.zero_add] at hS)) | (refine M_ap hS ?_; clear hS; intro g cap w hS) | refine M_pn ?_ | ((first | refine M_im hS ?_ | refine M_ii hS ?_ | refine M_dl hS ?_); clear hS; intro w hS)) | refine X_k (by (try simp only [Fm.toList, List.set_cons_succ, List.set_cons_zero]); exact rfl) ?_ | refine S_u ?_ | refine S_v ?_ | refine C_sq ?_ | refine C_rg ?_ | refine L_nil ?_ | refine C_bk ?_ | refine C_ct ?_ | refine C_cf ?_ | refine C_sk ?_ | refine C_ex ?_ | refine C_rt ?_ | refine X_e ?_ | refine X_r ?_ | refine X_bh ?_ | refine X_be ?_ | refine X_br ?_ | refine X_bn ?_ | refine X_p ?_ | refine X_bp ?_)
          (try refine L_nil ?_); refine hQ' _ _ trivial ?_; clear hQ' hE'
          (with_reducible apply P_one); rfl; refine P_f ?_; intro Q' hQ' hE'
          repeat (first | (refine S_w ?_; first | (refine S_d hS ?_) | (refine S_y hS ?_) | ((first | refine M_bA hS ?_ | refine M_b1 hS ?_ | refine M_aA hS ?_ | refine M_a1 hS ?_ | refine M_sl hS ?_ | refine M_s1 hS ?_ | refine M_mm hS ?_); clear hS; intro b w hS) | ((first | refine M_st hS ?_ | refine M_sA hS ?_ | refine M_in hS ?_ | refine M_sR hS ?_); clear hS; intro w hS; (try simp only [List.set_cons_zero, List.set_cons_succ, Nat.zero_add] at hS)) | (refine M_ap hS ?_; clear hS; intro g cap w hS) | refine M_pn ?_ | ((first | refine M_im hS ?_ | refine M_ii hS ?_ | refine M_dl hS ?_); clear hS; intro w hS)) | refine X_k (by (try simp only [Fm.toList, List.set_cons_succ, List.set_cons_zero]); exact rfl) ?_ | refine S_u ?_ | refine S_v ?_ | refine C_sq ?_ | refine C_rg ?_ | refine L_nil ?_ | refine C_bk ?_ | refine C_ct ?_ | refine C_cf ?_ | refine C_sk ?_ | refine C_ex ?_ | refine C_rt ?_ | refine X_e ?_ | refine X_r ?_ | refine X_bh ?_ | refine X_be ?_ | refine X_br ?_ | refine X_bn ?_ | refine X_p ?_ | refine X_bp ?_)
          (try refine L_nil ?_); refine hQ' _ _ trivial ?_; clear hQ' hE'
          (with_reducible apply P_one); rfl; refine P_f ?_; intro Q' hQ' hE'
          repeat (first | (refine S_w ?_; first | (refine S_d hS ?_) | (refine S_y hS ?_) | ((first | refine M_bA hS ?_ | refine M_b1 hS ?_ | refine M_aA hS ?_ | refine M_a1 hS ?_ | refine M_sl hS ?_ | refine M_s1 hS ?_ | refine M_mm hS ?_); clear hS; intro b w hS) | ((first | refine M_st hS ?_ | refine M_sA hS ?_ | refine M_in hS ?_ | refine M_sR hS ?_); clear hS; intro w hS; (try simp only [List.set_cons_zero, List.set_cons_succ, Nat.zero_add] at hS)) | (refine M_ap hS ?_; clear hS; intro g cap w hS) | refine M_pn ?_ | ((first | refine M_im hS ?_ | refine M_ii hS ?_ | refine M_dl hS ?_); clear hS; intro w hS)) | refine X_k (by (try simp only [Fm.toList, List.set_cons_succ, List.set_cons_zero]); exact rfl) ?_ | refine S_u ?_ | refine S_v ?_ | refine C_sq ?_ | refine C_rg ?_ | refine L_nil ?_ | refine C_bk ?_ | refine C_ct ?_ | refine C_cf ?_ | refine C_sk ?_ | refine C_ex ?_ | refine C_rt ?_ | refine X_e ?_ | refine X_r ?_ | refine X_bh ?_ | refine X_be ?_ | refine X_br ?_ | refine X_bn ?_ | refine X_p ?_ | refine X_bp ?_)
          (try refine L_nil ?_); refine hQ' _ _ trivial ?_; clear hQ' hE'
          (with_reducible apply P_one); rfl; refine P_f ?_; intro Q' hQ' hE'
          repeat (first | (refine S_w ?_; first | (refine S_d hS ?_) | (refine S_y hS ?_) | ((first | refine M_bA hS ?_ | refine M_b1 hS ?_ | refine M_aA hS ?_ | refine M_a1 hS ?_ | refine M_sl hS ?_ | refine M_s1 hS ?_ | refine M_mm hS ?_); clear hS; intro b w hS) | ((first | refine M_st hS ?_ | refine M_sA hS ?_ | refine M_in hS ?_ | refine M_sR hS ?_); clear hS; intro w hS; (try simp only [List.set_cons_zero, List.set_cons_succ, Nat.zero_add] at hS)) | (refine M_ap hS ?_; clear hS; intro g cap w hS) | refine M_pn ?_ | ((first | refine M_im hS ?_ | refine M_ii hS ?_ | refine M_dl hS ?_); clear hS; intro w hS)) | refine X_k (by (try simp only [Fm.toList, List.set_cons_succ, List.set_cons_zero]); exact rfl) ?_ | refine S_u ?_ | refine S_v ?_ | refine C_sq ?_ | refine C_rg ?_ | refine L_nil ?_ | refine C_bk ?_ | refine C_ct ?_ | refine C_cf ?_ | refine C_sk ?_ | refine C_ex ?_ | refine C_rt ?_ | refine X_e ?_ | refine X_r ?_ | refine X_bh ?_ | refine X_be ?_ | refine X_br ?_ | refine X_bn ?_ | refine X_p ?_ | refine X_bp ?_)
          (try refine L_nil ?_); refine hQ' _ _ trivial ?_; clear hQ' hE'
          refine P_e (b, g, cap) hS.sb
        · refine P_f ?_; intro Q' hQ' hE'
          repeat (first | (refine S_w ?_; first | (refine S_d hS ?_) | (refine S_y hS ?_) | ((first | refine M_bA hS ?_ | refine M_b1 hS ?_ | refine M_aA hS ?_ | refine M_a1 hS ?_ | refine M_sl hS ?_ | refine M_s1 hS ?_ | refine M_mm hS ?_); clear hS; intro b w hS) | ((first | refine M_st hS ?_ | refine M_sA hS ?_ | refine M_in hS ?_ | refine M_sR hS ?_); clear hS; intro w hS; (try simp only [List.set_cons_zero, List.set_cons_succ, Nat.zero_add] at hS)) | (refine M_ap hS ?_; clear hS; intro g cap w hS) | refine M_pn ?_ | ((first | refine M_im hS ?_ | refine M_ii hS ?_ | refine M_dl hS ?_); clear hS; intro w hS)) | refine X_k (by (try simp only [Fm.toList, List.set_cons_succ, List.set_cons_zero]); exact rfl) ?_ | refine S_u ?_ | refine S_v ?_ | refine C_sq ?_ | refine C_rg ?_ | refine L_nil ?_ | refine C_bk ?_ | refine C_ct ?_ | refine C_cf ?_ | refine C_sk ?_ | refine C_ex ?_ | refine C_rt ?_ | refine X_e ?_ | refine X_r ?_ | refine X_bh ?_ | refine X_be ?_ | refine X_br ?_ | refine X_bn ?_ | refine X_p ?_ | refine X_bp ?_)
          (try refine L_nil ?_); refine hQ' _ _ trivial ?_; clear hQ' hE'
          (with_reducible apply P_one); rfl; refine P_f ?_; intro Q' hQ' hE'
          repeat (first | (refine S_w ?_; first | (refine S_d hS ?_) | (refine S_y hS ?_) | ((first | refine M_bA hS ?_ | refine M_b1 hS ?_ | refine M_aA hS ?_ | refine M_a1 hS ?_ | refine M_sl hS ?_ | refine M_s1 hS ?_ | refine M_mm hS ?_); clear hS; intro b w hS) | ((first | refine M_st hS ?_ | refine M_sA hS ?_ | refine M_in hS ?_ | refine M_sR hS ?_); clear hS; intro w hS; (try simp only [List.set_cons_zero, List.set_cons_succ, Nat.zero_add] at hS)) | (refine M_ap hS ?_; clear hS; intro g cap w hS) | refine M_pn ?_ | ((first | refine M_im hS ?_ | refine M_ii hS ?_ | refine M_dl hS ?_); clear hS; intro w hS)) | refine X_k (by (try simp only [Fm.toList, List.set_cons_succ, List.set_cons_zero]); exact rfl) ?_ | refine S_u ?_ | refine S_v ?_ | refine C_sq ?_ | refine C_rg ?_ | refine L_nil ?_ | refine C_bk ?_ | refine C_ct ?_ | refine C_cf ?_ | refine C_sk ?_ | refine C_ex ?_ | refine C_rt ?_ | refine X_e ?_ | refine X_r ?_ | refine X_bh ?_ | refine X_be ?_ | refine X_br ?_ | refine X_bn ?_ | refine X_p ?_ | refine X_bp ?_)
          (try refine L_nil ?_); refine hQ' _ _ trivial ?_; clear hQ' hE'
          (with_reducible apply P_one); rfl; refine P_f ?_; intro Q' hQ' hE'
          repeat (first | (refine S_w ?_; first | (refine S_d hS ?_) | (refine S_y hS ?_) | ((first | refine M_bA hS ?_ | refine M_b1 hS ?_ | refine M_aA hS ?_ | refine M_a1 hS ?_ | refine M_sl hS ?_ | refine M_s1 hS ?_ | refine M_mm hS ?_); clear hS; intro b w hS) | ((first | refine M_st hS ?_ | refine M_sA hS ?_ | refine M_in hS ?_ | refine M_sR hS ?_); clear hS; intro w hS; (try simp only [List.set_cons_zero, List.set_cons_succ, Nat.zero_add] at hS)) | (refine M_ap hS ?_; clear hS; intro g cap w hS) | refine M_pn ?_ | ((first | refine M_im hS ?_ | refine M_ii hS ?_ | refine M_dl hS ?_); clear hS; intro w hS)) | refine X_k (by (try simp only [Fm.toList, List.set_cons_succ, List.set_cons_zero]); exact rfl) ?_ | refine S_u ?_ | refine S_v ?_ | refine C_sq ?_ | refine C_rg ?_ | refine L_nil ?_ | refine C_bk ?_ | refine C_ct ?_ | refine C_cf ?_ | refine C_sk ?_ | refine C_ex ?_ | refine C_rt ?_ | refine X_e ?_ | refine X_r ?_ | refine X_bh ?_ | refine X_be ?_ | refine X_br ?_ | refine X_bn ?_ | refine X_p ?_ | refine X_bp ?_)
          (try refine L_nil ?_); refine hQ' _ _ trivial ?_; clear hQ' hE'
          (with_reducible apply P_one); rfl; refine P_f ?_; intro Q' hQ' hE'
          repeat (first | (refine S_w ?_; first | (refine S_d hS ?_) | (refine S_y hS ?_) | ((first | refine M_bA hS ?_ | refine M_b1 hS ?_ | refine M_aA hS ?_ | refine M_a1 hS ?_ | refine M_sl hS ?_ | refine M_s1 hS ?_ | refine M_mm hS ?_); clear hS; intro b w hS) | ((first | refine M_st hS ?_ | refine M_sA hS ?_ | refine M_in hS ?_ | refine M_sR hS ?_); clear hS; intro w hS; (try simp only [List.set_cons_zero, List.set_cons_succ, Nat.zero_add] at hS)) | (refine M_ap hS ?_; clear hS; intro g cap w hS) | refine M_pn ?_ | ((first | refine M_im hS ?_ | refine M_ii hS ?_ | refine M_dl hS ?_); clear hS; intro w hS)) | refine X_k (by (try simp only [Fm.toList, List.set_cons_succ, List.set_cons_zero]); exact rfl) ?_ | refine S_u ?_ | refine S_v ?_ | refine C_sq ?_ | refine C_rg ?_ | refine L_nil ?_ | refine C_bk ?_ | refine C_ct ?_ | refine C_cf ?_ | refine C_sk ?_ | refine C_ex ?_ | refine C_rt ?_ | refine X_e ?_ | refine X_r ?_ | refine X_bh ?_ | refine X_be ?_ | refine X_br ?_ | refine X_bn ?_ | refine X_p ?_ | refine X_bp ?_)
          (try refine L_nil ?_); refine hQ' _ _ trivial ?_; clear hQ' hE'
          (with_reducible apply P_one); rfl; refine P_f ?_; intro Q' hQ' hE'
          repeat (first | (refine S_w ?_; first | (refine S_d hS ?_) | (refine S_y hS ?_) | ((first | refine M_bA hS ?_ | refine M_b1 hS ?_ | refine M_aA hS ?_ | refine M_a1 hS ?_ | refine M_sl hS ?_ | refine M_s1 hS ?_ | refine M_mm hS ?_); clear hS; intro b w hS) | ((first | refine M_st hS ?_ | refine M_sA hS ?_ | refine M_in hS ?_ | refine M_sR hS ?_); clear hS; intro w hS; (try simp only [List.set_cons_zero, List.set_cons_succ, Nat.zero_add] at hS)) | (refine M_ap hS ?_; clear hS; intro g cap w hS) | refine M_pn ?_ | ((first | refine M_im hS ?_ | refine M_ii hS ?_ | refine M_dl hS ?_); clear hS; intro w hS)) | refine X_k (by (try simp only [Fm.toList, List.set_cons_succ, List.set_cons_zero]); exact rfl) ?_ | refine S_u ?_ | refine S_v ?_ | refine C_sq ?_ | refine C_rg ?_ | refine L_nil ?_ | refine C_bk ?_ | refine C_ct ?_ | refine C_cf ?_ | refine C_sk ?_ | refine C_ex ?_ | refine C_rt ?_ | refine X_e ?_ | refine X_r ?_ | refine X_bh ?_ | refine X_be ?_ | refine X_br ?_ | refine X_bn ?_ | refine X_p ?_ | refine X_bp ?_)
          (try refine L_nil ?_); refine hQ' _ _ trivial ?_; clear hQ' hE'
          (with_reducible apply P_one); rfl; refine P_f ?_; intro Q' hQ' hE'
          repeat (first | (refine S_w ?_; first | (refine S_d hS ?_) | (refine S_y hS ?_) | ((first | refine M_bA hS ?_ | refine M_b1 hS ?_ | refine M_aA hS ?_ | refine M_a1 hS ?_ | refine M_sl hS ?_ | refine M_s1 hS ?_ | refine M_mm hS ?_); clear hS; intro b w hS) | ((first | refine M_st hS ?_ | refine M_sA hS ?_ | refine M_in hS ?_ | refine M_sR hS ?_); clear hS; intro w hS; (try simp only [List.set_cons_zero, List.set_cons_succ, Nat.zero_add] at hS)) | (refine M_ap hS ?_; clear hS; intro g cap w hS) | refine M_pn ?_ | ((first | refine M_im hS ?_ | refine M_ii hS ?_ | refine M_dl hS ?_); clear hS; intro w hS)) | refine X_k (by (try simp only [Fm.toList, List.set_cons_succ, List.set_cons_zero]); exact rfl) ?_ | refine S_u ?_ | refine S_v ?_ | refine C_sq ?_ | refine C_rg ?_ | refine L_nil ?_ | refine C_bk ?_ | refine C_ct ?_ | refine C_cf ?_ | refine C_sk ?_ | refine C_ex ?_ | refine C_rt ?_ | refine X_e ?_ | refine X_r ?_ | refine X_bh ?_ | refine X_be ?_ | refine X_br ?_ | refine X_bn ?_ | refine X_p ?_ | refine X_bp ?_)
          (try refine L_nil ?_); refine hQ' _ _ trivial ?_; clear hQ' hE'
          refine P_e (b, g, cap) hS.sb
    rintro ⟨b2, g, cap⟩ w hS
    simp only [List.cons_append, List.nil_append] at hS
    repeat (first | (refine S_w ?_; first | (refine S_d hS ?_) | (refine S_y hS ?_) | ((first | refine M_bA hS ?_ | refine M_b1 hS ?_ | refine M_aA hS ?_ | refine M_a1 hS ?_ | refine M_sl hS ?_ | refine M_s1 hS ?_ | refine M_mm hS ?_); clear hS; intro b w hS) | ((first | refine M_st hS ?_ | refine M_sA hS ?_ | refine M_in hS ?_ | refine M_sR hS ?_); clear hS; intro w hS; (try simp only [List.set_cons_zero, List.set_cons_succ, Nat.zero_add] at hS)) | (refine M_ap hS ?_; clear hS; intro g cap w hS) | refine M_pn ?_ | ((first | refine M_im hS ?_ | refine M_ii hS ?_ | refine M_dl hS ?_); clear hS; intro w hS)) | refine X_k (by (try simp only [Fm.toList, List.set_cons_succ, List.set_cons_zero]); exact rfl) ?_ | refine S_u ?_ | refine S_v ?_ | refine C_sq ?_ | refine C_rg ?_ | refine L_nil ?_ | refine C_bk ?_ | refine C_ct ?_ | refine C_cf ?_ | refine C_sk ?_ | refine C_ex ?_ | refine C_rt ?_ | refine X_e ?_ | refine X_r ?_ | refine X_bh ?_ | refine X_be ?_ | refine X_br ?_ | refine X_bn ?_ | refine X_p ?_ | refine X_bp ?_)
    refine C_ps (fun L : List (Dg.Nd × Value) => Res.obj box (.cells (ndL n).toArray 100 (0, 0)) :: Res.obj sb (.cells [.int .i64 (m : Nat), .int .i64 (cp : Nat), .slice (some ⟨g, 0, none⟩) (N.length + 1) cap, .map (some bi), .map (some bk)].toArray 88 (0, 0)) :: Res.row 100 4 (.slice (some ⟨g, 0, none⟩) (N.length + 1) cap) (N.length + 1) (cellsN N ++ ndL n) :: Res.dm ndV bi L :: Res.dm iv bk (knL kn) :: rs) (idxL N) (.take 0 (.take 1 (.take 2 (.take 3 (.take 4 (.take 5 (.one 6 .done))))))) hS ?_
    clear hS
    intro w hS
    repeat ((with_reducible apply P_t); rfl; first | (refine P_yd hS ?_) | refine P_zd hS ?_)
    (with_reducible apply P_one); rfl; refine P_f ?_; intro Q' hQ' hE'
    repeat (first | (refine S_w ?_; first | (refine S_d hS ?_) | (refine S_y hS ?_) | ((first | refine M_bA hS ?_ | refine M_b1 hS ?_ | refine M_aA hS ?_ | refine M_a1 hS ?_ | refine M_sl hS ?_ | refine M_s1 hS ?_ | refine M_mm hS ?_); clear hS; intro b w hS) | ((first | refine M_st hS ?_ | refine M_sA hS ?_ | refine M_in hS ?_ | refine M_sR hS ?_); clear hS; intro w hS; (try simp only [List.set_cons_zero, List.set_cons_succ, Nat.zero_add] at hS)) | (refine M_ap hS ?_; clear hS; intro g cap w hS) | refine M_pn ?_ | ((first | refine M_im hS ?_ | refine M_ii hS ?_ | refine M_dl hS ?_); clear hS; intro w hS)) | refine X_k (by (try simp only [Fm.toList, List.set_cons_succ, List.set_cons_zero]); exact rfl) ?_ | refine S_u ?_ | refine S_v ?_ | refine C_sq ?_ | refine C_rg ?_ | refine L_nil ?_ | refine C_bk ?_ | refine C_ct ?_ | refine C_cf ?_ | refine C_sk ?_ | refine C_ex ?_ | refine C_rt ?_ | refine X_e ?_ | refine X_r ?_ | refine X_bh ?_ | refine X_be ?_ | refine X_br ?_ | refine X_bn ?_ | refine X_p ?_ | refine X_bp ?_)
    (try refine L_nil ?_); refine hQ' _ _ ⟨_, hS⟩ ?_; clear hQ' hE'
    refine P_d ?_
    rw [idxL_put hn] at hS
    repeat (first | (refine S_w ?_; first | (refine S_d hS ?_) | (refine S_y hS ?_) | ((first | refine M_bA hS ?_ | refine M_b1 hS ?_ | refine M_aA hS ?_ | refine M_a1 hS ?_ | refine M_sl hS ?_ | refine M_s1 hS ?_ | refine M_mm hS ?_); clear hS; intro b w hS) | ((first | refine M_st hS ?_ | refine M_sA hS ?_ | refine M_in hS ?_ | refine M_sR hS ?_); clear hS; intro w hS; (try simp only [List.set_cons_zero, List.set_cons_succ, Nat.zero_add] at hS)) | (refine M_ap hS ?_; clear hS; intro g cap w hS) | refine M_pn ?_ | ((first | refine M_im hS ?_ | refine M_ii hS ?_ | refine M_dl hS ?_); clear hS; intro w hS)) | refine X_k (by (try simp only [Fm.toList, List.set_cons_succ, List.set_cons_zero]); exact rfl) ?_ | refine S_u ?_ | refine S_v ?_ | refine C_sq ?_ | refine C_rg ?_ | refine L_nil ?_ | refine C_bk ?_ | refine C_ct ?_ | refine C_cf ?_ | refine C_sk ?_ | refine C_ex ?_ | refine C_rt ?_ | refine X_e ?_ | refine X_r ?_ | refine X_bh ?_ | refine X_be ?_ | refine X_br ?_ | refine X_bn ?_ | refine X_p ?_ | refine X_bp ?_)
    have e1 : (N ++ [n]).length = N.length + 1 := by simp
    refine V_1 ⟨some ⟨g, 0, none⟩, cap, ?_, ?_⟩
    · rw [Dg.add, if_neg hn]
    · rw [Dg.add, if_neg hn]
      simp only
      unfold stR stO
      rw [e1, cellsN_snoc]
      exact hS.sb
end
end Go.Proofs.Ytijmggoikieelaa
