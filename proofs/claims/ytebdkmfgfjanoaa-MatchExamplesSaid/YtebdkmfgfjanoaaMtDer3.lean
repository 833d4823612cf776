/-
  match.Derive.
-/
import Derived.Test.YtebdkmfgfjanoaaMtDer2
namespace Go.Proofs.Ytebdkmfgfjanoaa
open Go.RowKit

def dE (v : Int) (x : Nat) (t : T) : Int := if two v.toNat ≤ x then 1 else if 64 < (der x t).size then 4 else 0
def dL (v : Int) (x : Nat) (t : T) : List Pc := if dE v x t = 0 then (der x t).flat 0 else []
def DPost (v : Int) (x : Nat) (t : T) (W : World) (r : Value) (w' : World) : Prop :=
  ∃ A c, r = .tuple #[.slice A (dL v x t).length c, .int .i64 (dE v x t)] ∧ w'.ownsRow W.heap.size 55 5 (.slice A (dL v x t).length c) (dL v x t).length (rxCells (dL v x t)) ∧ Fr Nof W w'
theorem dPost_err {v : Int} {x : Nat} {t : T} {W w' : World} {e : Int} (h : dE v x t = e) (he : e ≠ 0) (hf : Fr Nof W w') : DPost v x t W (.tuple #[.slice none 0 0, .int .i64 e]) w' := by
  have hl : dL v x t = [] := if_neg (by rw [h]; exact he)
  unfold DPost
  rw [h, hl]
  exact ⟨none, 0, rfl, World.ownsRow_nil _ _ _ _, hf⟩
set_option maxHeartbeats 4000000 in
set_option maxRecDepth 100000 in
theorem deriveE (L : List Pc) (v e : Int) (x : Nat) (A : Option Addr) (n c : Nat) (W : World) (hA : Rd W 5 A n (rxCells L)) (hL : ∀ p ∈ L, p.ok) (hn : n ≤ 4294967296) (h : nulE L v = e) (he : e ≠ 0) :
    CallsR Try.prog 26 #[.slice A n c, .int .i64 v, .int .u8 (x : Nat)] W fun r w' => r = .tuple #[.slice none 0 0, .int .i64 e] ∧ Fr Nof W w' := by
  have hS := St.start Nof W
  have hT := nullE L v e A n c W hA hL hn h he
  refine E_r (m := 35) ?_ Try.func26 rfl Try.ntmps26 rfl; refine C_ft ?_
  repeat (first | (refine S_w ?_; first | (refine M_c (hT) ?_) | (refine S_y hS ?_) | ((first | refine M_bA hS ?_ | refine M_b1 hS ?_ | refine M_aA hS ?_ | refine M_a1 hS ?_ | refine M_sl hS ?_ | refine M_s1 hS ?_ | refine M_mm hS ?_); clear hS; intro b w hS) | ((first | refine M_st hS ?_ | refine M_sA hS ?_ | refine M_in hS ?_ | refine M_sR hS ?_); clear hS; intro w hS; (try simp only [List.set_cons_zero, List.set_cons_succ, Nat.zero_add] at hS)) | (refine M_ap hS ?_; clear hS; intro g cap w hS) | refine M_pn ?_) | refine X_k (by (try simp only [Fm.toList, List.set_cons_succ, List.set_cons_zero]); exact rfl) ?_ | refine S_u ?_ | refine S_v ?_ | refine C_sq ?_ | refine C_rg ?_ | refine L_nil ?_ | refine C_bk ?_ | refine C_ct ?_ | refine C_cf ?_ | refine C_sk ?_ | refine C_ex ?_ | refine C_rt ?_ | refine X_e ?_ | refine X_r ?_ | refine X_bh ?_ | refine X_be ?_ | refine X_br ?_ | refine X_bn ?_ | refine X_p ?_ | refine X_bp ?_)
  rintro _ w1 ⟨rfl, hb⟩
  have hS := hS.call hb
  repeat (first | (refine S_w ?_; first | (refine S_y hS ?_) | ((first | refine M_bA hS ?_ | refine M_b1 hS ?_ | refine M_aA hS ?_ | refine M_a1 hS ?_ | refine M_sl hS ?_ | refine M_s1 hS ?_ | refine M_mm hS ?_); clear hS; intro b w hS) | ((first | refine M_st hS ?_ | refine M_sA hS ?_ | refine M_in hS ?_ | refine M_sR hS ?_); clear hS; intro w hS; (try simp only [List.set_cons_zero, List.set_cons_succ, Nat.zero_add] at hS)) | (refine M_ap hS ?_; clear hS; intro g cap w hS) | refine M_pn ?_) | refine X_k (by (try simp only [Fm.toList, List.set_cons_succ, List.set_cons_zero]); exact rfl) ?_ | refine S_u ?_ | refine S_v ?_ | refine C_sq ?_ | refine C_rg ?_ | refine L_nil ?_ | refine C_bk ?_ | refine C_ct ?_ | refine C_cf ?_ | refine C_sk ?_ | refine C_ex ?_ | refine C_rt ?_ | refine X_e ?_ | refine X_r ?_ | refine X_bh ?_ | refine X_be ?_ | refine X_br ?_ | refine X_bn ?_ | refine X_p ?_ | refine X_bp ?_)
  refine V_2 ⟨rfl, hS.fr⟩
set_option maxHeartbeats 8000000 in
set_option maxRecDepth 100000 in
theorem deriveT (t : T) (v : Int) (x : Nat) (A : Option Addr) (n c : Nat) (W : World) (hA : Rd W 5 A n (rxCells (t.flat 0))) (hv : 0 ≤ v ∧ v ≤ 6) (h1 : t.wf v) (h2 : t.free true = true) (h3 : t.size ≤ 64) (hp : t.plain = true) (hx : x < 256) (hc : n ≤ c) :
    CallsR Try.prog 26 #[.slice A n c, .int .i64 v, .int .u8 (x : Nat)] W (DPost v x t W) := by
  have hsz : t.size = n := by have := hA.1; rw [rxCells_len, T.flat_len] at this; omega
  have hok := flat_ok t 0 (wf_up t h1) (by omega)
  have hsp := T.size_pos t
  have hds := der_size x t
  have hsq : t.size * (t.size + 2) ≤ 64 * 66 := Nat.mul_le_mul h3 (by omega)
  have hNT := nullT t v A n c W hA hv h1 h2 h3 hp
  obtain ⟨vn, rfl⟩ := Int.eq_ofNat_of_zero_le hv.1
  have h64 := two_le6 (k := vn) (by omega)
  have hwt := wrap_two (k := vn) (by omega)
  have hS := (St.start Nof W).addRo (r := Res.rd 5 A n (rxCells (t.flat 0))) hA rfl (fun _ h => by cases h)
  by_cases hge : two vn ≤ x
  · have hE : dE vn x t = 1 := if_pos (by rw [Int.toNat_natCast]; exact hge)
    refine E_r (m := 35) ?_ Try.func26 rfl Try.ntmps26 rfl; refine C_ft ?_
    repeat (first | (refine S_w ?_; first | (refine M_c (hNT) ?_) | (refine S_y hS ?_) | ((first | refine M_bA hS ?_ | refine M_b1 hS ?_ | refine M_aA hS ?_ | refine M_a1 hS ?_ | refine M_sl hS ?_ | refine M_s1 hS ?_ | refine M_mm hS ?_); clear hS; intro b w hS) | ((first | refine M_st hS ?_ | refine M_sA hS ?_ | refine M_in hS ?_ | refine M_sR hS ?_); clear hS; intro w hS; (try simp only [List.set_cons_zero, List.set_cons_succ, Nat.zero_add] at hS)) | (refine M_ap hS ?_; clear hS; intro g cap w hS) | refine M_pn ?_) | refine X_k (by (try simp only [Fm.toList, List.set_cons_succ, List.set_cons_zero]); exact rfl) ?_ | refine S_u ?_ | refine S_v ?_ | refine C_sq ?_ | refine C_rg ?_ | refine L_nil ?_ | refine C_bk ?_ | refine C_ct ?_ | refine C_cf ?_ | refine C_sk ?_ | refine C_ex ?_ | refine C_rt ?_ | refine X_e ?_ | refine X_r ?_ | refine X_bh ?_ | refine X_be ?_ | refine X_br ?_ | refine X_bn ?_ | refine X_p ?_ | refine X_bp ?_)
    rintro _ w1 ⟨rfl, hb⟩
    have hS := hS.call hb
    repeat (first | (refine S_w ?_; first | (refine S_y hS ?_) | ((first | refine M_bA hS ?_ | refine M_b1 hS ?_ | refine M_aA hS ?_ | refine M_a1 hS ?_ | refine M_sl hS ?_ | refine M_s1 hS ?_ | refine M_mm hS ?_); clear hS; intro b w hS) | ((first | refine M_st hS ?_ | refine M_sA hS ?_ | refine M_in hS ?_ | refine M_sR hS ?_); clear hS; intro w hS; (try simp only [List.set_cons_zero, List.set_cons_succ, Nat.zero_add] at hS)) | (refine M_ap hS ?_; clear hS; intro g cap w hS) | refine M_pn ?_) | refine X_k (by (try simp only [Fm.toList, List.set_cons_succ, List.set_cons_zero]); exact rfl) ?_ | refine S_u ?_ | refine S_v ?_ | refine C_sq ?_ | refine C_rg ?_ | refine L_nil ?_ | refine C_bk ?_ | refine C_ct ?_ | refine C_cf ?_ | refine C_sk ?_ | refine C_ex ?_ | refine C_rt ?_ | refine X_e ?_ | refine X_r ?_ | refine X_bh ?_ | refine X_be ?_ | refine X_br ?_ | refine X_bn ?_ | refine X_p ?_ | refine X_bp ?_)
    refine V_2 (dPost_err hE (by decide) hS.fr)
  · have hE : dE vn x t = if 64 < (der x t).size then 4 else 0 := if_neg (by rw [Int.toNat_natCast]; exact hge)
    refine E_r (m := 35) ?_ Try.func26 rfl Try.ntmps26 rfl; refine C_ft ?_
    repeat (first | (refine S_w ?_; first | (refine M_c (hNT) ?_) | (refine S_y hS ?_) | ((first | refine M_bA hS ?_ | refine M_b1 hS ?_ | refine M_aA hS ?_ | refine M_a1 hS ?_ | refine M_sl hS ?_ | refine M_s1 hS ?_ | refine M_mm hS ?_); clear hS; intro b w hS) | ((first | refine M_st hS ?_ | refine M_sA hS ?_ | refine M_in hS ?_ | refine M_sR hS ?_); clear hS; intro w hS; (try simp only [List.set_cons_zero, List.set_cons_succ, Nat.zero_add] at hS)) | (refine M_ap hS ?_; clear hS; intro g cap w hS) | refine M_pn ?_) | refine X_k (by (try simp only [Fm.toList, List.set_cons_succ, List.set_cons_zero]); exact rfl) ?_ | refine S_u ?_ | refine S_v ?_ | refine C_sq ?_ | refine C_rg ?_ | refine L_nil ?_ | refine C_bk ?_ | refine C_ct ?_ | refine C_cf ?_ | refine C_sk ?_ | refine C_ex ?_ | refine C_rt ?_ | refine X_e ?_ | refine X_r ?_ | refine X_bh ?_ | refine X_be ?_ | refine X_br ?_ | refine X_bn ?_ | refine X_p ?_ | refine X_bp ?_)
    rintro _ w1 ⟨rfl, hb⟩
    have hS := hS.call hb
    have hd : ∀ bp rs w, Bld Nof W bp A n c x [] rs w → HasSl rs A n 5 (rxCells (t.flat 0)) → CallsR Try.prog 42 #[.pointer (some ⟨bp, 0, none⟩), .int .i64 ((n : Int) - 1)] w fun r w' => r = .int .i64 (((der x t).size : Int) - 1) ∧ Bld Nof W bp A n c x ((der x t).flat 0) rs w' := fun bp rs w hO h3 => by
      have := bDerR (bp := bp) (A := A) (ce := c) (x := x) (L := t.flat 0) (n := n) (by rw [T.flat_len]; exact hsz) (by omega) hc hx hok (tree_kids h1) t 0 (At.whole t) h1 hp Nof W rs w [] hO (by simp only [List.length_nil]; omega) h3
      simpa [hsz] using this
    repeat (first | (refine S_w ?_; first | (refine M_c (hd _ _ _ ⟨none, 0, (hS.rowNil 55 5).prm (List.Perm.swap _ _ _)⟩ inferInstance) ?_) | (refine S_y hS ?_) | ((first | refine M_bA hS ?_ | refine M_b1 hS ?_ | refine M_aA hS ?_ | refine M_a1 hS ?_ | refine M_sl hS ?_ | refine M_s1 hS ?_ | refine M_mm hS ?_); clear hS; intro b w hS) | ((first | refine M_st hS ?_ | refine M_sA hS ?_ | refine M_in hS ?_ | refine M_sR hS ?_); clear hS; intro w hS; (try simp only [List.set_cons_zero, List.set_cons_succ, Nat.zero_add] at hS)) | (refine M_ap hS ?_; clear hS; intro g cap w hS) | refine M_pn ?_) | refine X_k (by (try simp only [Fm.toList, List.set_cons_succ, List.set_cons_zero]); exact rfl) ?_ | refine S_u ?_ | refine S_v ?_ | refine C_sq ?_ | refine C_rg ?_ | refine L_nil ?_ | refine C_bk ?_ | refine C_ct ?_ | refine C_cf ?_ | refine C_sk ?_ | refine C_ex ?_ | refine C_rt ?_ | refine X_e ?_ | refine X_r ?_ | refine X_bh ?_ | refine X_be ?_ | refine X_br ?_ | refine X_bn ?_ | refine X_p ?_ | refine X_bp ?_)
    rintro _ w2 ⟨rfl, A2, c2, hS⟩
    have hfl := T.flat_len 0 (der x t)
    by_cases h6 : 64 < (der x t).size
    · rw [if_pos h6] at hE
      repeat (first | (refine S_w ?_; first | (refine S_y hS ?_) | ((first | refine M_bA hS ?_ | refine M_b1 hS ?_ | refine M_aA hS ?_ | refine M_a1 hS ?_ | refine M_sl hS ?_ | refine M_s1 hS ?_ | refine M_mm hS ?_); clear hS; intro b w hS) | ((first | refine M_st hS ?_ | refine M_sA hS ?_ | refine M_in hS ?_ | refine M_sR hS ?_); clear hS; intro w hS; (try simp only [List.set_cons_zero, List.set_cons_succ, Nat.zero_add] at hS)) | (refine M_ap hS ?_; clear hS; intro g cap w hS) | refine M_pn ?_) | refine X_k (by (try simp only [Fm.toList, List.set_cons_succ, List.set_cons_zero]); exact rfl) ?_ | refine S_u ?_ | refine S_v ?_ | refine C_sq ?_ | refine C_rg ?_ | refine L_nil ?_ | refine C_bk ?_ | refine C_ct ?_ | refine C_cf ?_ | refine C_sk ?_ | refine C_ex ?_ | refine C_rt ?_ | refine X_e ?_ | refine X_r ?_ | refine X_bh ?_ | refine X_be ?_ | refine X_br ?_ | refine X_bn ?_ | refine X_p ?_ | refine X_bp ?_)
      refine V_2 (dPost_err hE (by decide) hS.fr)
    · rw [if_neg h6] at hE
      have hD : dL vn x t = (der x t).flat 0 := if_pos hE
      repeat (first | (refine S_w ?_; first | (refine S_y hS ?_) | ((first | refine M_bA hS ?_ | refine M_b1 hS ?_ | refine M_aA hS ?_ | refine M_a1 hS ?_ | refine M_sl hS ?_ | refine M_s1 hS ?_ | refine M_mm hS ?_); clear hS; intro b w hS) | ((first | refine M_st hS ?_ | refine M_sA hS ?_ | refine M_in hS ?_ | refine M_sR hS ?_); clear hS; intro w hS; (try simp only [List.set_cons_zero, List.set_cons_succ, Nat.zero_add] at hS)) | (refine M_ap hS ?_; clear hS; intro g cap w hS) | refine M_pn ?_) | refine X_k (by (try simp only [Fm.toList, List.set_cons_succ, List.set_cons_zero]); exact rfl) ?_ | refine S_u ?_ | refine S_v ?_ | refine C_sq ?_ | refine C_rg ?_ | refine L_nil ?_ | refine C_bk ?_ | refine C_ct ?_ | refine C_cf ?_ | refine C_sk ?_ | refine C_ex ?_ | refine C_rt ?_ | refine X_e ?_ | refine X_r ?_ | refine X_bh ?_ | refine X_be ?_ | refine X_br ?_ | refine X_bn ?_ | refine X_p ?_ | refine X_bp ?_)
      refine V_2 ?_
      unfold DPost
      rw [hD, hE]
      exact ⟨A2, c2, rfl, hS.rowOwnM, hS.fr⟩
end Go.Proofs.Ytebdkmfgfjanoaa
