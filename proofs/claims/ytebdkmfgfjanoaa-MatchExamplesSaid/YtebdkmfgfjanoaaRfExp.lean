/-
  The reference's reader of layer 4: expr and inner.
-/
import Derived.Test.YtebdkmfgfjanoaaRfPm
import Derived.Test.YtebdkmfgfjanoaaRfLet
namespace Go.Proofs.Ytebdkmfgfjanoaa
open Go.RowKit

section
variable {F : Nat → Prop} {w0 w : World} {rs : List Res} {br : Nat} {s : List UInt8} {k : Nat} {e : Int} {L : List Pc}
theorem Rst.front {r : Res} (hS : ∃ A c, St F w0 (r :: Res.obj br (.cells [.string ⟨s.toArray⟩, .int .i64 (k : Nat), .slice A L.length c, .int .i64 e].toArray 98 (0, 0)) :: Res.row 55 5 (.slice A L.length c) L.length (rxCells L) :: rs) w) : Rst F w0 br s k e L (r :: rs) w := by
  obtain ⟨A, c, hS⟩ := hS
  exact ⟨A, c, hS.p3⟩
theorem eatG (b : UInt8) (h : Rst F w0 br s k e L rs w) (hk : k ≤ s.length) (hlen : s.length ≤ 4611686018427387904) :
    CallsR Try.prog 91 #[.pointer (some ⟨br, 0, none⟩), .int .u8 (b.toNat : Int)] w fun r w' => r = .tuple #[] ∧ ∃ k' e', EatP b s k e k' e' ∧ Rst F w0 br s k' e' L rs w' := by
  by_cases he : e = 0
  · subst he
    cases hd : s.drop k with
    | nil =>
      refine (eat0 b h (drop_nil hd hk)).mono fun _ _ h => ⟨h.1, k, 3, ?_, h.2⟩
      unfold EatP; rw [if_neg (by simp), hd]; exact ⟨rfl, rfl⟩
    | cons c q =>
      obtain ⟨h1, _, _⟩ := drop_cons hd
      by_cases hc : c = b
      · subst hc
        refine (eat1 c h h1 hlen).mono fun _ _ h => ⟨h.1, k + 1, 0, ?_, h.2⟩
        unfold EatP; rw [if_neg (by simp), hd]; simp
      · refine (eat2 b h h1 hc).mono fun _ _ h => ⟨h.1, k, 2, ?_, h.2⟩
        unfold EatP; rw [if_neg (by simp), hd]; simp [hc]
  · refine (eatE b h he).mono fun _ _ h => ⟨h.1, k, e, ?_, h.2⟩
    unfold EatP; rw [if_pos he]; exact ⟨rfl, rfl⟩
/-- what expr and inner leave -/
def ROut (F : Nat → Prop) (w0 : World) (br : Nat) (s : List UInt8) (k : Nat) (L : List Pc) (rs : List Res) (res : PR T) (v : Value) (w' : World) : Prop :=
  ∃ a k' e' L', v = .int .i64 a ∧ ROk s k L res a k' e' L' ∧ Rst F w0 br s k' e' L' rs w'
def RExprOk (F : Nat → Prop) (w0 : World) (br : Nat) (s : List UInt8) (f : Nat) : Prop := ∀ (k : Nat) (L : List Pc) (rs : List Res) (w : World), Rst F w0 br s k 0 L rs w → k ≤ s.length → 2 * (s.length - k) < f → L.length + s.length ≤ 80000 + k →
  CallsR Try.prog 61 #[.pointer (some ⟨br, 0, none⟩)] w (ROut F w0 br s k L rs (pExpr f (s.drop k)))
def RInnerOk (F : Nat → Prop) (w0 : World) (br : Nat) (s : List UInt8) (f : Nat) : Prop := ∀ (k : Nat) (L : List Pc) (rs : List Res) (w : World), Rst F w0 br s k 0 L rs w → k ≤ s.length → 2 * (s.length - k) + 1 < f → L.length + s.length ≤ 80000 + k →
  CallsR Try.prog 88 #[.pointer (some ⟨br, 0, none⟩)] w (ROut F w0 br s k L rs (pGroup f (s.drop k)))
set_option maxHeartbeats 4000000 in
set_option maxRecDepth 100000 in
theorem exprE (h : Rst F w0 br s k e L rs w) (he : e ≠ 0) : CallsR Try.prog 61 #[.pointer (some ⟨br, 0, none⟩)] w fun v w' => v = .int .i64 0 ∧ Rst F w0 br s k e L rs w' := by
  have hS := St.start Nof w
  refine E_r (m := 47) ?_ Try.func61 rfl Try.ntmps61 rfl; refine C_ft ?_
  repeat (first | (refine S_w ?_; first | (refine M_c (seeE h he) ?_) | (refine S_y hS ?_) | ((first | refine M_bA hS ?_ | refine M_b1 hS ?_ | refine M_aA hS ?_ | refine M_a1 hS ?_ | refine M_sl hS ?_ | refine M_s1 hS ?_ | refine M_mm hS ?_); clear hS; intro b w hS) | ((first | refine M_st hS ?_ | refine M_sA hS ?_ | refine M_in hS ?_ | refine M_sR hS ?_); clear hS; intro w hS; (try simp only [List.set_cons_zero, List.set_cons_succ, Nat.zero_add] at hS)) | (refine M_ap hS ?_; clear hS; intro g cap w hS) | refine M_pn ?_) | refine X_k (by (try simp only [Fm.toList, List.set_cons_succ, List.set_cons_zero]); exact rfl) ?_ | refine S_u ?_ | refine S_v ?_ | refine C_sq ?_ | refine C_rg ?_ | refine L_nil ?_ | refine C_bk ?_ | refine C_ct ?_ | refine C_cf ?_ | refine C_sk ?_ | refine C_ex ?_ | refine C_rt ?_ | refine X_e ?_ | refine X_r ?_ | refine X_bh ?_ | refine X_be ?_ | refine X_br ?_ | refine X_bn ?_ | refine X_p ?_ | refine X_bp ?_)
  rintro _ w1 ⟨rfl, A, c, hS⟩
  repeat (first | (refine S_w ?_; first | (refine S_y hS ?_) | ((first | refine M_bA hS ?_ | refine M_b1 hS ?_ | refine M_aA hS ?_ | refine M_a1 hS ?_ | refine M_sl hS ?_ | refine M_s1 hS ?_ | refine M_mm hS ?_); clear hS; intro b w hS) | ((first | refine M_st hS ?_ | refine M_sA hS ?_ | refine M_in hS ?_ | refine M_sR hS ?_); clear hS; intro w hS; (try simp only [List.set_cons_zero, List.set_cons_succ, Nat.zero_add] at hS)) | (refine M_ap hS ?_; clear hS; intro g cap w hS) | refine M_pn ?_) | refine X_k (by (try simp only [Fm.toList, List.set_cons_succ, List.set_cons_zero]); exact rfl) ?_ | refine S_u ?_ | refine S_v ?_ | refine C_sq ?_ | refine C_rg ?_ | refine L_nil ?_ | refine C_bk ?_ | refine C_ct ?_ | refine C_cf ?_ | refine C_sk ?_ | refine C_ex ?_ | refine C_rt ?_ | refine X_e ?_ | refine X_r ?_ | refine X_bh ?_ | refine X_be ?_ | refine X_br ?_ | refine X_bn ?_ | refine X_p ?_ | refine X_bp ?_)
  exact V_1 ⟨rfl, A, c, hS⟩
set_option maxHeartbeats 8000000 in
set_option maxRecDepth 100000 in
theorem rexprR (f : Nat) (hlen : s.length ≤ 4096) (hG : RInnerOk F w0 br s f) : RExprOk F w0 br s (f + 1) := by
  intro k L rs w h hk hf hL
  have e1 : (48 : UInt8).toNat = 48 := rfl
  have e2 : (49 : UInt8).toNat = 49 := rfl
  have e3 : (91 : UInt8).toNat = 91 := rfl
  have e4 : (40 : UInt8).toNat = 40 := rfl
  have hq1 : ((k : Nat) : Int) + 1 = ((k + 1 : Nat) : Int) := by omega
  have hS := St.start Nof w
  refine E_r (m := 47) ?_ Try.func61 rfl Try.ntmps61 rfl; refine C_ft ?_
  cases hd0 : s.drop k with
  | nil =>
    have hres : pExpr (f + 1) [] = .err 3 := by simp only [pExpr]
    have hpl := drop_nil hd0 hk
    rw [hres]
    repeat (first | (refine S_w ?_; first | (refine M_c (see0 h hpl) ?_) | (refine S_y hS ?_) | ((first | refine M_bA hS ?_ | refine M_b1 hS ?_ | refine M_aA hS ?_ | refine M_a1 hS ?_ | refine M_sl hS ?_ | refine M_s1 hS ?_ | refine M_mm hS ?_); clear hS; intro b w hS) | ((first | refine M_st hS ?_ | refine M_sA hS ?_ | refine M_in hS ?_ | refine M_sR hS ?_); clear hS; intro w hS; (try simp only [List.set_cons_zero, List.set_cons_succ, Nat.zero_add] at hS)) | (refine M_ap hS ?_; clear hS; intro g cap w hS) | refine M_pn ?_) | refine X_k (by (try simp only [Fm.toList, List.set_cons_succ, List.set_cons_zero]); exact rfl) ?_ | refine S_u ?_ | refine S_v ?_ | refine C_sq ?_ | refine C_rg ?_ | refine L_nil ?_ | refine C_bk ?_ | refine C_ct ?_ | refine C_cf ?_ | refine C_sk ?_ | refine C_ex ?_ | refine C_rt ?_ | refine X_e ?_ | refine X_r ?_ | refine X_bh ?_ | refine X_be ?_ | refine X_br ?_ | refine X_bn ?_ | refine X_p ?_ | refine X_bp ?_)
    rintro _ w1 ⟨rfl, A, c, hS⟩
    repeat (first | (refine S_w ?_; first | (refine S_y hS ?_) | ((first | refine M_bA hS ?_ | refine M_b1 hS ?_ | refine M_aA hS ?_ | refine M_a1 hS ?_ | refine M_sl hS ?_ | refine M_s1 hS ?_ | refine M_mm hS ?_); clear hS; intro b w hS) | ((first | refine M_st hS ?_ | refine M_sA hS ?_ | refine M_in hS ?_ | refine M_sR hS ?_); clear hS; intro w hS; (try simp only [List.set_cons_zero, List.set_cons_succ, Nat.zero_add] at hS)) | (refine M_ap hS ?_; clear hS; intro g cap w hS) | refine M_pn ?_) | refine X_k (by (try simp only [Fm.toList, List.set_cons_succ, List.set_cons_zero]); exact rfl) ?_ | refine S_u ?_ | refine S_v ?_ | refine C_sq ?_ | refine C_rg ?_ | refine L_nil ?_ | refine C_bk ?_ | refine C_ct ?_ | refine C_cf ?_ | refine C_sk ?_ | refine C_ex ?_ | refine C_rt ?_ | refine X_e ?_ | refine X_r ?_ | refine X_bh ?_ | refine X_be ?_ | refine X_br ?_ | refine X_bn ?_ | refine X_p ?_ | refine X_bp ?_)
    exact V_1 ⟨0, k, 3, L, rfl, ⟨Nat.le_refl _, hk, by omega, rfl, by decide⟩, A, c, hS⟩
  | cons c r =>
    have hc8 := c.toNat_lt
    obtain ⟨hd, hr1, hlt⟩ := drop_cons hd0
    have hq0 : ((L.length : Nat) : Int) = ((L.length + 1 : Nat) : Int) - 1 := by omega
    have hlen1 : ∀ p : Pc, (L ++ [p]).length + k ≤ L.length + (k + 1) := fun p => by simp; omega
    repeat (first | (refine S_w ?_; first | (refine M_c (see1 h hd) ?_) | (refine S_y hS ?_) | ((first | refine M_bA hS ?_ | refine M_b1 hS ?_ | refine M_aA hS ?_ | refine M_a1 hS ?_ | refine M_sl hS ?_ | refine M_s1 hS ?_ | refine M_mm hS ?_); clear hS; intro b w hS) | ((first | refine M_st hS ?_ | refine M_sA hS ?_ | refine M_in hS ?_ | refine M_sR hS ?_); clear hS; intro w hS; (try simp only [List.set_cons_zero, List.set_cons_succ, Nat.zero_add] at hS)) | (refine M_ap hS ?_; clear hS; intro g cap w hS) | refine M_pn ?_) | refine X_k (by (try simp only [Fm.toList, List.set_cons_succ, List.set_cons_zero]); exact rfl) ?_ | refine S_u ?_ | refine S_v ?_ | refine C_sq ?_ | refine C_rg ?_ | refine L_nil ?_ | refine C_bk ?_ | refine C_ct ?_ | refine C_cf ?_ | refine C_sk ?_ | refine C_ex ?_ | refine C_rt ?_ | refine X_e ?_ | refine X_r ?_ | refine X_bh ?_ | refine X_be ?_ | refine X_br ?_ | refine X_bn ?_ | refine X_p ?_ | refine X_bp ?_)
    rintro _ w1 ⟨rfl, A1, c1, hS⟩
    by_cases h48 : c = 48
    · subst h48
      have hres : pExpr (f + 1) (48 :: r) = .ok .none r := by simp only [pExpr]; rfl
      rw [hres]
      repeat (first | (refine S_w ?_; first | (refine M_c (raddR ⟨1, 0, 0, 0, 0⟩ ⟨A1, c1, hS⟩ (by omega)) ?_) | (refine S_y hS ?_) | ((first | refine M_bA hS ?_ | refine M_b1 hS ?_ | refine M_aA hS ?_ | refine M_a1 hS ?_ | refine M_sl hS ?_ | refine M_s1 hS ?_ | refine M_mm hS ?_); clear hS; intro b w hS) | ((first | refine M_st hS ?_ | refine M_sA hS ?_ | refine M_in hS ?_ | refine M_sR hS ?_); clear hS; intro w hS; (try simp only [List.set_cons_zero, List.set_cons_succ, Nat.zero_add] at hS)) | (refine M_ap hS ?_; clear hS; intro g cap w hS) | refine M_pn ?_) | refine X_k (by (try simp only [Fm.toList, List.set_cons_succ, List.set_cons_zero]); exact rfl) ?_ | refine S_u ?_ | refine S_v ?_ | refine C_sq ?_ | refine C_rg ?_ | refine L_nil ?_ | refine C_bk ?_ | refine C_ct ?_ | refine C_cf ?_ | refine C_sk ?_ | refine C_ex ?_ | refine C_rt ?_ | refine X_e ?_ | refine X_r ?_ | refine X_bh ?_ | refine X_be ?_ | refine X_br ?_ | refine X_bn ?_ | refine X_p ?_ | refine X_bp ?_)
      rintro _ w2 ⟨rfl, hP⟩
      clear hS
      have hS := St.start Nof w2
      repeat (first | (refine S_w ?_; first | (refine S_y hS ?_) | ((first | refine M_bA hS ?_ | refine M_b1 hS ?_ | refine M_aA hS ?_ | refine M_a1 hS ?_ | refine M_sl hS ?_ | refine M_s1 hS ?_ | refine M_mm hS ?_); clear hS; intro b w hS) | ((first | refine M_st hS ?_ | refine M_sA hS ?_ | refine M_in hS ?_ | refine M_sR hS ?_); clear hS; intro w hS; (try simp only [List.set_cons_zero, List.set_cons_succ, Nat.zero_add] at hS)) | (refine M_ap hS ?_; clear hS; intro g cap w hS) | refine M_pn ?_) | refine X_k (by (try simp only [Fm.toList, List.set_cons_succ, List.set_cons_zero]); exact rfl) ?_ | refine S_u ?_ | refine S_v ?_ | refine C_sq ?_ | refine C_rg ?_ | refine L_nil ?_ | refine C_bk ?_ | refine C_ct ?_ | refine C_cf ?_ | refine C_sk ?_ | refine C_ex ?_ | refine C_rt ?_ | refine X_e ?_ | refine X_r ?_ | refine X_bh ?_ | refine X_be ?_ | refine X_br ?_ | refine X_bn ?_ | refine X_p ?_ | refine X_bp ?_)
      exact V_1 ⟨(L.length : Nat), k + 1, 0, _, rfl, ⟨by omega, by omega, hlen1 _, hq0, rfl, hr1, rfl⟩, hP⟩
    by_cases h49 : c = 49
    · subst h49
      have hres : pExpr (f + 1) (49 :: r) = .ok .empty r := by simp only [pExpr]; rfl
      rw [hres]
      repeat (first | (refine S_w ?_; first | (refine M_c (raddR ⟨2, 0, 0, 0, 0⟩ ⟨A1, c1, hS⟩ (by omega)) ?_) | (refine S_y hS ?_) | ((first | refine M_bA hS ?_ | refine M_b1 hS ?_ | refine M_aA hS ?_ | refine M_a1 hS ?_ | refine M_sl hS ?_ | refine M_s1 hS ?_ | refine M_mm hS ?_); clear hS; intro b w hS) | ((first | refine M_st hS ?_ | refine M_sA hS ?_ | refine M_in hS ?_ | refine M_sR hS ?_); clear hS; intro w hS; (try simp only [List.set_cons_zero, List.set_cons_succ, Nat.zero_add] at hS)) | (refine M_ap hS ?_; clear hS; intro g cap w hS) | refine M_pn ?_) | refine X_k (by (try simp only [Fm.toList, List.set_cons_succ, List.set_cons_zero]); exact rfl) ?_ | refine S_u ?_ | refine S_v ?_ | refine C_sq ?_ | refine C_rg ?_ | refine L_nil ?_ | refine C_bk ?_ | refine C_ct ?_ | refine C_cf ?_ | refine C_sk ?_ | refine C_ex ?_ | refine C_rt ?_ | refine X_e ?_ | refine X_r ?_ | refine X_bh ?_ | refine X_be ?_ | refine X_br ?_ | refine X_bn ?_ | refine X_p ?_ | refine X_bp ?_)
      rintro _ w2 ⟨rfl, hP⟩
      clear hS
      have hS := St.start Nof w2
      repeat (first | (refine S_w ?_; first | (refine S_y hS ?_) | ((first | refine M_bA hS ?_ | refine M_b1 hS ?_ | refine M_aA hS ?_ | refine M_a1 hS ?_ | refine M_sl hS ?_ | refine M_s1 hS ?_ | refine M_mm hS ?_); clear hS; intro b w hS) | ((first | refine M_st hS ?_ | refine M_sA hS ?_ | refine M_in hS ?_ | refine M_sR hS ?_); clear hS; intro w hS; (try simp only [List.set_cons_zero, List.set_cons_succ, Nat.zero_add] at hS)) | (refine M_ap hS ?_; clear hS; intro g cap w hS) | refine M_pn ?_) | refine X_k (by (try simp only [Fm.toList, List.set_cons_succ, List.set_cons_zero]); exact rfl) ?_ | refine S_u ?_ | refine S_v ?_ | refine C_sq ?_ | refine C_rg ?_ | refine L_nil ?_ | refine C_bk ?_ | refine C_ct ?_ | refine C_cf ?_ | refine C_sk ?_ | refine C_ex ?_ | refine C_rt ?_ | refine X_e ?_ | refine X_r ?_ | refine X_bh ?_ | refine X_be ?_ | refine X_br ?_ | refine X_bn ?_ | refine X_p ?_ | refine X_bp ?_)
      exact V_1 ⟨(L.length : Nat), k + 1, 0, _, rfl, ⟨by omega, by omega, hlen1 _, hq0, rfl, hr1, rfl⟩, hP⟩
    by_cases h91 : c = 91
    · subst h91
      have hres : pExpr (f + 1) (91 :: r) = pLetter (f + 1) r := by simp only [pExpr]; rfl
      rw [hres]
      have hrl : (s.drop (k + 1)).length < f + 1 := by rw [List.length_drop]; omega
      have hcube := fun (w : World) (h : Rst F w0 br s (k + 1) 0 L rs w) => rcubeR (f := f + 1) h (by omega) (by omega) hrl
      rw [hr1] at hcube
      cases hl : pLetter (f + 1) r with
      | err e =>
        rw [hl] at hcube
        have hne : e ≠ 0 := by have := pLetter_err (by rw [← hr1]; exact hrl) hl; omega
        repeat (first | (refine S_w ?_; first | (refine M_c (hcube _ ⟨A1, c1, hS⟩) ?_) | (refine S_y hS ?_) | ((first | refine M_bA hS ?_ | refine M_b1 hS ?_ | refine M_aA hS ?_ | refine M_a1 hS ?_ | refine M_sl hS ?_ | refine M_s1 hS ?_ | refine M_mm hS ?_); clear hS; intro b w hS) | ((first | refine M_st hS ?_ | refine M_sA hS ?_ | refine M_in hS ?_ | refine M_sR hS ?_); clear hS; intro w hS; (try simp only [List.set_cons_zero, List.set_cons_succ, Nat.zero_add] at hS)) | (refine M_ap hS ?_; clear hS; intro g cap w hS) | refine M_pn ?_) | refine X_k (by (try simp only [Fm.toList, List.set_cons_succ, List.set_cons_zero]); exact rfl) ?_ | refine S_u ?_ | refine S_v ?_ | refine C_sq ?_ | refine C_rg ?_ | refine L_nil ?_ | refine C_bk ?_ | refine C_ct ?_ | refine C_cf ?_ | refine C_sk ?_ | refine C_ex ?_ | refine C_rt ?_ | refine X_e ?_ | refine X_r ?_ | refine X_bh ?_ | refine X_be ?_ | refine X_br ?_ | refine X_bn ?_ | refine X_p ?_ | refine X_bp ?_)
        rintro _ w2 ⟨rfl, k2, hk1, hk2, A2, c2, hS⟩
        repeat (first | (refine S_w ?_; first | (refine M_c (raddR ⟨3, 0, 0, 0, 0⟩ (Rst.front ⟨A2, c2, hS⟩) (by omega)) ?_) | (refine S_y hS ?_) | ((first | refine M_bA hS ?_ | refine M_b1 hS ?_ | refine M_aA hS ?_ | refine M_a1 hS ?_ | refine M_sl hS ?_ | refine M_s1 hS ?_ | refine M_mm hS ?_); clear hS; intro b w hS) | ((first | refine M_st hS ?_ | refine M_sA hS ?_ | refine M_in hS ?_ | refine M_sR hS ?_); clear hS; intro w hS; (try simp only [List.set_cons_zero, List.set_cons_succ, Nat.zero_add] at hS)) | (refine M_ap hS ?_; clear hS; intro g cap w hS) | refine M_pn ?_) | refine X_k (by (try simp only [Fm.toList, List.set_cons_succ, List.set_cons_zero]); exact rfl) ?_ | refine S_u ?_ | refine S_v ?_ | refine C_sq ?_ | refine C_rg ?_ | refine L_nil ?_ | refine C_bk ?_ | refine C_ct ?_ | refine C_cf ?_ | refine C_sk ?_ | refine C_ex ?_ | refine C_rt ?_ | refine X_e ?_ | refine X_r ?_ | refine X_bh ?_ | refine X_be ?_ | refine X_br ?_ | refine X_bn ?_ | refine X_p ?_ | refine X_bp ?_)
        rintro _ w3 ⟨rfl, hP⟩
        clear hS
        have hS := St.start Nof w3
        repeat (first | (refine S_w ?_; first | (refine S_y hS ?_) | ((first | refine M_bA hS ?_ | refine M_b1 hS ?_ | refine M_aA hS ?_ | refine M_a1 hS ?_ | refine M_sl hS ?_ | refine M_s1 hS ?_ | refine M_mm hS ?_); clear hS; intro b w hS) | ((first | refine M_st hS ?_ | refine M_sA hS ?_ | refine M_in hS ?_ | refine M_sR hS ?_); clear hS; intro w hS; (try simp only [List.set_cons_zero, List.set_cons_succ, Nat.zero_add] at hS)) | (refine M_ap hS ?_; clear hS; intro g cap w hS) | refine M_pn ?_) | refine X_k (by (try simp only [Fm.toList, List.set_cons_succ, List.set_cons_zero]); exact rfl) ?_ | refine S_u ?_ | refine S_v ?_ | refine C_sq ?_ | refine C_rg ?_ | refine L_nil ?_ | refine C_bk ?_ | refine C_ct ?_ | refine C_cf ?_ | refine C_sk ?_ | refine C_ex ?_ | refine C_rt ?_ | refine X_e ?_ | refine X_r ?_ | refine X_bh ?_ | refine X_be ?_ | refine X_br ?_ | refine X_bn ?_ | refine X_p ?_ | refine X_bp ?_)
        exact V_1 ⟨_, k2, e, L ++ [⟨3, 0, 0, 0, 0⟩], rfl, ⟨by omega, by omega, by simp; omega, rfl, hne⟩, hP.drop⟩
      | ok t q =>
        have hql := pLetter_len hl
        have htp := T.size_pos t
        have hq' : s.drop (s.length - q.length) = q := by
          have := (pLetter_ok hl).2
          have h2 : ∃ u, s = u ++ q := by
            have h3 : ∃ u, r = u ++ q := by
              have h91 : 91 :: r = t.text ++ q := this
              cases ht : t.text with
              | nil =>
                rw [ht, List.nil_append] at h91
                have := congrArg List.length h91
                simp at this; omega
              | cons x u =>
                rw [ht] at h91
                exact ⟨u, (List.cons.inj h91).2⟩
            obtain ⟨u, hu⟩ := h3
            exact ⟨s.take (k + 1) ++ u, by rw [List.append_assoc, ← hu, ← hr1, List.take_append_drop]⟩
          obtain ⟨u, hu⟩ := h2
          rw [hu]; simp
        have hrs : r.length = s.length - (k + 1) := by rw [← hr1, List.length_drop]
        rw [hl] at hcube
        repeat (first | (refine S_w ?_; first | (refine M_c (hcube _ ⟨A1, c1, hS⟩) ?_) | (refine S_y hS ?_) | ((first | refine M_bA hS ?_ | refine M_b1 hS ?_ | refine M_aA hS ?_ | refine M_a1 hS ?_ | refine M_sl hS ?_ | refine M_s1 hS ?_ | refine M_mm hS ?_); clear hS; intro b w hS) | ((first | refine M_st hS ?_ | refine M_sA hS ?_ | refine M_in hS ?_ | refine M_sR hS ?_); clear hS; intro w hS; (try simp only [List.set_cons_zero, List.set_cons_succ, Nat.zero_add] at hS)) | (refine M_ap hS ?_; clear hS; intro g cap w hS) | refine M_pn ?_) | refine X_k (by (try simp only [Fm.toList, List.set_cons_succ, List.set_cons_zero]); exact rfl) ?_ | refine S_u ?_ | refine S_v ?_ | refine C_sq ?_ | refine C_rg ?_ | refine L_nil ?_ | refine C_bk ?_ | refine C_ct ?_ | refine C_cf ?_ | refine C_sk ?_ | refine C_ex ?_ | refine C_rt ?_ | refine X_e ?_ | refine X_r ?_ | refine X_bh ?_ | refine X_be ?_ | refine X_br ?_ | refine X_bn ?_ | refine X_p ?_ | refine X_bp ?_)
        rintro _ w2 ⟨p, n, rfl, rfl, A2, c2, hS⟩
        repeat (first | (refine S_w ?_; first | (refine M_c (raddR ⟨3, p, n, 0, 0⟩ (Rst.front ⟨A2, c2, hS⟩) (by omega)) ?_) | (refine S_y hS ?_) | ((first | refine M_bA hS ?_ | refine M_b1 hS ?_ | refine M_aA hS ?_ | refine M_a1 hS ?_ | refine M_sl hS ?_ | refine M_s1 hS ?_ | refine M_mm hS ?_); clear hS; intro b w hS) | ((first | refine M_st hS ?_ | refine M_sA hS ?_ | refine M_in hS ?_ | refine M_sR hS ?_); clear hS; intro w hS; (try simp only [List.set_cons_zero, List.set_cons_succ, Nat.zero_add] at hS)) | (refine M_ap hS ?_; clear hS; intro g cap w hS) | refine M_pn ?_) | refine X_k (by (try simp only [Fm.toList, List.set_cons_succ, List.set_cons_zero]); exact rfl) ?_ | refine S_u ?_ | refine S_v ?_ | refine C_sq ?_ | refine C_rg ?_ | refine L_nil ?_ | refine C_bk ?_ | refine C_ct ?_ | refine C_cf ?_ | refine C_sk ?_ | refine C_ex ?_ | refine C_rt ?_ | refine X_e ?_ | refine X_r ?_ | refine X_bh ?_ | refine X_be ?_ | refine X_br ?_ | refine X_bn ?_ | refine X_p ?_ | refine X_bp ?_)
        rintro _ w3 ⟨rfl, hP⟩
        clear hS
        have hS := St.start Nof w3
        repeat (first | (refine S_w ?_; first | (refine S_y hS ?_) | ((first | refine M_bA hS ?_ | refine M_b1 hS ?_ | refine M_aA hS ?_ | refine M_a1 hS ?_ | refine M_sl hS ?_ | refine M_s1 hS ?_ | refine M_mm hS ?_); clear hS; intro b w hS) | ((first | refine M_st hS ?_ | refine M_sA hS ?_ | refine M_in hS ?_ | refine M_sR hS ?_); clear hS; intro w hS; (try simp only [List.set_cons_zero, List.set_cons_succ, Nat.zero_add] at hS)) | (refine M_ap hS ?_; clear hS; intro g cap w hS) | refine M_pn ?_) | refine X_k (by (try simp only [Fm.toList, List.set_cons_succ, List.set_cons_zero]); exact rfl) ?_ | refine S_u ?_ | refine S_v ?_ | refine C_sq ?_ | refine C_rg ?_ | refine L_nil ?_ | refine C_bk ?_ | refine C_ct ?_ | refine C_cf ?_ | refine C_sk ?_ | refine C_ex ?_ | refine C_rt ?_ | refine X_e ?_ | refine X_r ?_ | refine X_bh ?_ | refine X_be ?_ | refine X_br ?_ | refine X_bn ?_ | refine X_p ?_ | refine X_bp ?_)
        exact V_1 ⟨_, s.length - q.length, 0, L ++ [⟨3, p, n, 0, 0⟩], rfl, ⟨by omega, by omega, by simp; omega, hq0, rfl, hq', rfl⟩, hP.drop⟩
    by_cases h40 : c = 40
    · subst h40
      have hres : pExpr (f + 1) (40 :: r) = pGroup f r := by simp only [pExpr]; rfl
      rw [hres]
      have hin := fun (w : World) (h : Rst F w0 br s (k + 1) 0 L rs w) => hG (k + 1) L rs w h (by omega) (by omega) (by omega)
      rw [hr1] at hin
      repeat (first | (refine S_w ?_; first | (refine M_c (hin _ ⟨A1, c1, hS⟩) ?_) | (refine S_y hS ?_) | ((first | refine M_bA hS ?_ | refine M_b1 hS ?_ | refine M_aA hS ?_ | refine M_a1 hS ?_ | refine M_sl hS ?_ | refine M_s1 hS ?_ | refine M_mm hS ?_); clear hS; intro b w hS) | ((first | refine M_st hS ?_ | refine M_sA hS ?_ | refine M_in hS ?_ | refine M_sR hS ?_); clear hS; intro w hS; (try simp only [List.set_cons_zero, List.set_cons_succ, Nat.zero_add] at hS)) | (refine M_ap hS ?_; clear hS; intro g cap w hS) | refine M_pn ?_) | refine X_k (by (try simp only [Fm.toList, List.set_cons_succ, List.set_cons_zero]); exact rfl) ?_ | refine S_u ?_ | refine S_v ?_ | refine C_sq ?_ | refine C_rg ?_ | refine L_nil ?_ | refine C_bk ?_ | refine C_ct ?_ | refine C_cf ?_ | refine C_sk ?_ | refine C_ex ?_ | refine C_rt ?_ | refine X_e ?_ | refine X_r ?_ | refine X_bh ?_ | refine X_be ?_ | refine X_br ?_ | refine X_bn ?_ | refine X_p ?_ | refine X_bp ?_)
      rintro _ w2 ⟨a, k2, e2, L2, rfl, hok, hP⟩
      clear hS
      have hS := St.start Nof w2
      repeat (first | (refine S_w ?_; first | (refine S_y hS ?_) | ((first | refine M_bA hS ?_ | refine M_b1 hS ?_ | refine M_aA hS ?_ | refine M_a1 hS ?_ | refine M_sl hS ?_ | refine M_s1 hS ?_ | refine M_mm hS ?_); clear hS; intro b w hS) | ((first | refine M_st hS ?_ | refine M_sA hS ?_ | refine M_in hS ?_ | refine M_sR hS ?_); clear hS; intro w hS; (try simp only [List.set_cons_zero, List.set_cons_succ, Nat.zero_add] at hS)) | (refine M_ap hS ?_; clear hS; intro g cap w hS) | refine M_pn ?_) | refine X_k (by (try simp only [Fm.toList, List.set_cons_succ, List.set_cons_zero]); exact rfl) ?_ | refine S_u ?_ | refine S_v ?_ | refine C_sq ?_ | refine C_rg ?_ | refine L_nil ?_ | refine C_bk ?_ | refine C_ct ?_ | refine C_cf ?_ | refine C_sk ?_ | refine C_ex ?_ | refine C_rt ?_ | refine X_e ?_ | refine X_r ?_ | refine X_bh ?_ | refine X_be ?_ | refine X_br ?_ | refine X_bn ?_ | refine X_p ?_ | refine X_bp ?_)
      exact V_1 ⟨a, k2, e2, L2, rfl, hok.from1.1, hP⟩
    have n1 : ¬ ((c.toNat : Int) = 48) := fun h => h48 (UInt8.toNat_inj.1 (by omega))
    have n2 : ¬ ((c.toNat : Int) = 49) := fun h => h49 (UInt8.toNat_inj.1 (by omega))
    have n3 : ¬ ((c.toNat : Int) = 91) := fun h => h91 (UInt8.toNat_inj.1 (by omega))
    have n4 : ¬ ((c.toNat : Int) = 40) := fun h => h40 (UInt8.toNat_inj.1 (by omega))
    have hres : pExpr (f + 1) (c :: r) = .err 2 := by
      simp only [pExpr]
      rw [if_neg h48, if_neg h49, if_neg h91, if_neg h40]
    rw [hres]
    repeat (first | (refine S_w ?_; first | (refine S_y hS ?_) | ((first | refine M_bA hS ?_ | refine M_b1 hS ?_ | refine M_aA hS ?_ | refine M_a1 hS ?_ | refine M_sl hS ?_ | refine M_s1 hS ?_ | refine M_mm hS ?_); clear hS; intro b w hS) | ((first | refine M_st hS ?_ | refine M_sA hS ?_ | refine M_in hS ?_ | refine M_sR hS ?_); clear hS; intro w hS; (try simp only [List.set_cons_zero, List.set_cons_succ, Nat.zero_add] at hS)) | (refine M_ap hS ?_; clear hS; intro g cap w hS) | refine M_pn ?_) | refine X_k (by (try simp only [Fm.toList, List.set_cons_succ, List.set_cons_zero]); exact rfl) ?_ | refine S_u ?_ | refine S_v ?_ | refine C_sq ?_ | refine C_rg ?_ | refine L_nil ?_ | refine C_bk ?_ | refine C_ct ?_ | refine C_cf ?_ | refine C_sk ?_ | refine C_ex ?_ | refine C_rt ?_ | refine X_e ?_ | refine X_r ?_ | refine X_bh ?_ | refine X_be ?_ | refine X_br ?_ | refine X_bn ?_ | refine X_p ?_ | refine X_bp ?_)
    exact V_1 ⟨0, k + 1, 2, L, rfl, ⟨by omega, by omega, by omega, rfl, by decide⟩, A1, c1, hS⟩
end
end Go.Proofs.Ytebdkmfgfjanoaa
