/-
  match.pairs: the pairs i <= j of positions, by descending i.
-/
import Derived.Test.YtebdkmfgfjanoaaMF
namespace Go.Proofs.Ytebdkmfgfjanoaa
open Go.RowKit

/-- a pair of positions -/
abbrev PX (n : Nat) := { x : Nat × Nat // x.1 ≤ x.2 ∧ x.2 < n }
def prowAt (n i j : Nat) : List (PX n) := if h : i ≤ j ∧ j < n then [⟨(i, j), h⟩] else []
def prowTo (n i : Nat) : Nat → List (PX n)
  | 0 => []
  | k + 1 => prowTo n i k ++ prowAt n i (i + k)
def penTo (n : Nat) : Nat → List (PX n)
  | 0 => []
  | k + 1 => penTo n k ++ prowTo n (n - (k + 1)) (k + 1)
def pen (n : Nat) : List (PX n) := penTo n n
theorem prowAt_len (n i j : Nat) : (prowAt n i j).length ≤ 1 := by unfold prowAt; split <;> simp
theorem prowTo_len (n i : Nat) : ∀ k, (prowTo n i k).length ≤ k
  | 0 => Nat.le_refl _
  | k + 1 => by
    have := prowTo_len n i k
    have := prowAt_len n i (i + k)
    simp only [prowTo, List.length_append]
    omega
theorem penTo_len (n : Nat) : ∀ k, k ≤ n → (penTo n k).length ≤ k * n
  | 0, _ => Nat.zero_le _
  | k + 1, h => by
    have := penTo_len n k (by omega)
    have := prowTo_len n (n - (k + 1)) (k + 1)
    simp only [penTo, List.length_append, Nat.add_mul, Nat.one_mul]
    omega
def encP {n : Nat} (x : PX n) : Array Value := #[.int .i64 (x.1.1 : Nat), .int .i64 (x.1.2 : Nat)]
set_option maxHeartbeats 4000000 in
set_option maxRecDepth 100000 in
theorem pairs1_in (n lp box : Nat) (hn : n ≤ 4294967296) (J Jx : List (PX n) → World → Prop)
    (hY : ∀ pre (x : PX n) W, J pre W → pre.length < n * n → YieldAt Fence.wide 1 Try.prog lp (encP x) W fun e W' =>
      (e = .returned (.bool true) ∧ J (pre ++ [x]) W' ∧ W'.heap[box]? = W.heap[box]?) ∨ (e = .returned (.bool false) ∧ Jx (pre ++ [x]) W'))
    (W : World) (hb : W.heap[box]? = some (.cells #[.int .i64 n] 3 (0, 0))) (h0 : J [] W) :
    CallsR Try.prog 83 #[.func (.yield lp) #[] #[], .pointer (some ⟨box, 0, none⟩)] W fun _ W' =>
      (∃ ys, ys = pen n ∧ J ys W') ∨ (∃ pre, True ∧ Jx pre W') := by
  have hS := boxSt hb
  refine E_r (m := 20) ?_ Try.func83 rfl Try.ntmps83 rfl; refine C_ft ?_
  repeat (first | (refine S_w ?_; first | (refine S_y hS ?_) | ((first | refine M_bA hS ?_ | refine M_b1 hS ?_ | refine M_aA hS ?_ | refine M_a1 hS ?_ | refine M_sl hS ?_ | refine M_s1 hS ?_ | refine M_mm hS ?_); clear hS; intro b w hS) | ((first | refine M_st hS ?_ | refine M_sA hS ?_ | refine M_in hS ?_ | refine M_sR hS ?_); clear hS; intro w hS; (try simp only [List.set_cons_zero, List.set_cons_succ, Nat.zero_add] at hS)) | (refine M_ap hS ?_; clear hS; intro g cap w hS) | refine M_pn ?_) | refine X_k (by (try simp only [Fm.toList, List.set_cons_succ, List.set_cons_zero]); exact rfl) ?_ | refine S_u ?_ | refine S_v ?_ | refine C_sq ?_ | refine C_rg ?_ | refine L_nil ?_ | refine C_bk ?_ | refine C_ct ?_ | refine C_cf ?_ | refine C_sk ?_ | refine C_ex ?_ | refine C_rt ?_ | refine X_e ?_ | refine X_r ?_ | refine X_bh ?_ | refine X_be ?_ | refine X_br ?_ | refine X_bn ?_ | refine X_p ?_ | refine X_bp ?_)
  refine C_lp [3, 2, 2, 15] (fun s : Nat × Int => [(3, .int .i64 s.2)]) (fun s w' => s.2 = (n : Int) - 1 - s.1 ∧ s.1 ≤ n ∧ J (penTo n s.1) w' ∧ w'.heap[box]? = some (.cells #[.int .i64 n] 3 (0, 0))) (fun s => n - s.1) (0, (n : Int) - 1) ⟨by simp, Nat.zero_le _, h0, hb⟩ ?_
  clear hS hb h0
  rintro ⟨k, z⟩ y w ⟨hz, hk, hJ, hb⟩
  simp only at hz hk hJ
  have hS := boxSt hb
  refine C_fs ?_
  by_cases hlt : k < n
  · repeat (first | (refine S_w ?_; first | (refine S_y hS ?_) | ((first | refine M_bA hS ?_ | refine M_b1 hS ?_ | refine M_aA hS ?_ | refine M_a1 hS ?_ | refine M_sl hS ?_ | refine M_s1 hS ?_ | refine M_mm hS ?_); clear hS; intro b w hS) | ((first | refine M_st hS ?_ | refine M_sA hS ?_ | refine M_in hS ?_ | refine M_sR hS ?_); clear hS; intro w hS; (try simp only [List.set_cons_zero, List.set_cons_succ, Nat.zero_add] at hS)) | (refine M_ap hS ?_; clear hS; intro g cap w hS) | refine M_pn ?_) | refine X_k (by (try simp only [Fm.toList, List.set_cons_succ, List.set_cons_zero]); exact rfl) ?_ | refine S_u ?_ | refine S_v ?_ | refine C_sq ?_ | refine C_rg ?_ | refine L_nil ?_ | refine C_bk ?_ | refine C_ct ?_ | refine C_cf ?_ | refine C_sk ?_ | refine C_ex ?_ | refine C_rt ?_ | refine X_e ?_ | refine X_r ?_ | refine X_bh ?_ | refine X_be ?_ | refine X_br ?_ | refine X_bn ?_ | refine X_p ?_ | refine X_bp ?_)
    refine C_lp [4, 1, 7, 10] (fun s : Nat × Int => [(4, .int .i64 s.2)]) (fun s w' => s.2 = z + s.1 ∧ s.1 ≤ k + 1 ∧ J (penTo n k ++ prowTo n (n - (k + 1)) s.1) w' ∧ w'.heap[box]? = some (.cells #[.int .i64 n] 3 (0, 0))) (fun s => k + 1 - s.1) (0, z) ⟨by simp, Nat.zero_le _, by simpa [prowTo] using hJ, hb⟩ ?_
    clear hS hb hJ
    rintro ⟨m, z2⟩ y2 w ⟨hz2, hm, hJ, hb⟩
    simp only at hz2 hm hJ
    have hS := boxSt hb
    refine C_fs ?_
    by_cases hlt2 : m < k + 1
    · have hlen : (penTo n k ++ prowTo n (n - (k + 1)) m).length < n * n := by
        have h1 := penTo_len n k hk
        have h2 := prowTo_len n (n - (k + 1)) m
        have h3 : (k + 1) * n ≤ n * n := Nat.mul_le_mul_right n hlt
        rw [Nat.add_mul, Nat.one_mul] at h3
        rw [List.length_append]
        omega
      have hx : n - (k + 1) ≤ n - (k + 1) + m ∧ n - (k + 1) + m < n := by omega
      have hyd := hY _ ⟨(n - (k + 1), n - (k + 1) + m), hx⟩ w hJ hlen
      have e1 : (((n - (k + 1) : Nat)) : Int) = z := by omega
      have e2 : (((n - (k + 1) + m : Nat)) : Int) = z2 := by omega
      have hp : prowTo n (n - (k + 1)) (m + 1) = prowTo n (n - (k + 1)) m ++ [⟨(n - (k + 1), n - (k + 1) + m), hx⟩] := by
        show _ ++ prowAt n (n - (k + 1)) (n - (k + 1) + m) = _
        rw [prowAt, dif_pos hx]
      simp only [encP, e1, e2] at hyd
      repeat (first | (refine J_in (id := 6) ?_) | (refine S_w ?_; first | (refine S_y hS ?_) | ((first | refine M_bA hS ?_ | refine M_b1 hS ?_ | refine M_aA hS ?_ | refine M_a1 hS ?_ | refine M_sl hS ?_ | refine M_s1 hS ?_ | refine M_mm hS ?_); clear hS; intro b w hS) | ((first | refine M_st hS ?_ | refine M_sA hS ?_ | refine M_in hS ?_ | refine M_sR hS ?_); clear hS; intro w hS; (try simp only [List.set_cons_zero, List.set_cons_succ, Nat.zero_add] at hS)) | (refine M_ap hS ?_; clear hS; intro g cap w hS) | refine M_pn ?_) | refine X_k (by (try simp only [Fm.toList, List.set_cons_succ, List.set_cons_zero]); exact rfl) ?_ | refine S_u ?_ | refine S_v ?_ | refine C_sq ?_ | refine C_rg ?_ | refine L_nil ?_ | refine C_bk ?_ | refine C_ct ?_ | refine C_cf ?_ | refine C_sk ?_ | refine C_ex ?_ | refine C_rt ?_ | refine X_e ?_ | refine X_r ?_ | refine X_bh ?_ | refine X_be ?_ | refine X_br ?_ | refine X_bn ?_ | refine X_p ?_ | refine X_bp ?_)
      refine J_x (x_move rfl rfl) ?_
      refine J_x (x_move rfl rfl) ?_
      refine J_x (x_move rfl rfl) ?_
      refine J_y hyd (fun e w' h => h.elim (fun h => ⟨_, h.1⟩) fun h => ⟨_, h.1⟩) ?_
      rintro v w' (⟨hv, hJ', hb'⟩ | ⟨hv, hJ'⟩)
      · obtain rfl : v = .bool true := by injection hv
        refine J_x (x_not_t rfl rfl) ?_
        refine J_nil ?_
        have hb := hb'.trans hb
        have hS := boxSt hb
        repeat (first | (refine S_w ?_; first | (refine S_y hS ?_) | ((first | refine M_bA hS ?_ | refine M_b1 hS ?_ | refine M_aA hS ?_ | refine M_a1 hS ?_ | refine M_sl hS ?_ | refine M_s1 hS ?_ | refine M_mm hS ?_); clear hS; intro b w hS) | ((first | refine M_st hS ?_ | refine M_sA hS ?_ | refine M_in hS ?_ | refine M_sR hS ?_); clear hS; intro w hS; (try simp only [List.set_cons_zero, List.set_cons_succ, Nat.zero_add] at hS)) | (refine M_ap hS ?_; clear hS; intro g cap w hS) | refine M_pn ?_) | refine X_k (by (try simp only [Fm.toList, List.set_cons_succ, List.set_cons_zero]); exact rfl) ?_ | refine S_u ?_ | refine S_v ?_ | refine C_sq ?_ | refine C_rg ?_ | refine L_nil ?_ | refine C_bk ?_ | refine C_ct ?_ | refine C_cf ?_ | refine C_sk ?_ | refine C_ex ?_ | refine C_rt ?_ | refine X_e ?_ | refine X_r ?_ | refine X_bh ?_ | refine X_be ?_ | refine X_br ?_ | refine X_bn ?_ | refine X_p ?_ | refine X_bp ?_)
        refine R_e (m + 1, z2 + 1) ⟨by simp only; omega, by omega, by rw [hp, ← List.append_assoc]; exact hJ', hb⟩ (by simp only; omega)
      · obtain rfl : v = .bool false := by injection hv
        refine J_x (x_not_f rfl rfl) ?_
        refine J_nil ?_
        repeat (first | (refine S_w ?_; first | (refine S_y hS ?_) | ((first | refine M_bA hS ?_ | refine M_b1 hS ?_ | refine M_aA hS ?_ | refine M_a1 hS ?_ | refine M_sl hS ?_ | refine M_s1 hS ?_ | refine M_mm hS ?_); clear hS; intro b w hS) | ((first | refine M_st hS ?_ | refine M_sA hS ?_ | refine M_in hS ?_ | refine M_sR hS ?_); clear hS; intro w hS; (try simp only [List.set_cons_zero, List.set_cons_succ, Nat.zero_add] at hS)) | (refine M_ap hS ?_; clear hS; intro g cap w hS) | refine M_pn ?_) | refine X_k (by (try simp only [Fm.toList, List.set_cons_succ, List.set_cons_zero]); exact rfl) ?_ | refine S_u ?_ | refine S_v ?_ | refine C_sq ?_ | refine C_rg ?_ | refine L_nil ?_ | refine C_bk ?_ | refine C_ct ?_ | refine C_cf ?_ | refine C_sk ?_ | refine C_ex ?_ | refine C_rt ?_ | refine X_e ?_ | refine X_r ?_ | refine X_bh ?_ | refine X_be ?_ | refine X_br ?_ | refine X_bn ?_ | refine X_p ?_ | refine X_bp ?_)
        refine V_0 (.inr ⟨_, trivial, hJ'⟩)
    obtain rfl : m = k + 1 := by omega
    repeat (first | (refine S_w ?_; first | (refine S_y hS ?_) | ((first | refine M_bA hS ?_ | refine M_b1 hS ?_ | refine M_aA hS ?_ | refine M_a1 hS ?_ | refine M_sl hS ?_ | refine M_s1 hS ?_ | refine M_mm hS ?_); clear hS; intro b w hS) | ((first | refine M_st hS ?_ | refine M_sA hS ?_ | refine M_in hS ?_ | refine M_sR hS ?_); clear hS; intro w hS; (try simp only [List.set_cons_zero, List.set_cons_succ, Nat.zero_add] at hS)) | (refine M_ap hS ?_; clear hS; intro g cap w hS) | refine M_pn ?_) | refine X_k (by (try simp only [Fm.toList, List.set_cons_succ, List.set_cons_zero]); exact rfl) ?_ | refine S_u ?_ | refine S_v ?_ | refine C_sq ?_ | refine C_rg ?_ | refine L_nil ?_ | refine C_bk ?_ | refine C_ct ?_ | refine C_cf ?_ | refine C_sk ?_ | refine C_ex ?_ | refine C_rt ?_ | refine X_e ?_ | refine X_r ?_ | refine X_bh ?_ | refine X_be ?_ | refine X_br ?_ | refine X_bn ?_ | refine X_p ?_ | refine X_bp ?_)
    refine R_e (k + 1, z - 1) ⟨by simp only; omega, by omega, hJ, hb⟩ (by simp only; omega)
  obtain rfl : k = n := by omega
  repeat (first | (refine S_w ?_; first | (refine S_y hS ?_) | ((first | refine M_bA hS ?_ | refine M_b1 hS ?_ | refine M_aA hS ?_ | refine M_a1 hS ?_ | refine M_sl hS ?_ | refine M_s1 hS ?_ | refine M_mm hS ?_); clear hS; intro b w hS) | ((first | refine M_st hS ?_ | refine M_sA hS ?_ | refine M_in hS ?_ | refine M_sR hS ?_); clear hS; intro w hS; (try simp only [List.set_cons_zero, List.set_cons_succ, Nat.zero_add] at hS)) | (refine M_ap hS ?_; clear hS; intro g cap w hS) | refine M_pn ?_) | refine X_k (by (try simp only [Fm.toList, List.set_cons_succ, List.set_cons_zero]); exact rfl) ?_ | refine S_u ?_ | refine S_v ?_ | refine C_sq ?_ | refine C_rg ?_ | refine L_nil ?_ | refine C_bk ?_ | refine C_ct ?_ | refine C_cf ?_ | refine C_sk ?_ | refine C_ex ?_ | refine C_rt ?_ | refine X_e ?_ | refine X_r ?_ | refine X_bh ?_ | refine X_be ?_ | refine X_br ?_ | refine X_bn ?_ | refine X_p ?_ | refine X_bp ?_)
  refine V_e (.inl ⟨_, rfl, hJ⟩)
theorem pairs_stops (n box : Nat) (hn : n ≤ 4294967296) (w : World) (hb : w.heap[box]? = some (.cells #[.int .i64 n] 3 (0, 0))) :
    SeqStopsK Fence.wide 2 Try.prog 83 #[.pointer (some ⟨box, 0, none⟩)] (fun x : PX n => encP x) (fun W W' => W'.heap[box]? = W.heap[box]?) (fun ys => ys = pen n) (fun _ => True) (n * n) w :=
  fun l J Jx W hW _ _ hY h0 => callsIn_wide.2 (Calls.mono (pairs1_in n l box hn J Jx hY W ((hW.block box (Array.getElem?_eq_some_iff.1 hb).1).trans hb) h0) fun e w' ⟨v, hv, h⟩ => ⟨⟨v, hv⟩, h⟩)
end Go.Proofs.Ytebdkmfgfjanoaa
