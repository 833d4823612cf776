/-
  MatchLooks: look-arounds match exactly the empty factors from which, or to which, their child matches. No conditions.
-/
import Derived.Test.YtebdkmfgfjanoaaMtLaw1
import Derived.Test.YtebdkmfgfjanoaaRxKit
namespace Go.Proofs.Ytebdkmfgfjanoaa
open Go.RowKit

def anyT (f : Nat → Bool) (k : Nat) : Bool := (List.range k).any f
theorem anyT_succ (f : Nat → Bool) (k : Nat) : anyT f (k + 1) = (anyT f k || f k) := by simp [anyT, List.range_succ]
theorem anyT_iff {f : Nat → Bool} {k : Nat} : anyT f k = true ↔ ∃ x, x < k ∧ f x = true := by
  unfold anyT
  rw [List.any_eq_true]
  exact ⟨fun ⟨x, h1, h2⟩ => ⟨x, List.mem_range.1 h1, h2⟩, fun ⟨x, h1, h2⟩ => ⟨x, List.mem_range.2 h1, h2⟩⟩
theorem ahead_at {ws : List Nat} {m : Nat} (hm : ws.length = m) (t : T) {i : Nat} (hi : i ≤ m) : mt ws (.un 9 t) i i = anyT (fun k => mt ws t i k) (m + 1) := by
  show rel ws 9 0 0 (mt ws t) noT i i = _
  rw [rel_eq (Nat.le_refl _) (by omega)]
  show (i == i && someB i ws.length fun k => mt ws t i k) = _
  rw [beq_self_eq_true, Bool.true_and, Bool.eq_iff_iff, someB_iff, anyT_iff]
  constructor
  · rintro ⟨k, h1, h2, h3⟩
    exact ⟨k, by omega, h3⟩
  · rintro ⟨k, h1, h2⟩
    have := mt_in h2
    exact ⟨k, this.1, by omega, h2⟩
theorem behind_at {ws : List Nat} {m : Nat} (hm : ws.length = m) (t : T) {i : Nat} (hi : i ≤ m) : mt ws (.un 10 t) i i = anyT (fun k => mt ws t k i) (m + 1) := by
  show rel ws 10 0 0 (mt ws t) noT i i = _
  rw [rel_eq (Nat.le_refl _) (by omega)]
  show (i == i && someB 0 i fun k => mt ws t k i) = _
  rw [beq_self_eq_true, Bool.true_and, Bool.eq_iff_iff, someB_iff, anyT_iff]
  constructor
  · rintro ⟨k, h1, h2, h3⟩
    exact ⟨k, by omega, h3⟩
  · rintro ⟨k, h1, h2⟩
    have := mt_in h2
    exact ⟨k, Nat.zero_le _, this.1, h2⟩
theorem look_off {ws : List Nat} (op : Nat) (ho : op = 9 ∨ op = 10) (t : T) {i k : Nat} (h : i ≠ k) : mt ws (.un op t) i k = false := by
  by_cases hr : i ≤ k ∧ k ≤ ws.length
  · show rel ws op 0 0 (mt ws t) noT i k = _
    rw [rel_eq hr.1 hr.2]
    rcases ho with rfl | rfl
    · show (i == k && _) = false
      rw [beq_eq_false_iff_ne.2 h, Bool.false_and]
    · show (i == k && _) = false
      rw [beq_eq_false_iff_ne.2 h, Bool.false_and]
  · exact mt_out hr
set_option maxHeartbeats 16000000 in
set_option maxRecDepth 100000 in
theorem matchLooks_walk (A : Option Addr) (n c : Nat) (L : List Pc) (v : Int) (Aw : Option Addr) (m cw : Nat) (ws : List Nat) (W : World) (hA : Rd W 5 A n (rxCells L)) (hL : ∀ p ∈ L, p.ok) (hn : n ≤ 9223372036854775807) (hc : n ≤ c) (_hlo : -9223372036854775808 ≤ v) (_hhi : v ≤ 9223372036854775807) (hW : Rd W 1 Aw m (ws.map vb)) (hws : ∀ x ∈ ws, x < 256) (hm : m ≤ 9223372036854775807) (hcw : m ≤ cw) :
    Calls Try.prog 8 #[.slice A n c, .int .i64 v, .slice Aw m cw] W fun e w' => e = .returned (.bool true) ∧ Below W.heap.size W w' := by
  refine law_go ?_
  have hl : L.length = n := by have := hA.1; rw [rxCells_len] at this; omega
  have hwl : ws.length = m := by have := hW.1; simpa using this
  have hS := addRo2 hA hW
  refine E_r (m := 221) ?_ Try.func8 rfl Try.ntmps8 rfl; refine C_ft ?_
  repeat (first | (refine S_w ?_; first | (refine M_c (longR A Aw n c m cw _ hn hm) ?_) | (refine S_y hS ?_) | ((first | refine M_bA hS ?_ | refine M_b1 hS ?_ | refine M_aA hS ?_ | refine M_a1 hS ?_ | refine M_sl hS ?_ | refine M_s1 hS ?_ | refine M_mm hS ?_); clear hS; intro b w hS) | ((first | refine M_st hS ?_ | refine M_sA hS ?_ | refine M_in hS ?_ | refine M_sR hS ?_); clear hS; intro w hS; (try simp only [List.set_cons_zero, List.set_cons_succ, Nat.zero_add] at hS)) | (refine M_ap hS ?_; clear hS; intro g cap w hS) | refine M_pn ?_) | refine X_k (by (try simp only [Fm.toList, List.set_cons_succ, List.set_cons_zero]); exact rfl) ?_ | refine S_u ?_ | refine S_v ?_ | refine C_sq ?_ | refine C_rg ?_ | refine L_nil ?_ | refine C_bk ?_ | refine C_ct ?_ | refine C_cf ?_ | refine C_sk ?_ | refine C_ex ?_ | refine C_rt ?_ | refine X_e ?_ | refine X_r ?_ | refine X_bh ?_ | refine X_be ?_ | refine X_br ?_ | refine X_bn ?_ | refine X_p ?_ | refine X_bp ?_)
  rintro _ w0 ⟨rfl, hb0⟩
  have hS := hS.call hb0
  cases hlg : lngB n m with
  | true =>
    repeat (first | (refine S_w ?_; first | (refine M_c (awakeR _) ?_) | (refine S_y hS ?_) | ((first | refine M_bA hS ?_ | refine M_b1 hS ?_ | refine M_aA hS ?_ | refine M_a1 hS ?_ | refine M_sl hS ?_ | refine M_s1 hS ?_ | refine M_mm hS ?_); clear hS; intro b w hS) | ((first | refine M_st hS ?_ | refine M_sA hS ?_ | refine M_in hS ?_ | refine M_sR hS ?_); clear hS; intro w hS; (try simp only [List.set_cons_zero, List.set_cons_succ, Nat.zero_add] at hS)) | (refine M_ap hS ?_; clear hS; intro g cap w hS) | refine M_pn ?_) | refine X_k (by (try simp only [Fm.toList, List.set_cons_succ, List.set_cons_zero]); exact rfl) ?_ | refine S_u ?_ | refine S_v ?_ | refine C_sq ?_ | refine C_rg ?_ | refine L_nil ?_ | refine C_bk ?_ | refine C_ct ?_ | refine C_cf ?_ | refine C_sk ?_ | refine C_ex ?_ | refine C_rt ?_ | refine X_e ?_ | refine X_r ?_ | refine X_bh ?_ | refine X_be ?_ | refine X_br ?_ | refine X_bn ?_ | refine X_p ?_ | refine X_bp ?_)
    rintro _ w1 ⟨rfl, hb1⟩
    have hS := hS.call hb1
    repeat (first | (refine S_w ?_; first | (refine S_y hS ?_) | ((first | refine M_bA hS ?_ | refine M_b1 hS ?_ | refine M_aA hS ?_ | refine M_a1 hS ?_ | refine M_sl hS ?_ | refine M_s1 hS ?_ | refine M_mm hS ?_); clear hS; intro b w hS) | ((first | refine M_st hS ?_ | refine M_sA hS ?_ | refine M_in hS ?_ | refine M_sR hS ?_); clear hS; intro w hS; (try simp only [List.set_cons_zero, List.set_cons_succ, Nat.zero_add] at hS)) | (refine M_ap hS ?_; clear hS; intro g cap w hS) | refine M_pn ?_) | refine X_k (by (try simp only [Fm.toList, List.set_cons_succ, List.set_cons_zero]); exact rfl) ?_ | refine S_u ?_ | refine S_v ?_ | refine C_sq ?_ | refine C_rg ?_ | refine L_nil ?_ | refine C_bk ?_ | refine C_ct ?_ | refine C_cf ?_ | refine C_sk ?_ | refine C_ex ?_ | refine C_rt ?_ | refine X_e ?_ | refine X_r ?_ | refine X_bh ?_ | refine X_be ?_ | refine X_br ?_ | refine X_bn ?_ | refine X_p ?_ | refine X_bp ?_)
    refine V_1 ⟨rfl, hS.fr⟩
  | false =>
    obtain ⟨hn40, hm16⟩ := lng_false hlg
    by_cases h30 : 30 < n
    · repeat (first | (refine S_w ?_; first | (refine M_c (awakeR _) ?_) | (refine S_y hS ?_) | ((first | refine M_bA hS ?_ | refine M_b1 hS ?_ | refine M_aA hS ?_ | refine M_a1 hS ?_ | refine M_sl hS ?_ | refine M_s1 hS ?_ | refine M_mm hS ?_); clear hS; intro b w hS) | ((first | refine M_st hS ?_ | refine M_sA hS ?_ | refine M_in hS ?_ | refine M_sR hS ?_); clear hS; intro w hS; (try simp only [List.set_cons_zero, List.set_cons_succ, Nat.zero_add] at hS)) | (refine M_ap hS ?_; clear hS; intro g cap w hS) | refine M_pn ?_) | refine X_k (by (try simp only [Fm.toList, List.set_cons_succ, List.set_cons_zero]); exact rfl) ?_ | refine S_u ?_ | refine S_v ?_ | refine C_sq ?_ | refine C_rg ?_ | refine L_nil ?_ | refine C_bk ?_ | refine C_ct ?_ | refine C_cf ?_ | refine C_sk ?_ | refine C_ex ?_ | refine C_rt ?_ | refine X_e ?_ | refine X_r ?_ | refine X_bh ?_ | refine X_be ?_ | refine X_br ?_ | refine X_bn ?_ | refine X_p ?_ | refine X_bp ?_)
      rintro _ w1 ⟨rfl, hb1⟩
      have hS := hS.call hb1
      repeat (first | (refine S_w ?_; first | (refine S_y hS ?_) | ((first | refine M_bA hS ?_ | refine M_b1 hS ?_ | refine M_aA hS ?_ | refine M_a1 hS ?_ | refine M_sl hS ?_ | refine M_s1 hS ?_ | refine M_mm hS ?_); clear hS; intro b w hS) | ((first | refine M_st hS ?_ | refine M_sA hS ?_ | refine M_in hS ?_ | refine M_sR hS ?_); clear hS; intro w hS; (try simp only [List.set_cons_zero, List.set_cons_succ, Nat.zero_add] at hS)) | (refine M_ap hS ?_; clear hS; intro g cap w hS) | refine M_pn ?_) | refine X_k (by (try simp only [Fm.toList, List.set_cons_succ, List.set_cons_zero]); exact rfl) ?_ | refine S_u ?_ | refine S_v ?_ | refine C_sq ?_ | refine C_rg ?_ | refine L_nil ?_ | refine C_bk ?_ | refine C_ct ?_ | refine C_cf ?_ | refine C_sk ?_ | refine C_ex ?_ | refine C_rt ?_ | refine X_e ?_ | refine X_r ?_ | refine X_bh ?_ | refine X_be ?_ | refine X_br ?_ | refine X_bn ?_ | refine X_p ?_ | refine X_bp ?_)
      refine V_1 ⟨rfl, hS.fr⟩
    repeat (first | (refine S_w ?_; first | (refine M_c (awakeR _) ?_) | (refine S_y hS ?_) | ((first | refine M_bA hS ?_ | refine M_b1 hS ?_ | refine M_aA hS ?_ | refine M_a1 hS ?_ | refine M_sl hS ?_ | refine M_s1 hS ?_ | refine M_mm hS ?_); clear hS; intro b w hS) | ((first | refine M_st hS ?_ | refine M_sA hS ?_ | refine M_in hS ?_ | refine M_sR hS ?_); clear hS; intro w hS; (try simp only [List.set_cons_zero, List.set_cons_succ, Nat.zero_add] at hS)) | (refine M_ap hS ?_; clear hS; intro g cap w hS) | refine M_pn ?_) | refine X_k (by (try simp only [Fm.toList, List.set_cons_succ, List.set_cons_zero]); exact rfl) ?_ | refine S_u ?_ | refine S_v ?_ | refine C_sq ?_ | refine C_rg ?_ | refine L_nil ?_ | refine C_bk ?_ | refine C_ct ?_ | refine C_cf ?_ | refine C_sk ?_ | refine C_ex ?_ | refine C_rt ?_ | refine X_e ?_ | refine X_r ?_ | refine X_bh ?_ | refine X_be ?_ | refine X_br ?_ | refine X_bn ?_ | refine X_p ?_ | refine X_bp ?_)
    rintro _ w1 ⟨rfl, hb1⟩
    have hS := hS.call hb1
    repeat (first | (refine S_w ?_; first | (refine M_c (plainR A n c L v _ hS.rdAtM hL (by omega)) ?_) | (refine S_y hS ?_) | ((first | refine M_bA hS ?_ | refine M_b1 hS ?_ | refine M_aA hS ?_ | refine M_a1 hS ?_ | refine M_sl hS ?_ | refine M_s1 hS ?_ | refine M_mm hS ?_); clear hS; intro b w hS) | ((first | refine M_st hS ?_ | refine M_sA hS ?_ | refine M_in hS ?_ | refine M_sR hS ?_); clear hS; intro w hS; (try simp only [List.set_cons_zero, List.set_cons_succ, Nat.zero_add] at hS)) | (refine M_ap hS ?_; clear hS; intro g cap w hS) | refine M_pn ?_) | refine X_k (by (try simp only [Fm.toList, List.set_cons_succ, List.set_cons_zero]); exact rfl) ?_ | refine S_u ?_ | refine S_v ?_ | refine C_sq ?_ | refine C_rg ?_ | refine L_nil ?_ | refine C_bk ?_ | refine C_ct ?_ | refine C_cf ?_ | refine C_sk ?_ | refine C_ex ?_ | refine C_rt ?_ | refine X_e ?_ | refine X_r ?_ | refine X_bh ?_ | refine X_be ?_ | refine X_br ?_ | refine X_bn ?_ | refine X_p ?_ | refine X_bp ?_)
    rintro _ w2 ⟨rfl, hb2⟩
    have hS := hS.call hb2
    by_cases he : chkR L v = 0
    · obtain ⟨t, hst, h1, h2, h3, rfl, hv⟩ := chk_tree he
      have hsz : t.size = n := by rw [← hl, T.flat_len]
      have hsp := T.size_pos t
      have hpl : plnR (t.flat 0) v = t.plain := by rw [plnR, if_pos he, plnB_flat]
      rw [he, hpl]
      cases hp : t.plain with
      | false =>
        repeat (first | (refine S_w ?_; first | (refine S_y hS ?_) | ((first | refine M_bA hS ?_ | refine M_b1 hS ?_ | refine M_aA hS ?_ | refine M_a1 hS ?_ | refine M_sl hS ?_ | refine M_s1 hS ?_ | refine M_mm hS ?_); clear hS; intro b w hS) | ((first | refine M_st hS ?_ | refine M_sA hS ?_ | refine M_in hS ?_ | refine M_sR hS ?_); clear hS; intro w hS; (try simp only [List.set_cons_zero, List.set_cons_succ, Nat.zero_add] at hS)) | (refine M_ap hS ?_; clear hS; intro g cap w hS) | refine M_pn ?_) | refine X_k (by (try simp only [Fm.toList, List.set_cons_succ, List.set_cons_zero]); exact rfl) ?_ | refine S_u ?_ | refine S_v ?_ | refine C_sq ?_ | refine C_rg ?_ | refine L_nil ?_ | refine C_bk ?_ | refine C_ct ?_ | refine C_cf ?_ | refine C_sk ?_ | refine C_ex ?_ | refine C_rt ?_ | refine X_e ?_ | refine X_r ?_ | refine X_bh ?_ | refine X_be ?_ | refine X_br ?_ | refine X_bn ?_ | refine X_p ?_ | refine X_bp ?_)
        refine V_1 ⟨rfl, hS.fr⟩
      | true =>
        repeat (first | (refine S_w ?_; first | (refine M_c (copyRxR A n c (t.flat 0) _ hS.sl (by omega)) ?_) | (refine S_y hS ?_) | ((first | refine M_bA hS ?_ | refine M_b1 hS ?_ | refine M_aA hS ?_ | refine M_a1 hS ?_ | refine M_sl hS ?_ | refine M_s1 hS ?_ | refine M_mm hS ?_); clear hS; intro b w hS) | ((first | refine M_st hS ?_ | refine M_sA hS ?_ | refine M_in hS ?_ | refine M_sR hS ?_); clear hS; intro w hS; (try simp only [List.set_cons_zero, List.set_cons_succ, Nat.zero_add] at hS)) | (refine M_ap hS ?_; clear hS; intro g cap w hS) | refine M_pn ?_) | refine X_k (by (try simp only [Fm.toList, List.set_cons_succ, List.set_cons_zero]); exact rfl) ?_ | refine S_u ?_ | refine S_v ?_ | refine C_sq ?_ | refine C_rg ?_ | refine L_nil ?_ | refine C_bk ?_ | refine C_ct ?_ | refine C_cf ?_ | refine C_sk ?_ | refine C_ex ?_ | refine C_rt ?_ | refine X_e ?_ | refine X_r ?_ | refine X_bh ?_ | refine X_be ?_ | refine X_br ?_ | refine X_bn ?_ | refine X_p ?_ | refine X_bp ?_)
        rintro _ w3 ⟨A3, c3, rfl, hown3, hb3⟩
        have hS := hS.freshRow hb3.below hown3
        have hcs9 : rxCells (t.flat 0) ++ ((#[Value.int .u8 0, .int .u8 0, .int .u8 0, .int .i64 0, .int .i64 0].toList.set 0 (.int .u8 9)).set 3 (.int .i64 ((n : Int) - 1))) = rxCells ((T.un 9 t).flat 0) := by
          show rxCells (t.flat 0) ++ [vb 9, vb 0, vb 0, .int .i64 ((n : Int) - 1), .int .i64 0] = rxCells (t.flat 0 ++ [T.root 0 (.un 9 t)])
          rw [rxCells_append]
          simp [rxCells, pcV, T.root, hsz]
        have hcs10 : rxCells (t.flat 0) ++ ((#[Value.int .u8 0, .int .u8 0, .int .u8 0, .int .i64 0, .int .i64 0].toList.set 0 (.int .u8 10)).set 3 (.int .i64 ((n : Int) - 1))) = rxCells ((T.un 10 t).flat 0) := by
          show rxCells (t.flat 0) ++ [vb 10, vb 0, vb 0, .int .i64 ((n : Int) - 1), .int .i64 0] = rxCells (t.flat 0 ++ [T.root 0 (.un 10 t)])
          rw [rxCells_append]
          simp [rxCells, pcV, T.root, hsz]
        have hwf9 : (T.un 9 t).wf v := ⟨rfl, h1⟩
        have hwf10 : (T.un 10 t).wf v := ⟨rfl, h1⟩
        have hfr : ∀ op, (T.un op t).free true = true := fun op => by
          show ((true || _) && t.free false) = true
          rw [plain_free t false hp]; rfl
        have hs9 : ∀ op, (T.un op t).size = n + 1 := fun op => by show t.size + 1 = _; rw [hsz]
        have hch : ∀ op, kids op = 1 → chkR ((T.un op t).flat 0) v = 0 := fun op hk => chkR_zero.2 ⟨hv, T.un op t, ⟨hk, h1⟩, hfr op, by rw [hs9]; omega, rfl⟩
        repeat (first | (refine S_w ?_; first | (refine M_c (copyRxR A n c (t.flat 0) _ hS.sl (by omega)) ?_) | (refine S_y hS ?_) | ((first | refine M_bA hS ?_ | refine M_b1 hS ?_ | refine M_aA hS ?_ | refine M_a1 hS ?_ | refine M_sl hS ?_ | refine M_s1 hS ?_ | refine M_mm hS ?_); clear hS; intro b w hS) | ((first | refine M_st hS ?_ | refine M_sA hS ?_ | refine M_in hS ?_ | refine M_sR hS ?_); clear hS; intro w hS; (try simp only [List.set_cons_zero, List.set_cons_succ, Nat.zero_add] at hS)) | (refine M_ap hS ?_; clear hS; intro g cap w hS) | refine M_pn ?_) | refine X_k (by (try simp only [Fm.toList, List.set_cons_succ, List.set_cons_zero]); exact rfl) ?_ | refine S_u ?_ | refine S_v ?_ | refine C_sq ?_ | refine C_rg ?_ | refine L_nil ?_ | refine C_bk ?_ | refine C_ct ?_ | refine C_cf ?_ | refine C_sk ?_ | refine C_ex ?_ | refine C_rt ?_ | refine X_e ?_ | refine X_r ?_ | refine X_bh ?_ | refine X_be ?_ | refine X_br ?_ | refine X_bn ?_ | refine X_p ?_ | refine X_bp ?_)
        obtain ⟨gA, rfl⟩ : ∃ y, y = g := ⟨_, rfl⟩
        obtain ⟨cA, rfl⟩ : ∃ y, y = cap := ⟨_, rfl⟩
        rintro _ w4 ⟨A4, c4, rfl, hown4, hb4⟩
        have hS := hS.freshRow hb4.below hown4
        have hTE : ∀ op, kids op = 1 → tabE ((T.un op t).flat 0) v ws = tabE (t.flat 0) v ws := fun op hk => by rw [tabE, tabE, he, hch op hk]
        by_cases hE : tabE (t.flat 0) v ws = 0
        · have hany : ws.any (geB (two v.toNat)) = false ∧ m ≤ 64 := by
            rw [tabE, if_neg (by simpa using he)] at hE
            split at hE
            · cases hE
            · split at hE
              · cases hE
              · rename_i h6 h7
                exact ⟨by simpa using h7, by omega⟩
          repeat (first | (refine S_w ?_; first | (refine M_c (tableT t v ws A Aw n c m cw _ hS.sl hS.sl hv h1 h2 h3 hany.2 (any_ok hany.1)) ?_) | (refine S_y hS ?_) | ((first | refine M_bA hS ?_ | refine M_b1 hS ?_ | refine M_aA hS ?_ | refine M_a1 hS ?_ | refine M_sl hS ?_ | refine M_s1 hS ?_ | refine M_mm hS ?_); clear hS; intro b w hS) | ((first | refine M_st hS ?_ | refine M_sA hS ?_ | refine M_in hS ?_ | refine M_sR hS ?_); clear hS; intro w hS; (try simp only [List.set_cons_zero, List.set_cons_succ, Nat.zero_add] at hS)) | (refine M_ap hS ?_; clear hS; intro g cap w hS) | refine M_pn ?_) | refine X_k (by (try simp only [Fm.toList, List.set_cons_succ, List.set_cons_zero]); exact rfl) ?_ | refine S_u ?_ | refine S_v ?_ | refine C_sq ?_ | refine C_rg ?_ | refine L_nil ?_ | refine C_bk ?_ | refine C_ct ?_ | refine C_cf ?_ | refine C_sk ?_ | refine C_ex ?_ | refine C_rt ?_ | refine X_e ?_ | refine X_r ?_ | refine X_bh ?_ | refine X_be ?_ | refine X_br ?_ | refine X_bn ?_ | refine X_p ?_ | refine X_bp ?_)
          obtain ⟨gB, rfl⟩ : ∃ y, y = g := ⟨_, rfl⟩
          obtain ⟨cB, rfl⟩ : ∃ y, y = cap := ⟨_, rfl⟩
          rintro _ w5 ⟨b1, bs1, rfl, hbs1, hE1⟩
          have hS := hS.join hE1 tabR_own
          rw [hcs9, hcs10] at hS
          have hS : St Nof W (tabR (m + 1) (mt ws t) b1 bs1 ++ [Res.row 55 5 (.slice (some ⟨gB, 0, none⟩) (n + 1) cB) (n + 1) (rxCells ((T.un 10 t).flat 0)), Res.row 55 5 (.slice (some ⟨gA, 0, none⟩) (n + 1) cA) (n + 1) (rxCells ((T.un 9 t).flat 0)), Res.rd 5 A n (rxCells (t.flat 0)), Res.rd 1 Aw m (ws.map vb)]) w5 := hS.sub (List.Sublist.append_left (by repeat (first | exact List.Sublist.slnil | exact List.Sublist.refl _ | refine List.Sublist.cons_cons _ ?_ | refine List.Sublist.cons _ ?_)) _)
          repeat (first | (refine S_w ?_; first | (refine M_c (tableT (.un 9 t) v ws (some ⟨gA, 0, none⟩) Aw (n + 1) cA m cw _ hS.sl hS.sl hv hwf9 (hfr 9) (by rw [hs9]; omega) hany.2 (any_ok hany.1)) ?_) | (refine S_y hS ?_) | ((first | refine M_bA hS ?_ | refine M_b1 hS ?_ | refine M_aA hS ?_ | refine M_a1 hS ?_ | refine M_sl hS ?_ | refine M_s1 hS ?_ | refine M_mm hS ?_); clear hS; intro b w hS) | ((first | refine M_st hS ?_ | refine M_sA hS ?_ | refine M_in hS ?_ | refine M_sR hS ?_); clear hS; intro w hS; (try simp only [List.set_cons_zero, List.set_cons_succ, Nat.zero_add] at hS)) | (refine M_ap hS ?_; clear hS; intro g cap w hS) | refine M_pn ?_) | refine X_k (by (try simp only [Fm.toList, List.set_cons_succ, List.set_cons_zero]); exact rfl) ?_ | refine S_u ?_ | refine S_v ?_ | refine C_sq ?_ | refine C_rg ?_ | refine L_nil ?_ | refine C_bk ?_ | refine C_ct ?_ | refine C_cf ?_ | refine C_sk ?_ | refine C_ex ?_ | refine C_rt ?_ | refine X_e ?_ | refine X_r ?_ | refine X_bh ?_ | refine X_be ?_ | refine X_br ?_ | refine X_bn ?_ | refine X_p ?_ | refine X_bp ?_)
          rintro _ w6 ⟨b2, bs2, rfl, hbs2, hE2⟩
          have hS := hS.join hE2 tabR_own
          repeat (first | (refine S_w ?_; first | (refine M_c (tableT (.un 10 t) v ws (some ⟨gB, 0, none⟩) Aw (n + 1) cB m cw _ hS.sl hS.sl hv hwf10 (hfr 10) (by rw [hs9]; omega) hany.2 (any_ok hany.1)) ?_) | (refine S_y hS ?_) | ((first | refine M_bA hS ?_ | refine M_b1 hS ?_ | refine M_aA hS ?_ | refine M_a1 hS ?_ | refine M_sl hS ?_ | refine M_s1 hS ?_ | refine M_mm hS ?_); clear hS; intro b w hS) | ((first | refine M_st hS ?_ | refine M_sA hS ?_ | refine M_in hS ?_ | refine M_sR hS ?_); clear hS; intro w hS; (try simp only [List.set_cons_zero, List.set_cons_succ, Nat.zero_add] at hS)) | (refine M_ap hS ?_; clear hS; intro g cap w hS) | refine M_pn ?_) | refine X_k (by (try simp only [Fm.toList, List.set_cons_succ, List.set_cons_zero]); exact rfl) ?_ | refine S_u ?_ | refine S_v ?_ | refine C_sq ?_ | refine C_rg ?_ | refine L_nil ?_ | refine C_bk ?_ | refine C_ct ?_ | refine C_cf ?_ | refine C_sk ?_ | refine C_ex ?_ | refine C_rt ?_ | refine X_e ?_ | refine X_r ?_ | refine X_bh ?_ | refine X_be ?_ | refine X_br ?_ | refine X_bn ?_ | refine X_p ?_ | refine X_bp ?_)
          rintro _ w7 ⟨b3, bs3, rfl, hbs3, hE3⟩
          have hS := hS.join hE3 tabR_own
          clear hE1 hE2 hE3
          repeat (first | (refine S_w ?_; first | (refine S_y hS ?_) | ((first | refine M_bA hS ?_ | refine M_b1 hS ?_ | refine M_aA hS ?_ | refine M_a1 hS ?_ | refine M_sl hS ?_ | refine M_s1 hS ?_ | refine M_mm hS ?_); clear hS; intro b w hS) | ((first | refine M_st hS ?_ | refine M_sA hS ?_ | refine M_in hS ?_ | refine M_sR hS ?_); clear hS; intro w hS; (try simp only [List.set_cons_zero, List.set_cons_succ, Nat.zero_add] at hS)) | (refine M_ap hS ?_; clear hS; intro g cap w hS) | refine M_pn ?_) | refine X_k (by (try simp only [Fm.toList, List.set_cons_succ, List.set_cons_zero]); exact rfl) ?_ | refine S_u ?_ | refine S_v ?_ | refine C_sq ?_ | refine C_rg ?_ | refine L_nil ?_ | refine C_bk ?_ | refine C_ct ?_ | refine C_cf ?_ | refine C_sk ?_ | refine C_ex ?_ | refine C_rt ?_ | refine X_e ?_ | refine X_r ?_ | refine X_bh ?_ | refine X_be ?_ | refine X_br ?_ | refine X_bn ?_ | refine X_p ?_ | refine X_bp ?_)
          refine C_lp [6, 1, 10, 4, 100, 103] (fun i : Nat => [(17, .int .i64 (i : Nat))]) (fun i w' => i ≤ m + 1 ∧ St Nof W (tabR (m + 1) (mt ws (.un 10 t)) b3 bs3 ++ (tabR (m + 1) (mt ws (.un 9 t)) b2 bs2 ++ (tabR (m + 1) (mt ws t) b1 bs1 ++ [Res.row 55 5 (.slice (some ⟨gB, 0, none⟩) (n + 1) cB) (n + 1) (rxCells ((T.un 10 t).flat 0)), Res.row 55 5 (.slice (some ⟨gA, 0, none⟩) (n + 1) cA) (n + 1) (rxCells ((T.un 9 t).flat 0)), Res.rd 5 A n (rxCells (t.flat 0)), Res.rd 1 Aw m (ws.map vb)]))) w') (fun i => m + 1 - i) 0 ⟨Nat.zero_le _, hS⟩ ?_
          clear hS
          rintro i y w ⟨hi, hS⟩
          refine C_fs ?_
          by_cases hlt : i < m + 1
          · have ha := ahead_at hwl t (i := i) (by omega)
            have hb := behind_at hwl t (i := i) (by omega)
            obtain ⟨s1, hs1⟩ : ∃ y, bs1[i]? = some y := ⟨bs1[i]'(by omega), List.getElem?_eq_getElem _⟩
            have rs1 : ∀ rs, HasSl (tabR (m + 1) (mt ws t) b1 bs1 ++ rs) (some ⟨s1, 0, none⟩) (m + 1) 1 (rowC (m + 1) (mt ws t) i) := fun rs => tabRow hs1
            have es1 : (bs1.map (rowV (m + 1)))[i]? = some (.slice (some ⟨s1, 0, none⟩) (m + 1) (m + 1)) := by rw [List.getElem?_map, hs1]; rfl
            obtain ⟨t1, ht1⟩ : ∃ y, bs2[i]? = some y := ⟨bs2[i]'(by omega), List.getElem?_eq_getElem _⟩
            have rt1 : ∀ rs, HasSl (tabR (m + 1) (mt ws (.un 9 t)) b2 bs2 ++ rs) (some ⟨t1, 0, none⟩) (m + 1) 1 (rowC (m + 1) (mt ws (.un 9 t)) i) := fun rs => tabRow ht1
            have et1 : (bs2.map (rowV (m + 1)))[i]? = some (.slice (some ⟨t1, 0, none⟩) (m + 1) (m + 1)) := by rw [List.getElem?_map, ht1]; rfl
            obtain ⟨u1, hu1⟩ : ∃ y, bs3[i]? = some y := ⟨bs3[i]'(by omega), List.getElem?_eq_getElem _⟩
            have ru1 : ∀ rs, HasSl (tabR (m + 1) (mt ws (.un 10 t)) b3 bs3 ++ rs) (some ⟨u1, 0, none⟩) (m + 1) 1 (rowC (m + 1) (mt ws (.un 10 t)) i) := fun rs => tabRow hu1
            have eu1 : (bs3.map (rowV (m + 1)))[i]? = some (.slice (some ⟨u1, 0, none⟩) (m + 1) (m + 1)) := by rw [List.getElem?_map, hu1]; rfl
            repeat (first | (refine S_w ?_; first | (refine S_y hS ?_) | ((first | refine M_bA hS ?_ | refine M_b1 hS ?_ | refine M_aA hS ?_ | refine M_a1 hS ?_ | refine M_sl hS ?_ | refine M_s1 hS ?_ | refine M_mm hS ?_); clear hS; intro b w hS) | ((first | refine M_st hS ?_ | refine M_sA hS ?_ | refine M_in hS ?_ | refine M_sR hS ?_); clear hS; intro w hS; (try simp only [List.set_cons_zero, List.set_cons_succ, Nat.zero_add] at hS)) | (refine M_ap hS ?_; clear hS; intro g cap w hS) | refine M_pn ?_) | refine X_k (by (try simp only [Fm.toList, List.set_cons_succ, List.set_cons_zero]); exact rfl) ?_ | refine S_u ?_ | refine S_v ?_ | refine C_sq ?_ | refine C_rg ?_ | refine L_nil ?_ | refine C_bk ?_ | refine C_ct ?_ | refine C_cf ?_ | refine C_sk ?_ | refine C_ex ?_ | refine C_rt ?_ | refine X_e ?_ | refine X_r ?_ | refine X_bh ?_ | refine X_be ?_ | refine X_br ?_ | refine X_bn ?_ | refine X_p ?_ | refine X_bp ?_)
            refine C_lp [6, 1, 11, 3, 106, 77, 20] (fun s : Nat × Bool × Bool => [(18, .bool s.2.1), (19, .bool s.2.2), (20, .int .i64 (s.1 : Nat))]) (fun s w' => s.1 ≤ m + 1 ∧ s.2.1 = anyT (fun k => mt ws t i k) s.1 ∧ s.2.2 = anyT (fun k => mt ws t k i) s.1 ∧ St Nof W (tabR (m + 1) (mt ws (.un 10 t)) b3 bs3 ++ (tabR (m + 1) (mt ws (.un 9 t)) b2 bs2 ++ (tabR (m + 1) (mt ws t) b1 bs1 ++ [Res.row 55 5 (.slice (some ⟨gB, 0, none⟩) (n + 1) cB) (n + 1) (rxCells ((T.un 10 t).flat 0)), Res.row 55 5 (.slice (some ⟨gA, 0, none⟩) (n + 1) cA) (n + 1) (rxCells ((T.un 9 t).flat 0)), Res.rd 5 A n (rxCells (t.flat 0)), Res.rd 1 Aw m (ws.map vb)]))) w') (fun s => m + 1 - s.1) (0, false, false) ⟨Nat.zero_le _, rfl, rfl, hS⟩ ?_
            clear hS
            rintro ⟨k, af, be⟩ y2 w ⟨hk, haf, hbe, hS⟩
            simp only at hk haf hbe hS
            refine C_fs ?_
            by_cases hlt2 : k < m + 1
            · have e1 : (rowC (m + 1) (mt ws t) i)[k]? = some (.bool (mt ws t i k)) := rowC_at (by omega)
              obtain ⟨s2, hs2⟩ : ∃ y, bs1[k]? = some y := ⟨bs1[k]'(by omega), List.getElem?_eq_getElem _⟩
              have rs2 : ∀ rs, HasSl (tabR (m + 1) (mt ws t) b1 bs1 ++ rs) (some ⟨s2, 0, none⟩) (m + 1) 1 (rowC (m + 1) (mt ws t) k) := fun rs => tabRow hs2
              have es2 : (bs1.map (rowV (m + 1)))[k]? = some (.slice (some ⟨s2, 0, none⟩) (m + 1) (m + 1)) := by rw [List.getElem?_map, hs2]; rfl
              obtain ⟨t2, ht2⟩ : ∃ y, bs2[k]? = some y := ⟨bs2[k]'(by omega), List.getElem?_eq_getElem _⟩
              have rt2 : ∀ rs, HasSl (tabR (m + 1) (mt ws (.un 9 t)) b2 bs2 ++ rs) (some ⟨t2, 0, none⟩) (m + 1) 1 (rowC (m + 1) (mt ws (.un 9 t)) k) := fun rs => tabRow ht2
              have et2 : (bs2.map (rowV (m + 1)))[k]? = some (.slice (some ⟨t2, 0, none⟩) (m + 1) (m + 1)) := by rw [List.getElem?_map, ht2]; rfl
              obtain ⟨u2, hu2⟩ : ∃ y, bs3[k]? = some y := ⟨bs3[k]'(by omega), List.getElem?_eq_getElem _⟩
              have ru2 : ∀ rs, HasSl (tabR (m + 1) (mt ws (.un 10 t)) b3 bs3 ++ rs) (some ⟨u2, 0, none⟩) (m + 1) 1 (rowC (m + 1) (mt ws (.un 10 t)) k) := fun rs => tabRow hu2
              have eu2 : (bs3.map (rowV (m + 1)))[k]? = some (.slice (some ⟨u2, 0, none⟩) (m + 1) (m + 1)) := by rw [List.getElem?_map, hu2]; rfl
              have e2 : (rowC (m + 1) (mt ws t) k)[i]? = some (.bool (mt ws t k i)) := rowC_at (by omega)
              have haf2 := anyT_succ (fun k => mt ws t i k) k
              have hbe2 := anyT_succ (fun k => mt ws t k i) k
              rw [← haf] at haf2
              rw [← hbe] at hbe2
              by_cases hki : k = i
              · subst hki
                cases af
                all_goals cases be
                all_goals
                  repeat (first | (refine S_w ?_; first | (refine S_y hS ?_) | ((first | refine M_bA hS ?_ | refine M_b1 hS ?_ | refine M_aA hS ?_ | refine M_a1 hS ?_ | refine M_sl hS ?_ | refine M_s1 hS ?_ | refine M_mm hS ?_); clear hS; intro b w hS) | ((first | refine M_st hS ?_ | refine M_sA hS ?_ | refine M_in hS ?_ | refine M_sR hS ?_); clear hS; intro w hS; (try simp only [List.set_cons_zero, List.set_cons_succ, Nat.zero_add] at hS)) | (refine M_ap hS ?_; clear hS; intro g cap w hS) | refine M_pn ?_) | refine X_k (by (try simp only [Fm.toList, List.set_cons_succ, List.set_cons_zero]); exact rfl) ?_ | refine S_u ?_ | refine S_v ?_ | refine C_sq ?_ | refine C_rg ?_ | refine L_nil ?_ | refine C_bk ?_ | refine C_ct ?_ | refine C_cf ?_ | refine C_sk ?_ | refine C_ex ?_ | refine C_rt ?_ | refine X_e ?_ | refine X_r ?_ | refine X_bh ?_ | refine X_be ?_ | refine X_br ?_ | refine X_bn ?_ | refine X_p ?_ | refine X_bp ?_)
                  refine C_qt hS ?_
                  repeat (first | (refine Q_w ?_; first | (refine Q_y ?_)) | refine Q_u ?_)
                  refine Q_n ?_; clear hS; intro w hS
                  repeat (first | (refine S_w ?_; first | (refine S_y hS ?_) | ((first | refine M_bA hS ?_ | refine M_b1 hS ?_ | refine M_aA hS ?_ | refine M_a1 hS ?_ | refine M_sl hS ?_ | refine M_s1 hS ?_ | refine M_mm hS ?_); clear hS; intro b w hS) | ((first | refine M_st hS ?_ | refine M_sA hS ?_ | refine M_in hS ?_ | refine M_sR hS ?_); clear hS; intro w hS; (try simp only [List.set_cons_zero, List.set_cons_succ, Nat.zero_add] at hS)) | (refine M_ap hS ?_; clear hS; intro g cap w hS) | refine M_pn ?_) | refine X_k (by (try simp only [Fm.toList, List.set_cons_succ, List.set_cons_zero]); exact rfl) ?_ | refine S_u ?_ | refine S_v ?_ | refine C_sq ?_ | refine C_rg ?_ | refine L_nil ?_ | refine C_bk ?_ | refine C_ct ?_ | refine C_cf ?_ | refine C_sk ?_ | refine C_ex ?_ | refine C_rt ?_ | refine X_e ?_ | refine X_r ?_ | refine X_bh ?_ | refine X_be ?_ | refine X_br ?_ | refine X_bn ?_ | refine X_p ?_ | refine X_bp ?_)
                  refine R_e (k + 1, _, _) ⟨by simp only; omega, (by simp only; rw [haf2]; try rfl), (by simp only; rw [hbe2]; try rfl), hS⟩ (by simp only; omega)
              · have e3 : (rowC (m + 1) (mt ws (.un 9 t)) i)[k]? = some (.bool false) := by rw [rowC_at (by omega), look_off 9 (.inl rfl) t (Ne.symm hki)]
                have e4 : (rowC (m + 1) (mt ws (.un 10 t)) i)[k]? = some (.bool false) := by rw [rowC_at (by omega), look_off 10 (.inr rfl) t (Ne.symm hki)]
                cases af
                all_goals cases be
                all_goals
                  repeat (first | (refine S_w ?_; first | (refine S_y hS ?_) | ((first | refine M_bA hS ?_ | refine M_b1 hS ?_ | refine M_aA hS ?_ | refine M_a1 hS ?_ | refine M_sl hS ?_ | refine M_s1 hS ?_ | refine M_mm hS ?_); clear hS; intro b w hS) | ((first | refine M_st hS ?_ | refine M_sA hS ?_ | refine M_in hS ?_ | refine M_sR hS ?_); clear hS; intro w hS; (try simp only [List.set_cons_zero, List.set_cons_succ, Nat.zero_add] at hS)) | (refine M_ap hS ?_; clear hS; intro g cap w hS) | refine M_pn ?_) | refine X_k (by (try simp only [Fm.toList, List.set_cons_succ, List.set_cons_zero]); exact rfl) ?_ | refine S_u ?_ | refine S_v ?_ | refine C_sq ?_ | refine C_rg ?_ | refine L_nil ?_ | refine C_bk ?_ | refine C_ct ?_ | refine C_cf ?_ | refine C_sk ?_ | refine C_ex ?_ | refine C_rt ?_ | refine X_e ?_ | refine X_r ?_ | refine X_bh ?_ | refine X_be ?_ | refine X_br ?_ | refine X_bn ?_ | refine X_p ?_ | refine X_bp ?_)
                  refine C_qt hS ?_
                  repeat (first | (refine Q_w ?_; first | (refine Q_y ?_)) | refine Q_u ?_)
                  refine Q_n ?_; clear hS; intro w hS
                  repeat (first | (refine S_w ?_; first | (refine S_y hS ?_) | ((first | refine M_bA hS ?_ | refine M_b1 hS ?_ | refine M_aA hS ?_ | refine M_a1 hS ?_ | refine M_sl hS ?_ | refine M_s1 hS ?_ | refine M_mm hS ?_); clear hS; intro b w hS) | ((first | refine M_st hS ?_ | refine M_sA hS ?_ | refine M_in hS ?_ | refine M_sR hS ?_); clear hS; intro w hS; (try simp only [List.set_cons_zero, List.set_cons_succ, Nat.zero_add] at hS)) | (refine M_ap hS ?_; clear hS; intro g cap w hS) | refine M_pn ?_) | refine X_k (by (try simp only [Fm.toList, List.set_cons_succ, List.set_cons_zero]); exact rfl) ?_ | refine S_u ?_ | refine S_v ?_ | refine C_sq ?_ | refine C_rg ?_ | refine L_nil ?_ | refine C_bk ?_ | refine C_ct ?_ | refine C_cf ?_ | refine C_sk ?_ | refine C_ex ?_ | refine C_rt ?_ | refine X_e ?_ | refine X_r ?_ | refine X_bh ?_ | refine X_be ?_ | refine X_br ?_ | refine X_bn ?_ | refine X_p ?_ | refine X_bp ?_)
                  refine R_e (k + 1, _, _) ⟨by simp only; omega, (by simp only; rw [haf2]; try rfl), (by simp only; rw [hbe2]; try rfl), hS⟩ (by simp only; omega)
            · obtain rfl : k = m + 1 := by omega
              rw [← ha] at haf
              rw [← hb] at hbe
              have e3 : (rowC (m + 1) (mt ws (.un 9 t)) i)[i]? = some (.bool af) := by rw [rowC_at (by omega), haf]
              have e4 : (rowC (m + 1) (mt ws (.un 10 t)) i)[i]? = some (.bool be) := by rw [rowC_at (by omega), hbe]
              clear haf hbe
              repeat (first | (refine S_w ?_; first | (refine S_y hS ?_) | ((first | refine M_bA hS ?_ | refine M_b1 hS ?_ | refine M_aA hS ?_ | refine M_a1 hS ?_ | refine M_sl hS ?_ | refine M_s1 hS ?_ | refine M_mm hS ?_); clear hS; intro b w hS) | ((first | refine M_st hS ?_ | refine M_sA hS ?_ | refine M_in hS ?_ | refine M_sR hS ?_); clear hS; intro w hS; (try simp only [List.set_cons_zero, List.set_cons_succ, Nat.zero_add] at hS)) | (refine M_ap hS ?_; clear hS; intro g cap w hS) | refine M_pn ?_) | refine X_k (by (try simp only [Fm.toList, List.set_cons_succ, List.set_cons_zero]); exact rfl) ?_ | refine S_u ?_ | refine S_v ?_ | refine C_sq ?_ | refine C_rg ?_ | refine L_nil ?_ | refine C_bk ?_ | refine C_ct ?_ | refine C_cf ?_ | refine C_sk ?_ | refine C_ex ?_ | refine C_rt ?_ | refine X_e ?_ | refine X_r ?_ | refine X_bh ?_ | refine X_be ?_ | refine X_br ?_ | refine X_bn ?_ | refine X_p ?_ | refine X_bp ?_)
              refine R_e (i + 1) ⟨by omega, hS⟩ (by omega)
          · repeat (first | (refine S_w ?_; first | (refine S_y hS ?_) | ((first | refine M_bA hS ?_ | refine M_b1 hS ?_ | refine M_aA hS ?_ | refine M_a1 hS ?_ | refine M_sl hS ?_ | refine M_s1 hS ?_ | refine M_mm hS ?_); clear hS; intro b w hS) | ((first | refine M_st hS ?_ | refine M_sA hS ?_ | refine M_in hS ?_ | refine M_sR hS ?_); clear hS; intro w hS; (try simp only [List.set_cons_zero, List.set_cons_succ, Nat.zero_add] at hS)) | (refine M_ap hS ?_; clear hS; intro g cap w hS) | refine M_pn ?_) | refine X_k (by (try simp only [Fm.toList, List.set_cons_succ, List.set_cons_zero]); exact rfl) ?_ | refine S_u ?_ | refine S_v ?_ | refine C_sq ?_ | refine C_rg ?_ | refine L_nil ?_ | refine C_bk ?_ | refine C_ct ?_ | refine C_cf ?_ | refine C_sk ?_ | refine C_ex ?_ | refine C_rt ?_ | refine X_e ?_ | refine X_r ?_ | refine X_bh ?_ | refine X_be ?_ | refine X_br ?_ | refine X_bn ?_ | refine X_p ?_ | refine X_bp ?_)
            refine V_1 ⟨rfl, hS.fr⟩
        · repeat (first | (refine S_w ?_; first | (refine M_c (tableE (t.flat 0) v ws _ A Aw n c m cw _ hS.sl hS.sl hL (by omega) (by omega) hws rfl hE) ?_) | (refine S_y hS ?_) | ((first | refine M_bA hS ?_ | refine M_b1 hS ?_ | refine M_aA hS ?_ | refine M_a1 hS ?_ | refine M_sl hS ?_ | refine M_s1 hS ?_ | refine M_mm hS ?_); clear hS; intro b w hS) | ((first | refine M_st hS ?_ | refine M_sA hS ?_ | refine M_in hS ?_ | refine M_sR hS ?_); clear hS; intro w hS; (try simp only [List.set_cons_zero, List.set_cons_succ, Nat.zero_add] at hS)) | (refine M_ap hS ?_; clear hS; intro g cap w hS) | refine M_pn ?_) | refine X_k (by (try simp only [Fm.toList, List.set_cons_succ, List.set_cons_zero]); exact rfl) ?_ | refine S_u ?_ | refine S_v ?_ | refine C_sq ?_ | refine C_rg ?_ | refine L_nil ?_ | refine C_bk ?_ | refine C_ct ?_ | refine C_cf ?_ | refine C_sk ?_ | refine C_ex ?_ | refine C_rt ?_ | refine X_e ?_ | refine X_r ?_ | refine X_bh ?_ | refine X_be ?_ | refine X_br ?_ | refine X_bn ?_ | refine X_p ?_ | refine X_bp ?_)
          obtain ⟨gB, rfl⟩ : ∃ y, y = g := ⟨_, rfl⟩
          obtain ⟨cB, rfl⟩ : ∃ y, y = cap := ⟨_, rfl⟩
          rintro _ w5 ⟨rfl, hb5⟩
          have hS := hS.call hb5
          rw [hcs9, hcs10] at hS
          repeat (first | (refine S_w ?_; first | (refine M_c (tableE ((T.un 9 t).flat 0) v ws _ (some ⟨gA, 0, none⟩) Aw (n + 1) cA m cw _ hS.sl hS.sl (flat_ok _ 0 (wf_up _ hwf9) (by rw [hs9]; omega)) (by omega) (by omega) hws (hTE 9 rfl) hE) ?_) | (refine S_y hS ?_) | ((first | refine M_bA hS ?_ | refine M_b1 hS ?_ | refine M_aA hS ?_ | refine M_a1 hS ?_ | refine M_sl hS ?_ | refine M_s1 hS ?_ | refine M_mm hS ?_); clear hS; intro b w hS) | ((first | refine M_st hS ?_ | refine M_sA hS ?_ | refine M_in hS ?_ | refine M_sR hS ?_); clear hS; intro w hS; (try simp only [List.set_cons_zero, List.set_cons_succ, Nat.zero_add] at hS)) | (refine M_ap hS ?_; clear hS; intro g cap w hS) | refine M_pn ?_) | refine X_k (by (try simp only [Fm.toList, List.set_cons_succ, List.set_cons_zero]); exact rfl) ?_ | refine S_u ?_ | refine S_v ?_ | refine C_sq ?_ | refine C_rg ?_ | refine L_nil ?_ | refine C_bk ?_ | refine C_ct ?_ | refine C_cf ?_ | refine C_sk ?_ | refine C_ex ?_ | refine C_rt ?_ | refine X_e ?_ | refine X_r ?_ | refine X_bh ?_ | refine X_be ?_ | refine X_br ?_ | refine X_bn ?_ | refine X_p ?_ | refine X_bp ?_)
          rintro _ w6 ⟨rfl, hb6⟩
          have hS := hS.call hb6
          repeat (first | (refine S_w ?_; first | (refine M_c (tableE ((T.un 10 t).flat 0) v ws _ (some ⟨gB, 0, none⟩) Aw (n + 1) cB m cw _ hS.sl hS.sl (flat_ok _ 0 (wf_up _ hwf10) (by rw [hs9]; omega)) (by omega) (by omega) hws (hTE 10 rfl) hE) ?_) | (refine S_y hS ?_) | ((first | refine M_bA hS ?_ | refine M_b1 hS ?_ | refine M_aA hS ?_ | refine M_a1 hS ?_ | refine M_sl hS ?_ | refine M_s1 hS ?_ | refine M_mm hS ?_); clear hS; intro b w hS) | ((first | refine M_st hS ?_ | refine M_sA hS ?_ | refine M_in hS ?_ | refine M_sR hS ?_); clear hS; intro w hS; (try simp only [List.set_cons_zero, List.set_cons_succ, Nat.zero_add] at hS)) | (refine M_ap hS ?_; clear hS; intro g cap w hS) | refine M_pn ?_) | refine X_k (by (try simp only [Fm.toList, List.set_cons_succ, List.set_cons_zero]); exact rfl) ?_ | refine S_u ?_ | refine S_v ?_ | refine C_sq ?_ | refine C_rg ?_ | refine L_nil ?_ | refine C_bk ?_ | refine C_ct ?_ | refine C_cf ?_ | refine C_sk ?_ | refine C_ex ?_ | refine C_rt ?_ | refine X_e ?_ | refine X_r ?_ | refine X_bh ?_ | refine X_be ?_ | refine X_br ?_ | refine X_bn ?_ | refine X_p ?_ | refine X_bp ?_)
          rintro _ w7 ⟨rfl, hb7⟩
          have hS := hS.call hb7
          repeat (first | (refine S_w ?_; first | (refine S_y hS ?_) | ((first | refine M_bA hS ?_ | refine M_b1 hS ?_ | refine M_aA hS ?_ | refine M_a1 hS ?_ | refine M_sl hS ?_ | refine M_s1 hS ?_ | refine M_mm hS ?_); clear hS; intro b w hS) | ((first | refine M_st hS ?_ | refine M_sA hS ?_ | refine M_in hS ?_ | refine M_sR hS ?_); clear hS; intro w hS; (try simp only [List.set_cons_zero, List.set_cons_succ, Nat.zero_add] at hS)) | (refine M_ap hS ?_; clear hS; intro g cap w hS) | refine M_pn ?_) | refine X_k (by (try simp only [Fm.toList, List.set_cons_succ, List.set_cons_zero]); exact rfl) ?_ | refine S_u ?_ | refine S_v ?_ | refine C_sq ?_ | refine C_rg ?_ | refine L_nil ?_ | refine C_bk ?_ | refine C_ct ?_ | refine C_cf ?_ | refine C_sk ?_ | refine C_ex ?_ | refine C_rt ?_ | refine X_e ?_ | refine X_r ?_ | refine X_bh ?_ | refine X_be ?_ | refine X_br ?_ | refine X_bn ?_ | refine X_p ?_ | refine X_bp ?_)
          refine V_1 ⟨rfl, hS.fr⟩
    · repeat (first | (refine S_w ?_; first | (refine S_y hS ?_) | ((first | refine M_bA hS ?_ | refine M_b1 hS ?_ | refine M_aA hS ?_ | refine M_a1 hS ?_ | refine M_sl hS ?_ | refine M_s1 hS ?_ | refine M_mm hS ?_); clear hS; intro b w hS) | ((first | refine M_st hS ?_ | refine M_sA hS ?_ | refine M_in hS ?_ | refine M_sR hS ?_); clear hS; intro w hS; (try simp only [List.set_cons_zero, List.set_cons_succ, Nat.zero_add] at hS)) | (refine M_ap hS ?_; clear hS; intro g cap w hS) | refine M_pn ?_) | refine X_k (by (try simp only [Fm.toList, List.set_cons_succ, List.set_cons_zero]); exact rfl) ?_ | refine S_u ?_ | refine S_v ?_ | refine C_sq ?_ | refine C_rg ?_ | refine L_nil ?_ | refine C_bk ?_ | refine C_ct ?_ | refine C_cf ?_ | refine C_sk ?_ | refine C_ex ?_ | refine C_rt ?_ | refine X_e ?_ | refine X_r ?_ | refine X_bh ?_ | refine X_be ?_ | refine X_br ?_ | refine X_bn ?_ | refine X_p ?_ | refine X_bp ?_)
      refine V_1 ⟨rfl, hS.fr⟩
namespace matchLooks
open Go.ChangeShapes Go.WideShapes Go.ChangeAt Go.RowKit Go.Joins
set_option maxRecDepth 100000 in
theorem lifted (os : Os) (started : os.Started) (H : Type) (enc : TypeId × Value → H) :
    ReturnsInHanded {} Try.checked os 8 .any (Rows.matchLooksSpec.pre6 enc Try.prog Try.f8 Rows.matchLooksRow.domain false) (Rows.matchLooksSpec.post enc Try.prog Try.f8 false true false false) := by
  refine returnsInHanded_of_change (C := Try.checked) own started (by kernel_rfl) Try.func8
    (ChangeSpec.witness6 (enc := enc) (C := Try.checked) false ⟨#[], #[.slice none 0 0, .int .i64 0, .slice none 0 0], []⟩ 8 (by kernel_rfl) (by kernel_rfl) (by kernel_rfl) (by kernel_rfl)) ?_
  intro W base args ds gs before hval0 hW hcnd _
  have hval : ∀ (j : Nat) t v, Try.f8.params[j]? = some t → args[j]? = some v → Value.okWide Try.prog W .any base t v := hval0
  have hW' := hW
  obtain ⟨p, q, hA0, hV, rfl, hfz, hnd⟩ := hW
  have hA : DataW.TrodAll enc Try.prog W 0 (fun _ => true) true Try.f8.params.toList args.toList ds p := hA0
  rw [Try.params8] at hA hval
  obtain ⟨v0, vs0, d0, ds0, p0, q0, hargs, rfl, rfl, h0, r0⟩ := trodAll_cons hA
  obtain ⟨v1, vs1, d1, ds1, p1, q1, rfl, rfl, rfl, h1, r1⟩ := trodAll_cons r0
  obtain ⟨v2, vs2, d2, ds2, p2, q2, rfl, rfl, rfl, h2, r2⟩ := trodAll_cons r1
  obtain ⟨rfl, rfl, rfl⟩ := trodAll_nil r2
  obtain rfl : args = #[v0, v1, v2] := by cases args; simp_all
  obtain ⟨rfl, rfl⟩ := trodVars_none hV
  obtain ⟨A_0, n_0, c_0, l_0, rfl, hr_0, hw_0, hn_0, hc_0⟩ := open_regex (hval 0 _ _ rfl rfl) h0
  obtain ⟨z_1, rfl, hlo_1, hhi_1⟩ := open_i64 (hval 1 _ _ rfl rfl) h1
  obtain ⟨A_2, n_2, c_2, l_2, rfl, hr_2, hb_2, hn_2, hc_2⟩ := open_bytesC (hval 2 _ _ rfl rfl) h2
  simp only [List.append_nil] at hW'
  exact (matchLooks_walk A_0 n_0 c_0 l_0 z_1 A_2 n_2 c_2 l_2 W hr_0 hw_0 hn_0 hc_0 hlo_1 hhi_1 hr_2 hb_2 hn_2 hc_2).mono fun e W' ⟨he, hbl⟩ => ⟨_, he, law_post laidOut (readable_all (by kernel_rfl)) rfl Try.underlying4 rfl rfl hW' hbl⟩

theorem over : Rows.matchLooksRow.holds Try.pinned (OpenSpec.ofChange Rows.matchLooksSpec) :=
  OpenClaim.holds_of_wide 8 Try.f8 rfl rfl rfl rfl rfl rfl rfl ⟨rfl, rfl, rfl, rfl, rfl⟩ rfl rfl rfl rfl rfl (by kernel_rfl) Try.func8 (by kernel_rfl)
    (of_decide_eq_true (by kernel_rfl)) (by unfold Func.isWrapper; first | (rw [if_pos (by decide +kernel)]; kernel_rfl) | (rw [if_neg (by decide +kernel)]; exact ⟨rfl, rfl⟩))
    (fun os started H enc _ => lifted os started H enc)
end matchLooks

theorem matchLooks_proved : Rows.MatchLooksSaid := matchLooks.over
#print axioms matchLooks_proved
end Go.Proofs.Ytebdkmfgfjanoaa
