/-
  match.Table, match.Accepts, match.Nullable.
-/
import Derived.Test.YtebdkmfgfjanoaaMC
import Derived.Test.YtebdkmfgfjanoaaRX
import Derived.Test.YtebdkmfgfjanoaaRxSub
import Derived.Test.YtebdkmfgfjanoaaRD
namespace Go.Proofs.Ytebdkmfgfjanoaa
open Go.RowKit

/-- a pair of numbers, built -/
theorem YbP {P : Program} {rs : List Res} {o : Oper} {l : Fm} {x y : Operand} {t e : TypeId} {n : Nat} {ps : Array (Nat × Operand)} {a b : Int} (ho : o.op = .build t ps := by rfl) (hps : ps.toList = [(0, x), (1, y)] := by rfl) (hx : lk l x = some (.int .i64 a) := by rfl) (hy : lk l y = some (.int .i64 b) := by rfl)
    (hu : P.underlying t = some (.array n e) := by rfl) (hz : zeroT P t = some #[.int .i64 0, .int .i64 0] := by rfl) (hs : sizeT P e 1 = true := by rfl) : Yl P rs l o (.agg #[.int .i64 a, .int .i64 b]) := ⟨fun {_ _ w ds} _ => by
  unfold Ex execOp; rw [ho]
  refine run_v ?_
  simp only [lkp_eval, hps]
  have hzz : (zeroValue t).run P w = .ok (.agg #[.int .i64 0, .int .i64 0]) w := by
    unfold zeroT at hz
    cases hi : P.info? t with
    | none => rw [hi] at hz; cases hz
    | some i =>
      simp only [hi] at hz
      cases hq : i.zero with
      | none => simp [hq] at hz
      | some z => cases z <;> first | (simp [hq] at hz; done) | (simp only [hq, Option.some.injEq] at hz; subst hz; simp [zeroValue, typeInfo, go_sem, hi, hq])
  have hl : lkp l [(0, x), (1, y)] = [(0, .int .i64 a), (1, .int .i64 b)] := by simp [lkp, hx, hy]
  simp only [Instr.build, Sem.run_bind, hzz, Result.andThen_ok, run_underlying hu, sizeOf_run hs, Value.cells, hl]
  rfl⟩
/-! the function that looks for a letter -/
def geB (t : Nat) (x : Nat) : Bool := decide (t ≤ x)
section
variable {F : Nat → Prop} {w0 w : World} {rs : List Res}
set_option maxHeartbeats 4000000 in
set_option maxRecDepth 100000 in
theorem tab1R {b v : Nat} (x : Nat) (hv : v ≤ 6) (hx : x < 256) (hS : St F w0 rs w) (h1 : HasBox rs b (.int .i64 (v : Nat)) 3) : CallsR Try.prog 36 #[.int .u8 (x : Nat), .pointer (some ⟨b, 0, none⟩)] w fun r w' =>
    r = .bool (geB (two v) x) ∧ St F w0 rs w' := by
  have h2 := wrap_two hv
  have h3 := two_le6 hv
  refine E_r (m := 7) ?_ Try.func36 rfl Try.ntmps36 rfl; refine C_ft ?_
  unfold geB
  by_cases h : two v ≤ x
  · repeat (first | (refine S_w ?_; first | (refine S_y hS ?_) | ((first | refine M_bA hS ?_ | refine M_b1 hS ?_ | refine M_aA hS ?_ | refine M_a1 hS ?_ | refine M_sl hS ?_ | refine M_s1 hS ?_ | refine M_mm hS ?_); clear hS; intro b w hS) | ((first | refine M_st hS ?_ | refine M_sA hS ?_ | refine M_in hS ?_ | refine M_sR hS ?_); clear hS; intro w hS; (try simp only [List.set_cons_zero, List.set_cons_succ, Nat.zero_add] at hS)) | (refine M_ap hS ?_; clear hS; intro g cap w hS) | refine M_pn ?_) | refine X_k (by (try simp only [Fm.toList, List.set_cons_succ, List.set_cons_zero]); exact rfl) ?_ | refine S_u ?_ | refine S_v ?_ | refine C_sq ?_ | refine C_rg ?_ | refine L_nil ?_ | refine C_bk ?_ | refine C_ct ?_ | refine C_cf ?_ | refine C_sk ?_ | refine C_ex ?_ | refine C_rt ?_ | refine X_e ?_ | refine X_r ?_ | refine X_bh ?_ | refine X_be ?_ | refine X_br ?_ | refine X_bn ?_ | refine X_p ?_ | refine X_bp ?_)
    refine V_1 ⟨by rw [decide_eq_true h], hS⟩
  · repeat (first | (refine S_w ?_; first | (refine S_y hS ?_) | ((first | refine M_bA hS ?_ | refine M_b1 hS ?_ | refine M_aA hS ?_ | refine M_a1 hS ?_ | refine M_sl hS ?_ | refine M_s1 hS ?_ | refine M_mm hS ?_); clear hS; intro b w hS) | ((first | refine M_st hS ?_ | refine M_sA hS ?_ | refine M_in hS ?_ | refine M_sR hS ?_); clear hS; intro w hS; (try simp only [List.set_cons_zero, List.set_cons_succ, Nat.zero_add] at hS)) | (refine M_ap hS ?_; clear hS; intro g cap w hS) | refine M_pn ?_) | refine X_k (by (try simp only [Fm.toList, List.set_cons_succ, List.set_cons_zero]); exact rfl) ?_ | refine S_u ?_ | refine S_v ?_ | refine C_sq ?_ | refine C_rg ?_ | refine L_nil ?_ | refine C_bk ?_ | refine C_ct ?_ | refine C_cf ?_ | refine C_sk ?_ | refine C_ex ?_ | refine C_rt ?_ | refine X_e ?_ | refine X_r ?_ | refine X_bh ?_ | refine X_be ?_ | refine X_br ?_ | refine X_bn ?_ | refine X_p ?_ | refine X_bp ?_)
    refine V_1 ⟨by rw [decide_eq_false h], hS⟩
set_option maxHeartbeats 4000000 in
set_option maxRecDepth 100000 in
theorem idxFnR {g : FuncId} {cs : List Value} {A : Option Addr} {m c : Nat} {ws : List Nat} (p : Nat → Bool) (hb : enterB Try.prog g = true) (hm : m ≤ 4294967296) (hA : HasSl rs A m 1 (ws.map vb))
    (hc : ∀ x ∈ ws, ∀ w, St F w0 rs w → CallsR Try.prog g (vb x :: cs).toArray w fun r w' => r = .bool (p x) ∧ St F w0 rs w') (hS : St F w0 rs w) :
    CallsR Try.prog 50 #[.slice A m c, .func (.func g) #[] cs.toArray] w fun r w' => (∃ z : Int, r = .int .i64 z ∧ (0 ≤ z ↔ ws.any p = true)) ∧ St F w0 rs w' := by
  have hl : ws.length = m := by have := (hA.rd hS).1; simpa using this
  refine E_r (m := 17) ?_ Try.func50 rfl Try.ntmps50 rfl; refine C_ft ?_
  repeat (first | (refine S_w ?_; first | (refine S_y hS ?_) | ((first | refine M_bA hS ?_ | refine M_b1 hS ?_ | refine M_aA hS ?_ | refine M_a1 hS ?_ | refine M_sl hS ?_ | refine M_s1 hS ?_ | refine M_mm hS ?_); clear hS; intro b w hS) | ((first | refine M_st hS ?_ | refine M_sA hS ?_ | refine M_in hS ?_ | refine M_sR hS ?_); clear hS; intro w hS; (try simp only [List.set_cons_zero, List.set_cons_succ, Nat.zero_add] at hS)) | (refine M_ap hS ?_; clear hS; intro g cap w hS) | refine M_pn ?_) | refine X_k (by (try simp only [Fm.toList, List.set_cons_succ, List.set_cons_zero]); exact rfl) ?_ | refine S_u ?_ | refine S_v ?_ | refine C_sq ?_ | refine C_rg ?_ | refine L_nil ?_ | refine C_bk ?_ | refine C_ct ?_ | refine C_cf ?_ | refine C_sk ?_ | refine C_ex ?_ | refine C_rt ?_ | refine X_e ?_ | refine X_r ?_ | refine X_bh ?_ | refine X_be ?_ | refine X_br ?_ | refine X_bn ?_ | refine X_p ?_ | refine X_bp ?_)
  refine C_lp [4, 2, 2, 11] (fun k : Nat => [(8, .int .i64 (k : Nat))]) (fun k w' => k ≤ m ∧ (ws.take k).any p = false ∧ St F w0 rs w') (fun k => m - k) 0 ⟨Nat.zero_le _, rfl, hS⟩ ?_
  clear hS
  rintro k y w ⟨hk, hp, hS⟩
  refine C_fs ?_
  by_cases hlt : k < m
  · obtain ⟨x, hx⟩ : ∃ x, ws[k]? = some x := ⟨ws[k]'(by omega), List.getElem?_eq_getElem _⟩
    have hx2 : (ws.map vb)[k]? = some (vb x) := by rw [List.getElem?_map, hx]; rfl
    have hck := fun w hs => hc x (List.mem_of_getElem? hx) w hs
    repeat (first | (refine S_w ?_; first | (refine M_c (hb := hb) (hck _ hS) ?_) | (refine S_y hS ?_) | ((first | refine M_bA hS ?_ | refine M_b1 hS ?_ | refine M_aA hS ?_ | refine M_a1 hS ?_ | refine M_sl hS ?_ | refine M_s1 hS ?_ | refine M_mm hS ?_); clear hS; intro b w hS) | ((first | refine M_st hS ?_ | refine M_sA hS ?_ | refine M_in hS ?_ | refine M_sR hS ?_); clear hS; intro w hS; (try simp only [List.set_cons_zero, List.set_cons_succ, Nat.zero_add] at hS)) | (refine M_ap hS ?_; clear hS; intro g cap w hS) | refine M_pn ?_) | refine X_k (by (try simp only [Fm.toList, List.set_cons_succ, List.set_cons_zero]); exact rfl) ?_ | refine S_u ?_ | refine S_v ?_ | refine C_sq ?_ | refine C_rg ?_ | refine L_nil ?_ | refine C_bk ?_ | refine C_ct ?_ | refine C_cf ?_ | refine C_sk ?_ | refine C_ex ?_ | refine C_rt ?_ | refine X_e ?_ | refine X_r ?_ | refine X_bh ?_ | refine X_be ?_ | refine X_br ?_ | refine X_bn ?_ | refine X_p ?_ | refine X_bp ?_)
    rintro _ w1 ⟨rfl, hS⟩
    cases hpk : p x with
    | true =>
      repeat (first | (refine S_w ?_; first | (refine S_y hS ?_) | ((first | refine M_bA hS ?_ | refine M_b1 hS ?_ | refine M_aA hS ?_ | refine M_a1 hS ?_ | refine M_sl hS ?_ | refine M_s1 hS ?_ | refine M_mm hS ?_); clear hS; intro b w hS) | ((first | refine M_st hS ?_ | refine M_sA hS ?_ | refine M_in hS ?_ | refine M_sR hS ?_); clear hS; intro w hS; (try simp only [List.set_cons_zero, List.set_cons_succ, Nat.zero_add] at hS)) | (refine M_ap hS ?_; clear hS; intro g cap w hS) | refine M_pn ?_) | refine X_k (by (try simp only [Fm.toList, List.set_cons_succ, List.set_cons_zero]); exact rfl) ?_ | refine S_u ?_ | refine S_v ?_ | refine C_sq ?_ | refine C_rg ?_ | refine L_nil ?_ | refine C_bk ?_ | refine C_ct ?_ | refine C_cf ?_ | refine C_sk ?_ | refine C_ex ?_ | refine C_rt ?_ | refine X_e ?_ | refine X_r ?_ | refine X_bh ?_ | refine X_be ?_ | refine X_br ?_ | refine X_bn ?_ | refine X_p ?_ | refine X_bp ?_)
      refine V_1 ⟨⟨((k : Nat) : Int), rfl, fun _ => List.any_eq_true.2 ⟨x, List.mem_of_getElem? hx, hpk⟩, fun _ => by omega⟩, hS⟩
    | false =>
      repeat (first | (refine S_w ?_; first | (refine S_y hS ?_) | ((first | refine M_bA hS ?_ | refine M_b1 hS ?_ | refine M_aA hS ?_ | refine M_a1 hS ?_ | refine M_sl hS ?_ | refine M_s1 hS ?_ | refine M_mm hS ?_); clear hS; intro b w hS) | ((first | refine M_st hS ?_ | refine M_sA hS ?_ | refine M_in hS ?_ | refine M_sR hS ?_); clear hS; intro w hS; (try simp only [List.set_cons_zero, List.set_cons_succ, Nat.zero_add] at hS)) | (refine M_ap hS ?_; clear hS; intro g cap w hS) | refine M_pn ?_) | refine X_k (by (try simp only [Fm.toList, List.set_cons_succ, List.set_cons_zero]); exact rfl) ?_ | refine S_u ?_ | refine S_v ?_ | refine C_sq ?_ | refine C_rg ?_ | refine L_nil ?_ | refine C_bk ?_ | refine C_ct ?_ | refine C_cf ?_ | refine C_sk ?_ | refine C_ex ?_ | refine C_rt ?_ | refine X_e ?_ | refine X_r ?_ | refine X_bh ?_ | refine X_be ?_ | refine X_br ?_ | refine X_bn ?_ | refine X_p ?_ | refine X_bp ?_)
      refine R_e (k + 1) ⟨by omega, ?_, hS⟩ (by omega)
      rw [List.take_add_one, List.any_append, hp, hx]
      simp [hpk]
  · obtain rfl : k = m := by omega
    repeat (first | (refine S_w ?_; first | (refine S_y hS ?_) | ((first | refine M_bA hS ?_ | refine M_b1 hS ?_ | refine M_aA hS ?_ | refine M_a1 hS ?_ | refine M_sl hS ?_ | refine M_s1 hS ?_ | refine M_mm hS ?_); clear hS; intro b w hS) | ((first | refine M_st hS ?_ | refine M_sA hS ?_ | refine M_in hS ?_ | refine M_sR hS ?_); clear hS; intro w hS; (try simp only [List.set_cons_zero, List.set_cons_succ, Nat.zero_add] at hS)) | (refine M_ap hS ?_; clear hS; intro g cap w hS) | refine M_pn ?_) | refine X_k (by (try simp only [Fm.toList, List.set_cons_succ, List.set_cons_zero]); exact rfl) ?_ | refine S_u ?_ | refine S_v ?_ | refine C_sq ?_ | refine C_rg ?_ | refine L_nil ?_ | refine C_bk ?_ | refine C_ct ?_ | refine C_cf ?_ | refine C_sk ?_ | refine C_ex ?_ | refine C_rt ?_ | refine X_e ?_ | refine X_r ?_ | refine X_bh ?_ | refine X_be ?_ | refine X_br ?_ | refine X_bn ?_ | refine X_p ?_ | refine X_bp ?_)
    rw [List.take_of_length_le (by omega)] at hp
    refine V_1 ⟨⟨-1, rfl, fun h => absurd h (by decide), fun h => by rw [hp] at h; cases h⟩, hS⟩
set_option maxHeartbeats 4000000 in
set_option maxRecDepth 100000 in
theorem contFnR {g : FuncId} {cs : List Value} {A : Option Addr} {m c : Nat} {ws : List Nat} (p : Nat → Bool) (hb : enterB Try.prog g = true) (hm : m ≤ 4294967296) (hA : HasSl rs A m 1 (ws.map vb))
    (hc : ∀ x ∈ ws, ∀ w, St F w0 rs w → CallsR Try.prog g (vb x :: cs).toArray w fun r w' => r = .bool (p x) ∧ St F w0 rs w') (hS : St F w0 rs w) :
    CallsR Try.prog 35 #[.slice A m c, .func (.func g) #[] cs.toArray] w fun r w' => r = .bool (ws.any p) ∧ St F w0 rs w' := by
  refine E_r (m := 7) ?_ Try.func35 rfl Try.ntmps35 rfl; refine C_ft ?_
  repeat (first | (refine S_w ?_; first | (refine M_c (idxFnR p hb hm hA hc hS) ?_) | (refine S_y hS ?_) | ((first | refine M_bA hS ?_ | refine M_b1 hS ?_ | refine M_aA hS ?_ | refine M_a1 hS ?_ | refine M_sl hS ?_ | refine M_s1 hS ?_ | refine M_mm hS ?_); clear hS; intro b w hS) | ((first | refine M_st hS ?_ | refine M_sA hS ?_ | refine M_in hS ?_ | refine M_sR hS ?_); clear hS; intro w hS; (try simp only [List.set_cons_zero, List.set_cons_succ, Nat.zero_add] at hS)) | (refine M_ap hS ?_; clear hS; intro g cap w hS) | refine M_pn ?_) | refine X_k (by (try simp only [Fm.toList, List.set_cons_succ, List.set_cons_zero]); exact rfl) ?_ | refine S_u ?_ | refine S_v ?_ | refine C_sq ?_ | refine C_rg ?_ | refine L_nil ?_ | refine C_bk ?_ | refine C_ct ?_ | refine C_cf ?_ | refine C_sk ?_ | refine C_ex ?_ | refine C_rt ?_ | refine X_e ?_ | refine X_r ?_ | refine X_bh ?_ | refine X_be ?_ | refine X_br ?_ | refine X_bn ?_ | refine X_p ?_ | refine X_bp ?_)
  rintro _ w1 ⟨⟨z, rfl, hz⟩, hS⟩
  by_cases h : 0 ≤ z
  · repeat (first | (refine S_w ?_; first | (refine S_y hS ?_) | ((first | refine M_bA hS ?_ | refine M_b1 hS ?_ | refine M_aA hS ?_ | refine M_a1 hS ?_ | refine M_sl hS ?_ | refine M_s1 hS ?_ | refine M_mm hS ?_); clear hS; intro b w hS) | ((first | refine M_st hS ?_ | refine M_sA hS ?_ | refine M_in hS ?_ | refine M_sR hS ?_); clear hS; intro w hS; (try simp only [List.set_cons_zero, List.set_cons_succ, Nat.zero_add] at hS)) | (refine M_ap hS ?_; clear hS; intro g cap w hS) | refine M_pn ?_) | refine X_k (by (try simp only [Fm.toList, List.set_cons_succ, List.set_cons_zero]); exact rfl) ?_ | refine S_u ?_ | refine S_v ?_ | refine C_sq ?_ | refine C_rg ?_ | refine L_nil ?_ | refine C_bk ?_ | refine C_ct ?_ | refine C_cf ?_ | refine C_sk ?_ | refine C_ex ?_ | refine C_rt ?_ | refine X_e ?_ | refine X_r ?_ | refine X_bh ?_ | refine X_be ?_ | refine X_br ?_ | refine X_bn ?_ | refine X_p ?_ | refine X_bp ?_)
    refine V_1 ⟨by rw [hz.1 h], hS⟩
  · repeat (first | (refine S_w ?_; first | (refine S_y hS ?_) | ((first | refine M_bA hS ?_ | refine M_b1 hS ?_ | refine M_aA hS ?_ | refine M_a1 hS ?_ | refine M_sl hS ?_ | refine M_s1 hS ?_ | refine M_mm hS ?_); clear hS; intro b w hS) | ((first | refine M_st hS ?_ | refine M_sA hS ?_ | refine M_in hS ?_ | refine M_sR hS ?_); clear hS; intro w hS; (try simp only [List.set_cons_zero, List.set_cons_succ, Nat.zero_add] at hS)) | (refine M_ap hS ?_; clear hS; intro g cap w hS) | refine M_pn ?_) | refine X_k (by (try simp only [Fm.toList, List.set_cons_succ, List.set_cons_zero]); exact rfl) ?_ | refine S_u ?_ | refine S_v ?_ | refine C_sq ?_ | refine C_rg ?_ | refine L_nil ?_ | refine C_bk ?_ | refine C_ct ?_ | refine C_cf ?_ | refine C_sk ?_ | refine C_ex ?_ | refine C_rt ?_ | refine X_e ?_ | refine X_r ?_ | refine X_bh ?_ | refine X_be ?_ | refine X_br ?_ | refine X_bn ?_ | refine X_p ?_ | refine X_bp ?_)
    refine V_1 ⟨?_, hS⟩
    cases hw : ws.any p with
    | false => rfl
    | true => exact absurd (hz.2 hw) h
end
/-! Table -/
def tabE (L : List Pc) (v : Int) (ws : List Nat) : Int := if chkR L v ≠ 0 then chkR L v else if 64 < ws.length then 4 else if ws.any (geB (two v.toNat)) then 1 else 0
theorem flat_kids {v : Int} : ∀ (t : T) (k : Nat), t.wf v → ∀ (i : Nat) (p : Pc), (t.flat k)[i]? = some p → (1 ≤ p.op ∧ p.op ≤ 10) ∧ (4 ≤ p.op → 0 ≤ p.a ∧ p.a < k + i) ∧ (4 ≤ p.op → p.op ≤ 6 → 0 ≤ p.b ∧ p.b < k + i)
  | .none, k, _, i, p, h => by
    obtain rfl := List.mem_singleton.1 (List.mem_of_getElem? h)
    exact ⟨⟨(by decide : 1 ≤ 1), (by decide : 1 ≤ 10)⟩, fun h => absurd h (by decide : ¬ 4 ≤ 1), fun h => absurd h (by decide : ¬ 4 ≤ 1)⟩
  | .empty, k, _, i, p, h => by
    obtain rfl := List.mem_singleton.1 (List.mem_of_getElem? h)
    exact ⟨⟨(by decide : 1 ≤ 2), (by decide : 2 ≤ 10)⟩, fun h => absurd h (by decide : ¬ 4 ≤ 2), fun h => absurd h (by decide : ¬ 4 ≤ 2)⟩
  | .letter a b, k, _, i, p, h => by
    obtain rfl := List.mem_singleton.1 (List.mem_of_getElem? h)
    exact ⟨⟨(by decide : 1 ≤ 3), (by decide : 3 ≤ 10)⟩, fun h => absurd h (by decide : ¬ 4 ≤ 3), fun h => absurd h (by decide : ¬ 4 ≤ 3)⟩
  | .un op a, k, hw, i, p, h => by
    have hk := kids_one.1 hw.1
    have hl := T.flat_len k a
    have hs := T.size_pos a
    have h : (a.flat k ++ [T.root k (.un op a)])[i]? = some p := h
    by_cases hi : i < a.size
    · rw [List.getElem?_append_left (by omega)] at h
      exact flat_kids a k hw.2 i p h
    · rw [List.getElem?_append_right (by omega)] at h
      obtain rfl := List.mem_singleton.1 (List.mem_of_getElem? h)
      have hi2 : i - (a.flat k).length < 1 := (List.getElem?_eq_some_iff.1 h).1
      simp only [T.root]
      refine ⟨by omega, fun _ => by omega, fun _ _ => by omega⟩
  | .bin op a b, k, hw, i, p, h => by
    have hk := kids_two.1 hw.1
    have hl := T.flat_len k a
    have hl2 := T.flat_len (k + a.size) b
    have hs := T.size_pos a
    have hs2 := T.size_pos b
    have h : (a.flat k ++ (b.flat (k + a.size) ++ [T.root k (.bin op a b)]))[i]? = some p := h
    by_cases hi : i < a.size
    · rw [List.getElem?_append_left (by omega)] at h
      exact flat_kids a k hw.2.1 i p h
    · rw [List.getElem?_append_right (by omega)] at h
      by_cases hi2 : i - a.size < b.size
      · rw [List.getElem?_append_left (by omega)] at h
        have := flat_kids b (k + a.size) hw.2.2 _ p h
        refine ⟨this.1, fun h1 => ?_, fun h1 h2 => ?_⟩
        · have := this.2.1 h1; omega
        · have := this.2.2 h1 h2; omega
      · rw [List.getElem?_append_right (by omega)] at h
        obtain rfl := List.mem_singleton.1 (List.mem_of_getElem? h)
        have hi3 : i - (a.flat k).length - (b.flat (k + a.size)).length < 1 := (List.getElem?_eq_some_iff.1 h).1
        simp only [T.root]
        refine ⟨by omega, fun _ => by omega, fun _ _ => by omega⟩
theorem tree_kids {v : Int} {t : T} (hw : t.wf v) : Kids (t.flat 0) := fun i p h => by
  have := flat_kids t 0 hw i p h
  simpa using this
theorem tree_tab {v : Int} {t : T} (hw : t.wf v) (ws : List Nat) : tabAt (tabsR ws (t.flat 0) []) ((t.size : Int) - 1) = mt ws t := by
  have h := tabsR_tree ws t [] hw
  have h2 := tabAt_end ws [] t [] (n := (t.size : Int) - 1) (by simp)
  rw [List.append_nil] at h2
  rw [show t.flat 0 = t.flat ([] : List Tab).length from rfl, h]
  exact h2
set_option maxHeartbeats 4000000 in
set_option maxRecDepth 100000 in
theorem tableT (t : T) (v : Int) (ws : List Nat) (A Aw : Option Addr) (n c m cw : Nat) (W : World) (hA : Rd W 5 A n (rxCells (t.flat 0))) (hW : Rd W 1 Aw m (ws.map vb)) (hv : 0 ≤ v ∧ v ≤ 6) (h1 : t.wf v) (h2 : t.free true = true) (h3 : t.size ≤ 64) (hm : m ≤ 64) (hws : ∀ x ∈ ws, x < two v.toNat) :
    CallsR Try.prog 16 #[.slice A n c, .int .i64 v, .slice Aw m cw] W fun r w' => ∃ b bs, r = .tuple #[.slice (some ⟨b, 0, none⟩) (m + 1) (m + 1), .int .i64 0] ∧ bs.length = m + 1 ∧ St Nof W (tabR (m + 1) (mt ws t) b bs) w' := by
  have hsz : t.size = n := by have := hA.1; rw [rxCells_len, T.flat_len] at this; omega
  have hc0 : chkR (t.flat 0) v = 0 := chkR_zero.2 ⟨hv, t, h1, h2, h3, rfl⟩
  have hok := flat_ok t 0 (wf_up t h1) (by omega)
  obtain ⟨vn, rfl⟩ := Int.eq_ofNat_of_zero_le hv.1
  have h64 := two_le6 (k := vn) (by omega)
  have hws8 : ∀ x ∈ ws, x < 256 := fun x hx => by have := hws x hx; rw [Int.toNat_natCast] at this; omega
  have hany : ws.any (geB (two vn)) = false := by
    rw [List.any_eq_false]
    intro x hx
    have := hws x hx
    rw [Int.toNat_natCast] at this
    unfold geB
    simp; omega
  have hS := ((St.start Nof W).addRo (r := Res.rd 1 Aw m (ws.map vb)) hW rfl (fun _ h => by cases h)).addRo (r := Res.rd 5 A n (rxCells (t.flat 0))) hA rfl (fun s h => by
    rcases List.mem_cons.1 h with rfl | h
    · intro h; cases h
    · cases h)
  have key : ∀ b w, St Nof W [Res.obj b (.cells #[.int .i64 (vn : Nat)] 3 (0, 0)), Res.rd 5 A n (rxCells (t.flat 0)), Res.rd 1 Aw m (ws.map vb)] w → CallsR Try.prog 35 #[.slice Aw m cw, .func (.func 36) #[] #[.pointer (some ⟨b, 0, none⟩)]] w fun r w' =>
      r = .bool (ws.any (geB (two vn))) ∧ St Nof W [Res.obj b (.cells #[.int .i64 (vn : Nat)] 3 (0, 0)), Res.rd 5 A n (rxCells (t.flat 0)), Res.rd 1 Aw m (ws.map vb)] w' := fun b w hS =>
    contFnR (g := 36) (cs := [.pointer (some ⟨b, 0, none⟩)]) _ rfl (by omega) inferInstance (fun x hx w hs => tab1R x (by omega) (hws8 x hx) hs inferInstance) hS
  refine E_r (m := 23) ?_ Try.func16 rfl Try.ntmps16 rfl; refine C_ft ?_
  repeat (first | (refine S_w ?_; first | (refine M_c (CheckR A n c (t.flat 0) vn _ hS.rdAtM hok (by omega)) ?_) | (refine S_y hS ?_) | ((first | refine M_bA hS ?_ | refine M_b1 hS ?_ | refine M_aA hS ?_ | refine M_a1 hS ?_ | refine M_sl hS ?_ | refine M_s1 hS ?_ | refine M_mm hS ?_); clear hS; intro b w hS) | ((first | refine M_st hS ?_ | refine M_sA hS ?_ | refine M_in hS ?_ | refine M_sR hS ?_); clear hS; intro w hS; (try simp only [List.set_cons_zero, List.set_cons_succ, Nat.zero_add] at hS)) | (refine M_ap hS ?_; clear hS; intro g cap w hS) | refine M_pn ?_) | refine X_k (by (try simp only [Fm.toList, List.set_cons_succ, List.set_cons_zero]); exact rfl) ?_ | refine S_u ?_ | refine S_v ?_ | refine C_sq ?_ | refine C_rg ?_ | refine L_nil ?_ | refine C_bk ?_ | refine C_ct ?_ | refine C_cf ?_ | refine C_sk ?_ | refine C_ex ?_ | refine C_rt ?_ | refine X_e ?_ | refine X_r ?_ | refine X_bh ?_ | refine X_be ?_ | refine X_br ?_ | refine X_bn ?_ | refine X_p ?_ | refine X_bp ?_)
  rintro _ w1 ⟨rfl, hb1⟩
  have hS := hS.call hb1
  rw [hc0]
  repeat (first | (refine S_w ?_; first | (refine M_c (key _ _ hS) ?_) | (refine S_y hS ?_) | ((first | refine M_bA hS ?_ | refine M_b1 hS ?_ | refine M_aA hS ?_ | refine M_a1 hS ?_ | refine M_sl hS ?_ | refine M_s1 hS ?_ | refine M_mm hS ?_); clear hS; intro b w hS) | ((first | refine M_st hS ?_ | refine M_sA hS ?_ | refine M_in hS ?_ | refine M_sR hS ?_); clear hS; intro w hS; (try simp only [List.set_cons_zero, List.set_cons_succ, Nat.zero_add] at hS)) | (refine M_ap hS ?_; clear hS; intro g cap w hS) | refine M_pn ?_) | refine X_k (by (try simp only [Fm.toList, List.set_cons_succ, List.set_cons_zero]); exact rfl) ?_ | refine S_u ?_ | refine S_v ?_ | refine C_sq ?_ | refine C_rg ?_ | refine L_nil ?_ | refine C_bk ?_ | refine C_ct ?_ | refine C_cf ?_ | refine C_sk ?_ | refine C_ex ?_ | refine C_rt ?_ | refine X_e ?_ | refine X_r ?_ | refine X_bh ?_ | refine X_be ?_ | refine X_br ?_ | refine X_bn ?_ | refine X_p ?_ | refine X_bp ?_)
  rintro _ w2 ⟨rfl, hS⟩
  rw [hany]
  have hsp := T.size_pos t
  repeat (first | (refine S_w ?_; first | (refine M_c (evalR (t.flat 0) ws A Aw n c m cw _ hS.rdAtM hS.rdAtM hok (tree_kids h1) hws8 (by omega) (by omega) (by omega)) ?_) | (refine S_y hS ?_) | ((first | refine M_bA hS ?_ | refine M_b1 hS ?_ | refine M_aA hS ?_ | refine M_a1 hS ?_ | refine M_sl hS ?_ | refine M_s1 hS ?_ | refine M_mm hS ?_); clear hS; intro b w hS) | ((first | refine M_st hS ?_ | refine M_sA hS ?_ | refine M_in hS ?_ | refine M_sR hS ?_); clear hS; intro w hS; (try simp only [List.set_cons_zero, List.set_cons_succ, Nat.zero_add] at hS)) | (refine M_ap hS ?_; clear hS; intro g cap w hS) | refine M_pn ?_) | refine X_k (by (try simp only [Fm.toList, List.set_cons_succ, List.set_cons_zero]); exact rfl) ?_ | refine S_u ?_ | refine S_v ?_ | refine C_sq ?_ | refine C_rg ?_ | refine L_nil ?_ | refine C_bk ?_ | refine C_ct ?_ | refine C_cf ?_ | refine C_sk ?_ | refine C_ex ?_ | refine C_rt ?_ | refine X_e ?_ | refine X_r ?_ | refine X_bh ?_ | refine X_be ?_ | refine X_br ?_ | refine X_bn ?_ | refine X_p ?_ | refine X_bp ?_)
  rintro _ w3 ⟨b, bs, rfl, hbs, hE⟩
  have ht := tree_tab h1 ws
  rw [hsz] at ht
  rw [ht] at hE
  have hS := (hS.join hE tabR_own).sub (List.sublist_append_left _ _)
  repeat (first | (refine S_w ?_; first | (refine S_y hS ?_) | ((first | refine M_bA hS ?_ | refine M_b1 hS ?_ | refine M_aA hS ?_ | refine M_a1 hS ?_ | refine M_sl hS ?_ | refine M_s1 hS ?_ | refine M_mm hS ?_); clear hS; intro b w hS) | ((first | refine M_st hS ?_ | refine M_sA hS ?_ | refine M_in hS ?_ | refine M_sR hS ?_); clear hS; intro w hS; (try simp only [List.set_cons_zero, List.set_cons_succ, Nat.zero_add] at hS)) | (refine M_ap hS ?_; clear hS; intro g cap w hS) | refine M_pn ?_) | refine X_k (by (try simp only [Fm.toList, List.set_cons_succ, List.set_cons_zero]); exact rfl) ?_ | refine S_u ?_ | refine S_v ?_ | refine C_sq ?_ | refine C_rg ?_ | refine L_nil ?_ | refine C_bk ?_ | refine C_ct ?_ | refine C_cf ?_ | refine C_sk ?_ | refine C_ex ?_ | refine C_rt ?_ | refine X_e ?_ | refine X_r ?_ | refine X_bh ?_ | refine X_be ?_ | refine X_br ?_ | refine X_bn ?_ | refine X_p ?_ | refine X_bp ?_)
  refine V_2 ⟨b, bs, rfl, hbs, hS⟩
instance tabOwnI {n b : Nat} {f : Tab} {bs : List Nat} {rs : List Res} : HasSl (tabR n f b bs ++ rs) (some ⟨b, 0, none⟩) n 1 (bs.map (rowV n)) := ⟨fun h => h.rowAt (List.mem_append_left _ (List.mem_cons_self ..))⟩
theorem tabRow {n b : Nat} {f : Tab} {bs : List Nat} {rs : List Res} {i bi : Nat} (h : bs[i]? = some bi) : HasSl (tabR n f b bs ++ rs) (some ⟨bi, 0, none⟩) n 1 (rowC n f i) :=
  ⟨fun hS => hS.rowAt (List.mem_append_left _ (List.mem_cons_of_mem _ (by have := rowsR_mem (n := n) (f := f) (k := 0) h; rwa [Nat.zero_add] at this)))⟩
theorem rowC_at {n : Nat} {f : Tab} {i j : Nat} (hj : j < n) : (rowC n f i)[j]? = some (.bool (f i j)) := by simp [rowC, hj]
set_option maxHeartbeats 4000000 in
set_option maxRecDepth 100000 in
theorem tableE (L : List Pc) (v : Int) (ws : List Nat) (e : Int) (A Aw : Option Addr) (n c m cw : Nat) (W : World) (hA : Rd W 5 A n (rxCells L)) (hW : Rd W 1 Aw m (ws.map vb)) (hL : ∀ p ∈ L, p.ok) (hn : n ≤ 4294967296) (hm : m ≤ 4294967296) (hws : ∀ x ∈ ws, x < 256) (h : tabE L v ws = e) (he : e ≠ 0) :
    CallsR Try.prog 16 #[.slice A n c, .int .i64 v, .slice Aw m cw] W fun r w' => r = .tuple #[.slice none 0 0, .int .i64 e] ∧ Fr Nof W w' := by
  have hwl : ws.length = m := by have := hW.1; simpa using this
  have hS := ((St.start Nof W).addRo (r := Res.rd 1 Aw m (ws.map vb)) hW rfl (fun _ h => by cases h)).addRo (r := Res.rd 5 A n (rxCells L)) hA rfl (fun s h => by
    rcases List.mem_cons.1 h with rfl | h
    · intro h; cases h
    · cases h)
  refine E_r (m := 23) ?_ Try.func16 rfl Try.ntmps16 rfl; refine C_ft ?_
  repeat (first | (refine S_w ?_; first | (refine M_c (CheckR A n c L v _ hS.rdAtM hL (by omega)) ?_) | (refine S_y hS ?_) | ((first | refine M_bA hS ?_ | refine M_b1 hS ?_ | refine M_aA hS ?_ | refine M_a1 hS ?_ | refine M_sl hS ?_ | refine M_s1 hS ?_ | refine M_mm hS ?_); clear hS; intro b w hS) | ((first | refine M_st hS ?_ | refine M_sA hS ?_ | refine M_in hS ?_ | refine M_sR hS ?_); clear hS; intro w hS; (try simp only [List.set_cons_zero, List.set_cons_succ, Nat.zero_add] at hS)) | (refine M_ap hS ?_; clear hS; intro g cap w hS) | refine M_pn ?_) | refine X_k (by (try simp only [Fm.toList, List.set_cons_succ, List.set_cons_zero]); exact rfl) ?_ | refine S_u ?_ | refine S_v ?_ | refine C_sq ?_ | refine C_rg ?_ | refine L_nil ?_ | refine C_bk ?_ | refine C_ct ?_ | refine C_cf ?_ | refine C_sk ?_ | refine C_ex ?_ | refine C_rt ?_ | refine X_e ?_ | refine X_r ?_ | refine X_bh ?_ | refine X_be ?_ | refine X_br ?_ | refine X_bn ?_ | refine X_p ?_ | refine X_bp ?_)
  rintro _ w1 ⟨rfl, hb1⟩
  have hS := hS.call hb1
  unfold tabE at h
  by_cases h0 : chkR L v = 0
  · rw [if_neg (by simpa using h0)] at h
    rw [h0]
    by_cases h64 : 64 < m
    · rw [if_pos (by omega)] at h
      subst h
      repeat (first | (refine S_w ?_; first | (refine S_y hS ?_) | ((first | refine M_bA hS ?_ | refine M_b1 hS ?_ | refine M_aA hS ?_ | refine M_a1 hS ?_ | refine M_sl hS ?_ | refine M_s1 hS ?_ | refine M_mm hS ?_); clear hS; intro b w hS) | ((first | refine M_st hS ?_ | refine M_sA hS ?_ | refine M_in hS ?_ | refine M_sR hS ?_); clear hS; intro w hS; (try simp only [List.set_cons_zero, List.set_cons_succ, Nat.zero_add] at hS)) | (refine M_ap hS ?_; clear hS; intro g cap w hS) | refine M_pn ?_) | refine X_k (by (try simp only [Fm.toList, List.set_cons_succ, List.set_cons_zero]); exact rfl) ?_ | refine S_u ?_ | refine S_v ?_ | refine C_sq ?_ | refine C_rg ?_ | refine L_nil ?_ | refine C_bk ?_ | refine C_ct ?_ | refine C_cf ?_ | refine C_sk ?_ | refine C_ex ?_ | refine C_rt ?_ | refine X_e ?_ | refine X_r ?_ | refine X_bh ?_ | refine X_be ?_ | refine X_br ?_ | refine X_bn ?_ | refine X_p ?_ | refine X_bp ?_)
      refine V_2 ⟨rfl, hS.fr⟩
    · rw [if_neg (by omega)] at h
      have hv : 0 ≤ v ∧ v ≤ 6 := by
        unfold chkR at h0
        split at h0
        · cases h0
        · omega
      obtain ⟨vn, rfl⟩ := Int.eq_ofNat_of_zero_le hv.1
      rw [Int.toNat_natCast] at h
      have hany : ws.any (geB (two vn)) = true := by
        cases hb : ws.any (geB (two vn)) with
        | true => rfl
        | false => rw [hb] at h; exact absurd h.symm he
      rw [hany] at h
      subst h
      have key : ∀ b w, St Nof W [Res.obj b (.cells #[.int .i64 (vn : Nat)] 3 (0, 0)), Res.rd 5 A n (rxCells L), Res.rd 1 Aw m (ws.map vb)] w → CallsR Try.prog 35 #[.slice Aw m cw, .func (.func 36) #[] #[.pointer (some ⟨b, 0, none⟩)]] w fun r w' =>
          r = .bool (ws.any (geB (two vn))) ∧ St Nof W [Res.obj b (.cells #[.int .i64 (vn : Nat)] 3 (0, 0)), Res.rd 5 A n (rxCells L), Res.rd 1 Aw m (ws.map vb)] w' := fun b w hS =>
        contFnR (g := 36) (cs := [.pointer (some ⟨b, 0, none⟩)]) _ rfl (by omega) inferInstance (fun x hx w hs => tab1R x (by omega) (hws x hx) hs inferInstance) hS
      repeat (first | (refine S_w ?_; first | (refine M_c (key _ _ hS) ?_) | (refine S_y hS ?_) | ((first | refine M_bA hS ?_ | refine M_b1 hS ?_ | refine M_aA hS ?_ | refine M_a1 hS ?_ | refine M_sl hS ?_ | refine M_s1 hS ?_ | refine M_mm hS ?_); clear hS; intro b w hS) | ((first | refine M_st hS ?_ | refine M_sA hS ?_ | refine M_in hS ?_ | refine M_sR hS ?_); clear hS; intro w hS; (try simp only [List.set_cons_zero, List.set_cons_succ, Nat.zero_add] at hS)) | (refine M_ap hS ?_; clear hS; intro g cap w hS) | refine M_pn ?_) | refine X_k (by (try simp only [Fm.toList, List.set_cons_succ, List.set_cons_zero]); exact rfl) ?_ | refine S_u ?_ | refine S_v ?_ | refine C_sq ?_ | refine C_rg ?_ | refine L_nil ?_ | refine C_bk ?_ | refine C_ct ?_ | refine C_cf ?_ | refine C_sk ?_ | refine C_ex ?_ | refine C_rt ?_ | refine X_e ?_ | refine X_r ?_ | refine X_bh ?_ | refine X_be ?_ | refine X_br ?_ | refine X_bn ?_ | refine X_p ?_ | refine X_bp ?_)
      rintro _ w2 ⟨rfl, hS⟩
      rw [hany]
      repeat (first | (refine S_w ?_; first | (refine S_y hS ?_) | ((first | refine M_bA hS ?_ | refine M_b1 hS ?_ | refine M_aA hS ?_ | refine M_a1 hS ?_ | refine M_sl hS ?_ | refine M_s1 hS ?_ | refine M_mm hS ?_); clear hS; intro b w hS) | ((first | refine M_st hS ?_ | refine M_sA hS ?_ | refine M_in hS ?_ | refine M_sR hS ?_); clear hS; intro w hS; (try simp only [List.set_cons_zero, List.set_cons_succ, Nat.zero_add] at hS)) | (refine M_ap hS ?_; clear hS; intro g cap w hS) | refine M_pn ?_) | refine X_k (by (try simp only [Fm.toList, List.set_cons_succ, List.set_cons_zero]); exact rfl) ?_ | refine S_u ?_ | refine S_v ?_ | refine C_sq ?_ | refine C_rg ?_ | refine L_nil ?_ | refine C_bk ?_ | refine C_ct ?_ | refine C_cf ?_ | refine C_sk ?_ | refine C_ex ?_ | refine C_rt ?_ | refine X_e ?_ | refine X_r ?_ | refine X_bh ?_ | refine X_be ?_ | refine X_br ?_ | refine X_bn ?_ | refine X_p ?_ | refine X_bp ?_)
      refine V_2 ⟨rfl, hS.fr⟩
  · rw [if_pos h0] at h
    subst h
    repeat (first | (refine S_w ?_; first | (refine S_y hS ?_) | ((first | refine M_bA hS ?_ | refine M_b1 hS ?_ | refine M_aA hS ?_ | refine M_a1 hS ?_ | refine M_sl hS ?_ | refine M_s1 hS ?_ | refine M_mm hS ?_); clear hS; intro b w hS) | ((first | refine M_st hS ?_ | refine M_sA hS ?_ | refine M_in hS ?_ | refine M_sR hS ?_); clear hS; intro w hS; (try simp only [List.set_cons_zero, List.set_cons_succ, Nat.zero_add] at hS)) | (refine M_ap hS ?_; clear hS; intro g cap w hS) | refine M_pn ?_) | refine X_k (by (try simp only [Fm.toList, List.set_cons_succ, List.set_cons_zero]); exact rfl) ?_ | refine S_u ?_ | refine S_v ?_ | refine C_sq ?_ | refine C_rg ?_ | refine L_nil ?_ | refine C_bk ?_ | refine C_ct ?_ | refine C_cf ?_ | refine C_sk ?_ | refine C_ex ?_ | refine C_rt ?_ | refine X_e ?_ | refine X_r ?_ | refine X_bh ?_ | refine X_be ?_ | refine X_br ?_ | refine X_bn ?_ | refine X_p ?_ | refine X_bp ?_)
    refine V_2 ⟨rfl, hS.fr⟩
set_option maxHeartbeats 4000000 in
set_option maxRecDepth 100000 in
theorem acceptsT (t : T) (v : Int) (ws : List Nat) (A Aw : Option Addr) (n c m cw : Nat) (W : World) (hA : Rd W 5 A n (rxCells (t.flat 0))) (hW : Rd W 1 Aw m (ws.map vb)) (hv : 0 ≤ v ∧ v ≤ 6) (h1 : t.wf v) (h2 : t.free true = true) (h3 : t.size ≤ 64) (hm : m ≤ 64) (hws : ∀ x ∈ ws, x < two v.toNat) :
    CallsR Try.prog 17 #[.slice A n c, .int .i64 v, .slice Aw m cw] W fun r w' => r = .tuple #[.bool (mt ws t 0 m), .int .i64 0] ∧ Fr Nof W w' := by
  have hS := St.start Nof W
  have hT := tableT t v ws A Aw n c m cw W hA hW hv h1 h2 h3 hm hws
  refine E_r (m := 24) ?_ Try.func17 rfl Try.ntmps17 rfl; refine C_ft ?_
  repeat (first | (refine S_w ?_; first | (refine M_c (hT) ?_) | (refine S_y hS ?_) | ((first | refine M_bA hS ?_ | refine M_b1 hS ?_ | refine M_aA hS ?_ | refine M_a1 hS ?_ | refine M_sl hS ?_ | refine M_s1 hS ?_ | refine M_mm hS ?_); clear hS; intro b w hS) | ((first | refine M_st hS ?_ | refine M_sA hS ?_ | refine M_in hS ?_ | refine M_sR hS ?_); clear hS; intro w hS; (try simp only [List.set_cons_zero, List.set_cons_succ, Nat.zero_add] at hS)) | (refine M_ap hS ?_; clear hS; intro g cap w hS) | refine M_pn ?_) | refine X_k (by (try simp only [Fm.toList, List.set_cons_succ, List.set_cons_zero]); exact rfl) ?_ | refine S_u ?_ | refine S_v ?_ | refine C_sq ?_ | refine C_rg ?_ | refine L_nil ?_ | refine C_bk ?_ | refine C_ct ?_ | refine C_cf ?_ | refine C_sk ?_ | refine C_ex ?_ | refine C_rt ?_ | refine X_e ?_ | refine X_r ?_ | refine X_bh ?_ | refine X_be ?_ | refine X_br ?_ | refine X_bn ?_ | refine X_p ?_ | refine X_bp ?_)
  rintro _ w1 ⟨b, bs, rfl, hbs, hE⟩
  have hS := hS.join hE tabR_own
  obtain ⟨bi, hbi⟩ : ∃ x, bs[0]? = some x := ⟨bs[0]'(by omega), List.getElem?_eq_getElem _⟩
  have hrow : HasSl (tabR (m + 1) (mt ws t) b bs ++ []) (some ⟨bi, 0, none⟩) (m + 1) 1 (rowC (m + 1) (mt ws t) 0) := tabRow hbi
  have e1 : (bs.map (rowV (m + 1)))[0]? = some (.slice (some ⟨bi, 0, none⟩) (m + 1) (m + 1)) := by rw [List.getElem?_map, hbi]; rfl
  have e2 : (rowC (m + 1) (mt ws t) 0)[m]? = some (.bool (mt ws t 0 m)) := rowC_at (by omega)
  repeat (first | (refine S_w ?_; first | (refine S_y hS ?_) | ((first | refine M_bA hS ?_ | refine M_b1 hS ?_ | refine M_aA hS ?_ | refine M_a1 hS ?_ | refine M_sl hS ?_ | refine M_s1 hS ?_ | refine M_mm hS ?_); clear hS; intro b w hS) | ((first | refine M_st hS ?_ | refine M_sA hS ?_ | refine M_in hS ?_ | refine M_sR hS ?_); clear hS; intro w hS; (try simp only [List.set_cons_zero, List.set_cons_succ, Nat.zero_add] at hS)) | (refine M_ap hS ?_; clear hS; intro g cap w hS) | refine M_pn ?_) | refine X_k (by (try simp only [Fm.toList, List.set_cons_succ, List.set_cons_zero]); exact rfl) ?_ | refine S_u ?_ | refine S_v ?_ | refine C_sq ?_ | refine C_rg ?_ | refine L_nil ?_ | refine C_bk ?_ | refine C_ct ?_ | refine C_cf ?_ | refine C_sk ?_ | refine C_ex ?_ | refine C_rt ?_ | refine X_e ?_ | refine X_r ?_ | refine X_bh ?_ | refine X_be ?_ | refine X_br ?_ | refine X_bn ?_ | refine X_p ?_ | refine X_bp ?_)
  refine V_2 ⟨rfl, hS.fr⟩
set_option maxHeartbeats 4000000 in
set_option maxRecDepth 100000 in
theorem acceptsE (L : List Pc) (v : Int) (ws : List Nat) (e : Int) (A Aw : Option Addr) (n c m cw : Nat) (W : World) (hA : Rd W 5 A n (rxCells L)) (hW : Rd W 1 Aw m (ws.map vb)) (hL : ∀ p ∈ L, p.ok) (hn : n ≤ 4294967296) (hm : m ≤ 4294967296) (hws : ∀ x ∈ ws, x < 256) (h : tabE L v ws = e) (he : e ≠ 0) :
    CallsR Try.prog 17 #[.slice A n c, .int .i64 v, .slice Aw m cw] W fun r w' => r = .tuple #[.bool false, .int .i64 e] ∧ Fr Nof W w' := by
  have hS := St.start Nof W
  have hT := tableE L v ws e A Aw n c m cw W hA hW hL hn hm hws h he
  refine E_r (m := 24) ?_ Try.func17 rfl Try.ntmps17 rfl; refine C_ft ?_
  repeat (first | (refine S_w ?_; first | (refine M_c (hT) ?_) | (refine S_y hS ?_) | ((first | refine M_bA hS ?_ | refine M_b1 hS ?_ | refine M_aA hS ?_ | refine M_a1 hS ?_ | refine M_sl hS ?_ | refine M_s1 hS ?_ | refine M_mm hS ?_); clear hS; intro b w hS) | ((first | refine M_st hS ?_ | refine M_sA hS ?_ | refine M_in hS ?_ | refine M_sR hS ?_); clear hS; intro w hS; (try simp only [List.set_cons_zero, List.set_cons_succ, Nat.zero_add] at hS)) | (refine M_ap hS ?_; clear hS; intro g cap w hS) | refine M_pn ?_) | refine X_k (by (try simp only [Fm.toList, List.set_cons_succ, List.set_cons_zero]); exact rfl) ?_ | refine S_u ?_ | refine S_v ?_ | refine C_sq ?_ | refine C_rg ?_ | refine L_nil ?_ | refine C_bk ?_ | refine C_ct ?_ | refine C_cf ?_ | refine C_sk ?_ | refine C_ex ?_ | refine C_rt ?_ | refine X_e ?_ | refine X_r ?_ | refine X_bh ?_ | refine X_be ?_ | refine X_br ?_ | refine X_bn ?_ | refine X_p ?_ | refine X_bp ?_)
  rintro _ w1 ⟨rfl, hb⟩
  have hS := hS.call hb
  repeat (first | (refine S_w ?_; first | (refine S_y hS ?_) | ((first | refine M_bA hS ?_ | refine M_b1 hS ?_ | refine M_aA hS ?_ | refine M_a1 hS ?_ | refine M_sl hS ?_ | refine M_s1 hS ?_ | refine M_mm hS ?_); clear hS; intro b w hS) | ((first | refine M_st hS ?_ | refine M_sA hS ?_ | refine M_in hS ?_ | refine M_sR hS ?_); clear hS; intro w hS; (try simp only [List.set_cons_zero, List.set_cons_succ, Nat.zero_add] at hS)) | (refine M_ap hS ?_; clear hS; intro g cap w hS) | refine M_pn ?_) | refine X_k (by (try simp only [Fm.toList, List.set_cons_succ, List.set_cons_zero]); exact rfl) ?_ | refine S_u ?_ | refine S_v ?_ | refine C_sq ?_ | refine C_rg ?_ | refine L_nil ?_ | refine C_bk ?_ | refine C_ct ?_ | refine C_cf ?_ | refine C_sk ?_ | refine C_ex ?_ | refine C_rt ?_ | refine X_e ?_ | refine X_r ?_ | refine X_bh ?_ | refine X_be ?_ | refine X_br ?_ | refine X_bn ?_ | refine X_p ?_ | refine X_bp ?_)
  refine V_2 ⟨rfl, hS.fr⟩
/-! Nullable -/
def nulE (L : List Pc) (v : Int) : Int := if chkR L v ≠ 0 then chkR L v else if plnR L v then 0 else 6
set_option maxHeartbeats 4000000 in
set_option maxRecDepth 100000 in
theorem nullE (L : List Pc) (v e : Int) (A : Option Addr) (n c : Nat) (W : World) (hA : Rd W 5 A n (rxCells L)) (hL : ∀ p ∈ L, p.ok) (hn : n ≤ 4294967296) (h : nulE L v = e) (he : e ≠ 0) :
    CallsR Try.prog 25 #[.slice A n c, .int .i64 v] W fun r w' => r = .tuple #[.bool false, .int .i64 e] ∧ Fr Nof W w' := by
  have hS := St.start Nof W
  have hT := plainR A n c L v W hA hL hn
  refine E_r (m := 25) ?_ Try.func25 rfl Try.ntmps25 rfl; refine C_ft ?_
  repeat (first | (refine S_w ?_; first | (refine M_c (hT) ?_) | (refine S_y hS ?_) | ((first | refine M_bA hS ?_ | refine M_b1 hS ?_ | refine M_aA hS ?_ | refine M_a1 hS ?_ | refine M_sl hS ?_ | refine M_s1 hS ?_ | refine M_mm hS ?_); clear hS; intro b w hS) | ((first | refine M_st hS ?_ | refine M_sA hS ?_ | refine M_in hS ?_ | refine M_sR hS ?_); clear hS; intro w hS; (try simp only [List.set_cons_zero, List.set_cons_succ, Nat.zero_add] at hS)) | (refine M_ap hS ?_; clear hS; intro g cap w hS) | refine M_pn ?_) | refine X_k (by (try simp only [Fm.toList, List.set_cons_succ, List.set_cons_zero]); exact rfl) ?_ | refine S_u ?_ | refine S_v ?_ | refine C_sq ?_ | refine C_rg ?_ | refine L_nil ?_ | refine C_bk ?_ | refine C_ct ?_ | refine C_cf ?_ | refine C_sk ?_ | refine C_ex ?_ | refine C_rt ?_ | refine X_e ?_ | refine X_r ?_ | refine X_bh ?_ | refine X_be ?_ | refine X_br ?_ | refine X_bn ?_ | refine X_p ?_ | refine X_bp ?_)
  rintro _ w1 ⟨rfl, hb⟩
  have hS := hS.call hb
  unfold nulE at h
  by_cases h0 : chkR L v = 0
  · rw [if_neg (by simpa using h0)] at h
    rw [h0]
    cases hp : plnR L v with
    | true => rw [hp] at h; exact absurd h.symm he
    | false =>
      rw [hp] at h
      subst h
      repeat (first | (refine S_w ?_; first | (refine S_y hS ?_) | ((first | refine M_bA hS ?_ | refine M_b1 hS ?_ | refine M_aA hS ?_ | refine M_a1 hS ?_ | refine M_sl hS ?_ | refine M_s1 hS ?_ | refine M_mm hS ?_); clear hS; intro b w hS) | ((first | refine M_st hS ?_ | refine M_sA hS ?_ | refine M_in hS ?_ | refine M_sR hS ?_); clear hS; intro w hS; (try simp only [List.set_cons_zero, List.set_cons_succ, Nat.zero_add] at hS)) | (refine M_ap hS ?_; clear hS; intro g cap w hS) | refine M_pn ?_) | refine X_k (by (try simp only [Fm.toList, List.set_cons_succ, List.set_cons_zero]); exact rfl) ?_ | refine S_u ?_ | refine S_v ?_ | refine C_sq ?_ | refine C_rg ?_ | refine L_nil ?_ | refine C_bk ?_ | refine C_ct ?_ | refine C_cf ?_ | refine C_sk ?_ | refine C_ex ?_ | refine C_rt ?_ | refine X_e ?_ | refine X_r ?_ | refine X_bh ?_ | refine X_be ?_ | refine X_br ?_ | refine X_bn ?_ | refine X_p ?_ | refine X_bp ?_)
      refine V_2 ⟨rfl, hS.fr⟩
  · rw [if_pos h0] at h
    subst h
    repeat (first | (refine S_w ?_; first | (refine S_y hS ?_) | ((first | refine M_bA hS ?_ | refine M_b1 hS ?_ | refine M_aA hS ?_ | refine M_a1 hS ?_ | refine M_sl hS ?_ | refine M_s1 hS ?_ | refine M_mm hS ?_); clear hS; intro b w hS) | ((first | refine M_st hS ?_ | refine M_sA hS ?_ | refine M_in hS ?_ | refine M_sR hS ?_); clear hS; intro w hS; (try simp only [List.set_cons_zero, List.set_cons_succ, Nat.zero_add] at hS)) | (refine M_ap hS ?_; clear hS; intro g cap w hS) | refine M_pn ?_) | refine X_k (by (try simp only [Fm.toList, List.set_cons_succ, List.set_cons_zero]); exact rfl) ?_ | refine S_u ?_ | refine S_v ?_ | refine C_sq ?_ | refine C_rg ?_ | refine L_nil ?_ | refine C_bk ?_ | refine C_ct ?_ | refine C_cf ?_ | refine C_sk ?_ | refine C_ex ?_ | refine C_rt ?_ | refine X_e ?_ | refine X_r ?_ | refine X_bh ?_ | refine X_be ?_ | refine X_br ?_ | refine X_bn ?_ | refine X_p ?_ | refine X_bp ?_)
    refine V_2 ⟨rfl, hS.fr⟩
set_option maxHeartbeats 4000000 in
set_option maxRecDepth 100000 in
theorem nullT (t : T) (v : Int) (A : Option Addr) (n c : Nat) (W : World) (hA : Rd W 5 A n (rxCells (t.flat 0))) (hv : 0 ≤ v ∧ v ≤ 6) (h1 : t.wf v) (h2 : t.free true = true) (h3 : t.size ≤ 64) (hp : t.plain = true) :
    CallsR Try.prog 25 #[.slice A n c, .int .i64 v] W fun r w' => r = .tuple #[.bool (mt [] t 0 0), .int .i64 0] ∧ Fr Nof W w' := by
  have hsz : t.size = n := by have := hA.1; rw [rxCells_len, T.flat_len] at this; omega
  have hc0 : chkR (t.flat 0) v = 0 := chkR_zero.2 ⟨hv, t, h1, h2, h3, rfl⟩
  have hpl : plnR (t.flat 0) v = true := by rw [plnR, if_pos hc0, plnB_flat]; exact hp
  have hok := flat_ok t 0 (wf_up t h1) (by omega)
  have hsp := T.size_pos t
  have hS := (St.start Nof W).addRo (r := Res.rd 5 A n (rxCells (t.flat 0))) hA rfl (fun _ h => by cases h)
  refine E_r (m := 25) ?_ Try.func25 rfl Try.ntmps25 rfl; refine C_ft ?_
  repeat (first | (refine S_w ?_; first | (refine M_c (plainR A n c (t.flat 0) v _ hS.rdAtM hok (by omega)) ?_) | (refine S_y hS ?_) | ((first | refine M_bA hS ?_ | refine M_b1 hS ?_ | refine M_aA hS ?_ | refine M_a1 hS ?_ | refine M_sl hS ?_ | refine M_s1 hS ?_ | refine M_mm hS ?_); clear hS; intro b w hS) | ((first | refine M_st hS ?_ | refine M_sA hS ?_ | refine M_in hS ?_ | refine M_sR hS ?_); clear hS; intro w hS; (try simp only [List.set_cons_zero, List.set_cons_succ, Nat.zero_add] at hS)) | (refine M_ap hS ?_; clear hS; intro g cap w hS) | refine M_pn ?_) | refine X_k (by (try simp only [Fm.toList, List.set_cons_succ, List.set_cons_zero]); exact rfl) ?_ | refine S_u ?_ | refine S_v ?_ | refine C_sq ?_ | refine C_rg ?_ | refine L_nil ?_ | refine C_bk ?_ | refine C_ct ?_ | refine C_cf ?_ | refine C_sk ?_ | refine C_ex ?_ | refine C_rt ?_ | refine X_e ?_ | refine X_r ?_ | refine X_bh ?_ | refine X_be ?_ | refine X_br ?_ | refine X_bn ?_ | refine X_p ?_ | refine X_bp ?_)
  rintro _ w1 ⟨rfl, hb⟩
  have hS := hS.call hb
  rw [hc0, hpl]
  repeat (first | (refine S_w ?_; first | (refine M_c (evalR (t.flat 0) [] A none n c 0 0 _ hS.rdAtM Rd.nil hok (tree_kids h1) (fun _ h => by cases h) (by omega) (by omega) (by omega)) ?_) | (refine S_y hS ?_) | ((first | refine M_bA hS ?_ | refine M_b1 hS ?_ | refine M_aA hS ?_ | refine M_a1 hS ?_ | refine M_sl hS ?_ | refine M_s1 hS ?_ | refine M_mm hS ?_); clear hS; intro b w hS) | ((first | refine M_st hS ?_ | refine M_sA hS ?_ | refine M_in hS ?_ | refine M_sR hS ?_); clear hS; intro w hS; (try simp only [List.set_cons_zero, List.set_cons_succ, Nat.zero_add] at hS)) | (refine M_ap hS ?_; clear hS; intro g cap w hS) | refine M_pn ?_) | refine X_k (by (try simp only [Fm.toList, List.set_cons_succ, List.set_cons_zero]); exact rfl) ?_ | refine S_u ?_ | refine S_v ?_ | refine C_sq ?_ | refine C_rg ?_ | refine L_nil ?_ | refine C_bk ?_ | refine C_ct ?_ | refine C_cf ?_ | refine C_sk ?_ | refine C_ex ?_ | refine C_rt ?_ | refine X_e ?_ | refine X_r ?_ | refine X_bh ?_ | refine X_be ?_ | refine X_br ?_ | refine X_bn ?_ | refine X_p ?_ | refine X_bp ?_)
  rintro _ w3 ⟨b, bs, rfl, hbs, hE⟩
  have ht := tree_tab h1 []
  rw [hsz] at ht
  rw [ht] at hE
  have hS := hS.join hE tabR_own
  obtain ⟨bi, hbi⟩ : ∃ x, bs[0]? = some x := ⟨bs[0]'(by omega), List.getElem?_eq_getElem _⟩
  have hrow : HasSl (tabR (0 + 1) (mt [] t) b bs ++ [Res.rd 5 A n (rxCells (t.flat 0))]) (some ⟨bi, 0, none⟩) (0 + 1) 1 (rowC (0 + 1) (mt [] t) 0) := tabRow hbi
  have e1 : (bs.map (rowV (0 + 1)))[0]? = some (.slice (some ⟨bi, 0, none⟩) (0 + 1) (0 + 1)) := by rw [List.getElem?_map, hbi]; rfl
  have e2 : (rowC (0 + 1) (mt [] t) 0)[0]? = some (.bool (mt [] t 0 0)) := rowC_at (by omega)
  repeat (first | (refine S_w ?_; first | (refine S_y hS ?_) | ((first | refine M_bA hS ?_ | refine M_b1 hS ?_ | refine M_aA hS ?_ | refine M_a1 hS ?_ | refine M_sl hS ?_ | refine M_s1 hS ?_ | refine M_mm hS ?_); clear hS; intro b w hS) | ((first | refine M_st hS ?_ | refine M_sA hS ?_ | refine M_in hS ?_ | refine M_sR hS ?_); clear hS; intro w hS; (try simp only [List.set_cons_zero, List.set_cons_succ, Nat.zero_add] at hS)) | (refine M_ap hS ?_; clear hS; intro g cap w hS) | refine M_pn ?_) | refine X_k (by (try simp only [Fm.toList, List.set_cons_succ, List.set_cons_zero]); exact rfl) ?_ | refine S_u ?_ | refine S_v ?_ | refine C_sq ?_ | refine C_rg ?_ | refine L_nil ?_ | refine C_bk ?_ | refine C_ct ?_ | refine C_cf ?_ | refine C_sk ?_ | refine C_ex ?_ | refine C_rt ?_ | refine X_e ?_ | refine X_r ?_ | refine X_bh ?_ | refine X_be ?_ | refine X_br ?_ | refine X_bn ?_ | refine X_p ?_ | refine X_bp ?_)
  refine V_2 ⟨rfl, hS.fr⟩
/-! Spans -/
def rowL (f : Tab) (i j : Nat) : List (Nat × Nat) := ((List.range j).filter (f i)).map fun j => (i, j)
def spTo (f : Tab) (n i : Nat) : List (Nat × Nat) := (List.range i).flatMap fun i => rowL f i n
def spC (l : List (Nat × Nat)) : List Value := l.flatMap fun x => [.int .i64 (x.1 : Nat), .int .i64 (x.2 : Nat)]
theorem spC_len (l : List (Nat × Nat)) : (spC l).length = l.length * 2 := by
  induction l with
  | nil => rfl
  | cons x l ih => rw [spC, List.flatMap_cons, List.length_append, List.length_cons, ← spC, ih]; simp; omega
theorem rowL_succ (f : Tab) (i j : Nat) : rowL f i (j + 1) = rowL f i j ++ if f i j then [(i, j)] else [] := by
  simp only [rowL, List.range_succ, List.filter_append, List.filter_cons, List.filter_nil, List.map_append]
  split <;> rfl
theorem rowL_len (f : Tab) (i j : Nat) : (rowL f i j).length ≤ j := by
  have := List.length_filter_le (f i) (List.range j)
  simpa [rowL] using this
theorem spTo_succ (f : Tab) (n i : Nat) : spTo f n (i + 1) = spTo f n i ++ rowL f i n := by
  simp [spTo, List.range_succ]
theorem spTo_len (f : Tab) (n : Nat) : ∀ i, (spTo f n i).length ≤ i * n
  | 0 => Nat.zero_le _
  | i + 1 => by
    have := spTo_len f n i
    have := rowL_len f i n
    rw [spTo_succ, List.length_append, Nat.add_mul, Nat.one_mul]
    omega
set_option maxHeartbeats 8000000 in
set_option maxRecDepth 100000 in
theorem spansT (t : T) (v : Int) (ws : List Nat) (A Aw : Option Addr) (n c m cw : Nat) (W : World) (hA : Rd W 5 A n (rxCells (t.flat 0))) (hW : Rd W 1 Aw m (ws.map vb)) (hv : 0 ≤ v ∧ v ≤ 6) (h1 : t.wf v) (h2 : t.free true = true) (h3 : t.size ≤ 64) (hm : m ≤ 64) (hws : ∀ x ∈ ws, x < two v.toNat) :
    CallsR Try.prog 18 #[.slice A n c, .int .i64 v, .slice Aw m cw] W fun r w' => ∃ A' c', r = .tuple #[.slice A' (spTo (mt ws t) (m + 1) (m + 1)).length c', .int .i64 0] ∧ w'.ownsRow W.heap.size 37 2 (.slice A' (spTo (mt ws t) (m + 1) (m + 1)).length c') (spTo (mt ws t) (m + 1) (m + 1)).length (spC (spTo (mt ws t) (m + 1) (m + 1))) ∧ Fr Nof W w' := by
  have hS := St.start Nof W
  have hT := tableT t v ws A Aw n c m cw W hA hW hv h1 h2 h3 hm hws
  generalize mt ws t = f at hT ⊢
  obtain ⟨N, hN⟩ : ∃ N, m + 1 = N := ⟨_, rfl⟩
  rw [hN] at hT ⊢
  refine E_r (m := 42) ?_ Try.func18 rfl Try.ntmps18 rfl; refine C_ft ?_
  repeat (first | (refine S_w ?_; first | (refine M_c (hT) ?_) | (refine S_y hS ?_) | ((first | refine M_bA hS ?_ | refine M_b1 hS ?_ | refine M_aA hS ?_ | refine M_a1 hS ?_ | refine M_sl hS ?_ | refine M_s1 hS ?_ | refine M_mm hS ?_); clear hS; intro b w hS) | ((first | refine M_st hS ?_ | refine M_sA hS ?_ | refine M_in hS ?_ | refine M_sR hS ?_); clear hS; intro w hS; (try simp only [List.set_cons_zero, List.set_cons_succ, Nat.zero_add] at hS)) | (refine M_ap hS ?_; clear hS; intro g cap w hS) | refine M_pn ?_) | refine X_k (by (try simp only [Fm.toList, List.set_cons_succ, List.set_cons_zero]); exact rfl) ?_ | refine S_u ?_ | refine S_v ?_ | refine C_sq ?_ | refine C_rg ?_ | refine L_nil ?_ | refine C_bk ?_ | refine C_ct ?_ | refine C_cf ?_ | refine C_sk ?_ | refine C_ex ?_ | refine C_rt ?_ | refine X_e ?_ | refine X_r ?_ | refine X_bh ?_ | refine X_be ?_ | refine X_br ?_ | refine X_bn ?_ | refine X_p ?_ | refine X_bp ?_)
  rintro _ w1 ⟨b, bs, rfl, hbs, hE⟩
  have hS := (hS.join hE tabR_own).rowNil 37 2
  repeat (first | (refine S_w ?_; first | (refine S_y hS ?_) | ((first | refine M_bA hS ?_ | refine M_b1 hS ?_ | refine M_aA hS ?_ | refine M_a1 hS ?_ | refine M_sl hS ?_ | refine M_s1 hS ?_ | refine M_mm hS ?_); clear hS; intro b w hS) | ((first | refine M_st hS ?_ | refine M_sA hS ?_ | refine M_in hS ?_ | refine M_sR hS ?_); clear hS; intro w hS; (try simp only [List.set_cons_zero, List.set_cons_succ, Nat.zero_add] at hS)) | (refine M_ap hS ?_; clear hS; intro g cap w hS) | refine M_pn ?_) | refine X_k (by (try simp only [Fm.toList, List.set_cons_succ, List.set_cons_zero]); exact rfl) ?_ | refine S_u ?_ | refine S_v ?_ | refine C_sq ?_ | refine C_rg ?_ | refine L_nil ?_ | refine C_bk ?_ | refine C_ct ?_ | refine C_cf ?_ | refine C_sk ?_ | refine C_ex ?_ | refine C_rt ?_ | refine X_e ?_ | refine X_r ?_ | refine X_bh ?_ | refine X_be ?_ | refine X_br ?_ | refine X_bn ?_ | refine X_p ?_ | refine X_bp ?_)
  refine C_lp [6, 1, 2, 4, 9, 21, 2] (fun s : Nat × Option Addr × Nat => [(6, .slice s.2.1 (spTo f N s.1).length s.2.2), (22, .int .i64 (s.1 : Nat))]) (fun s w' => s.1 ≤ N ∧ St Nof W (Res.row 37 2 (.slice s.2.1 (spTo f N s.1).length s.2.2) (spTo f N s.1).length (spC (spTo f N s.1)) :: (tabR N f b bs ++ [])) w') (fun s => N - s.1) (0, none, 0) ⟨Nat.zero_le _, hS⟩ ?_
  clear hS
  rintro ⟨i, A1, c1⟩ y w ⟨hi, hS⟩
  simp only at hi hS
  refine C_fs ?_
  have hlt1 := spTo_len f N i
  by_cases hlt : i < N
  · obtain ⟨bi, hbi⟩ : ∃ x, bs[i]? = some x := ⟨bs[i]'(by omega), List.getElem?_eq_getElem _⟩
    have hrow : HasSl (tabR N f b bs ++ []) (some ⟨bi, 0, none⟩) N 1 (rowC N f i) := tabRow hbi
    have e1 : (bs.map (rowV N))[i]? = some (.slice (some ⟨bi, 0, none⟩) N N) := by rw [List.getElem?_map, hbi]; rfl
    repeat (first | (refine S_w ?_; first | (refine S_y hS ?_) | ((first | refine M_bA hS ?_ | refine M_b1 hS ?_ | refine M_aA hS ?_ | refine M_a1 hS ?_ | refine M_sl hS ?_ | refine M_s1 hS ?_ | refine M_mm hS ?_); clear hS; intro b w hS) | ((first | refine M_st hS ?_ | refine M_sA hS ?_ | refine M_in hS ?_ | refine M_sR hS ?_); clear hS; intro w hS; (try simp only [List.set_cons_zero, List.set_cons_succ, Nat.zero_add] at hS)) | (refine M_ap hS ?_; clear hS; intro g cap w hS) | refine M_pn ?_) | refine X_k (by (try simp only [Fm.toList, List.set_cons_succ, List.set_cons_zero]); exact rfl) ?_ | refine S_u ?_ | refine S_v ?_ | refine C_sq ?_ | refine C_rg ?_ | refine L_nil ?_ | refine C_bk ?_ | refine C_ct ?_ | refine C_cf ?_ | refine C_sk ?_ | refine C_ex ?_ | refine C_rt ?_ | refine X_e ?_ | refine X_r ?_ | refine X_bh ?_ | refine X_be ?_ | refine X_br ?_ | refine X_bn ?_ | refine X_p ?_ | refine X_bp ?_)
    have hNN : i * N ≤ 65 * 65 := Nat.mul_le_mul (by omega) (by omega)
    refine C_lp [6, 1, 4, 2, 16, 13, 3] (fun s : Nat × Nat × List (Nat × Nat) × Option Addr × Nat => [(6, .slice s.2.2.2.1 s.2.1 s.2.2.2.2), (29, .int .i64 (s.1 : Nat))]) (fun s w' => s.1 ≤ N ∧ s.2.1 = s.2.2.1.length ∧ s.2.2.1 = spTo f N i ++ rowL f i s.1 ∧ St Nof W (Res.row 37 2 (.slice s.2.2.2.1 s.2.1 s.2.2.2.2) s.2.1 (spC s.2.2.1) :: (tabR N f b bs ++ [])) w') (fun s => N - s.1) (0, (spTo f N i).length, spTo f N i, A1, c1) ⟨Nat.zero_le _, rfl, by simp [rowL], hS⟩ ?_
    clear hS
    rintro ⟨j, k, l, A2, c2⟩ y2 w ⟨hj, hk, hl, hS⟩
    simp only at hj hk hl hS
    refine C_fs ?_
    have hl2 := rowL_len f i j
    have hll : k = (spTo f N i).length + (rowL f i j).length := by rw [hk, hl, List.length_append]
    by_cases hlt2 : j < N
    · cases hf : f i j with
      | true =>
        have e2 : (rowC N f i)[j]? = some (.bool true) := by rw [rowC_at hlt2, hf]
        have hsp : spC (l ++ [(i, j)]) = spC l ++ [.int .i64 (i : Nat), .int .i64 (j : Nat)] := by simp [spC]
        repeat (first | (refine S_w ?_; first | (refine S_q hS YbP ?_) | (refine S_y hS ?_) | ((first | refine M_bA hS ?_ | refine M_b1 hS ?_ | refine M_aA hS ?_ | refine M_a1 hS ?_ | refine M_sl hS ?_ | refine M_s1 hS ?_ | refine M_mm hS ?_); clear hS; intro b w hS) | ((first | refine M_st hS ?_ | refine M_sA hS ?_ | refine M_in hS ?_ | refine M_sR hS ?_); clear hS; intro w hS; (try simp only [List.set_cons_zero, List.set_cons_succ, Nat.zero_add] at hS)) | (refine M_ap hS ?_; clear hS; intro g cap w hS) | refine M_pn ?_) | refine X_k (by (try simp only [Fm.toList, List.set_cons_succ, List.set_cons_zero]); exact rfl) ?_ | refine S_u ?_ | refine S_v ?_ | refine C_sq ?_ | refine C_rg ?_ | refine L_nil ?_ | refine C_bk ?_ | refine C_ct ?_ | refine C_cf ?_ | refine C_sk ?_ | refine C_ex ?_ | refine C_rt ?_ | refine X_e ?_ | refine X_r ?_ | refine X_bh ?_ | refine X_be ?_ | refine X_br ?_ | refine X_bn ?_ | refine X_p ?_ | refine X_bp ?_)
        refine R_e (j + 1, k + 1, l ++ [(i, j)], _, _) ⟨by simp only; omega, by simp only [List.length_append, List.length_cons, List.length_nil]; omega, by simp only; rw [rowL_succ, hf, hl, List.append_assoc]; rfl, ?_⟩ (by simp only; omega)
        simp only [hsp]
        exact hS.sb
      | false =>
        have e2 : (rowC N f i)[j]? = some (.bool false) := by rw [rowC_at hlt2, hf]
        repeat (first | (refine S_w ?_; first | (refine S_y hS ?_) | ((first | refine M_bA hS ?_ | refine M_b1 hS ?_ | refine M_aA hS ?_ | refine M_a1 hS ?_ | refine M_sl hS ?_ | refine M_s1 hS ?_ | refine M_mm hS ?_); clear hS; intro b w hS) | ((first | refine M_st hS ?_ | refine M_sA hS ?_ | refine M_in hS ?_ | refine M_sR hS ?_); clear hS; intro w hS; (try simp only [List.set_cons_zero, List.set_cons_succ, Nat.zero_add] at hS)) | (refine M_ap hS ?_; clear hS; intro g cap w hS) | refine M_pn ?_) | refine X_k (by (try simp only [Fm.toList, List.set_cons_succ, List.set_cons_zero]); exact rfl) ?_ | refine S_u ?_ | refine S_v ?_ | refine C_sq ?_ | refine C_rg ?_ | refine L_nil ?_ | refine C_bk ?_ | refine C_ct ?_ | refine C_cf ?_ | refine C_sk ?_ | refine C_ex ?_ | refine C_rt ?_ | refine X_e ?_ | refine X_r ?_ | refine X_bh ?_ | refine X_be ?_ | refine X_br ?_ | refine X_bn ?_ | refine X_p ?_ | refine X_bp ?_)
        refine R_e (j + 1, k, l, _, _) ⟨by simp only; omega, hk, by simp only; rw [rowL_succ, hf, hl]; simp, hS⟩ (by simp only; omega)
    obtain rfl : j = N := by omega
    rw [← spTo_succ] at hl
    subst hl
    subst hk
    repeat (first | (refine S_w ?_; first | (refine S_y hS ?_) | ((first | refine M_bA hS ?_ | refine M_b1 hS ?_ | refine M_aA hS ?_ | refine M_a1 hS ?_ | refine M_sl hS ?_ | refine M_s1 hS ?_ | refine M_mm hS ?_); clear hS; intro b w hS) | ((first | refine M_st hS ?_ | refine M_sA hS ?_ | refine M_in hS ?_ | refine M_sR hS ?_); clear hS; intro w hS; (try simp only [List.set_cons_zero, List.set_cons_succ, Nat.zero_add] at hS)) | (refine M_ap hS ?_; clear hS; intro g cap w hS) | refine M_pn ?_) | refine X_k (by (try simp only [Fm.toList, List.set_cons_succ, List.set_cons_zero]); exact rfl) ?_ | refine S_u ?_ | refine S_v ?_ | refine C_sq ?_ | refine C_rg ?_ | refine L_nil ?_ | refine C_bk ?_ | refine C_ct ?_ | refine C_cf ?_ | refine C_sk ?_ | refine C_ex ?_ | refine C_rt ?_ | refine X_e ?_ | refine X_r ?_ | refine X_bh ?_ | refine X_be ?_ | refine X_br ?_ | refine X_bn ?_ | refine X_p ?_ | refine X_bp ?_)
    refine R_e (i + 1, _, _) ⟨by simp only; omega, hS⟩ (by simp only; omega)
  obtain rfl : i = N := by omega
  repeat (first | (refine S_w ?_; first | (refine S_y hS ?_) | ((first | refine M_bA hS ?_ | refine M_b1 hS ?_ | refine M_aA hS ?_ | refine M_a1 hS ?_ | refine M_sl hS ?_ | refine M_s1 hS ?_ | refine M_mm hS ?_); clear hS; intro b w hS) | ((first | refine M_st hS ?_ | refine M_sA hS ?_ | refine M_in hS ?_ | refine M_sR hS ?_); clear hS; intro w hS; (try simp only [List.set_cons_zero, List.set_cons_succ, Nat.zero_add] at hS)) | (refine M_ap hS ?_; clear hS; intro g cap w hS) | refine M_pn ?_) | refine X_k (by (try simp only [Fm.toList, List.set_cons_succ, List.set_cons_zero]); exact rfl) ?_ | refine S_u ?_ | refine S_v ?_ | refine C_sq ?_ | refine C_rg ?_ | refine L_nil ?_ | refine C_bk ?_ | refine C_ct ?_ | refine C_cf ?_ | refine C_sk ?_ | refine C_ex ?_ | refine C_rt ?_ | refine X_e ?_ | refine X_r ?_ | refine X_bh ?_ | refine X_be ?_ | refine X_br ?_ | refine X_bn ?_ | refine X_p ?_ | refine X_bp ?_)
  refine V_2 ⟨_, _, rfl, hS.rowOwnM, hS.fr⟩
set_option maxHeartbeats 4000000 in
set_option maxRecDepth 100000 in
theorem spansE (L : List Pc) (v : Int) (ws : List Nat) (e : Int) (A Aw : Option Addr) (n c m cw : Nat) (W : World) (hA : Rd W 5 A n (rxCells L)) (hW : Rd W 1 Aw m (ws.map vb)) (hL : ∀ p ∈ L, p.ok) (hn : n ≤ 4294967296) (hm : m ≤ 4294967296) (hws : ∀ x ∈ ws, x < 256) (h : tabE L v ws = e) (he : e ≠ 0) :
    CallsR Try.prog 18 #[.slice A n c, .int .i64 v, .slice Aw m cw] W fun r w' => r = .tuple #[.slice none 0 0, .int .i64 e] ∧ Fr Nof W w' := by
  have hS := St.start Nof W
  have hT := tableE L v ws e A Aw n c m cw W hA hW hL hn hm hws h he
  refine E_r (m := 42) ?_ Try.func18 rfl Try.ntmps18 rfl; refine C_ft ?_
  repeat (first | (refine S_w ?_; first | (refine M_c (hT) ?_) | (refine S_y hS ?_) | ((first | refine M_bA hS ?_ | refine M_b1 hS ?_ | refine M_aA hS ?_ | refine M_a1 hS ?_ | refine M_sl hS ?_ | refine M_s1 hS ?_ | refine M_mm hS ?_); clear hS; intro b w hS) | ((first | refine M_st hS ?_ | refine M_sA hS ?_ | refine M_in hS ?_ | refine M_sR hS ?_); clear hS; intro w hS; (try simp only [List.set_cons_zero, List.set_cons_succ, Nat.zero_add] at hS)) | (refine M_ap hS ?_; clear hS; intro g cap w hS) | refine M_pn ?_) | refine X_k (by (try simp only [Fm.toList, List.set_cons_succ, List.set_cons_zero]); exact rfl) ?_ | refine S_u ?_ | refine S_v ?_ | refine C_sq ?_ | refine C_rg ?_ | refine L_nil ?_ | refine C_bk ?_ | refine C_ct ?_ | refine C_cf ?_ | refine C_sk ?_ | refine C_ex ?_ | refine C_rt ?_ | refine X_e ?_ | refine X_r ?_ | refine X_bh ?_ | refine X_be ?_ | refine X_br ?_ | refine X_bn ?_ | refine X_p ?_ | refine X_bp ?_)
  rintro _ w1 ⟨rfl, hb⟩
  have hS := hS.call hb
  repeat (first | (refine S_w ?_; first | (refine S_y hS ?_) | ((first | refine M_bA hS ?_ | refine M_b1 hS ?_ | refine M_aA hS ?_ | refine M_a1 hS ?_ | refine M_sl hS ?_ | refine M_s1 hS ?_ | refine M_mm hS ?_); clear hS; intro b w hS) | ((first | refine M_st hS ?_ | refine M_sA hS ?_ | refine M_in hS ?_ | refine M_sR hS ?_); clear hS; intro w hS; (try simp only [List.set_cons_zero, List.set_cons_succ, Nat.zero_add] at hS)) | (refine M_ap hS ?_; clear hS; intro g cap w hS) | refine M_pn ?_) | refine X_k (by (try simp only [Fm.toList, List.set_cons_succ, List.set_cons_zero]); exact rfl) ?_ | refine S_u ?_ | refine S_v ?_ | refine C_sq ?_ | refine C_rg ?_ | refine L_nil ?_ | refine C_bk ?_ | refine C_ct ?_ | refine C_cf ?_ | refine C_sk ?_ | refine C_ex ?_ | refine C_rt ?_ | refine X_e ?_ | refine X_r ?_ | refine X_bh ?_ | refine X_be ?_ | refine X_br ?_ | refine X_bn ?_ | refine X_p ?_ | refine X_bp ?_)
  refine C_lp [6, 1, 2, 4, 9, 21, 2] (fun s : Unit => [(6, .slice none 0 0), (22, .int .i64 (0 : Nat))]) (fun s w' => St Nof W [] w') (fun s => 0) () hS ?_
  clear hS
  rintro _ y w hS
  refine C_fs ?_
  repeat (first | (refine S_w ?_; first | (refine S_y hS ?_) | ((first | refine M_bA hS ?_ | refine M_b1 hS ?_ | refine M_aA hS ?_ | refine M_a1 hS ?_ | refine M_sl hS ?_ | refine M_s1 hS ?_ | refine M_mm hS ?_); clear hS; intro b w hS) | ((first | refine M_st hS ?_ | refine M_sA hS ?_ | refine M_in hS ?_ | refine M_sR hS ?_); clear hS; intro w hS; (try simp only [List.set_cons_zero, List.set_cons_succ, Nat.zero_add] at hS)) | (refine M_ap hS ?_; clear hS; intro g cap w hS) | refine M_pn ?_) | refine X_k (by (try simp only [Fm.toList, List.set_cons_succ, List.set_cons_zero]); exact rfl) ?_ | refine S_u ?_ | refine S_v ?_ | refine C_sq ?_ | refine C_rg ?_ | refine L_nil ?_ | refine C_bk ?_ | refine C_ct ?_ | refine C_cf ?_ | refine C_sk ?_ | refine C_ex ?_ | refine C_rt ?_ | refine X_e ?_ | refine X_r ?_ | refine X_bh ?_ | refine X_be ?_ | refine X_br ?_ | refine X_bn ?_ | refine X_p ?_ | refine X_bp ?_)
  refine V_2 ⟨rfl, hS.fr⟩
end Go.Proofs.Ytebdkmfgfjanoaa
