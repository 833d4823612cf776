/-
  MatchExamples: the chapter's examples, the order of errors, the limits. No conditions.
-/
import Derived.Test.YtebdkmfgfjanoaaMtAwake
import Derived.Test.YtebdkmfgfjanoaaOpenRx
namespace Go.Proofs.Ytebdkmfgfjanoaa
open Go.RowKit

theorem prs_text' {v : Int} {t : T} (hv : 0 ≤ v ∧ v ≤ 6) (h1 : t.wf v) (h2 : t.free true = true) (h3 : t.size ≤ 64) : prsL t.text v = t.flat 0 := by
  have hl := T.text_len t
  have hg : prsG t.text = .ok t [] := by
    have := pExpr_text t (wf_up t h1) (2 * t.text.length + 1) [] (by omega)
    rwa [List.append_nil] at this
  have hc : chkR (t.flat 0) v = 0 := chkR_zero.2 ⟨hv, t, h1, h2, h3, rfl⟩
  have hE : prsE t.text v = 0 := by rw [prsE, if_neg (by omega), if_neg (by omega), hg]; exact hc
  rw [prsL, if_pos hE, hg]
def wfD (v : Int) : (t : T) → Decidable (t.wf v)
  | .none => inferInstanceAs (Decidable True)
  | .empty => inferInstanceAs (Decidable True)
  | .letter p n => inferInstanceAs (Decidable (chk p n v = 0))
  | .un op a => have := wfD v a; inferInstanceAs (Decidable (kids op = 1 ∧ a.wf v))
  | .bin op a b => have := wfD v a; have := wfD v b; inferInstanceAs (Decidable (kids op = 2 ∧ a.wf v ∧ b.wf v))
instance {v : Int} {t : T} : Decidable (t.wf v) := wfD v t
/-- the long expression -/
def lng : Nat → T
  | 0 => .letter 1 0
  | k + 1 => .bin 4 (.un 8 (.letter 1 0)) (lng k)
theorem lng_text (k : Nat) : (lng (k + 1)).text = [40, 40, 91, 97, 93, 42, 41, 46] ++ (lng k).text ++ [41] := by
  show opB 4 ++ ((T.un 8 (.letter 1 0)).text ++ (opM 4 ++ ((lng k).text ++ opA 4))) = _
  have h1 : opB 4 = [40] := rfl
  have h2 : (T.un 8 (.letter 1 0)).text = [40, 91, 97, 93, 42, 41] := by decide +kernel
  have h3 : opM 4 = [46] := rfl
  have h4 : opA 4 = [41] := rfl
  rw [h1, h2, h3, h4]; simp
theorem lng_zero : (lng 0).text = [91, 97, 93] := by decide +kernel
theorem lng_size : ∀ k, (lng k).size = 3 * k + 1
  | 0 => rfl
  | k + 1 => by show 2 + (lng k).size + 1 = _; rw [lng_size k]; omega
theorem lng_len : ∀ k, (lng k).text.length = 9 * k + 3
  | 0 => by rw [lng_zero]; rfl
  | k + 1 => by rw [lng_text]; simp [lng_len k]; omega
set_option maxRecDepth 100000 in
theorem lng_ok : (lng 20).wf 2 ∧ (lng 20).free true = true ∧ (lng 20).plain = true ∧ dE 2 1 (lng 20) = 4 := by decide +kernel
/-- the table: text, tree, word, answer -/
def exT : List (List UInt8 × T × List Nat × Bool) := [
  ([40, 40, 49, 42, 41, 42, 41], .un 8 (.un 8 .empty), [], true),
  ([40, 40, 49, 42, 41, 42, 41], .un 8 (.un 8 .empty), [0], false),
  ([40, 40, 40, 49, 124, 91, 97, 93, 41, 42, 41, 46, 91, 98, 93, 41], .bin 4 (.un 8 (.bin 5 .empty (.letter 1 0))) (.letter 2 0), [1, 3, 2], true),
  ([40, 126, 48, 41], .un 7 .none, [3], true),
  ([40, 40, 62, 40, 91, 42, 93, 46, 91, 98, 93, 41, 41, 46, 40, 91, 97, 93, 46, 91, 98, 93, 41, 41], .bin 4 (.un 9 (.bin 4 (.letter 0 0) (.letter 2 0))) (.bin 4 (.letter 1 0) (.letter 2 0)), [1, 2], true),
  ([40, 40, 62, 40, 91, 42, 93, 46, 91, 97, 93, 41, 41, 46, 40, 91, 97, 93, 46, 91, 98, 93, 41, 41], .bin 4 (.un 9 (.bin 4 (.letter 0 0) (.letter 1 0))) (.bin 4 (.letter 1 0) (.letter 2 0)), [1, 2], false),
  ([40, 91, 97, 93, 46, 40, 40, 60, 40, 91, 42, 93, 42, 41, 41, 46, 91, 98, 93, 41, 41], .bin 4 (.letter 1 0) (.bin 4 (.un 10 (.un 8 (.letter 0 0))) (.letter 2 0)), [1, 2], true),
  ([40, 91, 97, 93, 46, 40, 40, 60, 91, 98, 93, 41, 46, 91, 98, 93, 41, 41], .bin 4 (.letter 1 0) (.bin 4 (.un 10 (.letter 2 0)) (.letter 2 0)), [1, 2], false),
  ([40, 62, 48, 41], .un 9 .none, [], false),
  ([40, 62, 49, 41], .un 9 .empty, [], true),
  ([40, 60, 49, 41], .un 10 .empty, [0], false)]
set_option maxRecDepth 100000 in
theorem exT_ok : ∀ x ∈ exT, prsL x.1 2 = x.2.1.flat 0 ∧ x.1.length ≤ 100 ∧ x.2.1.wf 2 ∧ x.2.1.free true = true ∧ x.2.1.size ≤ 64 ∧ x.2.2.1.length ≤ 16 ∧ (∀ y ∈ x.2.2.1, y < 4) ∧ mt x.2.2.1 x.2.1 0 x.2.2.1.length = x.2.2.2 := by decide +kernel
def exRow (A : Option Addr) (x : List UInt8 × T × List Nat × Bool) : List Value := [.string ⟨x.1.toArray⟩, .slice A x.2.2.1.length x.2.2.1.length, .bool x.2.2.2]
def exAs (b1 b2 b3 b4 b5 b6 b7 b8 : Nat) : List (Option Addr) := [none, some ⟨b1, 0, none⟩, some ⟨b2, 0, none⟩, some ⟨b3, 0, none⟩, some ⟨b4, 0, none⟩, some ⟨b5, 0, none⟩, some ⟨b6, 0, none⟩, some ⟨b7, 0, none⟩, none, none, some ⟨b8, 0, none⟩]
def exC (As : List (Option Addr)) : List Value := (As.zip exT).flatMap fun y => exRow y.1 y.2
theorem zip_drop : ∀ {l : List (Option Addr × List UInt8 × T × List Nat × Bool)} {i : Nat} {A : Option Addr} {x : List UInt8 × T × List Nat × Bool}, l[i]? = some (A, x) → ((l.flatMap fun y => exRow y.1 y.2).drop (i * 3)).take (exRow A x).length = exRow A x
  | [], i, A, x, h => by simp at h
  | y :: l, 0, A, x, h => by
    simp at h; subst h
    rfl
  | y :: l, i + 1, A, x, h => by
    have ih := zip_drop (l := l) (i := i) (A := A) (x := x) (by simpa using h)
    rw [show (i + 1) * 3 = i * 3 + 3 by omega]
    exact ih
set_option maxRecDepth 100000 in
theorem ex_prs : prsL [40, 91, 97, 93, 46, 40, 62, 48, 41, 41] 2 = (T.bin 4 (.letter 1 0) (.un 9 .none)).flat 0 ∧ prsL [40, 62, 48, 41] 2 = (T.un 9 .none).flat 0 ∧ nulE ((T.bin 4 (.letter 1 0) (.un 9 .none)).flat 0) 2 = 6 ∧ nulE ((T.un 9 .none).flat 0) 2 = 6 ∧ nulE (a1.flat 0) 7 = 7 ∧
    tabE [] 0 (List.replicate 65 0) = 3 ∧ tabE (a1.flat 0) 2 (List.replicate 64 0 ++ [9]) = 4 ∧ tabE (a1.flat 0) 2 [1, 4] = 1 ∧ dE 2 4 a1 = 1 ∧ dL 2 4 a1 = [] := by decide +kernel
theorem rep_cells (n : Nat) : (List.replicate n (0 : Nat)).map vb = List.replicate n (Value.int .u8 0) := by rw [List.map_replicate]; rfl
theorem rep_cells9 (n : Nat) : (List.replicate n (0 : Nat) ++ [9]).map vb = List.replicate n (Value.int .u8 0) ++ [.int .u8 9] := by rw [List.map_append, rep_cells]; rfl
theorem Yb3 {P : Program} {rs : List Res} {o : Oper} {l : Fm} {t : TypeId} {ps : Array (Nat × Operand)} {x y z : Operand} {u1 u2 u3 : Value} (ho : o.op = .build t ps := by rfl) (hps : ps.toList = [(0, x), (1, y), (2, z)] := by rfl) (hx : lk l x = some u1 := by rfl) (hy : lk l y = some u2 := by rfl) (hz : lk l z = some u3 := by rfl)
    (h : buildG P l o.op = some (.agg #[u1, u2, u3]) := by rfl) : Yl P rs l o (.agg #[u1, u2, u3]) := Ybg h
set_option maxHeartbeats 16000000 in
set_option maxRecDepth 100000 in
theorem matchExamples_walk (W : World) : Calls Try.prog 5 #[] W fun e w' => e = .returned (.bool true) ∧ Below W.heap.size W w' := by
  refine law_go ?_
  obtain ⟨p0, p1, p2, p3, p4⟩ := a_prs
  obtain ⟨q1, q2, q3, q4, q5, q6, q7, q8, q9, q10⟩ := ex_prs
  have hok1 : ∀ p ∈ a1.flat 0, p.ok := flat_ok a1 0 (wf_up a1 a1_wf) (by decide)
  have hS := St.start Nof W
  refine E_r (m := 154) ?_ Try.func5 rfl Try.ntmps5 rfl; refine C_ft ?_
  repeat (first | (refine S_w ?_; first | (refine M_c (awakeR _) ?_) | (refine S_y hS ?_) | ((first | refine M_bA hS ?_ | refine M_b1 hS ?_ | refine M_aA hS ?_ | refine M_a1 hS ?_ | refine M_sl hS ?_ | refine M_s1 hS ?_ | refine M_mm hS ?_); clear hS; intro b w hS) | ((first | refine M_st hS ?_ | refine M_sA hS ?_ | refine M_in hS ?_ | refine M_sR hS ?_); clear hS; intro w hS; (try simp only [List.set_cons_zero, List.set_cons_succ, Nat.zero_add] at hS)) | (refine M_ap hS ?_; clear hS; intro g cap w hS) | refine M_pn ?_) | refine X_k (by (try simp only [Fm.toList, List.set_cons_succ, List.set_cons_zero]); exact rfl) ?_ | refine S_u ?_ | refine S_v ?_ | refine C_sq ?_ | refine C_rg ?_ | refine L_nil ?_ | refine C_bk ?_ | refine C_ct ?_ | refine C_cf ?_ | refine C_sk ?_ | refine C_ex ?_ | refine C_rt ?_ | refine X_e ?_ | refine X_r ?_ | refine X_bh ?_ | refine X_be ?_ | refine X_br ?_ | refine X_bn ?_ | refine X_p ?_ | refine X_bp ?_)
  rintro _ w1 ⟨rfl, hb1⟩
  have hS := hS.call hb1
  repeat (first | (refine S_w ?_; first | (refine M_c (readT a1 _ p1 (by decide) _) ?_) | (refine S_y hS ?_) | ((first | refine M_bA hS ?_ | refine M_b1 hS ?_ | refine M_aA hS ?_ | refine M_a1 hS ?_ | refine M_sl hS ?_ | refine M_s1 hS ?_ | refine M_mm hS ?_); clear hS; intro b w hS) | ((first | refine M_st hS ?_ | refine M_sA hS ?_ | refine M_in hS ?_ | refine M_sR hS ?_); clear hS; intro w hS; (try simp only [List.set_cons_zero, List.set_cons_succ, Nat.zero_add] at hS)) | (refine M_ap hS ?_; clear hS; intro g cap w hS) | refine M_pn ?_) | refine X_k (by (try simp only [Fm.toList, List.set_cons_succ, List.set_cons_zero]); exact rfl) ?_ | refine S_u ?_ | refine S_v ?_ | refine C_sq ?_ | refine C_rg ?_ | refine L_nil ?_ | refine C_bk ?_ | refine C_ct ?_ | refine C_cf ?_ | refine C_sk ?_ | refine C_ex ?_ | refine C_rt ?_ | refine X_e ?_ | refine X_r ?_ | refine X_bh ?_ | refine X_be ?_ | refine X_br ?_ | refine X_bn ?_ | refine X_p ?_ | refine X_bp ?_)
  rintro _ w2 ⟨A1, c1, rfl, hown1, hc1, hb2⟩
  have hS := hS.freshRow hb2.below hown1
  rw [show a1.size = 2 from rfl] at hS hc1 ⊢
  have hT1 := fun A w hA => acceptsE [] 0 (List.replicate 65 0) 3 none A 0 0 65 65 w Rd.nil hA (fun _ h => by cases h) (by omega) (by omega) (fun x hx => by rw [List.eq_of_mem_replicate hx]; omega) q6 (by decide)
  rw [rep_cells] at hT1
  repeat (first | (refine S_w ?_; first | (refine M_mk 65 hS ?_; clear hS; intro g w hS) | (refine M_c (hT1 _ _ hS.sl) ?_) | (refine S_y hS ?_) | ((first | refine M_bA hS ?_ | refine M_b1 hS ?_ | refine M_aA hS ?_ | refine M_a1 hS ?_ | refine M_sl hS ?_ | refine M_s1 hS ?_ | refine M_mm hS ?_); clear hS; intro b w hS) | ((first | refine M_st hS ?_ | refine M_sA hS ?_ | refine M_in hS ?_ | refine M_sR hS ?_); clear hS; intro w hS; (try simp only [List.set_cons_zero, List.set_cons_succ, Nat.zero_add] at hS)) | (refine M_ap hS ?_; clear hS; intro g cap w hS) | refine M_pn ?_) | refine X_k (by (try simp only [Fm.toList, List.set_cons_succ, List.set_cons_zero]); exact rfl) ?_ | refine S_u ?_ | refine S_v ?_ | refine C_sq ?_ | refine C_rg ?_ | refine L_nil ?_ | refine C_bk ?_ | refine C_ct ?_ | refine C_cf ?_ | refine C_sk ?_ | refine C_ex ?_ | refine C_rt ?_ | refine X_e ?_ | refine X_r ?_ | refine X_bh ?_ | refine X_be ?_ | refine X_br ?_ | refine X_bn ?_ | refine X_p ?_ | refine X_bp ?_)
  rintro _ w3 ⟨rfl, hb3⟩
  have hS := hS.call hb3
  have hT2 := fun A c w hB hA => acceptsE (a1.flat 0) 2 (List.replicate 64 0 ++ [9]) 4 A1 A 2 c1 65 c w hB hA hok1 (by omega) (by omega) (fun x hx => by
    rcases List.mem_append.1 hx with h | h
    · rw [List.eq_of_mem_replicate h]; omega
    · rw [List.mem_singleton.1 h]; omega) q7 (by decide)
  rw [rep_cells9] at hT2
  repeat (first | (refine S_w ?_; first | (refine M_mk 64 hS ?_; clear hS; intro g w hS) | (refine M_c (hT2 _ _ _ hS.sl hS.sl) ?_) | (refine S_y hS ?_) | ((first | refine M_bA hS ?_ | refine M_b1 hS ?_ | refine M_aA hS ?_ | refine M_a1 hS ?_ | refine M_sl hS ?_ | refine M_s1 hS ?_ | refine M_mm hS ?_); clear hS; intro b w hS) | ((first | refine M_st hS ?_ | refine M_sA hS ?_ | refine M_in hS ?_ | refine M_sR hS ?_); clear hS; intro w hS; (try simp only [List.set_cons_zero, List.set_cons_succ, Nat.zero_add] at hS)) | (refine M_ap hS ?_; clear hS; intro g cap w hS) | refine M_pn ?_) | refine X_k (by (try simp only [Fm.toList, List.set_cons_succ, List.set_cons_zero]); exact rfl) ?_ | refine S_u ?_ | refine S_v ?_ | refine C_sq ?_ | refine C_rg ?_ | refine L_nil ?_ | refine C_bk ?_ | refine C_ct ?_ | refine C_cf ?_ | refine C_sk ?_ | refine C_ex ?_ | refine C_rt ?_ | refine X_e ?_ | refine X_r ?_ | refine X_bh ?_ | refine X_be ?_ | refine X_br ?_ | refine X_bn ?_ | refine X_p ?_ | refine X_bp ?_)
  rintro _ w4 ⟨rfl, hb4⟩
  have hS := hS.call hb4
  have hT3 := fun A c w hB hA => acceptsE (a1.flat 0) 2 [1, 4] 1 A1 A 2 c1 2 c w hB hA hok1 (by omega) (by omega) (by decide) q8 (by decide)
  repeat (first | (refine S_w ?_; first | (refine M_c (hT3 (some ⟨b, 0, none⟩) 2 _ hS.sl (objRd hS)) ?_) | (refine S_y hS ?_) | ((first | refine M_bA hS ?_ | refine M_b1 hS ?_ | refine M_aA hS ?_ | refine M_a1 hS ?_ | refine M_sl hS ?_ | refine M_s1 hS ?_ | refine M_mm hS ?_); clear hS; intro b w hS) | ((first | refine M_st hS ?_ | refine M_sA hS ?_ | refine M_in hS ?_ | refine M_sR hS ?_); clear hS; intro w hS; (try simp only [List.set_cons_zero, List.set_cons_succ, Nat.zero_add] at hS)) | (refine M_ap hS ?_; clear hS; intro g cap w hS) | refine M_pn ?_) | refine X_k (by (try simp only [Fm.toList, List.set_cons_succ, List.set_cons_zero]); exact rfl) ?_ | refine S_u ?_ | refine S_v ?_ | refine C_sq ?_ | refine C_rg ?_ | refine L_nil ?_ | refine C_bk ?_ | refine C_ct ?_ | refine C_cf ?_ | refine C_sk ?_ | refine C_ex ?_ | refine C_rt ?_ | refine X_e ?_ | refine X_r ?_ | refine X_bh ?_ | refine X_be ?_ | refine X_br ?_ | refine X_bn ?_ | refine X_p ?_ | refine X_bp ?_)
  rintro _ w5 ⟨rfl, hb5⟩
  have hS := hS.call hb5
  have hS : St Nof W [Res.row 55 5 (.slice A1 2 c1) 2 (rxCells (a1.flat 0))] w5 := hS.sb
  repeat (first | (refine S_w ?_; first | (refine M_c (readT (.bin 4 (.letter 1 0) (.un 9 .none)) _ q1 (by decide) _) ?_) | (refine S_y hS ?_) | ((first | refine M_bA hS ?_ | refine M_b1 hS ?_ | refine M_aA hS ?_ | refine M_a1 hS ?_ | refine M_sl hS ?_ | refine M_s1 hS ?_ | refine M_mm hS ?_); clear hS; intro b w hS) | ((first | refine M_st hS ?_ | refine M_sA hS ?_ | refine M_in hS ?_ | refine M_sR hS ?_); clear hS; intro w hS; (try simp only [List.set_cons_zero, List.set_cons_succ, Nat.zero_add] at hS)) | (refine M_ap hS ?_; clear hS; intro g cap w hS) | refine M_pn ?_) | refine X_k (by (try simp only [Fm.toList, List.set_cons_succ, List.set_cons_zero]); exact rfl) ?_ | refine S_u ?_ | refine S_v ?_ | refine C_sq ?_ | refine C_rg ?_ | refine L_nil ?_ | refine C_bk ?_ | refine C_ct ?_ | refine C_cf ?_ | refine C_sk ?_ | refine C_ex ?_ | refine C_rt ?_ | refine X_e ?_ | refine X_r ?_ | refine X_bh ?_ | refine X_be ?_ | refine X_br ?_ | refine X_bn ?_ | refine X_p ?_ | refine X_bp ?_)
  rintro _ w6 ⟨A6, c6, rfl, hown6, hc6, hb6⟩
  have hS := hS.freshRow hb6.below hown6
  rw [show (T.bin 4 (.letter 1 0) (.un 9 .none)).size = 4 from rfl] at hS ⊢
  repeat (first | (refine S_w ?_; first | (refine M_c (nullE ((T.bin 4 (.letter 1 0) (.un 9 .none)).flat 0) 2 6 A6 4 c6 _ hS.sl (flat_ok _ 0 (by decide) (by decide)) (by omega) q3 (by decide)) ?_) | (refine S_y hS ?_) | ((first | refine M_bA hS ?_ | refine M_b1 hS ?_ | refine M_aA hS ?_ | refine M_a1 hS ?_ | refine M_sl hS ?_ | refine M_s1 hS ?_ | refine M_mm hS ?_); clear hS; intro b w hS) | ((first | refine M_st hS ?_ | refine M_sA hS ?_ | refine M_in hS ?_ | refine M_sR hS ?_); clear hS; intro w hS; (try simp only [List.set_cons_zero, List.set_cons_succ, Nat.zero_add] at hS)) | (refine M_ap hS ?_; clear hS; intro g cap w hS) | refine M_pn ?_) | refine X_k (by (try simp only [Fm.toList, List.set_cons_succ, List.set_cons_zero]); exact rfl) ?_ | refine S_u ?_ | refine S_v ?_ | refine C_sq ?_ | refine C_rg ?_ | refine L_nil ?_ | refine C_bk ?_ | refine C_ct ?_ | refine C_cf ?_ | refine C_sk ?_ | refine C_ex ?_ | refine C_rt ?_ | refine X_e ?_ | refine X_r ?_ | refine X_bh ?_ | refine X_be ?_ | refine X_br ?_ | refine X_bn ?_ | refine X_p ?_ | refine X_bp ?_)
  rintro _ w7 ⟨rfl, hb7⟩
  have hS := hS.call hb7
  repeat (first | (refine S_w ?_; first | (refine M_c (readT (.un 9 .none) _ q2 (by decide) _) ?_) | (refine S_y hS ?_) | ((first | refine M_bA hS ?_ | refine M_b1 hS ?_ | refine M_aA hS ?_ | refine M_a1 hS ?_ | refine M_sl hS ?_ | refine M_s1 hS ?_ | refine M_mm hS ?_); clear hS; intro b w hS) | ((first | refine M_st hS ?_ | refine M_sA hS ?_ | refine M_in hS ?_ | refine M_sR hS ?_); clear hS; intro w hS; (try simp only [List.set_cons_zero, List.set_cons_succ, Nat.zero_add] at hS)) | (refine M_ap hS ?_; clear hS; intro g cap w hS) | refine M_pn ?_) | refine X_k (by (try simp only [Fm.toList, List.set_cons_succ, List.set_cons_zero]); exact rfl) ?_ | refine S_u ?_ | refine S_v ?_ | refine C_sq ?_ | refine C_rg ?_ | refine L_nil ?_ | refine C_bk ?_ | refine C_ct ?_ | refine C_cf ?_ | refine C_sk ?_ | refine C_ex ?_ | refine C_rt ?_ | refine X_e ?_ | refine X_r ?_ | refine X_bh ?_ | refine X_be ?_ | refine X_br ?_ | refine X_bn ?_ | refine X_p ?_ | refine X_bp ?_)
  rintro _ w8 ⟨A8, c8, rfl, hown8, hc8, hb8⟩
  have hS := hS.freshRow hb8.below hown8
  rw [show (T.un 9 .none).size = 2 from rfl] at hS ⊢
  repeat (first | (refine S_w ?_; first | (refine M_c (deriveE ((T.un 9 .none).flat 0) 2 6 9 A8 2 c8 _ hS.sl (flat_ok _ 0 (by decide) (by decide)) (by omega) q4 (by decide)) ?_) | (refine S_y hS ?_) | ((first | refine M_bA hS ?_ | refine M_b1 hS ?_ | refine M_aA hS ?_ | refine M_a1 hS ?_ | refine M_sl hS ?_ | refine M_s1 hS ?_ | refine M_mm hS ?_); clear hS; intro b w hS) | ((first | refine M_st hS ?_ | refine M_sA hS ?_ | refine M_in hS ?_ | refine M_sR hS ?_); clear hS; intro w hS; (try simp only [List.set_cons_zero, List.set_cons_succ, Nat.zero_add] at hS)) | (refine M_ap hS ?_; clear hS; intro g cap w hS) | refine M_pn ?_) | refine X_k (by (try simp only [Fm.toList, List.set_cons_succ, List.set_cons_zero]); exact rfl) ?_ | refine S_u ?_ | refine S_v ?_ | refine C_sq ?_ | refine C_rg ?_ | refine L_nil ?_ | refine C_bk ?_ | refine C_ct ?_ | refine C_cf ?_ | refine C_sk ?_ | refine C_ex ?_ | refine C_rt ?_ | refine X_e ?_ | refine X_r ?_ | refine X_bh ?_ | refine X_be ?_ | refine X_br ?_ | refine X_bn ?_ | refine X_p ?_ | refine X_bp ?_)
  rintro _ w9 ⟨rfl, hb9⟩
  have hS := hS.call hb9
  repeat (first | (refine S_w ?_; first | (refine M_c (deriveT a1 2 4 A1 2 c1 _ hS.sl (by omega) a1_wf rfl (by decide) rfl (by omega) hc1) ?_) | (refine S_y hS ?_) | ((first | refine M_bA hS ?_ | refine M_b1 hS ?_ | refine M_aA hS ?_ | refine M_a1 hS ?_ | refine M_sl hS ?_ | refine M_s1 hS ?_ | refine M_mm hS ?_); clear hS; intro b w hS) | ((first | refine M_st hS ?_ | refine M_sA hS ?_ | refine M_in hS ?_ | refine M_sR hS ?_); clear hS; intro w hS; (try simp only [List.set_cons_zero, List.set_cons_succ, Nat.zero_add] at hS)) | (refine M_ap hS ?_; clear hS; intro g cap w hS) | refine M_pn ?_) | refine X_k (by (try simp only [Fm.toList, List.set_cons_succ, List.set_cons_zero]); exact rfl) ?_ | refine S_u ?_ | refine S_v ?_ | refine C_sq ?_ | refine C_rg ?_ | refine L_nil ?_ | refine C_bk ?_ | refine C_ct ?_ | refine C_cf ?_ | refine C_sk ?_ | refine C_ex ?_ | refine C_rt ?_ | refine X_e ?_ | refine X_r ?_ | refine X_bh ?_ | refine X_be ?_ | refine X_br ?_ | refine X_bn ?_ | refine X_p ?_ | refine X_bp ?_)
  rintro _ w10 ⟨A10, c10, rfl, hown10, hb10⟩
  have hS := hS.call hb10
  rw [q9, q10]
  repeat (first | (refine S_w ?_; first | (refine M_c (deriveE (a1.flat 0) 7 7 4 A1 2 c1 _ hS.sl hok1 (by omega) q5 (by decide)) ?_) | (refine S_y hS ?_) | ((first | refine M_bA hS ?_ | refine M_b1 hS ?_ | refine M_aA hS ?_ | refine M_a1 hS ?_ | refine M_sl hS ?_ | refine M_s1 hS ?_ | refine M_mm hS ?_); clear hS; intro b w hS) | ((first | refine M_st hS ?_ | refine M_sA hS ?_ | refine M_in hS ?_ | refine M_sR hS ?_); clear hS; intro w hS; (try simp only [List.set_cons_zero, List.set_cons_succ, Nat.zero_add] at hS)) | (refine M_ap hS ?_; clear hS; intro g cap w hS) | refine M_pn ?_) | refine X_k (by (try simp only [Fm.toList, List.set_cons_succ, List.set_cons_zero]); exact rfl) ?_ | refine S_u ?_ | refine S_v ?_ | refine C_sq ?_ | refine C_rg ?_ | refine L_nil ?_ | refine C_bk ?_ | refine C_ct ?_ | refine C_cf ?_ | refine C_sk ?_ | refine C_ex ?_ | refine C_rt ?_ | refine X_e ?_ | refine X_r ?_ | refine X_bh ?_ | refine X_be ?_ | refine X_br ?_ | refine X_bn ?_ | refine X_p ?_ | refine X_bp ?_)
  rintro _ w11 ⟨rfl, hb11⟩
  have hS := hS.call hb11
  have hS : St Nof W [] w11 := hS.sub (List.nil_sublist _)
  clear hown1 hown6 hown8 hown10
  repeat (first | (refine S_w ?_; first | (refine S_y hS ?_) | ((first | refine M_bA hS ?_ | refine M_b1 hS ?_ | refine M_aA hS ?_ | refine M_a1 hS ?_ | refine M_sl hS ?_ | refine M_s1 hS ?_ | refine M_mm hS ?_); clear hS; intro b w hS) | ((first | refine M_st hS ?_ | refine M_sA hS ?_ | refine M_in hS ?_ | refine M_sR hS ?_); clear hS; intro w hS; (try simp only [List.set_cons_zero, List.set_cons_succ, Nat.zero_add] at hS)) | (refine M_ap hS ?_; clear hS; intro g cap w hS) | refine M_pn ?_) | refine X_k (by (try simp only [Fm.toList, List.set_cons_succ, List.set_cons_zero]); exact rfl) ?_ | refine S_u ?_ | refine S_v ?_ | refine C_sq ?_ | refine C_rg ?_ | refine L_nil ?_ | refine C_bk ?_ | refine C_ct ?_ | refine C_cf ?_ | refine C_sk ?_ | refine C_ex ?_ | refine C_rt ?_ | refine X_e ?_ | refine X_r ?_ | refine X_bh ?_ | refine X_be ?_ | refine X_br ?_ | refine X_bn ?_ | refine X_p ?_ | refine X_bp ?_)
  rw [← lng_zero]
  refine C_lp [16, 2, 50, 7, 79] (fun k : Nat => [(16, .string ⟨(lng k).text.toArray⟩), (17, .int .i64 (k : Nat))]) (fun k w' => k ≤ 20 ∧ St Nof W [] w') (fun k => 20 - k) 0 ⟨Nat.zero_le _, hS⟩ ?_
  clear hS
  rintro k y3 w ⟨hk, hS⟩
  refine C_fs ?_
  have ht := lng_text k
  have hl := lng_len k
  by_cases hlt : k < 20
  · repeat (first | (refine S_w ?_; first | (refine S_y hS ?_) | ((first | refine M_bA hS ?_ | refine M_b1 hS ?_ | refine M_aA hS ?_ | refine M_a1 hS ?_ | refine M_sl hS ?_ | refine M_s1 hS ?_ | refine M_mm hS ?_); clear hS; intro b w hS) | ((first | refine M_st hS ?_ | refine M_sA hS ?_ | refine M_in hS ?_ | refine M_sR hS ?_); clear hS; intro w hS; (try simp only [List.set_cons_zero, List.set_cons_succ, Nat.zero_add] at hS)) | (refine M_ap hS ?_; clear hS; intro g cap w hS) | refine M_pn ?_) | refine X_k (by (try simp only [Fm.toList, List.set_cons_succ, List.set_cons_zero]); exact rfl) ?_ | refine S_u ?_ | refine S_v ?_ | refine C_sq ?_ | refine C_rg ?_ | refine L_nil ?_ | refine C_bk ?_ | refine C_ct ?_ | refine C_cf ?_ | refine C_sk ?_ | refine C_ex ?_ | refine C_rt ?_ | refine X_e ?_ | refine X_r ?_ | refine X_bh ?_ | refine X_be ?_ | refine X_br ?_ | refine X_bn ?_ | refine X_p ?_ | refine X_bp ?_)
    rw [← ht]
    refine R_e (k + 1) ⟨by omega, hS⟩ (by omega)
  obtain rfl : k = 20 := by omega
  obtain ⟨l1, l2, l3, l4⟩ := lng_ok
  have hls : (lng 20).size = 61 := lng_size 20
  repeat (first | (refine S_w ?_; first | (refine M_c (readT (lng 20) _ (prs_text' (by omega) l1 l2 (by omega)) (by omega) _) ?_) | (refine S_y hS ?_) | ((first | refine M_bA hS ?_ | refine M_b1 hS ?_ | refine M_aA hS ?_ | refine M_a1 hS ?_ | refine M_sl hS ?_ | refine M_s1 hS ?_ | refine M_mm hS ?_); clear hS; intro b w hS) | ((first | refine M_st hS ?_ | refine M_sA hS ?_ | refine M_in hS ?_ | refine M_sR hS ?_); clear hS; intro w hS; (try simp only [List.set_cons_zero, List.set_cons_succ, Nat.zero_add] at hS)) | (refine M_ap hS ?_; clear hS; intro g cap w hS) | refine M_pn ?_) | refine X_k (by (try simp only [Fm.toList, List.set_cons_succ, List.set_cons_zero]); exact rfl) ?_ | refine S_u ?_ | refine S_v ?_ | refine C_sq ?_ | refine C_rg ?_ | refine L_nil ?_ | refine C_bk ?_ | refine C_ct ?_ | refine C_cf ?_ | refine C_sk ?_ | refine C_ex ?_ | refine C_rt ?_ | refine X_e ?_ | refine X_r ?_ | refine X_bh ?_ | refine X_be ?_ | refine X_br ?_ | refine X_bn ?_ | refine X_p ?_ | refine X_bp ?_)
  rintro _ w12 ⟨A12, c12, rfl, hown12, hc12, hb12⟩
  have hS := hS.freshRow hb12.below hown12
  rw [hls] at hS hc12 ⊢
  repeat (first | (refine S_w ?_; first | (refine M_c (deriveT (lng 20) 2 1 A12 61 c12 _ hS.sl (by omega) l1 l2 (by omega) l3 (by omega) hc12) ?_) | (refine S_y hS ?_) | ((first | refine M_bA hS ?_ | refine M_b1 hS ?_ | refine M_aA hS ?_ | refine M_a1 hS ?_ | refine M_sl hS ?_ | refine M_s1 hS ?_ | refine M_mm hS ?_); clear hS; intro b w hS) | ((first | refine M_st hS ?_ | refine M_sA hS ?_ | refine M_in hS ?_ | refine M_sR hS ?_); clear hS; intro w hS; (try simp only [List.set_cons_zero, List.set_cons_succ, Nat.zero_add] at hS)) | (refine M_ap hS ?_; clear hS; intro g cap w hS) | refine M_pn ?_) | refine X_k (by (try simp only [Fm.toList, List.set_cons_succ, List.set_cons_zero]); exact rfl) ?_ | refine S_u ?_ | refine S_v ?_ | refine C_sq ?_ | refine C_rg ?_ | refine L_nil ?_ | refine C_bk ?_ | refine C_ct ?_ | refine C_cf ?_ | refine C_sk ?_ | refine C_ex ?_ | refine C_rt ?_ | refine X_e ?_ | refine X_r ?_ | refine X_bh ?_ | refine X_be ?_ | refine X_br ?_ | refine X_bn ?_ | refine X_p ?_ | refine X_bp ?_)
  rintro _ w13 ⟨A13, c13, rfl, hown13, hb13⟩
  have hS := hS.call hb13
  rw [l4]
  have hS : St Nof W [] w13 := hS.sub (List.nil_sublist _)
  clear hown12 hown13
  repeat (first | (refine S_w ?_; first | (refine M_sN 3 hS ?_; clear hS; intro b w hS) | (refine S_q hS Yb3 ?_) | (refine S_y hS ?_) | ((first | refine M_bA hS ?_ | refine M_b1 hS ?_ | refine M_aA hS ?_ | refine M_a1 hS ?_ | refine M_sl hS ?_ | refine M_s1 hS ?_ | refine M_mm hS ?_); clear hS; intro b w hS) | ((first | refine M_st hS ?_ | refine M_sA hS ?_ | refine M_in hS ?_ | refine M_sR hS ?_); clear hS; intro w hS; (try simp only [List.set_cons_zero, List.set_cons_succ, Nat.zero_add] at hS)) | (refine M_ap hS ?_; clear hS; intro g cap w hS) | refine M_pn ?_) | refine X_k (by (try simp only [Fm.toList, List.set_cons_succ, List.set_cons_zero]); exact rfl) ?_ | refine S_u ?_ | refine S_v ?_ | refine C_sq ?_ | refine C_rg ?_ | refine L_nil ?_ | refine C_bk ?_ | refine C_ct ?_ | refine C_cf ?_ | refine C_sk ?_ | refine C_ex ?_ | refine C_rt ?_ | refine X_e ?_ | refine X_r ?_ | refine X_bh ?_ | refine X_be ?_ | refine X_br ?_ | refine X_bn ?_ | refine X_p ?_ | refine X_bp ?_)
  have hS : ∃ b1 b2 b3 b4 b5 b6 b7 b8, St Nof W [Res.obj b (.cells (exC (exAs b1 b2 b3 b4 b5 b6 b7 b8)).toArray 51 (0, 0)), Res.obj b8 (.cells #[.int .u8 0] 5 (0, 0)), Res.obj b7 (.cells #[.int .u8 1, .int .u8 2] 5 (0, 0)), Res.obj b6 (.cells #[.int .u8 1, .int .u8 2] 5 (0, 0)), Res.obj b5 (.cells #[.int .u8 1, .int .u8 2] 5 (0, 0)), Res.obj b4 (.cells #[.int .u8 1, .int .u8 2] 5 (0, 0)), Res.obj b3 (.cells #[.int .u8 3] 5 (0, 0)), Res.obj b2 (.cells #[.int .u8 1, .int .u8 3, .int .u8 2] 5 (0, 0)), Res.obj b1 (.cells #[.int .u8 0] 5 (0, 0))] w := ⟨_, _, _, _, _, _, _, _, hS⟩
  obtain ⟨b1, b2, b3, b4, b5, b6, b7, b8, hS⟩ := hS
  replace hS : St Nof W [Res.rd 3 (some ⟨b, 0, none⟩) 11 (exC (exAs b1 b2 b3 b4 b5 b6 b7 b8)), Res.obj b8 (.cells #[.int .u8 0] 5 (0, 0)), Res.obj b7 (.cells #[.int .u8 1, .int .u8 2] 5 (0, 0)), Res.obj b6 (.cells #[.int .u8 1, .int .u8 2] 5 (0, 0)), Res.obj b5 (.cells #[.int .u8 1, .int .u8 2] 5 (0, 0)), Res.obj b4 (.cells #[.int .u8 1, .int .u8 2] 5 (0, 0)), Res.obj b3 (.cells #[.int .u8 3] 5 (0, 0)), Res.obj b2 (.cells #[.int .u8 1, .int .u8 3, .int .u8 2] 5 (0, 0)), Res.obj b1 (.cells #[.int .u8 0] 5 (0, 0))] w := hS.toRd rfl
  have hRd : ∀ A x, (A, x) ∈ (List.zip (exAs b1 b2 b3 b4 b5 b6 b7 b8) exT) → ∀ w (r1 r2 : Res), St Nof W [r1, r2, Res.rd 3 (some ⟨b, 0, none⟩) 11 (exC (exAs b1 b2 b3 b4 b5 b6 b7 b8)), Res.obj b8 (.cells #[.int .u8 0] 5 (0, 0)), Res.obj b7 (.cells #[.int .u8 1, .int .u8 2] 5 (0, 0)), Res.obj b6 (.cells #[.int .u8 1, .int .u8 2] 5 (0, 0)), Res.obj b5 (.cells #[.int .u8 1, .int .u8 2] 5 (0, 0)), Res.obj b4 (.cells #[.int .u8 1, .int .u8 2] 5 (0, 0)), Res.obj b3 (.cells #[.int .u8 3] 5 (0, 0)), Res.obj b2 (.cells #[.int .u8 1, .int .u8 3, .int .u8 2] 5 (0, 0)), Res.obj b1 (.cells #[.int .u8 0] 5 (0, 0))] w → Rd w 1 A x.2.2.1.length (x.2.2.1.map vb) := by
    intro A x h w r1 r2 hS
    simp only [exAs, exT, List.zip_cons_cons, List.zip_nil_right, List.mem_cons, List.not_mem_nil, or_false, Prod.mk.injEq] at h
    rcases h with ⟨rfl, rfl⟩ | ⟨rfl, rfl⟩ | ⟨rfl, rfl⟩ | ⟨rfl, rfl⟩ | ⟨rfl, rfl⟩ | ⟨rfl, rfl⟩ | ⟨rfl, rfl⟩ | ⟨rfl, rfl⟩ | ⟨rfl, rfl⟩ | ⟨rfl, rfl⟩ | ⟨rfl, rfl⟩
    all_goals first | exact Rd.nil | exact objRd hS
  obtain ⟨rs, hrs⟩ : ∃ rs, [Res.obj b8 (.cells #[.int .u8 0] 5 (0, 0)), Res.obj b7 (.cells #[.int .u8 1, .int .u8 2] 5 (0, 0)), Res.obj b6 (.cells #[.int .u8 1, .int .u8 2] 5 (0, 0)), Res.obj b5 (.cells #[.int .u8 1, .int .u8 2] 5 (0, 0)), Res.obj b4 (.cells #[.int .u8 1, .int .u8 2] 5 (0, 0)), Res.obj b3 (.cells #[.int .u8 3] 5 (0, 0)), Res.obj b2 (.cells #[.int .u8 1, .int .u8 3, .int .u8 2] 5 (0, 0)), Res.obj b1 (.cells #[.int .u8 0] 5 (0, 0))] = rs := ⟨_, rfl⟩
  obtain ⟨As, hAs⟩ : ∃ As, (exAs b1 b2 b3 b4 b5 b6 b7 b8) = As := ⟨_, rfl⟩
  have hAl : As.length = 11 := by rw [← hAs]; rfl
  have hzl : (As.zip exT).length = 11 := by rw [List.length_zip, hAl]; rfl
  rw [hAs, hrs] at hRd
  rw [hAs, hrs] at hS
  refine C_lp [0, 1, 20, 3, 78, 22, 30] (fun i : Nat => [(102, .int .i64 (i : Nat))]) (fun i w' => i ≤ 11 ∧ St Nof W (Res.rd 3 (some ⟨b, 0, none⟩) 11 (exC As) :: rs) w') (fun i => 11 - i) 0 ⟨Nat.zero_le _, hS⟩ ?_
  clear hS
  rintro i y4 w ⟨hi, hS⟩
  refine C_fs ?_
  by_cases hlt2 : i < 11
  · obtain ⟨⟨A, x⟩, hx⟩ : ∃ x, (As.zip exT)[i]? = some x := ⟨(As.zip exT)[i]'(by omega), List.getElem?_eq_getElem _⟩
    have hmem := List.mem_of_getElem? hx
    obtain ⟨z1, z2, z3, z4, z5, z6, z7, z8⟩ := exT_ok _ (List.of_mem_zip hmem).2
    have hdd := zip_drop hx
    have hRd := hRd A x hmem
    obtain ⟨s, t, ws, want⟩ := x
    simp only [exRow] at z1 z2 z3 z4 z5 z6 z7 z8 hdd hRd
    replace hdd : ((exC As).drop (i * 3)).take _ = _ := hdd
    obtain ⟨m, hm⟩ : ∃ m, ws.length = m := ⟨_, rfl⟩
    rw [hm] at z6 z8 hdd hRd
    repeat (first | (refine S_w ?_; first | (refine S_y hS ?_) | ((first | refine M_bA hS ?_ | refine M_b1 hS ?_ | refine M_aA hS ?_ | refine M_a1 hS ?_ | refine M_sl hS ?_ | refine M_s1 hS ?_ | refine M_mm hS ?_); clear hS; intro b w hS) | ((first | refine M_st hS ?_ | refine M_sA hS ?_ | refine M_in hS ?_ | refine M_sR hS ?_); clear hS; intro w hS; (try simp only [List.set_cons_zero, List.set_cons_succ, Nat.zero_add] at hS)) | (refine M_ap hS ?_; clear hS; intro g cap w hS) | refine M_pn ?_) | refine X_k (by (try simp only [Fm.toList, List.set_cons_succ, List.set_cons_zero]); exact rfl) ?_ | refine S_u ?_ | refine S_v ?_ | refine C_sq ?_ | refine C_rg ?_ | refine L_nil ?_ | refine C_bk ?_ | refine C_ct ?_ | refine C_cf ?_ | refine C_sk ?_ | refine C_ex ?_ | refine C_rt ?_ | refine X_e ?_ | refine X_r ?_ | refine X_bh ?_ | refine X_be ?_ | refine X_br ?_ | refine X_bn ?_ | refine X_p ?_ | refine X_bp ?_)
    refine C_pl (.take 0 (.take 1 (.take 3 (.take 4 (.one 2 (.one 5 (.one 6 (.take 7 (.take 8 (.take 9 (.take 10 .done))))))))))) hS ?_
    clear hS; intro w hS
    repeat ((with_reducible apply P_t); rfl; first | (refine P_yy hS.sb ?_) | refine P_z hS.sb ?_)
    (with_reducible apply P_one); rfl; refine P_f ?_; intro Q' hQ' hE'
    repeat (first | (refine S_w ?_; first | (refine M_c (readT t s z1 (by omega) _) ?_) | (refine S_y hS ?_) | ((first | refine M_bA hS ?_ | refine M_b1 hS ?_ | refine M_aA hS ?_ | refine M_a1 hS ?_ | refine M_sl hS ?_ | refine M_s1 hS ?_ | refine M_mm hS ?_); clear hS; intro b w hS) | ((first | refine M_st hS ?_ | refine M_sA hS ?_ | refine M_in hS ?_ | refine M_sR hS ?_); clear hS; intro w hS; (try simp only [List.set_cons_zero, List.set_cons_succ, Nat.zero_add] at hS)) | (refine M_ap hS ?_; clear hS; intro g cap w hS) | refine M_pn ?_) | refine X_k (by (try simp only [Fm.toList, List.set_cons_succ, List.set_cons_zero]); exact rfl) ?_ | refine S_u ?_ | refine S_v ?_ | refine C_sq ?_ | refine C_rg ?_ | refine L_nil ?_ | refine C_bk ?_ | refine C_ct ?_ | refine C_cf ?_ | refine C_sk ?_ | refine C_ex ?_ | refine C_rt ?_ | refine X_e ?_ | refine X_r ?_ | refine X_bh ?_ | refine X_be ?_ | refine X_br ?_ | refine X_bn ?_ | refine X_p ?_ | refine X_bp ?_)
    rintro _ w14 ⟨A14, c14, rfl, hown14, hc14, hb14⟩
    have hS := hS.freshRow hb14.below hown14
    (try refine L_nil ?_); refine hQ' _ _ hS.sb ?_; clear hQ' hE'
    have hac := acceptsT t 2 ws A14 A t.size c14 m m _ hS.sl (hRd _ _ _ hS) (by omega) z3 z4 z5 (by omega) z7
    rw [z8] at hac
    (with_reducible apply P_one); rfl; refine P_f ?_; intro Q' hQ' hE'
    repeat (first | (refine S_w ?_; first | (refine M_c (hac) ?_) | (refine S_y hS ?_) | ((first | refine M_bA hS ?_ | refine M_b1 hS ?_ | refine M_aA hS ?_ | refine M_a1 hS ?_ | refine M_sl hS ?_ | refine M_s1 hS ?_ | refine M_mm hS ?_); clear hS; intro b w hS) | ((first | refine M_st hS ?_ | refine M_sA hS ?_ | refine M_in hS ?_ | refine M_sR hS ?_); clear hS; intro w hS; (try simp only [List.set_cons_zero, List.set_cons_succ, Nat.zero_add] at hS)) | (refine M_ap hS ?_; clear hS; intro g cap w hS) | refine M_pn ?_) | refine X_k (by (try simp only [Fm.toList, List.set_cons_succ, List.set_cons_zero]); exact rfl) ?_ | refine S_u ?_ | refine S_v ?_ | refine C_sq ?_ | refine C_rg ?_ | refine L_nil ?_ | refine C_bk ?_ | refine C_ct ?_ | refine C_cf ?_ | refine C_sk ?_ | refine C_ex ?_ | refine C_rt ?_ | refine X_e ?_ | refine X_r ?_ | refine X_bh ?_ | refine X_be ?_ | refine X_br ?_ | refine X_bn ?_ | refine X_p ?_ | refine X_bp ?_)
    rintro _ w15 ⟨rfl, hb15⟩
    have hS := hS.call hb15
    (try refine L_nil ?_); refine hQ' _ _ hS.sb ?_; clear hQ' hE'
    (with_reducible apply P_one); rfl; refine P_f ?_; intro Q' hQ' hE'
    repeat (first | (refine S_w ?_; first | (refine S_y hS ?_) | ((first | refine M_bA hS ?_ | refine M_b1 hS ?_ | refine M_aA hS ?_ | refine M_a1 hS ?_ | refine M_sl hS ?_ | refine M_s1 hS ?_ | refine M_mm hS ?_); clear hS; intro b w hS) | ((first | refine M_st hS ?_ | refine M_sA hS ?_ | refine M_in hS ?_ | refine M_sR hS ?_); clear hS; intro w hS; (try simp only [List.set_cons_zero, List.set_cons_succ, Nat.zero_add] at hS)) | (refine M_ap hS ?_; clear hS; intro g cap w hS) | refine M_pn ?_) | refine X_k (by (try simp only [Fm.toList, List.set_cons_succ, List.set_cons_zero]); exact rfl) ?_ | refine S_u ?_ | refine S_v ?_ | refine C_sq ?_ | refine C_rg ?_ | refine L_nil ?_ | refine C_bk ?_ | refine C_ct ?_ | refine C_cf ?_ | refine C_sk ?_ | refine C_ex ?_ | refine C_rt ?_ | refine X_e ?_ | refine X_r ?_ | refine X_bh ?_ | refine X_be ?_ | refine X_br ?_ | refine X_bn ?_ | refine X_p ?_ | refine X_bp ?_)
    (try refine L_nil ?_); refine hQ' _ _ hS.sb ?_; clear hQ' hE'
    repeat ((with_reducible apply P_t); rfl; first | (refine P_yy hS.sb ?_) | refine P_z hS.sb ?_)
    refine P_d ?_
    cases want with
    | true =>
      repeat (first | (refine S_w ?_; first | (refine S_y hS ?_) | ((first | refine M_bA hS ?_ | refine M_b1 hS ?_ | refine M_aA hS ?_ | refine M_a1 hS ?_ | refine M_sl hS ?_ | refine M_s1 hS ?_ | refine M_mm hS ?_); clear hS; intro b w hS) | ((first | refine M_st hS ?_ | refine M_sA hS ?_ | refine M_in hS ?_ | refine M_sR hS ?_); clear hS; intro w hS; (try simp only [List.set_cons_zero, List.set_cons_succ, Nat.zero_add] at hS)) | (refine M_ap hS ?_; clear hS; intro g cap w hS) | refine M_pn ?_) | refine X_k (by (try simp only [Fm.toList, List.set_cons_succ, List.set_cons_zero]); exact rfl) ?_ | refine S_u ?_ | refine S_v ?_ | refine C_sq ?_ | refine C_rg ?_ | refine L_nil ?_ | refine C_bk ?_ | refine C_ct ?_ | refine C_cf ?_ | refine C_sk ?_ | refine C_ex ?_ | refine C_rt ?_ | refine X_e ?_ | refine X_r ?_ | refine X_bh ?_ | refine X_be ?_ | refine X_br ?_ | refine X_bn ?_ | refine X_p ?_ | refine X_bp ?_)
      refine R_e (i + 1) ⟨by omega, hS.sb⟩ (by omega)
    | false =>
      repeat (first | (refine S_w ?_; first | (refine S_y hS ?_) | ((first | refine M_bA hS ?_ | refine M_b1 hS ?_ | refine M_aA hS ?_ | refine M_a1 hS ?_ | refine M_sl hS ?_ | refine M_s1 hS ?_ | refine M_mm hS ?_); clear hS; intro b w hS) | ((first | refine M_st hS ?_ | refine M_sA hS ?_ | refine M_in hS ?_ | refine M_sR hS ?_); clear hS; intro w hS; (try simp only [List.set_cons_zero, List.set_cons_succ, Nat.zero_add] at hS)) | (refine M_ap hS ?_; clear hS; intro g cap w hS) | refine M_pn ?_) | refine X_k (by (try simp only [Fm.toList, List.set_cons_succ, List.set_cons_zero]); exact rfl) ?_ | refine S_u ?_ | refine S_v ?_ | refine C_sq ?_ | refine C_rg ?_ | refine L_nil ?_ | refine C_bk ?_ | refine C_ct ?_ | refine C_cf ?_ | refine C_sk ?_ | refine C_ex ?_ | refine C_rt ?_ | refine X_e ?_ | refine X_r ?_ | refine X_bh ?_ | refine X_be ?_ | refine X_br ?_ | refine X_bn ?_ | refine X_p ?_ | refine X_bp ?_)
      refine R_e (i + 1) ⟨by omega, hS.sb⟩ (by omega)
  repeat (first | (refine S_w ?_; first | (refine S_y hS ?_) | ((first | refine M_bA hS ?_ | refine M_b1 hS ?_ | refine M_aA hS ?_ | refine M_a1 hS ?_ | refine M_sl hS ?_ | refine M_s1 hS ?_ | refine M_mm hS ?_); clear hS; intro b w hS) | ((first | refine M_st hS ?_ | refine M_sA hS ?_ | refine M_in hS ?_ | refine M_sR hS ?_); clear hS; intro w hS; (try simp only [List.set_cons_zero, List.set_cons_succ, Nat.zero_add] at hS)) | (refine M_ap hS ?_; clear hS; intro g cap w hS) | refine M_pn ?_) | refine X_k (by (try simp only [Fm.toList, List.set_cons_succ, List.set_cons_zero]); exact rfl) ?_ | refine S_u ?_ | refine S_v ?_ | refine C_sq ?_ | refine C_rg ?_ | refine L_nil ?_ | refine C_bk ?_ | refine C_ct ?_ | refine C_cf ?_ | refine C_sk ?_ | refine C_ex ?_ | refine C_rt ?_ | refine X_e ?_ | refine X_r ?_ | refine X_bh ?_ | refine X_be ?_ | refine X_br ?_ | refine X_bn ?_ | refine X_p ?_ | refine X_bp ?_)
  refine V_1 ⟨rfl, hS.fr⟩
namespace matchExamples
open Go.ChangeShapes Go.WideShapes Go.ChangeAt Go.RowKit Go.Joins
set_option maxRecDepth 100000 in
theorem lifted (os : Os) (started : os.Started) (H : Type) (enc : TypeId × Value → H) :
    ReturnsInHanded {} Try.checked os 5 .any (Rows.matchExamplesSpec.pre6 enc Try.prog Try.f5 Rows.matchExamplesRow.domain false) (Rows.matchExamplesSpec.post enc Try.prog Try.f5 false true false false) := by
  refine returnsInHanded_of_change (C := Try.checked) own started (by kernel_rfl) Try.func5
    (ChangeSpec.witness6 (enc := enc) (C := Try.checked) false ⟨#[], #[], []⟩ 8 (by kernel_rfl) (by kernel_rfl) (by kernel_rfl) (by kernel_rfl)) ?_
  intro W base args ds gs before hval0 hW hcnd _
  have hval : ∀ (j : Nat) t v, Try.f5.params[j]? = some t → args[j]? = some v → Value.okWide Try.prog W .any base t v := hval0
  have hW' := hW
  obtain ⟨p, q, hA0, hV, rfl, hfz, hnd⟩ := hW
  have hA : DataW.TrodAll enc Try.prog W 0 (fun _ => true) true Try.f5.params.toList args.toList ds p := hA0
  rw [Try.params5] at hA hval
  obtain ⟨hargs, rfl, rfl⟩ := trodAll_nil hA
  obtain rfl : args = #[] := by cases args; simp_all
  obtain ⟨rfl, rfl⟩ := trodVars_none hV
  simp only [List.append_nil] at hW'
  exact (matchExamples_walk W ).mono fun e W' ⟨he, hbl⟩ => ⟨_, he, law_post laidOut (readable_all (by kernel_rfl)) rfl Try.underlying4 rfl rfl hW' hbl⟩

theorem over : Rows.matchExamplesRow.holds Try.pinned (OpenSpec.ofChange Rows.matchExamplesSpec) :=
  OpenClaim.holds_of_wide 5 Try.f5 rfl rfl rfl rfl rfl rfl rfl ⟨rfl, rfl, rfl, rfl, rfl⟩ rfl rfl rfl rfl rfl (by kernel_rfl) Try.func5 (by kernel_rfl)
    (of_decide_eq_true (by kernel_rfl)) (by unfold Func.isWrapper; first | (rw [if_pos (by decide +kernel)]; kernel_rfl) | (rw [if_neg (by decide +kernel)]; exact ⟨rfl, rfl⟩))
    (fun os started H enc _ => lifted os started H enc)
end matchExamples

theorem matchExamples_proved : Rows.MatchExamplesSaid := matchExamples.over
#print axioms matchExamples_proved
end Go.Proofs.Ytebdkmfgfjanoaa
