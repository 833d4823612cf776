/-
  regex.operators, regex.piece: the table of the operators, the error of one piece.
-/
import Derived.Test.YtebdkmfgfjanoaaEE
import Derived.Test.YtebdkmfgfjanoaaRxMath
namespace Go.Proofs.Ytebdkmfgfjanoaa
open Go.RowKit

/-- the text of an operation before, between and after its children -/
def opB (op : Nat) : List UInt8 := if op = 7 then [40, 126] else if op = 9 then [40, 62] else if op = 10 then [40, 60] else if 4 ≤ op ∧ op ≤ 10 then [40] else []
def opM (op : Nat) : List UInt8 := if op = 4 then [46] else if op = 5 then [124] else if op = 6 then [38] else []
def opA (op : Nat) : List UInt8 := if op = 8 then [42, 41] else if 4 ≤ op ∧ op ≤ 10 then [41] else []
def opV (op : Nat) : Value := .agg #[.int .i64 (kids op : Int), .string ⟨(opB op).toArray⟩, .string ⟨(opM op).toArray⟩, .string ⟨(opA op).toArray⟩]
def opsEs : List MapEntry := (List.range 7).map fun i => ⟨vb (i + 4), opV (i + 4), i⟩
def Ops (b : Nat) : Res := Res.obj b (.map opsEs.toArray 7)
theorem findNow_ops (x : Nat) : ∀ (n j i : Nat), (∀ m, j ≤ m → m < j + n → x ≠ m + 4) → Instr.findNow (.int .u8) (vb x) ((List.range' j n).map fun i => ⟨vb (i + 4), opV (i + 4), i⟩) i = some none
  | 0, _, _, _ => rfl
  | n + 1, j, i, h => by
    have h0 := h j (Nat.le_refl _) (by omega)
    have hs : Instr.sameNow (.int .u8) (vb x) (vb (j + 4)) = some false := by
      simp only [vb, Instr.sameNow, if_true, Option.some.injEq, beq_eq_false_iff_ne]; omega
    simp only [List.range'_succ, List.map_cons, Instr.findNow, hs]
    exact findNow_ops x n (j + 1) (i + 1) fun m h1 h2 => h m (by omega) (by omega)
theorem zero_op : Try.prog.underlying 75 = some (.map 5 74) ∧ (Try.prog.info? 74).map (·.zero) = some (some (opV 0)) := ⟨by kernel_rfl, by kernel_rfl⟩
set_option maxRecDepth 100000 in
theorem ops_look (x : Nat) : lookT Try.prog 75 (vb x) opsEs = some (opV x) := by
  by_cases h : 4 ≤ x ∧ x ≤ 10
  · have : x = 4 ∨ x = 5 ∨ x = 6 ∨ x = 7 ∨ x = 8 ∨ x = 9 ∨ x = 10 := by omega
    rcases this with rfl | rfl | rfl | rfl | rfl | rfl | rfl <;> rfl
  · have hf : Instr.findNow (.int .u8) (vb x) opsEs 0 = some none := by
      unfold opsEs
      rw [List.range_eq_range']
      exact findNow_ops x 7 0 0 fun m _ h2 => by omega
    have hz := zero_op.2
    have hv : opV x = opV 0 := by
      unfold opV kids opB opM opA
      rw [if_neg (by omega), if_neg (by omega), if_neg (by omega), if_neg (by omega), if_neg (by omega), if_neg (by omega), if_neg (by omega), if_neg (by omega), if_neg (by omega), if_neg (by omega), if_neg (by omega)]; rfl
    unfold lookT
    rw [zero_op.1]
    simp only [Try.underlying5, hf, plainKey, cond_true]
    cases hi : Try.prog.info? 74 with
    | none => rw [hi] at hz; cases hz
    | some j =>
      rw [hi] at hz
      simp only [Option.map_some, Option.some.injEq] at hz
      rw [hv]
      exact hz
set_option maxHeartbeats 1000000 in
set_option maxRecDepth 100000 in
theorem opsR (w : World) : CallsR Try.prog 46 #[] w fun v w' => ∃ b, v = .map (some b) ∧ w.heap.size ≤ b ∧ w'.heap[b]? = some (.map opsEs.toArray 7) ∧ Fr Nof w w' := by
  have hS := St.start Nof w
  refine E_r (m := 10) ?_ Try.func46 rfl Try.ntmps46 rfl; refine C_ft ?_
  repeat (first | (refine S_w ?_; first | (refine S_y hS ?_) | ((first | refine M_bA hS ?_ | refine M_b1 hS ?_ | refine M_aA hS ?_ | refine M_a1 hS ?_ | refine M_sl hS ?_ | refine M_s1 hS ?_ | refine M_mm hS ?_); clear hS; intro b w hS) | ((first | refine M_st hS ?_ | refine M_sA hS ?_ | refine M_in hS ?_ | refine M_sR hS ?_); clear hS; intro w hS; (try simp only [List.set_cons_zero, List.set_cons_succ, Nat.zero_add] at hS)) | (refine M_ap hS ?_; clear hS; intro g cap w hS) | refine M_pn ?_) | refine X_k (by (try simp only [Fm.toList, List.set_cons_succ, List.set_cons_zero]); exact rfl) ?_ | refine S_u ?_ | refine S_v ?_ | refine C_sq ?_ | refine C_rg ?_ | refine L_nil ?_ | refine C_bk ?_ | refine C_ct ?_ | refine C_cf ?_ | refine C_sk ?_ | refine C_ex ?_ | refine C_rt ?_ | refine X_e ?_ | refine X_r ?_ | refine X_bh ?_ | refine X_be ?_ | refine X_br ?_ | refine X_bn ?_ | refine X_p ?_ | refine X_bp ?_)
  replace hS : St Nof _ [Res.obj b (.map opsEs.toArray 7)] w := hS
  refine V_1 ⟨b, rfl, (hS.objNew (by repeat (first | exact List.Mem.head _ | assumption | apply List.Mem.tail))).1, (hS.objNew (by repeat (first | exact List.Mem.head _ | assumption | apply List.Mem.tail))).2, hS.fr⟩

/-! one piece -/
def pcV (p : Pc) : List Value := [vb p.op, vb p.pos, vb p.neg, .int .i64 p.a, .int .i64 p.b]
set_option maxHeartbeats 4000000 in
set_option maxRecDepth 100000 in
theorem pieceR (p : Pc) (hp : p.ok) (v : Int) (w : World) : CallsR Try.prog 89 #[.agg (pcV p).toArray, .int .i64 v] w fun r w' => r = .int .i64 (pcE p v) ∧ Fr Nof w w' := by
  have hS := St.start Nof w
  obtain ⟨op, pos, neg, pa, pb⟩ := p
  obtain ⟨h1, h2, h3, h4, h5⟩ := hp
  simp only at h1 h2 h3 h4 h5
  show CallsR _ _ #[.agg #[vb op, vb pos, vb neg, .int .i64 pa, .int .i64 pb], _] _ _
  have hl := ops_look op
  refine E_r (m := 56) ?_ Try.func89 rfl Try.ntmps89 rfl; refine C_ft ?_
  repeat (first | (refine S_w ?_; first | (refine S_y hS ?_) | ((first | refine M_bA hS ?_ | refine M_b1 hS ?_ | refine M_aA hS ?_ | refine M_a1 hS ?_ | refine M_sl hS ?_ | refine M_s1 hS ?_ | refine M_mm hS ?_); clear hS; intro b w hS) | ((first | refine M_st hS ?_ | refine M_sA hS ?_ | refine M_in hS ?_ | refine M_sR hS ?_); clear hS; intro w hS; (try simp only [List.set_cons_zero, List.set_cons_succ, Nat.zero_add] at hS)) | (refine M_ap hS ?_; clear hS; intro g cap w hS) | refine M_pn ?_) | refine X_k (by (try simp only [Fm.toList, List.set_cons_succ, List.set_cons_zero]); exact rfl) ?_ | refine S_u ?_ | refine S_v ?_ | refine C_sq ?_ | refine C_rg ?_ | refine L_nil ?_ | refine C_bk ?_ | refine C_ct ?_ | refine C_cf ?_ | refine C_sk ?_ | refine C_ex ?_ | refine C_rt ?_ | refine X_e ?_ | refine X_r ?_ | refine X_bh ?_ | refine X_be ?_ | refine X_br ?_ | refine X_bn ?_ | refine X_p ?_ | refine X_bp ?_)
  refine C_pm (.take 1 (.take 2 (.two 0 4 (.two 3 4 (.one 4 (.one 5 .done)) (.one 3 (.one 5 .done))) (.one 0 (.one 3 (.one 5 .done)))))) (fun (z1 : Nat × Nat) f => ((((f.upd 6 (.map (some z1.1))).upd 7 (.pointer (some ⟨b, 0, none⟩))).upd 8 (vb op)).upd 9 (opV op)).upd 5 (.pointer (some ⟨z1.2, 0, none⟩))) (fun z1 => Res.obj z1.2 (.cells [.int .i64 (kids op), .string ⟨(opB op).toArray⟩, .string ⟨(opM op).toArray⟩, .string ⟨(opA op).toArray⟩].toArray 74 (0, 0)) :: [Res.obj b (.cells [vb op, vb pos, vb neg, .int .i64 pa, .int .i64 pb].toArray 55 (0, 0))]) hS ?_ ?_
  · clear hS; intro w hS
    (with_reducible apply P_t); rfl; refine P_y hS.sb (by first | exact Yfc | exact Yp) ?_; (with_reducible apply P_t); rfl; refine P_y hS.sb Yld ?_
    (with_reducible apply P_two); rfl; rfl
    · refine P_f ?_; intro Q' hQ' hE'
      refine S_w ?_; refine M_c (opsR _) ?_
      rintro _ w1 ⟨bm, rfl, hlt, hh, hf⟩
      have hS := hS.freshObj hf hh hlt
      clear hlt hh hf
      (try refine L_nil ?_); refine hQ' _ _ hS.sb ?_; clear hQ' hE'
      (with_reducible apply P_two); rfl; rfl
      · refine P_f ?_; intro Q' hQ' hE'
        refine S_w ?_; refine S_q hS Ymp ?_
        (try refine L_nil ?_); refine hQ' _ _ hS.sb ?_; clear hQ' hE'
        (with_reducible apply P_one); rfl; refine P_f ?_; intro Q' hQ' hE'
        refine S_w ?_; refine M_aA hS ?_; clear hS; intro b w hS
        (try refine L_nil ?_); refine hQ' _ _ hS.sb ?_; clear hQ' hE'
        (with_reducible apply P_one); rfl; refine P_f ?_; intro Q' hQ' hE'
        refine S_w ?_; refine M_sA hS ?_; clear hS; intro w hS
        (try refine L_nil ?_); refine hQ' _ _ hS.sb ?_; clear hQ' hE'
        refine P_m (bm, b) hS.sb
      · refine P_f ?_; intro Q' hQ' hE'
        refine S_w ?_; refine M_aA hS ?_; clear hS; intro b w hS
        (try refine L_nil ?_); refine hQ' _ _ hS.sb ?_; clear hQ' hE'
        (with_reducible apply P_one); rfl; refine P_f ?_; intro Q' hQ' hE'
        refine S_w ?_; refine S_q hS Ymp ?_
        (try refine L_nil ?_); refine hQ' _ _ hS.sb ?_; clear hQ' hE'
        (with_reducible apply P_one); rfl; refine P_f ?_; intro Q' hQ' hE'
        refine S_w ?_; refine M_sA hS ?_; clear hS; intro w hS
        (try refine L_nil ?_); refine hQ' _ _ hS.sb ?_; clear hQ' hE'
        refine P_m (bm, b) hS.sb
    · refine P_f ?_; intro Q' hQ' hE'
      refine S_w ?_; refine M_aA hS ?_; clear hS; intro b w hS
      (try refine L_nil ?_); refine hQ' _ _ hS.sb ?_; clear hQ' hE'
      (with_reducible apply P_one); rfl; refine P_f ?_; intro Q' hQ' hE'
      refine S_w ?_; refine M_c (opsR _) ?_
      rintro _ w1 ⟨bm, rfl, hlt, hh, hf⟩
      have hS := hS.freshObj hf hh hlt
      clear hlt hh hf
      (try refine L_nil ?_); refine hQ' _ _ hS.sb ?_; clear hQ' hE'
      (with_reducible apply P_one); rfl; refine P_f ?_; intro Q' hQ' hE'
      refine S_w ?_; refine S_q hS Ymp ?_
      (try refine L_nil ?_); refine hQ' _ _ hS.sb ?_; clear hQ' hE'
      (with_reducible apply P_one); rfl; refine P_f ?_; intro Q' hQ' hE'
      refine S_w ?_; refine M_sA hS ?_; clear hS; intro w hS
      (try refine L_nil ?_); refine hQ' _ _ hS.sb ?_; clear hQ' hE'
      refine P_m (bm, b) hS.sb
  rintro ⟨bm, ba⟩ w hS
  simp only at hS
  repeat (first | (refine S_w ?_; first | (refine S_y hS ?_) | ((first | refine M_bA hS ?_ | refine M_b1 hS ?_ | refine M_aA hS ?_ | refine M_a1 hS ?_ | refine M_sl hS ?_ | refine M_s1 hS ?_ | refine M_mm hS ?_); clear hS; intro b w hS) | ((first | refine M_st hS ?_ | refine M_sA hS ?_ | refine M_in hS ?_ | refine M_sR hS ?_); clear hS; intro w hS; (try simp only [List.set_cons_zero, List.set_cons_succ, Nat.zero_add] at hS)) | (refine M_ap hS ?_; clear hS; intro g cap w hS) | refine M_pn ?_) | refine X_k (by (try simp only [Fm.toList, List.set_cons_succ, List.set_cons_zero]); exact rfl) ?_ | refine S_u ?_ | refine S_v ?_ | refine C_sq ?_ | refine C_rg ?_ | refine L_nil ?_ | refine C_bk ?_ | refine C_ct ?_ | refine C_cf ?_ | refine C_sk ?_ | refine C_ex ?_ | refine C_rt ?_ | refine X_e ?_ | refine X_r ?_ | refine X_bh ?_ | refine X_be ?_ | refine X_br ?_ | refine X_bn ?_ | refine X_p ?_ | refine X_bp ?_)
  have hor := or_u8 h2 h3
  have hk := kids_le op
  by_cases c0 : op < 1 ∨ 10 < op
  · have hE : pcE ⟨op, pos, neg, pa, pb⟩ v = 6 := if_pos c0
    rcases c0 with c0 | c0
    all_goals
      repeat (first | (refine S_w ?_; first | (refine S_y hS ?_) | ((first | refine M_bA hS ?_ | refine M_b1 hS ?_ | refine M_aA hS ?_ | refine M_a1 hS ?_ | refine M_sl hS ?_ | refine M_s1 hS ?_ | refine M_mm hS ?_); clear hS; intro b w hS) | ((first | refine M_st hS ?_ | refine M_sA hS ?_ | refine M_in hS ?_ | refine M_sR hS ?_); clear hS; intro w hS; (try simp only [List.set_cons_zero, List.set_cons_succ, Nat.zero_add] at hS)) | (refine M_ap hS ?_; clear hS; intro g cap w hS) | refine M_pn ?_) | refine X_k (by (try simp only [Fm.toList, List.set_cons_succ, List.set_cons_zero]); exact rfl) ?_ | refine S_u ?_ | refine S_v ?_ | refine C_sq ?_ | refine C_rg ?_ | refine L_nil ?_ | refine C_bk ?_ | refine C_ct ?_ | refine C_cf ?_ | refine C_sk ?_ | refine C_ex ?_ | refine C_rt ?_ | refine X_e ?_ | refine X_r ?_ | refine X_bh ?_ | refine X_be ?_ | refine X_br ?_ | refine X_bn ?_ | refine X_p ?_ | refine X_bp ?_)
      refine V_1 ⟨by rw [hE], hS.fr⟩
  by_cases c1 : (op ≠ 3 ∧ pos ||| neg ≠ 0) ∨ (kids op < 1 ∧ pa ≠ 0) ∨ (kids op < 2 ∧ pb ≠ 0)
  · have hE : pcE ⟨op, pos, neg, pa, pb⟩ v = 2 := by unfold pcE; rw [if_neg c0]; exact if_pos c1
    by_cases d1 : op = 3
    · have dk : kids op = 0 := by subst d1; rfl
      by_cases d2 : pa = 0
      · repeat (first | (refine S_w ?_; first | (refine S_y hS ?_) | ((first | refine M_bA hS ?_ | refine M_b1 hS ?_ | refine M_aA hS ?_ | refine M_a1 hS ?_ | refine M_sl hS ?_ | refine M_s1 hS ?_ | refine M_mm hS ?_); clear hS; intro b w hS) | ((first | refine M_st hS ?_ | refine M_sA hS ?_ | refine M_in hS ?_ | refine M_sR hS ?_); clear hS; intro w hS; (try simp only [List.set_cons_zero, List.set_cons_succ, Nat.zero_add] at hS)) | (refine M_ap hS ?_; clear hS; intro g cap w hS) | refine M_pn ?_) | refine X_k (by (try simp only [Fm.toList, List.set_cons_succ, List.set_cons_zero]); exact rfl) ?_ | refine S_u ?_ | refine S_v ?_ | refine C_sq ?_ | refine C_rg ?_ | refine L_nil ?_ | refine C_bk ?_ | refine C_ct ?_ | refine C_cf ?_ | refine C_sk ?_ | refine C_ex ?_ | refine C_rt ?_ | refine X_e ?_ | refine X_r ?_ | refine X_bh ?_ | refine X_be ?_ | refine X_br ?_ | refine X_bn ?_ | refine X_p ?_ | refine X_bp ?_)
        refine V_1 ⟨by rw [hE], hS.fr⟩
      · repeat (first | (refine S_w ?_; first | (refine S_y hS ?_) | ((first | refine M_bA hS ?_ | refine M_b1 hS ?_ | refine M_aA hS ?_ | refine M_a1 hS ?_ | refine M_sl hS ?_ | refine M_s1 hS ?_ | refine M_mm hS ?_); clear hS; intro b w hS) | ((first | refine M_st hS ?_ | refine M_sA hS ?_ | refine M_in hS ?_ | refine M_sR hS ?_); clear hS; intro w hS; (try simp only [List.set_cons_zero, List.set_cons_succ, Nat.zero_add] at hS)) | (refine M_ap hS ?_; clear hS; intro g cap w hS) | refine M_pn ?_) | refine X_k (by (try simp only [Fm.toList, List.set_cons_succ, List.set_cons_zero]); exact rfl) ?_ | refine S_u ?_ | refine S_v ?_ | refine C_sq ?_ | refine C_rg ?_ | refine L_nil ?_ | refine C_bk ?_ | refine C_ct ?_ | refine C_cf ?_ | refine C_sk ?_ | refine C_ex ?_ | refine C_rt ?_ | refine X_e ?_ | refine X_r ?_ | refine X_bh ?_ | refine X_be ?_ | refine X_br ?_ | refine X_bn ?_ | refine X_p ?_ | refine X_bp ?_)
        refine V_1 ⟨by rw [hE], hS.fr⟩
    · by_cases d3 : pos ||| neg = 0
      · by_cases d4 : kids op < 1
        · by_cases d2 : pa = 0
          · repeat (first | (refine S_w ?_; first | (refine S_y hS ?_) | ((first | refine M_bA hS ?_ | refine M_b1 hS ?_ | refine M_aA hS ?_ | refine M_a1 hS ?_ | refine M_sl hS ?_ | refine M_s1 hS ?_ | refine M_mm hS ?_); clear hS; intro b w hS) | ((first | refine M_st hS ?_ | refine M_sA hS ?_ | refine M_in hS ?_ | refine M_sR hS ?_); clear hS; intro w hS; (try simp only [List.set_cons_zero, List.set_cons_succ, Nat.zero_add] at hS)) | (refine M_ap hS ?_; clear hS; intro g cap w hS) | refine M_pn ?_) | refine X_k (by (try simp only [Fm.toList, List.set_cons_succ, List.set_cons_zero]); exact rfl) ?_ | refine S_u ?_ | refine S_v ?_ | refine C_sq ?_ | refine C_rg ?_ | refine L_nil ?_ | refine C_bk ?_ | refine C_ct ?_ | refine C_cf ?_ | refine C_sk ?_ | refine C_ex ?_ | refine C_rt ?_ | refine X_e ?_ | refine X_r ?_ | refine X_bh ?_ | refine X_be ?_ | refine X_br ?_ | refine X_bn ?_ | refine X_p ?_ | refine X_bp ?_)
            refine V_1 ⟨by rw [hE], hS.fr⟩
          · repeat (first | (refine S_w ?_; first | (refine S_y hS ?_) | ((first | refine M_bA hS ?_ | refine M_b1 hS ?_ | refine M_aA hS ?_ | refine M_a1 hS ?_ | refine M_sl hS ?_ | refine M_s1 hS ?_ | refine M_mm hS ?_); clear hS; intro b w hS) | ((first | refine M_st hS ?_ | refine M_sA hS ?_ | refine M_in hS ?_ | refine M_sR hS ?_); clear hS; intro w hS; (try simp only [List.set_cons_zero, List.set_cons_succ, Nat.zero_add] at hS)) | (refine M_ap hS ?_; clear hS; intro g cap w hS) | refine M_pn ?_) | refine X_k (by (try simp only [Fm.toList, List.set_cons_succ, List.set_cons_zero]); exact rfl) ?_ | refine S_u ?_ | refine S_v ?_ | refine C_sq ?_ | refine C_rg ?_ | refine L_nil ?_ | refine C_bk ?_ | refine C_ct ?_ | refine C_cf ?_ | refine C_sk ?_ | refine C_ex ?_ | refine C_rt ?_ | refine X_e ?_ | refine X_r ?_ | refine X_bh ?_ | refine X_be ?_ | refine X_br ?_ | refine X_bn ?_ | refine X_p ?_ | refine X_bp ?_)
            refine V_1 ⟨by rw [hE], hS.fr⟩
        · repeat (first | (refine S_w ?_; first | (refine S_y hS ?_) | ((first | refine M_bA hS ?_ | refine M_b1 hS ?_ | refine M_aA hS ?_ | refine M_a1 hS ?_ | refine M_sl hS ?_ | refine M_s1 hS ?_ | refine M_mm hS ?_); clear hS; intro b w hS) | ((first | refine M_st hS ?_ | refine M_sA hS ?_ | refine M_in hS ?_ | refine M_sR hS ?_); clear hS; intro w hS; (try simp only [List.set_cons_zero, List.set_cons_succ, Nat.zero_add] at hS)) | (refine M_ap hS ?_; clear hS; intro g cap w hS) | refine M_pn ?_) | refine X_k (by (try simp only [Fm.toList, List.set_cons_succ, List.set_cons_zero]); exact rfl) ?_ | refine S_u ?_ | refine S_v ?_ | refine C_sq ?_ | refine C_rg ?_ | refine L_nil ?_ | refine C_bk ?_ | refine C_ct ?_ | refine C_cf ?_ | refine C_sk ?_ | refine C_ex ?_ | refine C_rt ?_ | refine X_e ?_ | refine X_r ?_ | refine X_bh ?_ | refine X_be ?_ | refine X_br ?_ | refine X_bn ?_ | refine X_p ?_ | refine X_bp ?_)
          refine V_1 ⟨by rw [hE], hS.fr⟩
      · repeat (first | (refine S_w ?_; first | (refine S_y hS ?_) | ((first | refine M_bA hS ?_ | refine M_b1 hS ?_ | refine M_aA hS ?_ | refine M_a1 hS ?_ | refine M_sl hS ?_ | refine M_s1 hS ?_ | refine M_mm hS ?_); clear hS; intro b w hS) | ((first | refine M_st hS ?_ | refine M_sA hS ?_ | refine M_in hS ?_ | refine M_sR hS ?_); clear hS; intro w hS; (try simp only [List.set_cons_zero, List.set_cons_succ, Nat.zero_add] at hS)) | (refine M_ap hS ?_; clear hS; intro g cap w hS) | refine M_pn ?_) | refine X_k (by (try simp only [Fm.toList, List.set_cons_succ, List.set_cons_zero]); exact rfl) ?_ | refine S_u ?_ | refine S_v ?_ | refine C_sq ?_ | refine C_rg ?_ | refine L_nil ?_ | refine C_bk ?_ | refine C_ct ?_ | refine C_cf ?_ | refine C_sk ?_ | refine C_ex ?_ | refine C_rt ?_ | refine X_e ?_ | refine X_r ?_ | refine X_bh ?_ | refine X_be ?_ | refine X_br ?_ | refine X_bn ?_ | refine X_p ?_ | refine X_bp ?_)
        refine V_1 ⟨by rw [hE], hS.fr⟩
  · have hE : pcE ⟨op, pos, neg, pa, pb⟩ v = if op = 3 then chk pos neg v else 0 := by unfold pcE; rw [if_neg c0]; exact if_neg c1
    by_cases d1 : op = 3
    · have dk : kids op = 0 := by subst d1; rfl
      rw [if_pos d1] at hE
      repeat (first | (refine S_w ?_; first | (refine M_c (Calls.toR (check_any pos neg v h2 h3 _)) ?_) | (refine S_y hS ?_) | ((first | refine M_bA hS ?_ | refine M_b1 hS ?_ | refine M_aA hS ?_ | refine M_a1 hS ?_ | refine M_sl hS ?_ | refine M_s1 hS ?_ | refine M_mm hS ?_); clear hS; intro b w hS) | ((first | refine M_st hS ?_ | refine M_sA hS ?_ | refine M_in hS ?_ | refine M_sR hS ?_); clear hS; intro w hS; (try simp only [List.set_cons_zero, List.set_cons_succ, Nat.zero_add] at hS)) | (refine M_ap hS ?_; clear hS; intro g cap w hS) | refine M_pn ?_) | refine X_k (by (try simp only [Fm.toList, List.set_cons_succ, List.set_cons_zero]); exact rfl) ?_ | refine S_u ?_ | refine S_v ?_ | refine C_sq ?_ | refine C_rg ?_ | refine L_nil ?_ | refine C_bk ?_ | refine C_ct ?_ | refine C_cf ?_ | refine C_sk ?_ | refine C_ex ?_ | refine C_rt ?_ | refine X_e ?_ | refine X_r ?_ | refine X_bh ?_ | refine X_be ?_ | refine X_br ?_ | refine X_bn ?_ | refine X_p ?_ | refine X_bp ?_)
      rintro _ w1 ⟨rfl, hb1⟩
      have hS := hS.call (Fr.of hb1)
      repeat (first | (refine S_w ?_; first | (refine S_y hS ?_) | ((first | refine M_bA hS ?_ | refine M_b1 hS ?_ | refine M_aA hS ?_ | refine M_a1 hS ?_ | refine M_sl hS ?_ | refine M_s1 hS ?_ | refine M_mm hS ?_); clear hS; intro b w hS) | ((first | refine M_st hS ?_ | refine M_sA hS ?_ | refine M_in hS ?_ | refine M_sR hS ?_); clear hS; intro w hS; (try simp only [List.set_cons_zero, List.set_cons_succ, Nat.zero_add] at hS)) | (refine M_ap hS ?_; clear hS; intro g cap w hS) | refine M_pn ?_) | refine X_k (by (try simp only [Fm.toList, List.set_cons_succ, List.set_cons_zero]); exact rfl) ?_ | refine S_u ?_ | refine S_v ?_ | refine C_sq ?_ | refine C_rg ?_ | refine L_nil ?_ | refine C_bk ?_ | refine C_ct ?_ | refine C_cf ?_ | refine C_sk ?_ | refine C_ex ?_ | refine C_rt ?_ | refine X_e ?_ | refine X_r ?_ | refine X_bh ?_ | refine X_be ?_ | refine X_br ?_ | refine X_bn ?_ | refine X_p ?_ | refine X_bp ?_)
      refine V_1 ⟨by rw [hE], hS.fr⟩
    · rw [if_neg d1] at hE
      by_cases d4 : kids op < 1
      · repeat (first | (refine S_w ?_; first | (refine S_y hS ?_) | ((first | refine M_bA hS ?_ | refine M_b1 hS ?_ | refine M_aA hS ?_ | refine M_a1 hS ?_ | refine M_sl hS ?_ | refine M_s1 hS ?_ | refine M_mm hS ?_); clear hS; intro b w hS) | ((first | refine M_st hS ?_ | refine M_sA hS ?_ | refine M_in hS ?_ | refine M_sR hS ?_); clear hS; intro w hS; (try simp only [List.set_cons_zero, List.set_cons_succ, Nat.zero_add] at hS)) | (refine M_ap hS ?_; clear hS; intro g cap w hS) | refine M_pn ?_) | refine X_k (by (try simp only [Fm.toList, List.set_cons_succ, List.set_cons_zero]); exact rfl) ?_ | refine S_u ?_ | refine S_v ?_ | refine C_sq ?_ | refine C_rg ?_ | refine L_nil ?_ | refine C_bk ?_ | refine C_ct ?_ | refine C_cf ?_ | refine C_sk ?_ | refine C_ex ?_ | refine C_rt ?_ | refine X_e ?_ | refine X_r ?_ | refine X_bh ?_ | refine X_be ?_ | refine X_br ?_ | refine X_bn ?_ | refine X_p ?_ | refine X_bp ?_)
        refine V_1 ⟨by rw [hE], hS.fr⟩
      · by_cases d5 : kids op < 2
        · repeat (first | (refine S_w ?_; first | (refine S_y hS ?_) | ((first | refine M_bA hS ?_ | refine M_b1 hS ?_ | refine M_aA hS ?_ | refine M_a1 hS ?_ | refine M_sl hS ?_ | refine M_s1 hS ?_ | refine M_mm hS ?_); clear hS; intro b w hS) | ((first | refine M_st hS ?_ | refine M_sA hS ?_ | refine M_in hS ?_ | refine M_sR hS ?_); clear hS; intro w hS; (try simp only [List.set_cons_zero, List.set_cons_succ, Nat.zero_add] at hS)) | (refine M_ap hS ?_; clear hS; intro g cap w hS) | refine M_pn ?_) | refine X_k (by (try simp only [Fm.toList, List.set_cons_succ, List.set_cons_zero]); exact rfl) ?_ | refine S_u ?_ | refine S_v ?_ | refine C_sq ?_ | refine C_rg ?_ | refine L_nil ?_ | refine C_bk ?_ | refine C_ct ?_ | refine C_cf ?_ | refine C_sk ?_ | refine C_ex ?_ | refine C_rt ?_ | refine X_e ?_ | refine X_r ?_ | refine X_bh ?_ | refine X_be ?_ | refine X_br ?_ | refine X_bn ?_ | refine X_p ?_ | refine X_bp ?_)
          refine V_1 ⟨by rw [hE], hS.fr⟩
        · repeat (first | (refine S_w ?_; first | (refine S_y hS ?_) | ((first | refine M_bA hS ?_ | refine M_b1 hS ?_ | refine M_aA hS ?_ | refine M_a1 hS ?_ | refine M_sl hS ?_ | refine M_s1 hS ?_ | refine M_mm hS ?_); clear hS; intro b w hS) | ((first | refine M_st hS ?_ | refine M_sA hS ?_ | refine M_in hS ?_ | refine M_sR hS ?_); clear hS; intro w hS; (try simp only [List.set_cons_zero, List.set_cons_succ, Nat.zero_add] at hS)) | (refine M_ap hS ?_; clear hS; intro g cap w hS) | refine M_pn ?_) | refine X_k (by (try simp only [Fm.toList, List.set_cons_succ, List.set_cons_zero]); exact rfl) ?_ | refine S_u ?_ | refine S_v ?_ | refine C_sq ?_ | refine C_rg ?_ | refine L_nil ?_ | refine C_bk ?_ | refine C_ct ?_ | refine C_cf ?_ | refine C_sk ?_ | refine C_ex ?_ | refine C_rt ?_ | refine X_e ?_ | refine X_r ?_ | refine X_bh ?_ | refine X_be ?_ | refine X_br ?_ | refine X_bn ?_ | refine X_p ?_ | refine X_bp ?_)
          refine V_1 ⟨by rw [hE], hS.fr⟩
end Go.Proofs.Ytebdkmfgfjanoaa
