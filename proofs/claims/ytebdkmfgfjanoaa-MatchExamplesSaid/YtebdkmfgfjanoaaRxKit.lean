/-
  sentinelkit's EqualRegex, CopyRegex, OverRegex; a text contained in a text.
-/
import Derived.Test.YtebdkmfgfjanoaaRX
namespace Go.Proofs.Ytebdkmfgfjanoaa
open Go.RowKit

noncomputable def pcFs : List Field := match Try.prog.underlying 55 with
  | some (.struct fs) => fs.toList
  | _ => []
theorem pc_und : Try.prog.underlying 55 = some (.struct pcFs.toArray) := by kernel_rfl
theorem pc_eqOk : eqOk Try.prog 55 = true := by kernel_rfl
set_option maxRecDepth 100000 in
theorem pc_ints (a b : Pc) : intFs Try.prog pcFs (pcV a) (pcV b) = true := by rfl
set_option maxRecDepth 100000 in
theorem pc_all (a b : Pc) : (pcFs.all fun f => valEq (nth (pcV a) f.offset) (nth (pcV b) f.offset)) = decide (a = b) := by
  have : (pcFs.all fun f => valEq (nth (pcV a) f.offset) (nth (pcV b) f.offset)) = (((a.op : Int) == b.op) && (((a.pos : Int) == b.pos) && (((a.neg : Int) == b.neg) && ((a.a == b.a) && ((a.b == b.b) && true))))) := rfl
  rw [this, Bool.eq_iff_iff]
  simp only [Bool.and_eq_true, beq_iff_eq, decide_eq_true_eq]
  constructor
  · rintro ⟨h1, h2, h3, h4, h5, _⟩
    exact Pc.ext' (by omega) (by omega) (by omega) h4 h5
  · rintro rfl
    exact ⟨rfl, rfl, rfl, rfl, rfl, trivial⟩
section
variable {rs : List Res} {o : Oper} {l : Fm} {x y : Operand} {t' : TypeId} {a b : Pc}
set_option maxRecDepth 100000 in
theorem YpE (ho : o.op = .binOp .eql 55 x y t' := by rfl) (hx : lk l x = some (.agg (pcV a).toArray) := by rfl) (hy : lk l y = some (.agg (pcV b).toArray) := by rfl) : Yl Try.prog rs l o (.bool (decide (a = b))) := ⟨fun _ =>
  x_eqAg (xs := pcV a) (ys := pcV b) ho hx hy pc_eqOk pc_und (pc_ints a b) (pc_all a b)⟩
set_option maxRecDepth 100000 in
theorem YpN (ho : o.op = .binOp .neq 55 x y t' := by rfl) (hx : lk l x = some (.agg (pcV a).toArray) := by rfl) (hy : lk l y = some (.agg (pcV b).toArray) := by rfl) : Yl Try.prog rs l o (.bool (!decide (a = b))) := ⟨fun _ =>
  x_neAg (xs := pcV a) (ys := pcV b) ho hx hy pc_eqOk pc_und (pc_ints a b) (pc_all a b)⟩
set_option maxRecDepth 100000 in
theorem YpNt (h : a ≠ b) (ho : o.op = .binOp .neq 55 x y t' := by rfl) (hx : lk l x = some (.agg (pcV a).toArray) := by rfl) (hy : lk l y = some (.agg (pcV b).toArray) := by rfl) : Yl Try.prog rs l o (.bool true) := by
  have := YpN (rs := rs) ho hx hy; rwa [decide_eq_false h] at this
set_option maxRecDepth 100000 in
theorem YpNf (h : a = b) (ho : o.op = .binOp .neq 55 x y t' := by rfl) (hx : lk l x = some (.agg (pcV a).toArray) := by rfl) (hy : lk l y = some (.agg (pcV b).toArray) := by rfl) : Yl Try.prog rs l o (.bool false) := by
  have := YpN (rs := rs) ho hx hy; rwa [decide_eq_true h] at this
end
set_option maxHeartbeats 2000000 in
set_option maxRecDepth 100000 in
theorem equalRxR (A B : Option Addr) (n m c d : Nat) (L M : List Pc) (W : World) (hA : Rd W 5 A n (rxCells L)) (hB : Rd W 5 B m (rxCells M)) (hn : n ≤ 4294967296) (hm : m ≤ 4294967296) :
    CallsR Try.prog 20 #[.slice A n c, .slice B m d] W fun r w' => r = .bool (decide (L = M)) ∧ Fr Nof W w' := by
  have hl : L.length = n := by have := hA.1; rw [rxCells_len] at this; omega
  have hl' : M.length = m := by have := hB.1; rw [rxCells_len] at this; omega
  by_cases hnm : n = m
  · subst hnm
    have hS := ((St.start Nof W).addRo (r := Res.rd 5 B n (rxCells M)) hB rfl (fun _ h => by cases h)).addRo (r := Res.rd 5 A n (rxCells L)) hA rfl (fun s h hro => by
      rcases List.mem_cons.1 h with rfl | h
      · cases hro
      · cases h)
    refine E_r (m := 24) ?_ Try.func20 rfl Try.ntmps20 rfl; refine C_ft ?_
    repeat (first | (refine S_w ?_; first | (refine S_y hS ?_) | ((first | refine M_bA hS ?_ | refine M_b1 hS ?_ | refine M_aA hS ?_ | refine M_a1 hS ?_ | refine M_sl hS ?_ | refine M_s1 hS ?_ | refine M_mm hS ?_); clear hS; intro b w hS) | ((first | refine M_st hS ?_ | refine M_sA hS ?_ | refine M_in hS ?_ | refine M_sR hS ?_); clear hS; intro w hS; (try simp only [List.set_cons_zero, List.set_cons_succ, Nat.zero_add] at hS)) | (refine M_ap hS ?_; clear hS; intro g cap w hS) | refine M_pn ?_) | refine X_k (by (try simp only [Fm.toList, List.set_cons_succ, List.set_cons_zero]); exact rfl) ?_ | refine S_u ?_ | refine S_v ?_ | refine C_sq ?_ | refine C_rg ?_ | refine L_nil ?_ | refine C_bk ?_ | refine C_ct ?_ | refine C_cf ?_ | refine C_sk ?_ | refine C_ex ?_ | refine C_rt ?_ | refine X_e ?_ | refine X_r ?_ | refine X_bh ?_ | refine X_be ?_ | refine X_br ?_ | refine X_bn ?_ | refine X_p ?_ | refine X_bp ?_)
    refine C_lp [4, 2, 5, 15] (fun i : Nat => [(5, .int .i64 (i : Nat))]) (fun i w' => i ≤ n ∧ L.take i = M.take i ∧ St Nof W [Res.rd 5 A n (rxCells L), Res.rd 5 B n (rxCells M)] w') (fun i => n - i) 0 ⟨Nat.zero_le _, rfl, hS⟩ ?_
    clear hS
    rintro i y w ⟨hi, htk, hS⟩
    refine C_fs ?_
    by_cases hlt : i < n
    · obtain ⟨p, hp⟩ : ∃ p, L[i]? = some p := ⟨L[i], List.getElem?_eq_getElem (by omega)⟩
      obtain ⟨q, hq⟩ : ∃ q, M[i]? = some q := ⟨M[i], List.getElem?_eq_getElem (by omega)⟩
      have hpd := rxCells_drop hp
      have hqd := rxCells_drop hq
      by_cases hpq : p = q
      · have htk' : L.take (i + 1) = M.take (i + 1) := take_eq_succ hp (hpq ▸ hq) htk
        repeat (first | (refine S_w ?_; first | (refine S_y hS ?_) | ((first | refine M_bA hS ?_ | refine M_b1 hS ?_ | refine M_aA hS ?_ | refine M_a1 hS ?_ | refine M_sl hS ?_ | refine M_s1 hS ?_ | refine M_mm hS ?_); clear hS; intro b w hS) | ((first | refine M_st hS ?_ | refine M_sA hS ?_ | refine M_in hS ?_ | refine M_sR hS ?_); clear hS; intro w hS; (try simp only [List.set_cons_zero, List.set_cons_succ, Nat.zero_add] at hS)) | (refine M_ap hS ?_; clear hS; intro g cap w hS) | refine M_pn ?_) | refine X_k (by (try simp only [Fm.toList, List.set_cons_succ, List.set_cons_zero]); exact rfl) ?_ | refine S_u ?_ | refine S_v ?_ | refine C_sq ?_ | refine C_rg ?_ | refine L_nil ?_ | refine C_bk ?_ | refine C_ct ?_ | refine C_cf ?_ | refine C_sk ?_ | refine C_ex ?_ | refine C_rt ?_ | refine X_e ?_ | refine X_r ?_ | refine X_bh ?_ | refine X_be ?_ | refine X_br ?_ | refine X_bn ?_ | refine X_p ?_ | refine X_bp ?_)
        refine C_qt hS ?_
        repeat (first | (refine Q_w ?_; first | (refine Q_q (YiM (hm := hasSlT)) ?_) | (refine Q_q (YlG (hm := hasSlH) (hv := hpd)) ?_) | (refine Q_q (YlG (hm := hasSlT) (hv := hqd)) ?_) | (refine Q_q (YpNf hpq) ?_) | (refine Q_y ?_)) | refine Q_u ?_)
        refine Q_n ?_; clear hS; intro w hS
        repeat (first | (refine S_w ?_; first | (refine S_y hS ?_) | ((first | refine M_bA hS ?_ | refine M_b1 hS ?_ | refine M_aA hS ?_ | refine M_a1 hS ?_ | refine M_sl hS ?_ | refine M_s1 hS ?_ | refine M_mm hS ?_); clear hS; intro b w hS) | ((first | refine M_st hS ?_ | refine M_sA hS ?_ | refine M_in hS ?_ | refine M_sR hS ?_); clear hS; intro w hS; (try simp only [List.set_cons_zero, List.set_cons_succ, Nat.zero_add] at hS)) | (refine M_ap hS ?_; clear hS; intro g cap w hS) | refine M_pn ?_) | refine X_k (by (try simp only [Fm.toList, List.set_cons_succ, List.set_cons_zero]); exact rfl) ?_ | refine S_u ?_ | refine S_v ?_ | refine C_sq ?_ | refine C_rg ?_ | refine L_nil ?_ | refine C_bk ?_ | refine C_ct ?_ | refine C_cf ?_ | refine C_sk ?_ | refine C_ex ?_ | refine C_rt ?_ | refine X_e ?_ | refine X_r ?_ | refine X_bh ?_ | refine X_be ?_ | refine X_br ?_ | refine X_bn ?_ | refine X_p ?_ | refine X_bp ?_)
        refine R_e (i + 1) ⟨by omega, htk', hS⟩ (by omega)
      · have hne : ¬ L = M := fun e => by rw [e, hq] at hp; exact hpq (by cases hp; rfl)
        repeat (first | (refine S_w ?_; first | (refine S_y hS ?_) | ((first | refine M_bA hS ?_ | refine M_b1 hS ?_ | refine M_aA hS ?_ | refine M_a1 hS ?_ | refine M_sl hS ?_ | refine M_s1 hS ?_ | refine M_mm hS ?_); clear hS; intro b w hS) | ((first | refine M_st hS ?_ | refine M_sA hS ?_ | refine M_in hS ?_ | refine M_sR hS ?_); clear hS; intro w hS; (try simp only [List.set_cons_zero, List.set_cons_succ, Nat.zero_add] at hS)) | (refine M_ap hS ?_; clear hS; intro g cap w hS) | refine M_pn ?_) | refine X_k (by (try simp only [Fm.toList, List.set_cons_succ, List.set_cons_zero]); exact rfl) ?_ | refine S_u ?_ | refine S_v ?_ | refine C_sq ?_ | refine C_rg ?_ | refine L_nil ?_ | refine C_bk ?_ | refine C_ct ?_ | refine C_cf ?_ | refine C_sk ?_ | refine C_ex ?_ | refine C_rt ?_ | refine X_e ?_ | refine X_r ?_ | refine X_bh ?_ | refine X_be ?_ | refine X_br ?_ | refine X_bn ?_ | refine X_p ?_ | refine X_bp ?_)
        refine C_qt hS ?_
        repeat (first | (refine Q_w ?_; first | (refine Q_q (YlG (hm := hasSlH) (hv := hpd)) ?_) | (refine Q_q (YlG (hm := hasSlT) (hv := hqd)) ?_) | (refine Q_q (YpNt hpq) ?_) | (refine Q_y ?_)) | refine Q_u ?_)
        refine Q_n ?_; clear hS; intro w hS
        repeat (first | (refine S_w ?_; first | (refine S_y hS ?_) | ((first | refine M_bA hS ?_ | refine M_b1 hS ?_ | refine M_aA hS ?_ | refine M_a1 hS ?_ | refine M_sl hS ?_ | refine M_s1 hS ?_ | refine M_mm hS ?_); clear hS; intro b w hS) | ((first | refine M_st hS ?_ | refine M_sA hS ?_ | refine M_in hS ?_ | refine M_sR hS ?_); clear hS; intro w hS; (try simp only [List.set_cons_zero, List.set_cons_succ, Nat.zero_add] at hS)) | (refine M_ap hS ?_; clear hS; intro g cap w hS) | refine M_pn ?_) | refine X_k (by (try simp only [Fm.toList, List.set_cons_succ, List.set_cons_zero]); exact rfl) ?_ | refine S_u ?_ | refine S_v ?_ | refine C_sq ?_ | refine C_rg ?_ | refine L_nil ?_ | refine C_bk ?_ | refine C_ct ?_ | refine C_cf ?_ | refine C_sk ?_ | refine C_ex ?_ | refine C_rt ?_ | refine X_e ?_ | refine X_r ?_ | refine X_bh ?_ | refine X_be ?_ | refine X_br ?_ | refine X_bn ?_ | refine X_p ?_ | refine X_bp ?_)
        refine V_1 ⟨by rw [decide_eq_false hne], hS.fr⟩
    · obtain rfl : i = n := by omega
      have heq : L = M := by
        rw [← List.take_of_length_le (l := L) (i := i) (by omega), htk, List.take_of_length_le (by omega)]
      repeat (first | (refine S_w ?_; first | (refine S_y hS ?_) | ((first | refine M_bA hS ?_ | refine M_b1 hS ?_ | refine M_aA hS ?_ | refine M_a1 hS ?_ | refine M_sl hS ?_ | refine M_s1 hS ?_ | refine M_mm hS ?_); clear hS; intro b w hS) | ((first | refine M_st hS ?_ | refine M_sA hS ?_ | refine M_in hS ?_ | refine M_sR hS ?_); clear hS; intro w hS; (try simp only [List.set_cons_zero, List.set_cons_succ, Nat.zero_add] at hS)) | (refine M_ap hS ?_; clear hS; intro g cap w hS) | refine M_pn ?_) | refine X_k (by (try simp only [Fm.toList, List.set_cons_succ, List.set_cons_zero]); exact rfl) ?_ | refine S_u ?_ | refine S_v ?_ | refine C_sq ?_ | refine C_rg ?_ | refine L_nil ?_ | refine C_bk ?_ | refine C_ct ?_ | refine C_cf ?_ | refine C_sk ?_ | refine C_ex ?_ | refine C_rt ?_ | refine X_e ?_ | refine X_r ?_ | refine X_bh ?_ | refine X_be ?_ | refine X_br ?_ | refine X_bn ?_ | refine X_p ?_ | refine X_bp ?_)
      refine V_1 ⟨by rw [decide_eq_true heq], hS.fr⟩
  · have hne : ¬ L = M := fun e => hnm (by rw [← hl, ← hl', e])
    have hS := St.start Nof W
    refine E_r (m := 24) ?_ Try.func20 rfl Try.ntmps20 rfl; refine C_ft ?_
    repeat (first | (refine S_w ?_; first | (refine S_y hS ?_) | ((first | refine M_bA hS ?_ | refine M_b1 hS ?_ | refine M_aA hS ?_ | refine M_a1 hS ?_ | refine M_sl hS ?_ | refine M_s1 hS ?_ | refine M_mm hS ?_); clear hS; intro b w hS) | ((first | refine M_st hS ?_ | refine M_sA hS ?_ | refine M_in hS ?_ | refine M_sR hS ?_); clear hS; intro w hS; (try simp only [List.set_cons_zero, List.set_cons_succ, Nat.zero_add] at hS)) | (refine M_ap hS ?_; clear hS; intro g cap w hS) | refine M_pn ?_) | refine X_k (by (try simp only [Fm.toList, List.set_cons_succ, List.set_cons_zero]); exact rfl) ?_ | refine S_u ?_ | refine S_v ?_ | refine C_sq ?_ | refine C_rg ?_ | refine L_nil ?_ | refine C_bk ?_ | refine C_ct ?_ | refine C_cf ?_ | refine C_sk ?_ | refine C_ex ?_ | refine C_rt ?_ | refine X_e ?_ | refine X_r ?_ | refine X_bh ?_ | refine X_be ?_ | refine X_br ?_ | refine X_bn ?_ | refine X_p ?_ | refine X_bp ?_)
    refine V_1 ⟨by rw [decide_eq_false hne], hS.fr⟩
theorem rxCells_one (L : List Pc) : one' (rxCells L) = true := by
  simp only [one', List.all_eq_true, rxCells, List.mem_flatMap]
  rintro u ⟨p, _, hu⟩
  simp only [pcV, List.mem_cons, List.not_mem_nil, or_false] at hu
  rcases hu with rfl | rfl | rfl | rfl | rfl <;> rfl
set_option maxHeartbeats 2000000 in
set_option maxRecDepth 100000 in
theorem copyRxR (A : Option Addr) (n c : Nat) (L : List Pc) (W : World) (hA : Rd W 5 A n (rxCells L)) (hn : n ≤ 4294967296) :
    CallsR Try.prog 12 #[.slice A n c] W fun r w' => ∃ A' c', r = .slice A' n c' ∧ w'.ownsRow W.heap.size 55 5 (.slice A' n c') n (rxCells L) ∧ Fr Nof W w' := by
  have hl : L.length = n := by have := hA.1; rw [rxCells_len] at this; omega
  have h1 := rxCells_one L
  have hS := ((St.start Nof W).addRo (r := Res.rd 5 A n (rxCells L)) hA rfl (fun _ h => by cases h)).rowNil 55 5
  refine E_r (m := 4) ?_ Try.func12 rfl Try.ntmps12 rfl; refine C_ft ?_
  by_cases h0 : n = 0
  · subst h0
    obtain rfl : L = [] := List.length_eq_zero_iff.1 hl
    repeat (first | (refine S_w ?_; first | (refine M_a0 hS ?_ (size := 5) (hi := by rfl) (hsz := by omega); clear hS; intro w hS) | (refine S_y hS ?_) | ((first | refine M_bA hS ?_ | refine M_b1 hS ?_ | refine M_aA hS ?_ | refine M_a1 hS ?_ | refine M_sl hS ?_ | refine M_s1 hS ?_ | refine M_mm hS ?_); clear hS; intro b w hS) | ((first | refine M_st hS ?_ | refine M_sA hS ?_ | refine M_in hS ?_ | refine M_sR hS ?_); clear hS; intro w hS; (try simp only [List.set_cons_zero, List.set_cons_succ, Nat.zero_add] at hS)) | (refine M_ap hS ?_; clear hS; intro g cap w hS) | refine M_pn ?_) | refine X_k (by (try simp only [Fm.toList, List.set_cons_succ, List.set_cons_zero]); exact rfl) ?_ | refine S_u ?_ | refine S_v ?_ | refine C_sq ?_ | refine C_rg ?_ | refine L_nil ?_ | refine C_bk ?_ | refine C_ct ?_ | refine C_cf ?_ | refine C_sk ?_ | refine C_ex ?_ | refine C_rt ?_ | refine X_e ?_ | refine X_r ?_ | refine X_bh ?_ | refine X_be ?_ | refine X_br ?_ | refine X_bn ?_ | refine X_p ?_ | refine X_bp ?_)
    refine V_1 ⟨none, 0, rfl, World.ownsRow_nil _ _ _ _, hS.fr⟩
  · repeat (first | (refine S_w ?_; first | (refine M_aR hS ?_; clear hS; intro g cap w hS) | (refine S_y hS ?_) | ((first | refine M_bA hS ?_ | refine M_b1 hS ?_ | refine M_aA hS ?_ | refine M_a1 hS ?_ | refine M_sl hS ?_ | refine M_s1 hS ?_ | refine M_mm hS ?_); clear hS; intro b w hS) | ((first | refine M_st hS ?_ | refine M_sA hS ?_ | refine M_in hS ?_ | refine M_sR hS ?_); clear hS; intro w hS; (try simp only [List.set_cons_zero, List.set_cons_succ, Nat.zero_add] at hS)) | (refine M_ap hS ?_; clear hS; intro g cap w hS) | refine M_pn ?_) | refine X_k (by (try simp only [Fm.toList, List.set_cons_succ, List.set_cons_zero]); exact rfl) ?_ | refine S_u ?_ | refine S_v ?_ | refine C_sq ?_ | refine C_rg ?_ | refine L_nil ?_ | refine C_bk ?_ | refine C_ct ?_ | refine C_cf ?_ | refine C_sk ?_ | refine C_ex ?_ | refine C_rt ?_ | refine X_e ?_ | refine X_r ?_ | refine X_bh ?_ | refine X_be ?_ | refine X_br ?_ | refine X_bn ?_ | refine X_p ?_ | refine X_bp ?_)
    have e : (0 + n) = n := by omega
    rw [e] at hS ⊢
    refine V_1 ⟨some ⟨g, 0, none⟩, cap, rfl, by simpa using hS.rowOwnM, hS.fr⟩
set_option maxHeartbeats 2000000 in
set_option maxRecDepth 100000 in
theorem overRxR {F : Nat → Prop} {w0 W : World} {rs : List Res} (A : Option Addr) (n c : Nat) (hS : St F w0 rs W) (hm : Res.wrow 55 5 (.slice A n c) n ∈ rs) (hn : n ≤ 4294967296) :
    CallsR Try.prog 27 #[.slice A n c] W fun r w' => r = .tuple #[] ∧ St F w0 rs w' := by
  refine E_r (m := 12) ?_ Try.func27 rfl Try.ntmps27 rfl; refine C_ft ?_
  repeat (first | (refine S_w ?_; first | (refine S_y hS ?_) | ((first | refine M_bA hS ?_ | refine M_b1 hS ?_ | refine M_aA hS ?_ | refine M_a1 hS ?_ | refine M_sl hS ?_ | refine M_s1 hS ?_ | refine M_mm hS ?_); clear hS; intro b w hS) | ((first | refine M_st hS ?_ | refine M_sA hS ?_ | refine M_in hS ?_ | refine M_sR hS ?_); clear hS; intro w hS; (try simp only [List.set_cons_zero, List.set_cons_succ, Nat.zero_add] at hS)) | (refine M_ap hS ?_; clear hS; intro g cap w hS) | refine M_pn ?_) | refine X_k (by (try simp only [Fm.toList, List.set_cons_succ, List.set_cons_zero]); exact rfl) ?_ | refine S_u ?_ | refine S_v ?_ | refine C_sq ?_ | refine C_rg ?_ | refine L_nil ?_ | refine C_bk ?_ | refine C_ct ?_ | refine C_cf ?_ | refine C_sk ?_ | refine C_ex ?_ | refine C_rt ?_ | refine X_e ?_ | refine X_r ?_ | refine X_bh ?_ | refine X_be ?_ | refine X_br ?_ | refine X_bn ?_ | refine X_p ?_ | refine X_bp ?_)
  refine C_lp [2, 11] (fun i : Nat => [(2, .int .i64 (i : Nat))]) (fun i w' => i ≤ n ∧ St F w0 rs w') (fun i => n - i) 0 ⟨Nat.zero_le _, hS⟩ ?_
  clear hS
  rintro i y w ⟨hi, hS⟩
  refine C_fs ?_
  by_cases hlt : i < n
  · repeat (first | (refine S_w ?_; first | (refine S_ex rfl (x_idxW hS rfl rfl rfl rfl hm rfl (by omega)) ?_) | (refine S_storeW hS rfl rfl rfl rfl rfl hm rfl rfl (by omega) ?_; clear hS; intro w hS) | (refine S_y hS ?_) | ((first | refine M_bA hS ?_ | refine M_b1 hS ?_ | refine M_aA hS ?_ | refine M_a1 hS ?_ | refine M_sl hS ?_ | refine M_s1 hS ?_ | refine M_mm hS ?_); clear hS; intro b w hS) | ((first | refine M_st hS ?_ | refine M_sA hS ?_ | refine M_in hS ?_ | refine M_sR hS ?_); clear hS; intro w hS; (try simp only [List.set_cons_zero, List.set_cons_succ, Nat.zero_add] at hS)) | (refine M_ap hS ?_; clear hS; intro g cap w hS) | refine M_pn ?_) | refine X_k (by (try simp only [Fm.toList, List.set_cons_succ, List.set_cons_zero]); exact rfl) ?_ | refine S_u ?_ | refine S_v ?_ | refine C_sq ?_ | refine C_rg ?_ | refine L_nil ?_ | refine C_bk ?_ | refine C_ct ?_ | refine C_cf ?_ | refine C_sk ?_ | refine C_ex ?_ | refine C_rt ?_ | refine X_e ?_ | refine X_r ?_ | refine X_bh ?_ | refine X_be ?_ | refine X_br ?_ | refine X_bn ?_ | refine X_p ?_ | refine X_bp ?_)
    refine R_e (i + 1) ⟨by omega, hS⟩ (by omega)
  · repeat (first | (refine S_w ?_; first | (refine S_y hS ?_) | ((first | refine M_bA hS ?_ | refine M_b1 hS ?_ | refine M_aA hS ?_ | refine M_a1 hS ?_ | refine M_sl hS ?_ | refine M_s1 hS ?_ | refine M_mm hS ?_); clear hS; intro b w hS) | ((first | refine M_st hS ?_ | refine M_sA hS ?_ | refine M_in hS ?_ | refine M_sR hS ?_); clear hS; intro w hS; (try simp only [List.set_cons_zero, List.set_cons_succ, Nat.zero_add] at hS)) | (refine M_ap hS ?_; clear hS; intro g cap w hS) | refine M_pn ?_) | refine X_k (by (try simp only [Fm.toList, List.set_cons_succ, List.set_cons_zero]); exact rfl) ?_ | refine S_u ?_ | refine S_v ?_ | refine C_sq ?_ | refine C_rg ?_ | refine L_nil ?_ | refine C_bk ?_ | refine C_ct ?_ | refine C_cf ?_ | refine C_sk ?_ | refine C_ex ?_ | refine C_rt ?_ | refine X_e ?_ | refine X_r ?_ | refine X_bh ?_ | refine X_be ?_ | refine X_br ?_ | refine X_bn ?_ | refine X_p ?_ | refine X_bp ?_)
    refine V_e ⟨rfl, hS⟩
end Go.Proofs.Ytebdkmfgfjanoaa
