/-
  regex.check's closure: look-arounds stand free.
-/
import Derived.Test.YtebdkmfgfjanoaaRxBlk
namespace Go.Proofs.Ytebdkmfgfjanoaa
open Go.RowKit

/-- the tree's pieces lie in L from number k on -/
def At (L : List Pc) (k : Nat) (t : T) : Prop := ∀ (j : Nat) (p : Pc), (t.flat k)[j]? = some p → L[k + j]? = some p
theorem At.whole (t : T) : At (t.flat 0) 0 t := fun j p h => by rw [Nat.zero_add]; exact h
theorem At.root {L : List Pc} {k : Nat} {t : T} (h : At L k t) : L[k + t.size - 1]? = some (t.root k) := by
  have h1 := T.size_pos t
  have := h _ _ (T.flat_last k t)
  rwa [show k + (t.size - 1) = k + t.size - 1 by omega] at this
theorem At.un {L : List Pc} {k op : Nat} {a : T} (h : At L k (.un op a)) : At L k a := fun j p hj => by
  refine h j p ?_
  have hl := (List.getElem?_eq_some_iff.1 hj).1
  simp only [T.flat]
  rw [List.getElem?_append_left hl]; exact hj
theorem At.left {L : List Pc} {k op : Nat} {a b : T} (h : At L k (.bin op a b)) : At L k a := fun j p hj => by
  refine h j p ?_
  have hl := (List.getElem?_eq_some_iff.1 hj).1
  simp only [T.flat]
  rw [List.getElem?_append_left hl]; exact hj
theorem At.right {L : List Pc} {k op : Nat} {a b : T} (h : At L k (.bin op a b)) : At L (k + a.size) b := fun j p hj => by
  have hl := (List.getElem?_eq_some_iff.1 hj).1
  have hfa := T.flat_len k a
  have := h (a.size + j) p (by
    simp only [T.flat]
    rw [List.getElem?_append_right (by omega), hfa, show a.size + j - a.size = j by omega, List.getElem?_append_left hl]; exact hj)
  rwa [← Nat.add_assoc] at this
theorem At.lt {L : List Pc} {k : Nat} {t : T} (h : At L k t) : k + t.size ≤ L.length := by
  have h1 := (List.getElem?_eq_some_iff.1 h.root).1
  have h2 := T.size_pos t
  omega
theorem At.drop {L : List Pc} {k : Nat} {t : T} (h : At L k t) : ((rxCells L).drop ((((k + t.size : Nat) : Int) - 1).toNat * 5)).take (pcV (t.root k)).length = pcV (t.root k) := by
  have h2 := T.size_pos t
  rw [show (((k + t.size : Nat) : Int) - 1).toNat = k + t.size - 1 by omega]
  exact rxCells_drop h.root

def VisArgs (i : Int) (f : Bool) (be bv : Nat) : Array Value := #[.int .i64 i, .bool f, .pointer (some ⟨be, 0, none⟩), .pointer (some ⟨bv, 0, none⟩)]
section
variable (A : Option Addr) (n c : Nat) (L : List Pc) (be bv : Nat) (fty : TypeId)
set_option maxHeartbeats 8000000 in
set_option maxRecDepth 100000 in
theorem visit_leaf (hl : L.length = n) (hn : n ≤ 4294967296) (i : Nat) (p : Pc) (hp : L[i]? = some p) (hk : kids p.op = 0) (f : Bool) (F : Nat → Prop) (w0 : World) (rs : List Res) (w : World) (hS : St F w0 rs w)
    (hm1 : HasObj rs be (.cells [.slice A n c].toArray 23 (0, 0))) (hm3 : HasSl rs A n 5 (rxCells L)) :
    CallsR Try.prog 63 (VisArgs i f be bv) w fun r w' => r = .bool true ∧ St F w0 rs w' := by
  have hlt := (List.getElem?_eq_some_iff.1 hp).1
  have hpd := rxCells_drop hp
  have hlo := ops_look p.op
  have hk0 := kids_zero.1 hk
  show CallsR _ _ #[.int .i64 i, .bool f, .pointer (some ⟨be, 0, none⟩), .pointer (some ⟨bv, 0, none⟩)] _ _
  refine E_r (m := 57) ?_ Try.func63 rfl Try.ntmps63 rfl; refine C_ft ?_
  cases f
  all_goals
    repeat (first | (refine S_w ?_; first | (refine S_y hS ?_) | ((first | refine M_bA hS ?_ | refine M_b1 hS ?_ | refine M_aA hS ?_ | refine M_a1 hS ?_ | refine M_sl hS ?_ | refine M_s1 hS ?_ | refine M_mm hS ?_); clear hS; intro b w hS) | ((first | refine M_st hS ?_ | refine M_sA hS ?_ | refine M_in hS ?_ | refine M_sR hS ?_); clear hS; intro w hS; (try simp only [List.set_cons_zero, List.set_cons_succ, Nat.zero_add] at hS)) | (refine M_ap hS ?_; clear hS; intro g cap w hS) | refine M_pn ?_) | refine X_k (by (try simp only [Fm.toList, List.set_cons_succ, List.set_cons_zero]); exact rfl) ?_ | refine S_u ?_ | refine S_v ?_ | refine C_sq ?_ | refine C_rg ?_ | refine L_nil ?_ | refine C_bk ?_ | refine C_ct ?_ | refine C_cf ?_ | refine C_sk ?_ | refine C_ex ?_ | refine C_rt ?_ | refine X_e ?_ | refine X_r ?_ | refine X_bh ?_ | refine X_be ?_ | refine X_br ?_ | refine X_bn ?_ | refine X_p ?_ | refine X_bp ?_)
    refine C_pl (.take 1 (.take 2 (.one 0 (.one 3 (.one 4 (.one 5 .done)))))) hS ?_; clear hS; intro w hS; (with_reducible apply P_t); rfl; refine P_y hS.sb (by first | exact Yfc | exact Yp) ?_; (with_reducible apply P_t); rfl; refine P_y hS.sb Yld ?_; (with_reducible apply P_one); rfl; refine P_f ?_; intro Q' hQ' hE'; refine S_w ?_; refine M_c (opsR _) ?_; rintro _ wo ⟨bm, rfl, hlo, hho, hfo⟩; have hS := hS.freshObj hfo hho hlo; clear hlo hho hfo; (try refine L_nil ?_); refine hQ' _ _ hS.sb ?_; clear hQ' hE'; (with_reducible apply P_one); rfl; refine P_f ?_; intro Q' hQ' hE'; refine S_w ?_; refine S_q hS Ymp ?_; (try refine L_nil ?_); refine hQ' _ _ hS.sb ?_; clear hQ' hE'; (with_reducible apply P_one); rfl; refine P_f ?_; intro Q' hQ' hE'; refine S_w ?_; refine S_q hS Yp ?_; (try refine L_nil ?_); refine hQ' _ _ hS.sb ?_; clear hQ' hE'; (with_reducible apply P_one); rfl; refine P_f ?_; intro Q' hQ' hE'; refine S_w ?_; refine S_q hS Yp ?_; (try refine L_nil ?_); refine hQ' _ _ hS.sb ?_; clear hQ' hE'; refine P_d ?_
    repeat (first | (refine S_w ?_; first | (refine S_y hS ?_) | ((first | refine M_bA hS ?_ | refine M_b1 hS ?_ | refine M_aA hS ?_ | refine M_a1 hS ?_ | refine M_sl hS ?_ | refine M_s1 hS ?_ | refine M_mm hS ?_); clear hS; intro b w hS) | ((first | refine M_st hS ?_ | refine M_sA hS ?_ | refine M_in hS ?_ | refine M_sR hS ?_); clear hS; intro w hS; (try simp only [List.set_cons_zero, List.set_cons_succ, Nat.zero_add] at hS)) | (refine M_ap hS ?_; clear hS; intro g cap w hS) | refine M_pn ?_) | refine X_k (by (try simp only [Fm.toList, List.set_cons_succ, List.set_cons_zero]); exact rfl) ?_ | refine S_u ?_ | refine S_v ?_ | refine C_sq ?_ | refine C_rg ?_ | refine L_nil ?_ | refine C_bk ?_ | refine C_ct ?_ | refine C_cf ?_ | refine C_sk ?_ | refine C_ex ?_ | refine C_rt ?_ | refine X_e ?_ | refine X_r ?_ | refine X_bh ?_ | refine X_be ?_ | refine X_br ?_ | refine X_bn ?_ | refine X_p ?_ | refine X_bp ?_)
    refine V_1 ⟨rfl, hS.sb⟩
set_option maxHeartbeats 8000000 in
set_option maxRecDepth 100000 in
theorem visitR (hl : L.length = n) (hn : n ≤ 4294967296) {v : Int} : ∀ (t : T) (k : Nat) (f : Bool), At L k t → t.wf v → ∀ (F : Nat → Prop) (w0 : World) (rs : List Res) (w : World), St F w0 rs w →
    HasObj rs be (.cells [.slice A n c].toArray 23 (0, 0)) → HasObj rs bv (.cells [.func (.func 63) #[] #[.pointer (some ⟨be, 0, none⟩), .pointer (some ⟨bv, 0, none⟩)]].toArray fty (0, 0)) → HasSl rs A n 5 (rxCells L) →
    CallsR Try.prog 63 (VisArgs (((k + t.size : Nat) : Int) - 1) f be bv) w fun r w' => r = .bool (t.free f) ∧ St F w0 rs w' := by
  intro t
  induction t with
  | un op a ih =>
    intro k f hat hwf F w0 rs w hS hm1 hm2 hm3
    have hlt := hat.lt
    have hpd : ((rxCells L).drop ((((k + (T.un op a).size : Nat) : Int) - 1).toNat * 5)).take [vb op, vb 0, vb 0, .int .i64 (((k + a.size : Nat) : Int) - 1), .int .i64 0].length = [vb op, vb 0, vb 0, .int .i64 (((k + a.size : Nat) : Int) - 1), .int .i64 0] := hat.drop
    have hsz := T.size_pos a
    have hlo := ops_look op
    have hk1 := hwf.1
    have hk := kids_one.1 hk1
    have hsz2 : (T.un op a).size = a.size + 1 := rfl
    have ihc := ih k false hat.un hwf.2
    have hi : 0 ≤ ((k + (T.un op a).size : Nat) : Int) - 1 ∧ ((k + (T.un op a).size : Nat) : Int) - 1 < n := by omega
    show CallsR _ _ #[_, .bool f, .pointer (some ⟨be, 0, none⟩), .pointer (some ⟨bv, 0, none⟩)] _ _
    by_cases hb : f = false ∧ (op = 9 ∨ op = 10)
    · obtain ⟨rfl, hop⟩ := hb
      have hsz3 : T.free false (.un op a) = false := by rcases hop with rfl | rfl <;> simp [T.free]
      rw [hsz3]
      rcases hop with hop | hop
      all_goals
        refine E_r (m := 57) ?_ Try.func63 rfl Try.ntmps63 rfl; refine C_ft ?_
        repeat (first | (refine S_w ?_; first | (refine S_y hS ?_) | ((first | refine M_bA hS ?_ | refine M_b1 hS ?_ | refine M_aA hS ?_ | refine M_a1 hS ?_ | refine M_sl hS ?_ | refine M_s1 hS ?_ | refine M_mm hS ?_); clear hS; intro b w hS) | ((first | refine M_st hS ?_ | refine M_sA hS ?_ | refine M_in hS ?_ | refine M_sR hS ?_); clear hS; intro w hS; (try simp only [List.set_cons_zero, List.set_cons_succ, Nat.zero_add] at hS)) | (refine M_ap hS ?_; clear hS; intro g cap w hS) | refine M_pn ?_) | refine X_k (by (try simp only [Fm.toList, List.set_cons_succ, List.set_cons_zero]); exact rfl) ?_ | refine S_u ?_ | refine S_v ?_ | refine C_sq ?_ | refine C_rg ?_ | refine L_nil ?_ | refine C_bk ?_ | refine C_ct ?_ | refine C_cf ?_ | refine C_sk ?_ | refine C_ex ?_ | refine C_rt ?_ | refine X_e ?_ | refine X_r ?_ | refine X_bh ?_ | refine X_be ?_ | refine X_br ?_ | refine X_bn ?_ | refine X_p ?_ | refine X_bp ?_)
        refine V_1 ⟨rfl, hS.sb⟩
    · have hsz3 : T.free f (.un op a) = a.free false := by
        cases f
        · have hno : ¬ (op = 9 ∨ op = 10) := fun h => hb ⟨rfl, h⟩
          have : (op == 9 || op == 10) = false := by simp; omega
          simp [T.free, this]
        · simp [T.free]
      rw [hsz3]
      have hlook : f = true ∨ ¬ (op = 9 ∨ op = 10) := by
        cases f
        · exact .inr fun h => hb ⟨rfl, h⟩
        · exact .inl rfl
      clear hb hsz3
      generalize a.free false = r1 at ihc ⊢
      have hop : op = 9 ∨ op = 10 ∨ (op ≠ 9 ∧ op ≠ 10) := by omega
      rcases hop with hop | hop | ⟨hop, hop2⟩
      all_goals
        cases f
        all_goals
          first
          | (exfalso; simp at hlook; omega)
          | cases r1
            all_goals
              refine E_r (m := 57) ?_ Try.func63 rfl Try.ntmps63 rfl; refine C_ft ?_
              repeat (first | (refine S_w ?_; first | (refine S_y hS ?_) | ((first | refine M_bA hS ?_ | refine M_b1 hS ?_ | refine M_aA hS ?_ | refine M_a1 hS ?_ | refine M_sl hS ?_ | refine M_s1 hS ?_ | refine M_mm hS ?_); clear hS; intro b w hS) | ((first | refine M_st hS ?_ | refine M_sA hS ?_ | refine M_in hS ?_ | refine M_sR hS ?_); clear hS; intro w hS; (try simp only [List.set_cons_zero, List.set_cons_succ, Nat.zero_add] at hS)) | (refine M_ap hS ?_; clear hS; intro g cap w hS) | refine M_pn ?_) | refine X_k (by (try simp only [Fm.toList, List.set_cons_succ, List.set_cons_zero]); exact rfl) ?_ | refine S_u ?_ | refine S_v ?_ | refine C_sq ?_ | refine C_rg ?_ | refine L_nil ?_ | refine C_bk ?_ | refine C_ct ?_ | refine C_cf ?_ | refine C_sk ?_ | refine C_ex ?_ | refine C_rt ?_ | refine X_e ?_ | refine X_r ?_ | refine X_bh ?_ | refine X_be ?_ | refine X_br ?_ | refine X_bn ?_ | refine X_p ?_ | refine X_bp ?_)
              refine C_pl (.take 1 (.take 2 (.one 0 (.one 3 (.one 4 (.one 5 .done)))))) hS ?_; clear hS; intro w hS; (with_reducible apply P_t); rfl; refine P_y hS.sb (by first | exact Yfc | exact Yp) ?_; (with_reducible apply P_t); rfl; refine P_y hS.sb Yld ?_; (with_reducible apply P_one); rfl; refine P_f ?_; intro Q' hQ' hE'; refine S_w ?_; refine M_c (opsR _) ?_; rintro _ wo ⟨bm, rfl, hlo, hho, hfo⟩; have hS := hS.freshObj hfo hho hlo; clear hlo hho hfo; (try refine L_nil ?_); refine hQ' _ _ hS.sb ?_; clear hQ' hE'; (with_reducible apply P_one); rfl; refine P_f ?_; intro Q' hQ' hE'; refine S_w ?_; refine S_q hS Ymp ?_; (try refine L_nil ?_); refine hQ' _ _ hS.sb ?_; clear hQ' hE'; (with_reducible apply P_one); rfl; refine P_f ?_; intro Q' hQ' hE'; refine S_w ?_; refine S_q hS Yp ?_; (try refine L_nil ?_); refine hQ' _ _ hS.sb ?_; clear hQ' hE'; (with_reducible apply P_one); rfl; refine P_f ?_; intro Q' hQ' hE'; refine S_w ?_; refine S_q hS Yp ?_; (try refine L_nil ?_); refine hQ' _ _ hS.sb ?_; clear hQ' hE'; refine P_d ?_
              repeat (first | (refine S_w ?_; first | (refine M_c (ihc _ _ _ _ hS inferInstance inferInstance inferInstance) ?_) | (refine S_y hS ?_) | ((first | refine M_bA hS ?_ | refine M_b1 hS ?_ | refine M_aA hS ?_ | refine M_a1 hS ?_ | refine M_sl hS ?_ | refine M_s1 hS ?_ | refine M_mm hS ?_); clear hS; intro b w hS) | ((first | refine M_st hS ?_ | refine M_sA hS ?_ | refine M_in hS ?_ | refine M_sR hS ?_); clear hS; intro w hS; (try simp only [List.set_cons_zero, List.set_cons_succ, Nat.zero_add] at hS)) | (refine M_ap hS ?_; clear hS; intro g cap w hS) | refine M_pn ?_) | refine X_k (by (try simp only [Fm.toList, List.set_cons_succ, List.set_cons_zero]); exact rfl) ?_ | refine S_u ?_ | refine S_v ?_ | refine C_sq ?_ | refine C_rg ?_ | refine L_nil ?_ | refine C_bk ?_ | refine C_ct ?_ | refine C_cf ?_ | refine C_sk ?_ | refine C_ex ?_ | refine C_rt ?_ | refine X_e ?_ | refine X_r ?_ | refine X_bh ?_ | refine X_be ?_ | refine X_br ?_ | refine X_bn ?_ | refine X_p ?_ | refine X_bp ?_)
              rintro _ w1 ⟨rfl, hS⟩
              repeat (first | (refine S_w ?_; first | (refine S_y hS ?_) | ((first | refine M_bA hS ?_ | refine M_b1 hS ?_ | refine M_aA hS ?_ | refine M_a1 hS ?_ | refine M_sl hS ?_ | refine M_s1 hS ?_ | refine M_mm hS ?_); clear hS; intro b w hS) | ((first | refine M_st hS ?_ | refine M_sA hS ?_ | refine M_in hS ?_ | refine M_sR hS ?_); clear hS; intro w hS; (try simp only [List.set_cons_zero, List.set_cons_succ, Nat.zero_add] at hS)) | (refine M_ap hS ?_; clear hS; intro g cap w hS) | refine M_pn ?_) | refine X_k (by (try simp only [Fm.toList, List.set_cons_succ, List.set_cons_zero]); exact rfl) ?_ | refine S_u ?_ | refine S_v ?_ | refine C_sq ?_ | refine C_rg ?_ | refine L_nil ?_ | refine C_bk ?_ | refine C_ct ?_ | refine C_cf ?_ | refine C_sk ?_ | refine C_ex ?_ | refine C_rt ?_ | refine X_e ?_ | refine X_r ?_ | refine X_bh ?_ | refine X_be ?_ | refine X_br ?_ | refine X_bn ?_ | refine X_p ?_ | refine X_bp ?_)
              refine V_1 ⟨rfl, hS.sb⟩
  | bin op ta tb iha ihb => 
    intro k f hat hwf F w0 rs w hS hm1 hm2 hm3
    have hlt := hat.lt
    have hpd : ((rxCells L).drop ((((k + (T.bin op ta tb).size : Nat) : Int) - 1).toNat * 5)).take [vb op, vb 0, vb 0, .int .i64 (((k + ta.size : Nat) : Int) - 1), .int .i64 (((k + ta.size + tb.size : Nat) : Int) - 1)].length = [vb op, vb 0, vb 0, .int .i64 (((k + ta.size : Nat) : Int) - 1), .int .i64 (((k + ta.size + tb.size : Nat) : Int) - 1)] := hat.drop
    have hsz := T.size_pos ta
    have hszb := T.size_pos tb
    have hlo := ops_look op
    have hk1 := hwf.1
    have hk := kids_two.1 hk1
    have hsz2 : (T.bin op ta tb).size = ta.size + tb.size + 1 := rfl
    have iha := iha k (f && (op == 4 || op == 5)) hat.left hwf.2.1
    have ihb := ihb (k + ta.size) (f && (op == 4 || op == 5)) hat.right hwf.2.2
    have hfr : T.free f (.bin op ta tb) = (ta.free (f && (op == 4 || op == 5)) && tb.free (f && (op == 4 || op == 5))) := rfl
    rw [hfr]
    have hi : 0 ≤ ((k + (T.bin op ta tb).size : Nat) : Int) - 1 ∧ ((k + (T.bin op ta tb).size : Nat) : Int) - 1 < n := by omega
    show CallsR _ _ #[_, .bool f, .pointer (some ⟨be, 0, none⟩), .pointer (some ⟨bv, 0, none⟩)] _ _
    have hg : (f && (op == 4 || op == 5)) = false ∧ (f = false ∨ op = 6) ∨ (f && (op == 4 || op == 5)) = true ∧ f = true ∧ (op = 4 ∨ op = 5) := by
      cases f
      · exact .inl ⟨rfl, .inl rfl⟩
      · rcases hk with rfl | rfl | rfl
        · exact .inr ⟨rfl, rfl, .inl rfl⟩
        · exact .inr ⟨rfl, rfl, .inr rfl⟩
        · exact .inl ⟨rfl, .inr rfl⟩
    generalize (f && (op == 4 || op == 5)) = g1 at iha ihb hg ⊢
    generalize ta.free g1 = r1 at iha ⊢
    generalize tb.free g1 = r2 at ihb ⊢
    rcases hg with ⟨rfl, rfl | hop⟩ | ⟨rfl, rfl, hop | hop⟩
    · cases r1
      · refine E_r (m := 57) ?_ Try.func63 rfl Try.ntmps63 rfl; refine C_ft ?_
        repeat (first | (refine S_w ?_; first | (refine S_y hS ?_) | ((first | refine M_bA hS ?_ | refine M_b1 hS ?_ | refine M_aA hS ?_ | refine M_a1 hS ?_ | refine M_sl hS ?_ | refine M_s1 hS ?_ | refine M_mm hS ?_); clear hS; intro b w hS) | ((first | refine M_st hS ?_ | refine M_sA hS ?_ | refine M_in hS ?_ | refine M_sR hS ?_); clear hS; intro w hS; (try simp only [List.set_cons_zero, List.set_cons_succ, Nat.zero_add] at hS)) | (refine M_ap hS ?_; clear hS; intro g cap w hS) | refine M_pn ?_) | refine X_k (by (try simp only [Fm.toList, List.set_cons_succ, List.set_cons_zero]); exact rfl) ?_ | refine S_u ?_ | refine S_v ?_ | refine C_sq ?_ | refine C_rg ?_ | refine L_nil ?_ | refine C_bk ?_ | refine C_ct ?_ | refine C_cf ?_ | refine C_sk ?_ | refine C_ex ?_ | refine C_rt ?_ | refine X_e ?_ | refine X_r ?_ | refine X_bh ?_ | refine X_be ?_ | refine X_br ?_ | refine X_bn ?_ | refine X_p ?_ | refine X_bp ?_)
        refine C_pl (.take 1 (.take 2 (.one 0 (.one 3 (.one 4 (.one 5 .done)))))) hS ?_; clear hS; intro w hS; (with_reducible apply P_t); rfl; refine P_y hS.sb (by first | exact Yfc | exact Yp) ?_; (with_reducible apply P_t); rfl; refine P_y hS.sb Yld ?_; (with_reducible apply P_one); rfl; refine P_f ?_; intro Q' hQ' hE'; refine S_w ?_; refine M_c (opsR _) ?_; rintro _ wo ⟨bm, rfl, hlo, hho, hfo⟩; have hS := hS.freshObj hfo hho hlo; clear hlo hho hfo; (try refine L_nil ?_); refine hQ' _ _ hS.sb ?_; clear hQ' hE'; (with_reducible apply P_one); rfl; refine P_f ?_; intro Q' hQ' hE'; refine S_w ?_; refine S_q hS Ymp ?_; (try refine L_nil ?_); refine hQ' _ _ hS.sb ?_; clear hQ' hE'; (with_reducible apply P_one); rfl; refine P_f ?_; intro Q' hQ' hE'; refine S_w ?_; refine S_q hS Yp ?_; (try refine L_nil ?_); refine hQ' _ _ hS.sb ?_; clear hQ' hE'; (with_reducible apply P_one); rfl; refine P_f ?_; intro Q' hQ' hE'; refine S_w ?_; refine S_q hS Yp ?_; (try refine L_nil ?_); refine hQ' _ _ hS.sb ?_; clear hQ' hE'; refine P_d ?_
        repeat (first | (refine S_w ?_; first | (refine M_c (iha _ _ _ _ hS inferInstance inferInstance inferInstance) ?_) | (refine S_y hS ?_) | ((first | refine M_bA hS ?_ | refine M_b1 hS ?_ | refine M_aA hS ?_ | refine M_a1 hS ?_ | refine M_sl hS ?_ | refine M_s1 hS ?_ | refine M_mm hS ?_); clear hS; intro b w hS) | ((first | refine M_st hS ?_ | refine M_sA hS ?_ | refine M_in hS ?_ | refine M_sR hS ?_); clear hS; intro w hS; (try simp only [List.set_cons_zero, List.set_cons_succ, Nat.zero_add] at hS)) | (refine M_ap hS ?_; clear hS; intro g cap w hS) | refine M_pn ?_) | refine X_k (by (try simp only [Fm.toList, List.set_cons_succ, List.set_cons_zero]); exact rfl) ?_ | refine S_u ?_ | refine S_v ?_ | refine C_sq ?_ | refine C_rg ?_ | refine L_nil ?_ | refine C_bk ?_ | refine C_ct ?_ | refine C_cf ?_ | refine C_sk ?_ | refine C_ex ?_ | refine C_rt ?_ | refine X_e ?_ | refine X_r ?_ | refine X_bh ?_ | refine X_be ?_ | refine X_br ?_ | refine X_bn ?_ | refine X_p ?_ | refine X_bp ?_)
        rintro _ w1 ⟨rfl, hS⟩
        repeat (first | (refine S_w ?_; first | (refine S_y hS ?_) | ((first | refine M_bA hS ?_ | refine M_b1 hS ?_ | refine M_aA hS ?_ | refine M_a1 hS ?_ | refine M_sl hS ?_ | refine M_s1 hS ?_ | refine M_mm hS ?_); clear hS; intro b w hS) | ((first | refine M_st hS ?_ | refine M_sA hS ?_ | refine M_in hS ?_ | refine M_sR hS ?_); clear hS; intro w hS; (try simp only [List.set_cons_zero, List.set_cons_succ, Nat.zero_add] at hS)) | (refine M_ap hS ?_; clear hS; intro g cap w hS) | refine M_pn ?_) | refine X_k (by (try simp only [Fm.toList, List.set_cons_succ, List.set_cons_zero]); exact rfl) ?_ | refine S_u ?_ | refine S_v ?_ | refine C_sq ?_ | refine C_rg ?_ | refine L_nil ?_ | refine C_bk ?_ | refine C_ct ?_ | refine C_cf ?_ | refine C_sk ?_ | refine C_ex ?_ | refine C_rt ?_ | refine X_e ?_ | refine X_r ?_ | refine X_bh ?_ | refine X_be ?_ | refine X_br ?_ | refine X_bn ?_ | refine X_p ?_ | refine X_bp ?_)
        refine V_1 ⟨rfl, hS.sb⟩
      · refine E_r (m := 57) ?_ Try.func63 rfl Try.ntmps63 rfl; refine C_ft ?_
        repeat (first | (refine S_w ?_; first | (refine S_y hS ?_) | ((first | refine M_bA hS ?_ | refine M_b1 hS ?_ | refine M_aA hS ?_ | refine M_a1 hS ?_ | refine M_sl hS ?_ | refine M_s1 hS ?_ | refine M_mm hS ?_); clear hS; intro b w hS) | ((first | refine M_st hS ?_ | refine M_sA hS ?_ | refine M_in hS ?_ | refine M_sR hS ?_); clear hS; intro w hS; (try simp only [List.set_cons_zero, List.set_cons_succ, Nat.zero_add] at hS)) | (refine M_ap hS ?_; clear hS; intro g cap w hS) | refine M_pn ?_) | refine X_k (by (try simp only [Fm.toList, List.set_cons_succ, List.set_cons_zero]); exact rfl) ?_ | refine S_u ?_ | refine S_v ?_ | refine C_sq ?_ | refine C_rg ?_ | refine L_nil ?_ | refine C_bk ?_ | refine C_ct ?_ | refine C_cf ?_ | refine C_sk ?_ | refine C_ex ?_ | refine C_rt ?_ | refine X_e ?_ | refine X_r ?_ | refine X_bh ?_ | refine X_be ?_ | refine X_br ?_ | refine X_bn ?_ | refine X_p ?_ | refine X_bp ?_)
        refine C_pl (.take 1 (.take 2 (.one 0 (.one 3 (.one 4 (.one 5 .done)))))) hS ?_; clear hS; intro w hS; (with_reducible apply P_t); rfl; refine P_y hS.sb (by first | exact Yfc | exact Yp) ?_; (with_reducible apply P_t); rfl; refine P_y hS.sb Yld ?_; (with_reducible apply P_one); rfl; refine P_f ?_; intro Q' hQ' hE'; refine S_w ?_; refine M_c (opsR _) ?_; rintro _ wo ⟨bm, rfl, hlo, hho, hfo⟩; have hS := hS.freshObj hfo hho hlo; clear hlo hho hfo; (try refine L_nil ?_); refine hQ' _ _ hS.sb ?_; clear hQ' hE'; (with_reducible apply P_one); rfl; refine P_f ?_; intro Q' hQ' hE'; refine S_w ?_; refine S_q hS Ymp ?_; (try refine L_nil ?_); refine hQ' _ _ hS.sb ?_; clear hQ' hE'; (with_reducible apply P_one); rfl; refine P_f ?_; intro Q' hQ' hE'; refine S_w ?_; refine S_q hS Yp ?_; (try refine L_nil ?_); refine hQ' _ _ hS.sb ?_; clear hQ' hE'; (with_reducible apply P_one); rfl; refine P_f ?_; intro Q' hQ' hE'; refine S_w ?_; refine S_q hS Yp ?_; (try refine L_nil ?_); refine hQ' _ _ hS.sb ?_; clear hQ' hE'; refine P_d ?_
        repeat (first | (refine S_w ?_; first | (refine M_c (iha _ _ _ _ hS inferInstance inferInstance inferInstance) ?_) | (refine S_y hS ?_) | ((first | refine M_bA hS ?_ | refine M_b1 hS ?_ | refine M_aA hS ?_ | refine M_a1 hS ?_ | refine M_sl hS ?_ | refine M_s1 hS ?_ | refine M_mm hS ?_); clear hS; intro b w hS) | ((first | refine M_st hS ?_ | refine M_sA hS ?_ | refine M_in hS ?_ | refine M_sR hS ?_); clear hS; intro w hS; (try simp only [List.set_cons_zero, List.set_cons_succ, Nat.zero_add] at hS)) | (refine M_ap hS ?_; clear hS; intro g cap w hS) | refine M_pn ?_) | refine X_k (by (try simp only [Fm.toList, List.set_cons_succ, List.set_cons_zero]); exact rfl) ?_ | refine S_u ?_ | refine S_v ?_ | refine C_sq ?_ | refine C_rg ?_ | refine L_nil ?_ | refine C_bk ?_ | refine C_ct ?_ | refine C_cf ?_ | refine C_sk ?_ | refine C_ex ?_ | refine C_rt ?_ | refine X_e ?_ | refine X_r ?_ | refine X_bh ?_ | refine X_be ?_ | refine X_br ?_ | refine X_bn ?_ | refine X_p ?_ | refine X_bp ?_)
        rintro _ w1 ⟨rfl, hS⟩
        repeat (first | (refine S_w ?_; first | (refine M_c (ihb _ _ _ _ hS inferInstance inferInstance inferInstance) ?_) | (refine S_y hS ?_) | ((first | refine M_bA hS ?_ | refine M_b1 hS ?_ | refine M_aA hS ?_ | refine M_a1 hS ?_ | refine M_sl hS ?_ | refine M_s1 hS ?_ | refine M_mm hS ?_); clear hS; intro b w hS) | ((first | refine M_st hS ?_ | refine M_sA hS ?_ | refine M_in hS ?_ | refine M_sR hS ?_); clear hS; intro w hS; (try simp only [List.set_cons_zero, List.set_cons_succ, Nat.zero_add] at hS)) | (refine M_ap hS ?_; clear hS; intro g cap w hS) | refine M_pn ?_) | refine X_k (by (try simp only [Fm.toList, List.set_cons_succ, List.set_cons_zero]); exact rfl) ?_ | refine S_u ?_ | refine S_v ?_ | refine C_sq ?_ | refine C_rg ?_ | refine L_nil ?_ | refine C_bk ?_ | refine C_ct ?_ | refine C_cf ?_ | refine C_sk ?_ | refine C_ex ?_ | refine C_rt ?_ | refine X_e ?_ | refine X_r ?_ | refine X_bh ?_ | refine X_be ?_ | refine X_br ?_ | refine X_bn ?_ | refine X_p ?_ | refine X_bp ?_)
        rintro _ w1 ⟨rfl, hS⟩
        repeat (first | (refine S_w ?_; first | (refine S_y hS ?_) | ((first | refine M_bA hS ?_ | refine M_b1 hS ?_ | refine M_aA hS ?_ | refine M_a1 hS ?_ | refine M_sl hS ?_ | refine M_s1 hS ?_ | refine M_mm hS ?_); clear hS; intro b w hS) | ((first | refine M_st hS ?_ | refine M_sA hS ?_ | refine M_in hS ?_ | refine M_sR hS ?_); clear hS; intro w hS; (try simp only [List.set_cons_zero, List.set_cons_succ, Nat.zero_add] at hS)) | (refine M_ap hS ?_; clear hS; intro g cap w hS) | refine M_pn ?_) | refine X_k (by (try simp only [Fm.toList, List.set_cons_succ, List.set_cons_zero]); exact rfl) ?_ | refine S_u ?_ | refine S_v ?_ | refine C_sq ?_ | refine C_rg ?_ | refine L_nil ?_ | refine C_bk ?_ | refine C_ct ?_ | refine C_cf ?_ | refine C_sk ?_ | refine C_ex ?_ | refine C_rt ?_ | refine X_e ?_ | refine X_r ?_ | refine X_bh ?_ | refine X_be ?_ | refine X_br ?_ | refine X_bn ?_ | refine X_p ?_ | refine X_bp ?_)
        refine V_1 ⟨rfl, hS.sb⟩
    all_goals (try cases f)
    all_goals
      cases r1
      · refine E_r (m := 57) ?_ Try.func63 rfl Try.ntmps63 rfl; refine C_ft ?_
        repeat (first | (refine S_w ?_; first | (refine S_y hS ?_) | ((first | refine M_bA hS ?_ | refine M_b1 hS ?_ | refine M_aA hS ?_ | refine M_a1 hS ?_ | refine M_sl hS ?_ | refine M_s1 hS ?_ | refine M_mm hS ?_); clear hS; intro b w hS) | ((first | refine M_st hS ?_ | refine M_sA hS ?_ | refine M_in hS ?_ | refine M_sR hS ?_); clear hS; intro w hS; (try simp only [List.set_cons_zero, List.set_cons_succ, Nat.zero_add] at hS)) | (refine M_ap hS ?_; clear hS; intro g cap w hS) | refine M_pn ?_) | refine X_k (by (try simp only [Fm.toList, List.set_cons_succ, List.set_cons_zero]); exact rfl) ?_ | refine S_u ?_ | refine S_v ?_ | refine C_sq ?_ | refine C_rg ?_ | refine L_nil ?_ | refine C_bk ?_ | refine C_ct ?_ | refine C_cf ?_ | refine C_sk ?_ | refine C_ex ?_ | refine C_rt ?_ | refine X_e ?_ | refine X_r ?_ | refine X_bh ?_ | refine X_be ?_ | refine X_br ?_ | refine X_bn ?_ | refine X_p ?_ | refine X_bp ?_)
        refine C_pl (.take 1 (.take 2 (.one 0 (.one 3 (.one 4 (.one 5 .done)))))) hS ?_; clear hS; intro w hS; (with_reducible apply P_t); rfl; refine P_y hS.sb (by first | exact Yfc | exact Yp) ?_; (with_reducible apply P_t); rfl; refine P_y hS.sb Yld ?_; (with_reducible apply P_one); rfl; refine P_f ?_; intro Q' hQ' hE'; refine S_w ?_; refine M_c (opsR _) ?_; rintro _ wo ⟨bm, rfl, hlo, hho, hfo⟩; have hS := hS.freshObj hfo hho hlo; clear hlo hho hfo; (try refine L_nil ?_); refine hQ' _ _ hS.sb ?_; clear hQ' hE'; (with_reducible apply P_one); rfl; refine P_f ?_; intro Q' hQ' hE'; refine S_w ?_; refine S_q hS Ymp ?_; (try refine L_nil ?_); refine hQ' _ _ hS.sb ?_; clear hQ' hE'; (with_reducible apply P_one); rfl; refine P_f ?_; intro Q' hQ' hE'; refine S_w ?_; refine S_q hS Yp ?_; (try refine L_nil ?_); refine hQ' _ _ hS.sb ?_; clear hQ' hE'; (with_reducible apply P_one); rfl; refine P_f ?_; intro Q' hQ' hE'; refine S_w ?_; refine S_q hS Yp ?_; (try refine L_nil ?_); refine hQ' _ _ hS.sb ?_; clear hQ' hE'; refine P_d ?_
        repeat (first | (refine S_w ?_; first | (refine M_c (iha _ _ _ _ hS inferInstance inferInstance inferInstance) ?_) | (refine S_y hS ?_) | ((first | refine M_bA hS ?_ | refine M_b1 hS ?_ | refine M_aA hS ?_ | refine M_a1 hS ?_ | refine M_sl hS ?_ | refine M_s1 hS ?_ | refine M_mm hS ?_); clear hS; intro b w hS) | ((first | refine M_st hS ?_ | refine M_sA hS ?_ | refine M_in hS ?_ | refine M_sR hS ?_); clear hS; intro w hS; (try simp only [List.set_cons_zero, List.set_cons_succ, Nat.zero_add] at hS)) | (refine M_ap hS ?_; clear hS; intro g cap w hS) | refine M_pn ?_) | refine X_k (by (try simp only [Fm.toList, List.set_cons_succ, List.set_cons_zero]); exact rfl) ?_ | refine S_u ?_ | refine S_v ?_ | refine C_sq ?_ | refine C_rg ?_ | refine L_nil ?_ | refine C_bk ?_ | refine C_ct ?_ | refine C_cf ?_ | refine C_sk ?_ | refine C_ex ?_ | refine C_rt ?_ | refine X_e ?_ | refine X_r ?_ | refine X_bh ?_ | refine X_be ?_ | refine X_br ?_ | refine X_bn ?_ | refine X_p ?_ | refine X_bp ?_)
        rintro _ w1 ⟨rfl, hS⟩
        repeat (first | (refine S_w ?_; first | (refine S_y hS ?_) | ((first | refine M_bA hS ?_ | refine M_b1 hS ?_ | refine M_aA hS ?_ | refine M_a1 hS ?_ | refine M_sl hS ?_ | refine M_s1 hS ?_ | refine M_mm hS ?_); clear hS; intro b w hS) | ((first | refine M_st hS ?_ | refine M_sA hS ?_ | refine M_in hS ?_ | refine M_sR hS ?_); clear hS; intro w hS; (try simp only [List.set_cons_zero, List.set_cons_succ, Nat.zero_add] at hS)) | (refine M_ap hS ?_; clear hS; intro g cap w hS) | refine M_pn ?_) | refine X_k (by (try simp only [Fm.toList, List.set_cons_succ, List.set_cons_zero]); exact rfl) ?_ | refine S_u ?_ | refine S_v ?_ | refine C_sq ?_ | refine C_rg ?_ | refine L_nil ?_ | refine C_bk ?_ | refine C_ct ?_ | refine C_cf ?_ | refine C_sk ?_ | refine C_ex ?_ | refine C_rt ?_ | refine X_e ?_ | refine X_r ?_ | refine X_bh ?_ | refine X_be ?_ | refine X_br ?_ | refine X_bn ?_ | refine X_p ?_ | refine X_bp ?_)
        refine V_1 ⟨rfl, hS.sb⟩
      · refine E_r (m := 57) ?_ Try.func63 rfl Try.ntmps63 rfl; refine C_ft ?_
        repeat (first | (refine S_w ?_; first | (refine S_y hS ?_) | ((first | refine M_bA hS ?_ | refine M_b1 hS ?_ | refine M_aA hS ?_ | refine M_a1 hS ?_ | refine M_sl hS ?_ | refine M_s1 hS ?_ | refine M_mm hS ?_); clear hS; intro b w hS) | ((first | refine M_st hS ?_ | refine M_sA hS ?_ | refine M_in hS ?_ | refine M_sR hS ?_); clear hS; intro w hS; (try simp only [List.set_cons_zero, List.set_cons_succ, Nat.zero_add] at hS)) | (refine M_ap hS ?_; clear hS; intro g cap w hS) | refine M_pn ?_) | refine X_k (by (try simp only [Fm.toList, List.set_cons_succ, List.set_cons_zero]); exact rfl) ?_ | refine S_u ?_ | refine S_v ?_ | refine C_sq ?_ | refine C_rg ?_ | refine L_nil ?_ | refine C_bk ?_ | refine C_ct ?_ | refine C_cf ?_ | refine C_sk ?_ | refine C_ex ?_ | refine C_rt ?_ | refine X_e ?_ | refine X_r ?_ | refine X_bh ?_ | refine X_be ?_ | refine X_br ?_ | refine X_bn ?_ | refine X_p ?_ | refine X_bp ?_)
        refine C_pl (.take 1 (.take 2 (.one 0 (.one 3 (.one 4 (.one 5 .done)))))) hS ?_; clear hS; intro w hS; (with_reducible apply P_t); rfl; refine P_y hS.sb (by first | exact Yfc | exact Yp) ?_; (with_reducible apply P_t); rfl; refine P_y hS.sb Yld ?_; (with_reducible apply P_one); rfl; refine P_f ?_; intro Q' hQ' hE'; refine S_w ?_; refine M_c (opsR _) ?_; rintro _ wo ⟨bm, rfl, hlo, hho, hfo⟩; have hS := hS.freshObj hfo hho hlo; clear hlo hho hfo; (try refine L_nil ?_); refine hQ' _ _ hS.sb ?_; clear hQ' hE'; (with_reducible apply P_one); rfl; refine P_f ?_; intro Q' hQ' hE'; refine S_w ?_; refine S_q hS Ymp ?_; (try refine L_nil ?_); refine hQ' _ _ hS.sb ?_; clear hQ' hE'; (with_reducible apply P_one); rfl; refine P_f ?_; intro Q' hQ' hE'; refine S_w ?_; refine S_q hS Yp ?_; (try refine L_nil ?_); refine hQ' _ _ hS.sb ?_; clear hQ' hE'; (with_reducible apply P_one); rfl; refine P_f ?_; intro Q' hQ' hE'; refine S_w ?_; refine S_q hS Yp ?_; (try refine L_nil ?_); refine hQ' _ _ hS.sb ?_; clear hQ' hE'; refine P_d ?_
        repeat (first | (refine S_w ?_; first | (refine M_c (iha _ _ _ _ hS inferInstance inferInstance inferInstance) ?_) | (refine S_y hS ?_) | ((first | refine M_bA hS ?_ | refine M_b1 hS ?_ | refine M_aA hS ?_ | refine M_a1 hS ?_ | refine M_sl hS ?_ | refine M_s1 hS ?_ | refine M_mm hS ?_); clear hS; intro b w hS) | ((first | refine M_st hS ?_ | refine M_sA hS ?_ | refine M_in hS ?_ | refine M_sR hS ?_); clear hS; intro w hS; (try simp only [List.set_cons_zero, List.set_cons_succ, Nat.zero_add] at hS)) | (refine M_ap hS ?_; clear hS; intro g cap w hS) | refine M_pn ?_) | refine X_k (by (try simp only [Fm.toList, List.set_cons_succ, List.set_cons_zero]); exact rfl) ?_ | refine S_u ?_ | refine S_v ?_ | refine C_sq ?_ | refine C_rg ?_ | refine L_nil ?_ | refine C_bk ?_ | refine C_ct ?_ | refine C_cf ?_ | refine C_sk ?_ | refine C_ex ?_ | refine C_rt ?_ | refine X_e ?_ | refine X_r ?_ | refine X_bh ?_ | refine X_be ?_ | refine X_br ?_ | refine X_bn ?_ | refine X_p ?_ | refine X_bp ?_)
        rintro _ w1 ⟨rfl, hS⟩
        repeat (first | (refine S_w ?_; first | (refine M_c (ihb _ _ _ _ hS inferInstance inferInstance inferInstance) ?_) | (refine S_y hS ?_) | ((first | refine M_bA hS ?_ | refine M_b1 hS ?_ | refine M_aA hS ?_ | refine M_a1 hS ?_ | refine M_sl hS ?_ | refine M_s1 hS ?_ | refine M_mm hS ?_); clear hS; intro b w hS) | ((first | refine M_st hS ?_ | refine M_sA hS ?_ | refine M_in hS ?_ | refine M_sR hS ?_); clear hS; intro w hS; (try simp only [List.set_cons_zero, List.set_cons_succ, Nat.zero_add] at hS)) | (refine M_ap hS ?_; clear hS; intro g cap w hS) | refine M_pn ?_) | refine X_k (by (try simp only [Fm.toList, List.set_cons_succ, List.set_cons_zero]); exact rfl) ?_ | refine S_u ?_ | refine S_v ?_ | refine C_sq ?_ | refine C_rg ?_ | refine L_nil ?_ | refine C_bk ?_ | refine C_ct ?_ | refine C_cf ?_ | refine C_sk ?_ | refine C_ex ?_ | refine C_rt ?_ | refine X_e ?_ | refine X_r ?_ | refine X_bh ?_ | refine X_be ?_ | refine X_br ?_ | refine X_bn ?_ | refine X_p ?_ | refine X_bp ?_)
        rintro _ w1 ⟨rfl, hS⟩
        repeat (first | (refine S_w ?_; first | (refine S_y hS ?_) | ((first | refine M_bA hS ?_ | refine M_b1 hS ?_ | refine M_aA hS ?_ | refine M_a1 hS ?_ | refine M_sl hS ?_ | refine M_s1 hS ?_ | refine M_mm hS ?_); clear hS; intro b w hS) | ((first | refine M_st hS ?_ | refine M_sA hS ?_ | refine M_in hS ?_ | refine M_sR hS ?_); clear hS; intro w hS; (try simp only [List.set_cons_zero, List.set_cons_succ, Nat.zero_add] at hS)) | (refine M_ap hS ?_; clear hS; intro g cap w hS) | refine M_pn ?_) | refine X_k (by (try simp only [Fm.toList, List.set_cons_succ, List.set_cons_zero]); exact rfl) ?_ | refine S_u ?_ | refine S_v ?_ | refine C_sq ?_ | refine C_rg ?_ | refine L_nil ?_ | refine C_bk ?_ | refine C_ct ?_ | refine C_cf ?_ | refine C_sk ?_ | refine C_ex ?_ | refine C_rt ?_ | refine X_e ?_ | refine X_r ?_ | refine X_bh ?_ | refine X_be ?_ | refine X_br ?_ | refine X_bn ?_ | refine X_p ?_ | refine X_bp ?_)
        refine V_1 ⟨rfl, hS.sb⟩
  | _ =>
    intro k f hat hwf F w0 rs w hS hm1 hm2 hm3
    have h := visit_leaf A n c L be bv hl hn _ _ hat.root (by rfl) f F w0 rs w hS hm1 hm3
    have e : ∀ k : Nat, (((k + 1 : Nat) : Int) - 1) = ((k + 1 - 1 : Nat) : Int) := fun k => by omega
    simp only [T.size] at h ⊢
    rw [e]
    exact h
end
end Go.Proofs.Ytebdkmfgfjanoaa
