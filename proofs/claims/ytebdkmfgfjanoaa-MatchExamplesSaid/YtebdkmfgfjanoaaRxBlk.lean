/-
  regex.blocks: the beginnings of the blocks of the pieces.
-/
import Derived.Test.YtebdkmfgfjanoaaRxOps
namespace Go.Proofs.Ytebdkmfgfjanoaa
open Go.RowKit

def rxCells (L : List Pc) : List Value := L.flatMap pcV
theorem pcV_len (p : Pc) : (pcV p).length = 5 := rfl
theorem rxCells_len (L : List Pc) : (rxCells L).length = L.length * 5 := by
  induction L with
  | nil => rfl
  | cons p L ih => simp only [rxCells, List.flatMap_cons, List.length_append, List.length_cons, pcV_len] at *; omega
theorem rxCells_drop : ∀ {L : List Pc} {k : Nat} {p : Pc}, L[k]? = some p → ((rxCells L).drop (k * 5)).take (pcV p).length = pcV p
  | [], k, p, h => by simp at h
  | q :: L, 0, p, h => by
    simp at h; subst h
    simp [rxCells, pcV]
  | q :: L, k + 1, p, h => by
    have ih := rxCells_drop (L := L) (k := k) (p := p) (by simpa using h)
    have : (k + 1) * 5 = (pcV q).length + k * 5 := by rw [pcV_len]; omega
    rw [this]
    simp only [rxCells, List.flatMap_cons, ← List.drop_drop, List.drop_left] at ih ⊢
    exact ih
theorem rxCells_append (L M : List Pc) : rxCells (L ++ M) = rxCells L ++ rxCells M := by simp [rxCells]
/-- an int -/
abbrev vn (x : Nat) : Value := .int .i64 (x : Int)
def ints (S : List T) : List Value := (stkFirst S).map vn
theorem ints_len (S : List T) : (ints S).length = stkSize S := by simp [ints, stkFirst_len]
theorem ints_top (t : T) (S : List T) : (ints (t :: S))[stkSize (t :: S) - 1]? = some (vn (stkSize S)) := by
  simp only [ints, List.getElem?_map, stkFirst_top, Option.map_some]
theorem ints_old {t : T} {S : List T} {i : Nat} {x : Value} (h : (ints S)[i]? = some x) : (ints (t :: S))[i]? = some x := by
  have hi := (List.getElem?_eq_some_iff.1 h).1
  simp only [ints, stkFirst, List.map_append] at h ⊢ hi
  rw [List.getElem?_append_left (by simpa using hi)]
  exact h
theorem ints_leaf {t : T} {S : List T} (h : t.firsts (stkSize S) = [stkSize S]) : ints (t :: S) = ints S ++ [vn (stkSize S)] := by simp [ints, stkFirst, h]
theorem ints_un (op : Nat) (a : T) (S : List T) : ints (.un op a :: S) = ints (a :: S) ++ [vn (stkSize S)] := by simp [ints, stkFirst, T.firsts]
theorem ints_bin (op : Nat) (a b : T) (S : List T) : ints (.bin op a b :: S) = ints (b :: a :: S) ++ [vn (stkSize S)] := by simp [ints, stkFirst, T.firsts, stkSize]

section
variable {v : Int} {p : Pc} {S : List T} {a b : T}
theorem step_0 (hE : pcE p v = 0) (hk : kids p.op = 0) : stkStep v S p = (0, leafT p :: S) := by
  unfold stkStep; rw [if_neg (by simpa using hE), if_neg (by omega), if_neg (by omega)]
theorem step_1 (hE : pcE p v = 0) (hk : kids p.op = 1) (h : p.a = (stkSize (a :: S) : Int) - 1) : stkStep v (a :: S) p = (0, .un p.op a :: S) := by
  unfold stkStep; rw [if_neg (by simpa using hE), if_pos hk]; exact if_pos h
theorem step_1e (hE : pcE p v = 0) (hk : kids p.op = 1) (h : S = [] ∨ p.a ≠ (stkSize S : Int) - 1) : stkStep v S p = (8, []) := by
  unfold stkStep; rw [if_neg (by simpa using hE), if_pos hk]
  cases S with
  | nil => rfl
  | cons a S => exact if_neg (h.resolve_left (by simp))
theorem step_2 (hE : pcE p v = 0) (hk : kids p.op = 2) (h : p.b = (stkSize (b :: a :: S) : Int) - 1) (h' : p.a = (stkSize (a :: S) : Int) - 1) : stkStep v (b :: a :: S) p = (0, .bin p.op a b :: S) := by
  unfold stkStep; rw [if_neg (by simpa using hE), if_neg (by omega), if_pos hk]; exact if_pos ⟨h, h'⟩
theorem step_2n (hE : pcE p v = 0) (hk : kids p.op = 2) : stkStep v [] p = (8, []) := by
  unfold stkStep; rw [if_neg (by simpa using hE), if_neg (by omega), if_pos hk]
theorem step_21 (hE : pcE p v = 0) (hk : kids p.op = 2) : stkStep v [b] p = (8, []) := by
  unfold stkStep; rw [if_neg (by simpa using hE), if_neg (by omega), if_pos hk]
theorem step_2e (hE : pcE p v = 0) (hk : kids p.op = 2) (h : ¬ (p.b = (stkSize (b :: a :: S) : Int) - 1 ∧ p.a = (stkSize (a :: S) : Int) - 1)) : stkStep v (b :: a :: S) p = (8, []) := by
  unfold stkStep; rw [if_neg (by simpa using hE), if_neg (by omega), if_pos hk]; exact if_neg h
end
/-- what blocks answers -/
def BlkPost (L : List Pc) (v : Int) (W : World) (r : Value) (w' : World) : Prop :=
  ∃ A c, r = .tuple #[.slice A (stkSize (stkRun v L []).2) c, .int .i64 (stkRun v L []).1] ∧ w'.ownsRow W.heap.size 3 1 (.slice A (stkSize (stkRun v L []).2) c) (stkSize (stkRun v L []).2) (ints (stkRun v L []).2) ∧ Fr Nof W w'
theorem blk_err {L : List Pc} {v e : Int} {W w' : World} (h : (e, ([] : List T)) = stkRun v L []) (hf : Fr Nof W w') : BlkPost L v W (.tuple #[.slice none 0 0, .int .i64 e]) w' := by
  refine ⟨none, 0, ?_, ?_, hf⟩
  · rw [← h]; rfl
  · rw [← h]; exact World.ownsRow_nil _ _ _ _

set_option maxHeartbeats 8000000 in
set_option maxRecDepth 100000 in
theorem blocksR (A : Option Addr) (n c : Nat) (L : List Pc) (v : Int) (W : World) (hA : Rd W 5 A n (rxCells L)) (hL : ∀ p ∈ L, p.ok) (hn : n ≤ 4294967296) :
    CallsR Try.prog 62 #[.slice A n c, .int .i64 v] W (BlkPost L v W) := by
  have hl : L.length = n := by have := hA.1; rw [rxCells_len] at this; omega
  have hS := (St.start Nof W).addRo (r := Res.rd 5 A n (rxCells L)) hA rfl (fun _ h => by cases h)
  replace hS := hS.rowNil 3 1
  refine E_r (m := 84) ?_ Try.func62 rfl Try.ntmps62 rfl; refine C_ft ?_
  repeat (first | (refine S_w ?_; first | (refine S_y hS ?_) | ((first | refine M_bA hS ?_ | refine M_b1 hS ?_ | refine M_aA hS ?_ | refine M_a1 hS ?_ | refine M_sl hS ?_ | refine M_s1 hS ?_ | refine M_mm hS ?_); clear hS; intro b w hS) | ((first | refine M_st hS ?_ | refine M_sA hS ?_ | refine M_in hS ?_ | refine M_sR hS ?_); clear hS; intro w hS; (try simp only [List.set_cons_zero, List.set_cons_succ, Nat.zero_add] at hS)) | (refine M_ap hS ?_; clear hS; intro g cap w hS) | refine M_pn ?_) | refine X_k (by (try simp only [Fm.toList, List.set_cons_succ, List.set_cons_zero]); exact rfl) ?_ | refine S_u ?_ | refine S_v ?_ | refine C_sq ?_ | refine C_rg ?_ | refine L_nil ?_ | refine C_bk ?_ | refine C_ct ?_ | refine C_cf ?_ | refine C_sk ?_ | refine C_ex ?_ | refine C_rt ?_ | refine X_e ?_ | refine X_r ?_ | refine X_bh ?_ | refine X_be ?_ | refine X_br ?_ | refine X_bn ?_ | refine X_p ?_ | refine X_bp ?_)
  refine C_lp [4, 6, 2, 73, 1] (fun s : List T × Value => [(4, s.2), (12, .int .i64 (stkSize s.1 : Nat))])
    (fun s w' => stkSize s.1 ≤ n ∧ stkRun v (L.drop (stkSize s.1)) s.1 = stkRun v L [] ∧ St Nof W [Res.row 3 1 s.2 (stkSize s.1) (ints s.1), Res.rd 5 A n (rxCells L)] w') (fun s => n - stkSize s.1) ([], .slice none 0 0) ⟨Nat.zero_le _, rfl, hS⟩ ?_
  clear hS
  rintro ⟨S, u⟩ y w ⟨hi, hrun, hS⟩
  simp only at hi hrun hS ⊢
  refine C_fs ?_
  obtain ⟨A7, c7, rfl, _, _⟩ := ownsRow_slice (hS.get (r := Res.row 3 1 u (stkSize S) (ints S)) (by repeat (first | exact List.Mem.head _ | assumption | apply List.Mem.tail)))
  by_cases hlt : stkSize S < n
  · obtain ⟨p, hp⟩ : ∃ p, L[stkSize S]? = some p := ⟨L[stkSize S], List.getElem?_eq_getElem (by omega)⟩
    have hpo := hL p (List.mem_of_getElem? hp)
    have hpd := rxCells_drop hp
    have hdr : L.drop (stkSize S) = p :: L.drop (stkSize S + 1) := by
      obtain ⟨h1, rfl⟩ := List.getElem?_eq_some_iff.1 hp
      exact List.drop_eq_getElem_cons h1
    rw [hdr] at hrun
    repeat (first | (refine S_w ?_; first | (refine M_c (pieceR p hpo v _) ?_) | (refine S_y hS ?_) | ((first | refine M_bA hS ?_ | refine M_b1 hS ?_ | refine M_aA hS ?_ | refine M_a1 hS ?_ | refine M_sl hS ?_ | refine M_s1 hS ?_ | refine M_mm hS ?_); clear hS; intro b w hS) | ((first | refine M_st hS ?_ | refine M_sA hS ?_ | refine M_in hS ?_ | refine M_sR hS ?_); clear hS; intro w hS; (try simp only [List.set_cons_zero, List.set_cons_succ, Nat.zero_add] at hS)) | (refine M_ap hS ?_; clear hS; intro g cap w hS) | refine M_pn ?_) | refine X_k (by (try simp only [Fm.toList, List.set_cons_succ, List.set_cons_zero]); exact rfl) ?_ | refine S_u ?_ | refine S_v ?_ | refine C_sq ?_ | refine C_rg ?_ | refine L_nil ?_ | refine C_bk ?_ | refine C_ct ?_ | refine C_cf ?_ | refine C_sk ?_ | refine C_ex ?_ | refine C_rt ?_ | refine X_e ?_ | refine X_r ?_ | refine X_bh ?_ | refine X_be ?_ | refine X_br ?_ | refine X_bn ?_ | refine X_p ?_ | refine X_bp ?_)
    rintro _ w1 ⟨rfl, hb1⟩
    have hS := hS.call hb1
    by_cases hE : pcE p v = 0
    · have hl := ops_look p.op
      have hk2 := kids_le p.op
      have hst : ∀ S', stkStep v S p = (0, S') → stkRun v (L.drop (stkSize S + 1)) S' = stkRun v L [] := fun S' h => by rw [← hrun, stkRun_cons h]
      have hse : stkStep v S p = (8, []) → (8, []) = stkRun v L [] := fun h => by rw [← hrun]; unfold stkRun; rw [h]; rfl
      repeat (first | (refine S_w ?_; first | (refine S_y hS ?_) | ((first | refine M_bA hS ?_ | refine M_b1 hS ?_ | refine M_aA hS ?_ | refine M_a1 hS ?_ | refine M_sl hS ?_ | refine M_s1 hS ?_ | refine M_mm hS ?_); clear hS; intro b w hS) | ((first | refine M_st hS ?_ | refine M_sA hS ?_ | refine M_in hS ?_ | refine M_sR hS ?_); clear hS; intro w hS; (try simp only [List.set_cons_zero, List.set_cons_succ, Nat.zero_add] at hS)) | (refine M_ap hS ?_; clear hS; intro g cap w hS) | refine M_pn ?_) | refine X_k (by (try simp only [Fm.toList, List.set_cons_succ, List.set_cons_zero]); exact rfl) ?_ | refine S_u ?_ | refine S_v ?_ | refine C_sq ?_ | refine C_rg ?_ | refine L_nil ?_ | refine C_bk ?_ | refine C_ct ?_ | refine C_cf ?_ | refine C_sk ?_ | refine C_ex ?_ | refine C_rt ?_ | refine X_e ?_ | refine X_r ?_ | refine X_bh ?_ | refine X_be ?_ | refine X_br ?_ | refine X_bn ?_ | refine X_p ?_ | refine X_bp ?_)
      refine C_pl (.take 1 (.take 2 (.one 0 (.one 3 (.one 4 .done))))) hS ?_; clear hS; intro w hS; (with_reducible apply P_t); rfl; refine P_y hS.sb (by first | exact Yfc | exact Yp) ?_; (with_reducible apply P_t); rfl; refine P_y hS.sb Yld ?_; (with_reducible apply P_one); rfl; refine P_f ?_; intro Q' hQ' hE'; refine S_w ?_; refine M_c (opsR _) ?_; rintro _ wo ⟨bm, rfl, hlo, hho, hfo⟩; have hS := hS.freshObj hfo hho hlo; clear hlo hho hfo; (try refine L_nil ?_); refine hQ' _ _ hS.sb ?_; clear hQ' hE'; (with_reducible apply P_one); rfl; refine P_f ?_; intro Q' hQ' hE'; refine S_w ?_; refine S_q hS Ymp ?_; (try refine L_nil ?_); refine hQ' _ _ hS.sb ?_; clear hQ' hE'; (with_reducible apply P_one); rfl; refine P_f ?_; intro Q' hQ' hE'; refine S_w ?_; refine S_q hS Yp ?_; (try refine L_nil ?_); refine hQ' _ _ hS.sb ?_; clear hQ' hE'; refine P_d ?_
      rcases (show kids p.op = 0 ∨ kids p.op = 1 ∨ kids p.op = 2 by omega) with hk | hk | hk
      · have h0 := hst _ (step_0 hE hk)
        obtain ⟨_, _, _, hsz, hfs⟩ := leaf_root hE hk (stkSize S)
        have hsz2 : stkSize (leafT p :: S) = stkSize S + 1 := by simp only [stkSize, hsz]
        repeat (first | (refine S_w ?_; first | (refine S_y hS ?_) | ((first | refine M_bA hS ?_ | refine M_b1 hS ?_ | refine M_aA hS ?_ | refine M_a1 hS ?_ | refine M_sl hS ?_ | refine M_s1 hS ?_ | refine M_mm hS ?_); clear hS; intro b w hS) | ((first | refine M_st hS ?_ | refine M_sA hS ?_ | refine M_in hS ?_ | refine M_sR hS ?_); clear hS; intro w hS; (try simp only [List.set_cons_zero, List.set_cons_succ, Nat.zero_add] at hS)) | (refine M_ap hS ?_; clear hS; intro g cap w hS) | refine M_pn ?_) | refine X_k (by (try simp only [Fm.toList, List.set_cons_succ, List.set_cons_zero]); exact rfl) ?_ | refine S_u ?_ | refine S_v ?_ | refine C_sq ?_ | refine C_rg ?_ | refine L_nil ?_ | refine C_bk ?_ | refine C_ct ?_ | refine C_cf ?_ | refine C_sk ?_ | refine C_ex ?_ | refine C_rt ?_ | refine X_e ?_ | refine X_r ?_ | refine X_bh ?_ | refine X_be ?_ | refine X_br ?_ | refine X_bn ?_ | refine X_p ?_ | refine X_bp ?_)
        refine R_e (leafT p :: S, .slice (some ⟨g, 0, none⟩) (stkSize S + 1) cap) ⟨by simp only; omega, by simp only [hsz2]; exact h0, ?_⟩ (by simp only; omega) (by simp only [hsz2]; rfl)
        simp only [hsz2, ints_leaf hfs]
        exact hS.sb
      · cases S with
        | nil =>
          have h0 := hse (step_1e hE hk (.inl rfl))
          have hz : stkSize [] = 0 := rfl
          repeat (first | (refine S_w ?_; first | (refine S_y hS ?_) | ((first | refine M_bA hS ?_ | refine M_b1 hS ?_ | refine M_aA hS ?_ | refine M_a1 hS ?_ | refine M_sl hS ?_ | refine M_s1 hS ?_ | refine M_mm hS ?_); clear hS; intro b w hS) | ((first | refine M_st hS ?_ | refine M_sA hS ?_ | refine M_in hS ?_ | refine M_sR hS ?_); clear hS; intro w hS; (try simp only [List.set_cons_zero, List.set_cons_succ, Nat.zero_add] at hS)) | (refine M_ap hS ?_; clear hS; intro g cap w hS) | refine M_pn ?_) | refine X_k (by (try simp only [Fm.toList, List.set_cons_succ, List.set_cons_zero]); exact rfl) ?_ | refine S_u ?_ | refine S_v ?_ | refine C_sq ?_ | refine C_rg ?_ | refine L_nil ?_ | refine C_bk ?_ | refine C_ct ?_ | refine C_cf ?_ | refine C_sk ?_ | refine C_ex ?_ | refine C_rt ?_ | refine X_e ?_ | refine X_r ?_ | refine X_bh ?_ | refine X_be ?_ | refine X_br ?_ | refine X_bn ?_ | refine X_p ?_ | refine X_bp ?_)
          refine V_2 (blk_err h0 hS.fr)
        | cons a S =>
          have hpos := T.size_pos a
          have hsz : stkSize (a :: S) = stkSize S + a.size := rfl
          by_cases ha : p.a = (stkSize (a :: S) : Int) - 1
          · have h0 := hst _ (step_1 hE hk ha)
            have htop := ints_top a S
            have htop : (ints (a :: S))[((stkSize (a :: S) : Int) - 1).toNat]? = some (vn (stkSize S)) := by rw [show ((stkSize (a :: S) : Int) - 1).toNat = stkSize (a :: S) - 1 by omega]; exact htop
            have hsz2 : stkSize (.un p.op a :: S) = stkSize (a :: S) + 1 := rfl
            repeat (first | (refine S_w ?_; first | (refine S_y hS ?_) | ((first | refine M_bA hS ?_ | refine M_b1 hS ?_ | refine M_aA hS ?_ | refine M_a1 hS ?_ | refine M_sl hS ?_ | refine M_s1 hS ?_ | refine M_mm hS ?_); clear hS; intro b w hS) | ((first | refine M_st hS ?_ | refine M_sA hS ?_ | refine M_in hS ?_ | refine M_sR hS ?_); clear hS; intro w hS; (try simp only [List.set_cons_zero, List.set_cons_succ, Nat.zero_add] at hS)) | (refine M_ap hS ?_; clear hS; intro g cap w hS) | refine M_pn ?_) | refine X_k (by (try simp only [Fm.toList, List.set_cons_succ, List.set_cons_zero]); exact rfl) ?_ | refine S_u ?_ | refine S_v ?_ | refine C_sq ?_ | refine C_rg ?_ | refine L_nil ?_ | refine C_bk ?_ | refine C_ct ?_ | refine C_cf ?_ | refine C_sk ?_ | refine C_ex ?_ | refine C_rt ?_ | refine X_e ?_ | refine X_r ?_ | refine X_bh ?_ | refine X_be ?_ | refine X_br ?_ | refine X_bn ?_ | refine X_p ?_ | refine X_bp ?_)
            refine R_e (.un p.op a :: S, .slice (some ⟨g, 0, none⟩) (stkSize (a :: S) + 1) cap) ⟨by simp only; omega, by simp only [hsz2]; exact h0, ?_⟩ (by simp only; omega) (by simp only [hsz2]; rfl)
            simp only [hsz2, ints_un]
            exact hS.sb
          · have h0 := hse (step_1e hE hk (.inr ha))
            repeat (first | (refine S_w ?_; first | (refine S_y hS ?_) | ((first | refine M_bA hS ?_ | refine M_b1 hS ?_ | refine M_aA hS ?_ | refine M_a1 hS ?_ | refine M_sl hS ?_ | refine M_s1 hS ?_ | refine M_mm hS ?_); clear hS; intro b w hS) | ((first | refine M_st hS ?_ | refine M_sA hS ?_ | refine M_in hS ?_ | refine M_sR hS ?_); clear hS; intro w hS; (try simp only [List.set_cons_zero, List.set_cons_succ, Nat.zero_add] at hS)) | (refine M_ap hS ?_; clear hS; intro g cap w hS) | refine M_pn ?_) | refine X_k (by (try simp only [Fm.toList, List.set_cons_succ, List.set_cons_zero]); exact rfl) ?_ | refine S_u ?_ | refine S_v ?_ | refine C_sq ?_ | refine C_rg ?_ | refine L_nil ?_ | refine C_bk ?_ | refine C_ct ?_ | refine C_cf ?_ | refine C_sk ?_ | refine C_ex ?_ | refine C_rt ?_ | refine X_e ?_ | refine X_r ?_ | refine X_bh ?_ | refine X_be ?_ | refine X_br ?_ | refine X_bn ?_ | refine X_p ?_ | refine X_bp ?_)
            refine V_2 (blk_err h0 hS.fr)
      · cases S with
        | nil =>
          have h0 := hse (step_2n hE hk)
          have hz : stkSize [] = 0 := rfl
          repeat (first | (refine S_w ?_; first | (refine S_y hS ?_) | ((first | refine M_bA hS ?_ | refine M_b1 hS ?_ | refine M_aA hS ?_ | refine M_a1 hS ?_ | refine M_sl hS ?_ | refine M_s1 hS ?_ | refine M_mm hS ?_); clear hS; intro b w hS) | ((first | refine M_st hS ?_ | refine M_sA hS ?_ | refine M_in hS ?_ | refine M_sR hS ?_); clear hS; intro w hS; (try simp only [List.set_cons_zero, List.set_cons_succ, Nat.zero_add] at hS)) | (refine M_ap hS ?_; clear hS; intro g cap w hS) | refine M_pn ?_) | refine X_k (by (try simp only [Fm.toList, List.set_cons_succ, List.set_cons_zero]); exact rfl) ?_ | refine S_u ?_ | refine S_v ?_ | refine C_sq ?_ | refine C_rg ?_ | refine L_nil ?_ | refine C_bk ?_ | refine C_ct ?_ | refine C_cf ?_ | refine C_sk ?_ | refine C_ex ?_ | refine C_rt ?_ | refine X_e ?_ | refine X_r ?_ | refine X_bh ?_ | refine X_be ?_ | refine X_br ?_ | refine X_bn ?_ | refine X_p ?_ | refine X_bp ?_)
          refine C_qt hS ?_
          repeat (first | (refine Q_w ?_; first | (refine Q_y ?_)) | refine Q_u ?_)
          refine Q_n ?_; clear hS; intro w hS
          repeat (first | (refine S_w ?_; first | (refine S_y hS ?_) | ((first | refine M_bA hS ?_ | refine M_b1 hS ?_ | refine M_aA hS ?_ | refine M_a1 hS ?_ | refine M_sl hS ?_ | refine M_s1 hS ?_ | refine M_mm hS ?_); clear hS; intro b w hS) | ((first | refine M_st hS ?_ | refine M_sA hS ?_ | refine M_in hS ?_ | refine M_sR hS ?_); clear hS; intro w hS; (try simp only [List.set_cons_zero, List.set_cons_succ, Nat.zero_add] at hS)) | (refine M_ap hS ?_; clear hS; intro g cap w hS) | refine M_pn ?_) | refine X_k (by (try simp only [Fm.toList, List.set_cons_succ, List.set_cons_zero]); exact rfl) ?_ | refine S_u ?_ | refine S_v ?_ | refine C_sq ?_ | refine C_rg ?_ | refine L_nil ?_ | refine C_bk ?_ | refine C_ct ?_ | refine C_cf ?_ | refine C_sk ?_ | refine C_ex ?_ | refine C_rt ?_ | refine X_e ?_ | refine X_r ?_ | refine X_bh ?_ | refine X_be ?_ | refine X_br ?_ | refine X_bn ?_ | refine X_p ?_ | refine X_bp ?_)
          refine V_2 (blk_err h0 hS.fr)
        | cons tb S =>
          have hposb := T.size_pos tb
          have hszb : stkSize (tb :: S) = stkSize S + tb.size := rfl
          have htop := ints_top tb S
          have htop : (ints (tb :: S))[((stkSize (tb :: S) : Int) - 1).toNat]? = some (vn (stkSize S)) := by rw [show ((stkSize (tb :: S) : Int) - 1).toNat = stkSize (tb :: S) - 1 by omega]; exact htop
          cases S with
          | nil =>
            have h0 := hse (step_21 (b := tb) hE hk)
            have hz : stkSize [] = 0 := rfl
            by_cases hb : p.b = (stkSize [tb] : Int) - 1
            · repeat (first | (refine S_w ?_; first | (refine S_y hS ?_) | ((first | refine M_bA hS ?_ | refine M_b1 hS ?_ | refine M_aA hS ?_ | refine M_a1 hS ?_ | refine M_sl hS ?_ | refine M_s1 hS ?_ | refine M_mm hS ?_); clear hS; intro b w hS) | ((first | refine M_st hS ?_ | refine M_sA hS ?_ | refine M_in hS ?_ | refine M_sR hS ?_); clear hS; intro w hS; (try simp only [List.set_cons_zero, List.set_cons_succ, Nat.zero_add] at hS)) | (refine M_ap hS ?_; clear hS; intro g cap w hS) | refine M_pn ?_) | refine X_k (by (try simp only [Fm.toList, List.set_cons_succ, List.set_cons_zero]); exact rfl) ?_ | refine S_u ?_ | refine S_v ?_ | refine C_sq ?_ | refine C_rg ?_ | refine L_nil ?_ | refine C_bk ?_ | refine C_ct ?_ | refine C_cf ?_ | refine C_sk ?_ | refine C_ex ?_ | refine C_rt ?_ | refine X_e ?_ | refine X_r ?_ | refine X_bh ?_ | refine X_be ?_ | refine X_br ?_ | refine X_bn ?_ | refine X_p ?_ | refine X_bp ?_)
              refine C_qt hS ?_
              repeat (first | (refine Q_w ?_; first | (refine Q_y ?_)) | refine Q_u ?_)
              refine Q_n ?_; clear hS; intro w hS
              repeat (first | (refine S_w ?_; first | (refine S_y hS ?_) | ((first | refine M_bA hS ?_ | refine M_b1 hS ?_ | refine M_aA hS ?_ | refine M_a1 hS ?_ | refine M_sl hS ?_ | refine M_s1 hS ?_ | refine M_mm hS ?_); clear hS; intro b w hS) | ((first | refine M_st hS ?_ | refine M_sA hS ?_ | refine M_in hS ?_ | refine M_sR hS ?_); clear hS; intro w hS; (try simp only [List.set_cons_zero, List.set_cons_succ, Nat.zero_add] at hS)) | (refine M_ap hS ?_; clear hS; intro g cap w hS) | refine M_pn ?_) | refine X_k (by (try simp only [Fm.toList, List.set_cons_succ, List.set_cons_zero]); exact rfl) ?_ | refine S_u ?_ | refine S_v ?_ | refine C_sq ?_ | refine C_rg ?_ | refine L_nil ?_ | refine C_bk ?_ | refine C_ct ?_ | refine C_cf ?_ | refine C_sk ?_ | refine C_ex ?_ | refine C_rt ?_ | refine X_e ?_ | refine X_r ?_ | refine X_bh ?_ | refine X_be ?_ | refine X_br ?_ | refine X_bn ?_ | refine X_p ?_ | refine X_bp ?_)
              refine V_2 (blk_err h0 hS.fr)
            · repeat (first | (refine S_w ?_; first | (refine S_y hS ?_) | ((first | refine M_bA hS ?_ | refine M_b1 hS ?_ | refine M_aA hS ?_ | refine M_a1 hS ?_ | refine M_sl hS ?_ | refine M_s1 hS ?_ | refine M_mm hS ?_); clear hS; intro b w hS) | ((first | refine M_st hS ?_ | refine M_sA hS ?_ | refine M_in hS ?_ | refine M_sR hS ?_); clear hS; intro w hS; (try simp only [List.set_cons_zero, List.set_cons_succ, Nat.zero_add] at hS)) | (refine M_ap hS ?_; clear hS; intro g cap w hS) | refine M_pn ?_) | refine X_k (by (try simp only [Fm.toList, List.set_cons_succ, List.set_cons_zero]); exact rfl) ?_ | refine S_u ?_ | refine S_v ?_ | refine C_sq ?_ | refine C_rg ?_ | refine L_nil ?_ | refine C_bk ?_ | refine C_ct ?_ | refine C_cf ?_ | refine C_sk ?_ | refine C_ex ?_ | refine C_rt ?_ | refine X_e ?_ | refine X_r ?_ | refine X_bh ?_ | refine X_be ?_ | refine X_br ?_ | refine X_bn ?_ | refine X_p ?_ | refine X_bp ?_)
              refine C_qt hS ?_
              repeat (first | (refine Q_w ?_; first | (refine Q_y ?_)) | refine Q_u ?_)
              refine Q_n ?_; clear hS; intro w hS
              repeat (first | (refine S_w ?_; first | (refine S_y hS ?_) | ((first | refine M_bA hS ?_ | refine M_b1 hS ?_ | refine M_aA hS ?_ | refine M_a1 hS ?_ | refine M_sl hS ?_ | refine M_s1 hS ?_ | refine M_mm hS ?_); clear hS; intro b w hS) | ((first | refine M_st hS ?_ | refine M_sA hS ?_ | refine M_in hS ?_ | refine M_sR hS ?_); clear hS; intro w hS; (try simp only [List.set_cons_zero, List.set_cons_succ, Nat.zero_add] at hS)) | (refine M_ap hS ?_; clear hS; intro g cap w hS) | refine M_pn ?_) | refine X_k (by (try simp only [Fm.toList, List.set_cons_succ, List.set_cons_zero]); exact rfl) ?_ | refine S_u ?_ | refine S_v ?_ | refine C_sq ?_ | refine C_rg ?_ | refine L_nil ?_ | refine C_bk ?_ | refine C_ct ?_ | refine C_cf ?_ | refine C_sk ?_ | refine C_ex ?_ | refine C_rt ?_ | refine X_e ?_ | refine X_r ?_ | refine X_bh ?_ | refine X_be ?_ | refine X_br ?_ | refine X_bn ?_ | refine X_p ?_ | refine X_bp ?_)
              refine V_2 (blk_err h0 hS.fr)
          | cons a S =>
            have hposa := T.size_pos a
            have hsza : stkSize (a :: S) = stkSize S + a.size := rfl
            have htopa : (ints (tb :: a :: S))[((stkSize (a :: S) : Int) - 1).toNat]? = some (vn (stkSize S)) := by rw [show ((stkSize (a :: S) : Int) - 1).toNat = stkSize (a :: S) - 1 by omega]; exact ints_old (ints_top a S)
            by_cases hb : p.b = (stkSize (tb :: a :: S) : Int) - 1
            · by_cases ha : p.a = (stkSize (a :: S) : Int) - 1
              · have h0 := hst _ (step_2 hE hk hb ha)
                rw [← ha] at htopa
                have hsz2 : stkSize (.bin p.op a tb :: S) = stkSize (tb :: a :: S) + 1 := by simp only [stkSize, T.size]; omega
                repeat (first | (refine S_w ?_; first | (refine S_y hS ?_) | ((first | refine M_bA hS ?_ | refine M_b1 hS ?_ | refine M_aA hS ?_ | refine M_a1 hS ?_ | refine M_sl hS ?_ | refine M_s1 hS ?_ | refine M_mm hS ?_); clear hS; intro b w hS) | ((first | refine M_st hS ?_ | refine M_sA hS ?_ | refine M_in hS ?_ | refine M_sR hS ?_); clear hS; intro w hS; (try simp only [List.set_cons_zero, List.set_cons_succ, Nat.zero_add] at hS)) | (refine M_ap hS ?_; clear hS; intro g cap w hS) | refine M_pn ?_) | refine X_k (by (try simp only [Fm.toList, List.set_cons_succ, List.set_cons_zero]); exact rfl) ?_ | refine S_u ?_ | refine S_v ?_ | refine C_sq ?_ | refine C_rg ?_ | refine L_nil ?_ | refine C_bk ?_ | refine C_ct ?_ | refine C_cf ?_ | refine C_sk ?_ | refine C_ex ?_ | refine C_rt ?_ | refine X_e ?_ | refine X_r ?_ | refine X_bh ?_ | refine X_be ?_ | refine X_br ?_ | refine X_bn ?_ | refine X_p ?_ | refine X_bp ?_)
                refine C_qt hS ?_
                repeat (first | (refine Q_w ?_; first | (refine Q_y ?_)) | refine Q_u ?_)
                refine Q_n ?_; clear hS; intro w hS
                repeat (first | (refine S_w ?_; first | (refine S_y hS ?_) | ((first | refine M_bA hS ?_ | refine M_b1 hS ?_ | refine M_aA hS ?_ | refine M_a1 hS ?_ | refine M_sl hS ?_ | refine M_s1 hS ?_ | refine M_mm hS ?_); clear hS; intro b w hS) | ((first | refine M_st hS ?_ | refine M_sA hS ?_ | refine M_in hS ?_ | refine M_sR hS ?_); clear hS; intro w hS; (try simp only [List.set_cons_zero, List.set_cons_succ, Nat.zero_add] at hS)) | (refine M_ap hS ?_; clear hS; intro g cap w hS) | refine M_pn ?_) | refine X_k (by (try simp only [Fm.toList, List.set_cons_succ, List.set_cons_zero]); exact rfl) ?_ | refine S_u ?_ | refine S_v ?_ | refine C_sq ?_ | refine C_rg ?_ | refine L_nil ?_ | refine C_bk ?_ | refine C_ct ?_ | refine C_cf ?_ | refine C_sk ?_ | refine C_ex ?_ | refine C_rt ?_ | refine X_e ?_ | refine X_r ?_ | refine X_bh ?_ | refine X_be ?_ | refine X_br ?_ | refine X_bn ?_ | refine X_p ?_ | refine X_bp ?_)
                refine R_e (.bin p.op a tb :: S, .slice (some ⟨g, 0, none⟩) (stkSize (tb :: a :: S) + 1) cap) ⟨by simp only; omega, by simp only [hsz2]; exact h0, ?_⟩ (by simp only; omega) (by simp only [hsz2]; rfl)
                simp only [hsz2, ints_bin]
                exact hS.sb
              · have h0 := hse (step_2e hE hk fun h => ha h.2)
                repeat (first | (refine S_w ?_; first | (refine S_y hS ?_) | ((first | refine M_bA hS ?_ | refine M_b1 hS ?_ | refine M_aA hS ?_ | refine M_a1 hS ?_ | refine M_sl hS ?_ | refine M_s1 hS ?_ | refine M_mm hS ?_); clear hS; intro b w hS) | ((first | refine M_st hS ?_ | refine M_sA hS ?_ | refine M_in hS ?_ | refine M_sR hS ?_); clear hS; intro w hS; (try simp only [List.set_cons_zero, List.set_cons_succ, Nat.zero_add] at hS)) | (refine M_ap hS ?_; clear hS; intro g cap w hS) | refine M_pn ?_) | refine X_k (by (try simp only [Fm.toList, List.set_cons_succ, List.set_cons_zero]); exact rfl) ?_ | refine S_u ?_ | refine S_v ?_ | refine C_sq ?_ | refine C_rg ?_ | refine L_nil ?_ | refine C_bk ?_ | refine C_ct ?_ | refine C_cf ?_ | refine C_sk ?_ | refine C_ex ?_ | refine C_rt ?_ | refine X_e ?_ | refine X_r ?_ | refine X_bh ?_ | refine X_be ?_ | refine X_br ?_ | refine X_bn ?_ | refine X_p ?_ | refine X_bp ?_)
                refine C_qt hS ?_
                repeat (first | (refine Q_w ?_; first | (refine Q_y ?_)) | refine Q_u ?_)
                refine Q_n ?_; clear hS; intro w hS
                repeat (first | (refine S_w ?_; first | (refine S_y hS ?_) | ((first | refine M_bA hS ?_ | refine M_b1 hS ?_ | refine M_aA hS ?_ | refine M_a1 hS ?_ | refine M_sl hS ?_ | refine M_s1 hS ?_ | refine M_mm hS ?_); clear hS; intro b w hS) | ((first | refine M_st hS ?_ | refine M_sA hS ?_ | refine M_in hS ?_ | refine M_sR hS ?_); clear hS; intro w hS; (try simp only [List.set_cons_zero, List.set_cons_succ, Nat.zero_add] at hS)) | (refine M_ap hS ?_; clear hS; intro g cap w hS) | refine M_pn ?_) | refine X_k (by (try simp only [Fm.toList, List.set_cons_succ, List.set_cons_zero]); exact rfl) ?_ | refine S_u ?_ | refine S_v ?_ | refine C_sq ?_ | refine C_rg ?_ | refine L_nil ?_ | refine C_bk ?_ | refine C_ct ?_ | refine C_cf ?_ | refine C_sk ?_ | refine C_ex ?_ | refine C_rt ?_ | refine X_e ?_ | refine X_r ?_ | refine X_bh ?_ | refine X_be ?_ | refine X_br ?_ | refine X_bn ?_ | refine X_p ?_ | refine X_bp ?_)
                refine V_2 (blk_err h0 hS.fr)
            · have h0 := hse (step_2e hE hk fun h => hb h.1)
              repeat (first | (refine S_w ?_; first | (refine S_y hS ?_) | ((first | refine M_bA hS ?_ | refine M_b1 hS ?_ | refine M_aA hS ?_ | refine M_a1 hS ?_ | refine M_sl hS ?_ | refine M_s1 hS ?_ | refine M_mm hS ?_); clear hS; intro b w hS) | ((first | refine M_st hS ?_ | refine M_sA hS ?_ | refine M_in hS ?_ | refine M_sR hS ?_); clear hS; intro w hS; (try simp only [List.set_cons_zero, List.set_cons_succ, Nat.zero_add] at hS)) | (refine M_ap hS ?_; clear hS; intro g cap w hS) | refine M_pn ?_) | refine X_k (by (try simp only [Fm.toList, List.set_cons_succ, List.set_cons_zero]); exact rfl) ?_ | refine S_u ?_ | refine S_v ?_ | refine C_sq ?_ | refine C_rg ?_ | refine L_nil ?_ | refine C_bk ?_ | refine C_ct ?_ | refine C_cf ?_ | refine C_sk ?_ | refine C_ex ?_ | refine C_rt ?_ | refine X_e ?_ | refine X_r ?_ | refine X_bh ?_ | refine X_be ?_ | refine X_br ?_ | refine X_bn ?_ | refine X_p ?_ | refine X_bp ?_)
              refine C_qt hS ?_
              repeat (first | (refine Q_w ?_; first | (refine Q_y ?_)) | refine Q_u ?_)
              refine Q_n ?_; clear hS; intro w hS
              repeat (first | (refine S_w ?_; first | (refine S_y hS ?_) | ((first | refine M_bA hS ?_ | refine M_b1 hS ?_ | refine M_aA hS ?_ | refine M_a1 hS ?_ | refine M_sl hS ?_ | refine M_s1 hS ?_ | refine M_mm hS ?_); clear hS; intro b w hS) | ((first | refine M_st hS ?_ | refine M_sA hS ?_ | refine M_in hS ?_ | refine M_sR hS ?_); clear hS; intro w hS; (try simp only [List.set_cons_zero, List.set_cons_succ, Nat.zero_add] at hS)) | (refine M_ap hS ?_; clear hS; intro g cap w hS) | refine M_pn ?_) | refine X_k (by (try simp only [Fm.toList, List.set_cons_succ, List.set_cons_zero]); exact rfl) ?_ | refine S_u ?_ | refine S_v ?_ | refine C_sq ?_ | refine C_rg ?_ | refine L_nil ?_ | refine C_bk ?_ | refine C_ct ?_ | refine C_cf ?_ | refine C_sk ?_ | refine C_ex ?_ | refine C_rt ?_ | refine X_e ?_ | refine X_r ?_ | refine X_bh ?_ | refine X_be ?_ | refine X_br ?_ | refine X_bn ?_ | refine X_p ?_ | refine X_bp ?_)
              refine V_2 (blk_err h0 hS.fr)
    · repeat (first | (refine S_w ?_; first | (refine S_y hS ?_) | ((first | refine M_bA hS ?_ | refine M_b1 hS ?_ | refine M_aA hS ?_ | refine M_a1 hS ?_ | refine M_sl hS ?_ | refine M_s1 hS ?_ | refine M_mm hS ?_); clear hS; intro b w hS) | ((first | refine M_st hS ?_ | refine M_sA hS ?_ | refine M_in hS ?_ | refine M_sR hS ?_); clear hS; intro w hS; (try simp only [List.set_cons_zero, List.set_cons_succ, Nat.zero_add] at hS)) | (refine M_ap hS ?_; clear hS; intro g cap w hS) | refine M_pn ?_) | refine X_k (by (try simp only [Fm.toList, List.set_cons_succ, List.set_cons_zero]); exact rfl) ?_ | refine S_u ?_ | refine S_v ?_ | refine C_sq ?_ | refine C_rg ?_ | refine L_nil ?_ | refine C_bk ?_ | refine C_ct ?_ | refine C_cf ?_ | refine C_sk ?_ | refine C_ex ?_ | refine C_rt ?_ | refine X_e ?_ | refine X_r ?_ | refine X_bh ?_ | refine X_be ?_ | refine X_br ?_ | refine X_bn ?_ | refine X_p ?_ | refine X_bp ?_)
      refine V_2 (blk_err ?_ hS.fr)
      rw [← hrun]
      have : (stkStep v S p) = (pcE p v, []) := by unfold stkStep; rw [if_pos hE]
      unfold stkRun
      rw [this, if_pos hE]
  · obtain rfl : stkSize S = n := by omega
    rw [List.drop_of_length_le (by omega)] at hrun
    have hrun : stkRun v L [] = (0, S) := hrun.symm
    repeat (first | (refine S_w ?_; first | (refine S_y hS ?_) | ((first | refine M_bA hS ?_ | refine M_b1 hS ?_ | refine M_aA hS ?_ | refine M_a1 hS ?_ | refine M_sl hS ?_ | refine M_s1 hS ?_ | refine M_mm hS ?_); clear hS; intro b w hS) | ((first | refine M_st hS ?_ | refine M_sA hS ?_ | refine M_in hS ?_ | refine M_sR hS ?_); clear hS; intro w hS; (try simp only [List.set_cons_zero, List.set_cons_succ, Nat.zero_add] at hS)) | (refine M_ap hS ?_; clear hS; intro g cap w hS) | refine M_pn ?_) | refine X_k (by (try simp only [Fm.toList, List.set_cons_succ, List.set_cons_zero]); exact rfl) ?_ | refine S_u ?_ | refine S_v ?_ | refine C_sq ?_ | refine C_rg ?_ | refine L_nil ?_ | refine C_bk ?_ | refine C_ct ?_ | refine C_cf ?_ | refine C_sk ?_ | refine C_ex ?_ | refine C_rt ?_ | refine X_e ?_ | refine X_r ?_ | refine X_bh ?_ | refine X_be ?_ | refine X_br ?_ | refine X_bn ?_ | refine X_p ?_ | refine X_bp ?_)
    refine V_2 ⟨A7, c7, by rw [hrun], by rw [hrun]; exact hS.rowOwnM, hS.fr⟩
end Go.Proofs.Ytebdkmfgfjanoaa
