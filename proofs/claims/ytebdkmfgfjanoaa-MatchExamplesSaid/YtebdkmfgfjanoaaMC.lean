/-
  match.empty, match.evaluate: the tables.
-/
import Derived.Test.YtebdkmfgfjanoaaMB
import Derived.Test.YtebdkmfgfjanoaaMtPairs
namespace Go.Proofs.Ytebdkmfgfjanoaa
open Go.RowKit

def rowsR (n : Nat) (f : Tab) : Nat → List Nat → List Res
  | _, [] => []
  | i, b :: bs => Res.row 4 1 (rowV n b) n (rowC n f i) :: rowsR n f (i + 1) bs
def tabR (n : Nat) (f : Tab) (b : Nat) (bs : List Nat) : List Res := Res.row 36 1 (rowV n b) n (bs.map (rowV n)) :: rowsR n f 0 bs
theorem rowsR_mem {n : Nat} {f : Tab} : ∀ {bs : List Nat} {k i b : Nat}, bs[i]? = some b → Res.row 4 1 (rowV n b) n (rowC n f (k + i)) ∈ rowsR n f k bs
  | x :: bs, k, 0, b, h => by
    simp only [List.getElem?_cons_zero, Option.some.injEq] at h
    subst h; exact List.mem_cons_self ..
  | x :: bs, k, i + 1, b, h => by
    have := rowsR_mem (n := n) (f := f) (k := k + 1) (show bs[i]? = some b by simpa using h)
    rw [show k + (i + 1) = k + 1 + i by omega]
    exact List.mem_cons_of_mem _ this
theorem tab_has {rs : List Res} {n b : Nat} {f : Tab} {bs : List Nat} (hl : bs.length = n) (h : ∀ r ∈ tabR n f b bs, r ∈ rs) : HasTab rs n f b :=
  ⟨bs, hl, ⟨fun hS => hS.rowAt (h _ (List.mem_cons_self ..))⟩, fun i bi hb => ⟨fun hS => hS.rowAt (h _ (List.mem_cons_of_mem _ (by have := rowsR_mem (n := n) (f := f) (k := 0) hb; rwa [Nat.zero_add] at this)))⟩⟩
theorem rowsR_own {n : Nat} {f : Tab} : ∀ {bs : List Nat} {k : Nat}, ∀ r ∈ rowsR n f k bs, r.ro = false
  | [], _, r, h => by cases h
  | b :: bs, k, r, h => by
    rcases List.mem_cons.1 h with rfl | h
    · rfl
    · exact rowsR_own r h
theorem tabR_own {n b : Nat} {f : Tab} {bs : List Nat} : ∀ r ∈ tabR n f b bs, r.ro = false := fun r h => by
  rcases List.mem_cons.1 h with rfl | h
  · rfl
  · exact rowsR_own r h
theorem rowsR_congr {n : Nat} {f g : Tab} : ∀ {bs : List Nat} {k : Nat}, (∀ i j, k ≤ i → i < k + bs.length → j < n → f i j = g i j) → rowsR n f k bs = rowsR n g k bs
  | [], _, _ => rfl
  | b :: bs, k, h => by
    have h1 : rowC n f k = rowC n g k := List.map_congr_left fun j hj => by rw [h k j (Nat.le_refl _) (by simp) (List.mem_range.1 hj)]
    show _ :: _ = _ :: _
    rw [h1, rowsR_congr fun i j h2 h3 h4 => h i j (by omega) (by simp only [List.length_cons]; omega) h4]
theorem tabR_congr {n b : Nat} {f g : Tab} {bs : List Nat} (hl : bs.length = n) (h : ∀ i j, i < n → j < n → f i j = g i j) : tabR n f b bs = tabR n g b bs := by
  unfold tabR
  rw [rowsR_congr fun i j _ h2 h3 => h i j (by omega) h3]
def updT (f : Tab) (i j : Nat) (v : Bool) : Tab := fun i' j' => if i' = i ∧ j' = j then v else f i' j'
theorem rowC_upd {n : Nat} {f : Tab} {i j : Nat} {v : Bool} : (rowC n f i).set j (.bool v) = rowC n (updT f i j v) i := by
  apply List.ext_getElem?
  intro k
  rw [List.getElem?_set, rowC_len]
  unfold rowC
  rw [List.getElem?_map, List.getElem?_map]
  by_cases hk : k < n
  · rw [List.getElem?_range hk]
    by_cases hj : j = k
    · subst hj; simp [updT, hk]
    · simp [updT, hj, Ne.symm hj]
  · rw [List.getElem?_eq_none (by simpa using hk)]
    by_cases hj : j = k
    · subst hj; simp [hk]
    · simp [hj]
theorem rowsR_upd {n : Nat} {f : Tab} {j : Nat} {v : Bool} : ∀ {bs : List Nat} {k i b : Nat}, bs[i]? = some b → Upd (Res.row 4 1 (rowV n b) n (rowC n f (k + i))) (Res.row 4 1 (rowV n b) n ((rowC n f (k + i)).set j (.bool v))) (rowsR n f k bs) (rowsR n (updT f (k + i) j v) k bs)
  | x :: bs, k, 0, b, h => by
    simp only [List.getElem?_cons_zero, Option.some.injEq] at h
    subst h
    rw [rowC_upd]
    have : rowsR n (updT f (k + 0) j v) (k + 1) bs = rowsR n f (k + 1) bs := rowsR_congr fun i' j' h1 _ _ => by unfold updT; rw [if_neg (by omega)]
    show Upd _ _ _ (_ :: rowsR n (updT f (k + 0) j v) (k + 1) bs)
    rw [this]
    exact .here
  | x :: bs, k, i + 1, b, h => by
    have := rowsR_upd (n := n) (f := f) (j := j) (v := v) (k := k + 1) (show bs[i]? = some b by simpa using h)
    rw [show k + 1 + i = k + (i + 1) by omega] at this
    have h1 : rowC n (updT f (k + (i + 1)) j v) k = rowC n f k := List.map_congr_left fun j' _ => by unfold updT; rw [if_neg (by omega)]
    show Upd _ _ _ (Res.row _ 1 _ n (rowC n (updT f (k + (i + 1)) j v) k) :: _)
    rw [h1]
    exact .there this
theorem tabR_upd {n b : Nat} {f : Tab} {bs : List Nat} {i j bi : Nat} {v : Bool} (h : bs[i]? = some bi) : Upd (Res.row 4 1 (rowV n bi) n (rowC n f i)) (Res.row 4 1 (rowV n bi) n ((rowC n f i).set j (.bool v))) (tabR n f b bs) (tabR n (updT f i j v) b bs) := by
  have := rowsR_upd (n := n) (f := f) (j := j) (v := v) (k := 0) h
  rw [Nat.zero_add] at this
  exact .there this
theorem rowC_no (n i : Nat) : rowC n noT i = List.replicate n (.bool false) := by
  unfold rowC noT
  rw [List.map_const', List.length_range]
theorem rowsR_snoc {n : Nat} {f : Tab} {b : Nat} : ∀ (bs : List Nat) (k : Nat), rowsR n f k (bs ++ [b]) = rowsR n f k bs ++ [Res.row 4 1 (rowV n b) n (rowC n f (k + bs.length))]
  | [], k => rfl
  | x :: bs, k => by
    show _ :: rowsR n f (k + 1) (bs ++ [b]) = _
    rw [rowsR_snoc bs (k + 1), show k + 1 + bs.length = k + (x :: bs).length by simp only [List.length_cons]; omega]
    rfl
set_option maxHeartbeats 4000000 in
set_option maxRecDepth 100000 in
theorem emptyR (n : Nat) (hn : n ≤ 4294967296) (W : World) : CallsR Try.prog 51 #[.int .i64 (n : Nat)] W fun r w' => ∃ b bs, r = .slice (some ⟨b, 0, none⟩) n n ∧ bs.length = n ∧ St Nof W (tabR n noT b bs) w' := by
  have hS := St.start Nof W
  refine E_r (m := 18) ?_ Try.func51 rfl Try.ntmps51 rfl; refine C_ft ?_
  repeat (first | (refine S_w ?_; first | (refine M_mk n hS ?_; clear hS; intro b w hS) | (refine S_y hS ?_) | ((first | refine M_bA hS ?_ | refine M_b1 hS ?_ | refine M_aA hS ?_ | refine M_a1 hS ?_ | refine M_sl hS ?_ | refine M_s1 hS ?_ | refine M_mm hS ?_); clear hS; intro b w hS) | ((first | refine M_st hS ?_ | refine M_sA hS ?_ | refine M_in hS ?_ | refine M_sR hS ?_); clear hS; intro w hS; (try simp only [List.set_cons_zero, List.set_cons_succ, Nat.zero_add] at hS)) | (refine M_ap hS ?_; clear hS; intro g cap w hS) | refine M_pn ?_) | refine X_k (by (try simp only [Fm.toList, List.set_cons_succ, List.set_cons_zero]); exact rfl) ?_ | refine S_u ?_ | refine S_v ?_ | refine C_sq ?_ | refine C_rg ?_ | refine L_nil ?_ | refine C_bk ?_ | refine C_ct ?_ | refine C_cf ?_ | refine C_sk ?_ | refine C_ex ?_ | refine C_rt ?_ | refine X_e ?_ | refine X_r ?_ | refine X_bh ?_ | refine X_be ?_ | refine X_br ?_ | refine X_bn ?_ | refine X_p ?_ | refine X_bp ?_)
  refine C_lp [4, 1, 4, 9, 1] (fun s : Nat × List Nat => [(9, .int .i64 (s.1 : Nat))]) (fun s w' => s.2.length = s.1 ∧ s.1 ≤ n ∧ St Nof W (Res.row 36 1 (.slice (some ⟨b, 0, none⟩) n n) n (s.2.map (rowV n) ++ List.replicate (n - s.1) (.slice none 0 0)) :: rowsR n noT 0 s.2) w') (fun s => n - s.1) (0, []) ⟨rfl, Nat.zero_le _, by simpa [rowsR] using hS⟩ ?_
  clear hS
  rintro ⟨k, bs⟩ y w ⟨hl, hi, hS⟩
  simp only at hl hi hS
  refine C_fs ?_
  by_cases hlt : k < n
  · repeat (first | (refine S_w ?_; first | (refine M_mk n hS ?_; clear hS; intro g w hS) | (refine S_y hS ?_) | ((first | refine M_bA hS ?_ | refine M_b1 hS ?_ | refine M_aA hS ?_ | refine M_a1 hS ?_ | refine M_sl hS ?_ | refine M_s1 hS ?_ | refine M_mm hS ?_); clear hS; intro b w hS) | ((first | refine M_st hS ?_ | refine M_sA hS ?_ | refine M_in hS ?_ | refine M_sR hS ?_); clear hS; intro w hS; (try simp only [List.set_cons_zero, List.set_cons_succ, Nat.zero_add] at hS)) | (refine M_ap hS ?_; clear hS; intro g cap w hS) | refine M_pn ?_) | refine X_k (by (try simp only [Fm.toList, List.set_cons_succ, List.set_cons_zero]); exact rfl) ?_ | refine S_u ?_ | refine S_v ?_ | refine C_sq ?_ | refine C_rg ?_ | refine L_nil ?_ | refine C_bk ?_ | refine C_ct ?_ | refine C_cf ?_ | refine C_sk ?_ | refine C_ex ?_ | refine C_rt ?_ | refine X_e ?_ | refine X_r ?_ | refine X_bh ?_ | refine X_be ?_ | refine X_br ?_ | refine X_bn ?_ | refine X_p ?_ | refine X_bp ?_)
    refine R_e (k + 1, bs ++ [g]) ⟨by simp [hl], by omega, ?_⟩ (by simp only; omega)
    have e : (bs.map (rowV n) ++ List.replicate (n - k) (Value.slice none 0 0)).set k (rowV n g) = (bs ++ [g]).map (rowV n) ++ List.replicate (n - (k + 1)) (Value.slice none 0 0) := by
      rw [List.set_append_right _ _ (by simp [hl]), List.length_map, hl, Nat.sub_self, show n - k = n - (k + 1) + 1 by omega, List.replicate_succ, List.set_cons_zero, List.map_append, List.append_assoc]
      rfl
    rw [rowsR_snoc, rowC_no]
    simp only
    rw [← e]
    exact hS.prm ((List.Perm.swap _ _ _).trans (List.Perm.cons _ (List.perm_append_singleton _ _).symm))
  obtain rfl : k = n := by omega
  repeat (first | (refine S_w ?_; first | (refine S_y hS ?_) | ((first | refine M_bA hS ?_ | refine M_b1 hS ?_ | refine M_aA hS ?_ | refine M_a1 hS ?_ | refine M_sl hS ?_ | refine M_s1 hS ?_ | refine M_mm hS ?_); clear hS; intro b w hS) | ((first | refine M_st hS ?_ | refine M_sA hS ?_ | refine M_in hS ?_ | refine M_sR hS ?_); clear hS; intro w hS; (try simp only [List.set_cons_zero, List.set_cons_succ, Nat.zero_add] at hS)) | (refine M_ap hS ?_; clear hS; intro g cap w hS) | refine M_pn ?_) | refine X_k (by (try simp only [Fm.toList, List.set_cons_succ, List.set_cons_zero]); exact rfl) ?_ | refine S_u ?_ | refine S_v ?_ | refine C_sq ?_ | refine C_rg ?_ | refine L_nil ?_ | refine C_bk ?_ | refine C_ct ?_ | refine C_cf ?_ | refine C_sk ?_ | refine C_ex ?_ | refine C_rt ?_ | refine X_e ?_ | refine X_r ?_ | refine X_bh ?_ | refine X_be ?_ | refine X_br ?_ | refine X_bn ?_ | refine X_p ?_ | refine X_bp ?_)
  refine V_1 ⟨b, bs, rfl, hl, ?_⟩
  rw [Nat.sub_self, List.replicate_zero, List.append_nil] at hS
  exact hS
theorem rowsR_fp {n : Nat} (f g : Tab) : ∀ (bs : List Nat) (k : Nat), (rowsR n f k bs).map (fun r => (r.fp, r.ro)) = (rowsR n g k bs).map (fun r => (r.fp, r.ro))
  | [], _ => rfl
  | b :: bs, k => by
    show _ :: _ = _ :: _
    rw [rowsR_fp f g bs (k + 1)]
    rfl
theorem tabR_fp {n b : Nat} {bs : List Nat} (f g : Tab) : (tabR n f b bs).map (fun r => (r.fp, r.ro)) = (tabR n g b bs).map (fun r => (r.fp, r.ro)) := by
  show _ :: _ = _ :: _
  rw [rowsR_fp f g bs 0]
theorem tabAt_app1 {acc : List Tab} {x : Tab} {q : Nat} (h : q < acc.length) : tabAt (acc ++ [x]) (q : Nat) = tabAt acc (q : Nat) := by
  unfold tabAt
  rw [Int.toNat_natCast, List.getElem?_append_left h]
theorem tabAt_app2 {acc : List Tab} {x : Tab} {q : Int} (h : q = (acc.length : Nat)) : tabAt (acc ++ [x]) q = x := by
  unfold tabAt
  rw [h, Int.toNat_natCast, List.getElem?_append_right (Nat.le_refl _), Nat.sub_self]
  rfl
theorem mv_perm (l cs t : List Res) : (l ++ (cs ++ t)).Perm (cs ++ (l ++ t)) := by
  rw [← List.append_assoc, ← List.append_assoc]
  exact List.perm_append_comm.append_right _
/-! filling a table -/
theorem relO_rel {ws : List Nat} {op pos neg : Nat} {a b own : Tab} {i j : Nat} (hij : i ≤ j) (hj : j ≤ ws.length) (h : ∀ k, i < k → k ≤ j → own k j = rel ws op pos neg a b k j) : relO ws op pos neg a b own i j = rel ws op pos neg a b i j := by
  unfold rel relO
  rw [decide_eq_true hij, decide_eq_true hj, Bool.true_and, Bool.true_and]
  by_cases h8 : op = 8
  · subst h8
    simp only [show ¬ (8 : Nat) = 2 by decide, show ¬ (8 : Nat) = 3 by decide, show ¬ (8 : Nat) = 4 by decide, show ¬ (8 : Nat) = 5 by decide, show ¬ (8 : Nat) = 6 by decide, show ¬ (8 : Nat) = 7 by decide, if_false, if_true]
    rw [starB_eq, someB_congr fun k h1 h2 => ?_]
    rw [h k (by omega) h2]
    unfold rel
    rw [decide_eq_true h2, decide_eq_true hj, Bool.true_and, Bool.true_and]
    simp only [show ¬ (8 : Nat) = 2 by decide, show ¬ (8 : Nat) = 3 by decide, show ¬ (8 : Nat) = 4 by decide, show ¬ (8 : Nat) = 5 by decide, show ¬ (8 : Nat) = 6 by decide, show ¬ (8 : Nat) = 7 by decide, if_false, if_true]
  · simp only [h8, if_false]
def fillT (ws : List Nat) (op pos neg : Nat) (a b : Tab) {n : Nat} (f : Tab) (xs : List (PX n)) : Tab := xs.foldl (fun f x => updT f x.1.1 x.1.2 (relO ws op pos neg a b f x.1.1 x.1.2)) f
theorem fillT_snoc {ws : List Nat} {op pos neg : Nat} {a b : Tab} {n : Nat} {f : Tab} {xs : List (PX n)} {x : PX n} : fillT ws op pos neg a b f (xs ++ [x]) = updT (fillT ws op pos neg a b f xs) x.1.1 x.1.2 (relO ws op pos neg a b (fillT ws op pos neg a b f xs) x.1.1 x.1.2) := by
  unfold fillT; rw [List.foldl_append]; rfl
theorem fill_row {ws : List Nat} {op pos neg : Nat} {a b : Tab} {n k : Nat} {f : Tab} (hn : n = ws.length + 1) (hk : k < n) (hf : ∀ i j, j < n → f i j = if n - k ≤ i then rel ws op pos neg a b i j else false) :
    ∀ m, m ≤ k + 1 → ∀ i j, j < n → fillT ws op pos neg a b f (prowTo n (n - (k + 1)) m) i j = if i = n - (k + 1) then (if j < n - (k + 1) + m then rel ws op pos neg a b i j else false) else f i j
  | 0, _, i, j, hj => by
    show f i j = _
    split
    · rename_i h
      rw [hf i j hj, if_neg (by omega)]
      split
      · rw [rel_out (by omega)]
      · rfl
    · rfl
  | m + 1, hm, i, j, hj => by
    have ih := fill_row hn hk hf m (by omega)
    have hx : n - (k + 1) ≤ n - (k + 1) + m ∧ n - (k + 1) + m < n := by omega
    have hp : prowTo n (n - (k + 1)) (m + 1) = prowTo n (n - (k + 1)) m ++ [⟨(n - (k + 1), n - (k + 1) + m), hx⟩] := by
      show _ ++ prowAt n (n - (k + 1)) (n - (k + 1) + m) = _
      rw [prowAt, dif_pos hx]
    rw [hp, fillT_snoc, relO_rel (i := n - (k + 1)) (j := n - (k + 1) + m) hx.1 (by omega) (fun q h1 h2 => ?_)]
    · unfold updT
      simp only
      by_cases h1 : i = n - (k + 1) ∧ j = n - (k + 1) + m
      · obtain ⟨rfl, rfl⟩ := h1
        rw [if_pos ⟨rfl, rfl⟩, if_pos rfl, if_pos (by omega)]
      · rw [if_neg h1, ih i j hj]
        by_cases h2 : i = n - (k + 1)
        · rw [if_pos h2, if_pos h2]
          have : j ≠ n - (k + 1) + m := fun e => h1 ⟨h2, e⟩
          by_cases h3 : j < n - (k + 1) + m
          · rw [if_pos h3, if_pos (by omega)]
          · rw [if_neg h3, if_neg (by omega)]
        · rw [if_neg h2, if_neg h2]
    · rw [ih q _ (by omega), if_neg (by omega), hf q _ (by omega), if_pos (by omega)]
theorem fill_pen {ws : List Nat} {op pos neg : Nat} {a b : Tab} {n : Nat} (hn : n = ws.length + 1) : ∀ k, k ≤ n → ∀ i j, j < n → fillT ws op pos neg a b noT (penTo n k) i j = if n - k ≤ i then rel ws op pos neg a b i j else false
  | 0, _, i, j, hj => by
    show false = _
    split
    · rw [rel_out (by omega)]
    · rfl
  | k + 1, hk, i, j, hj => by
    have ih := fill_pen (op := op) (pos := pos) (neg := neg) (a := a) (b := b) hn k (by omega)
    have h := fill_row hn (by omega) ih (k + 1) (Nat.le_refl _) i j hj
    have hs : fillT ws op pos neg a b noT (penTo n (k + 1)) = fillT ws op pos neg a b (fillT ws op pos neg a b noT (penTo n k)) (prowTo n (n - (k + 1)) (k + 1)) := by
      unfold fillT; rw [← List.foldl_append]; rfl
    rw [hs, h]
    by_cases h1 : i = n - (k + 1)
    · rw [if_pos h1, if_pos (by omega), if_pos (by omega)]
    · rw [if_neg h1, ih i j hj]
      by_cases h2 : n - k ≤ i
      · rw [if_pos h2, if_pos (by omega)]
      · rw [if_neg h2, if_neg (by omega)]
theorem fill_all {ws : List Nat} {op pos neg : Nat} {a b : Tab} {n : Nat} (hn : n = ws.length + 1) (i j : Nat) (hj : j < n) : fillT ws op pos neg a b noT (pen n) i j = rel ws op pos neg a b i j := by
  have := fill_pen (op := op) (pos := pos) (neg := neg) (a := a) (b := b) hn n (Nat.le_refl _) i j hj
  rw [Nat.sub_self, if_pos (Nat.zero_le _)] at this
  exact this
/-! pairs -/
set_option maxRecDepth 100000 in
theorem pairsR (n : Nat) (W : World) : CallsR Try.prog 53 #[.int .i64 (n : Nat)] W fun r w' => ∃ box, r = .func (.func 83) #[] #[.pointer (some ⟨box, 0, none⟩)] ∧ w'.heap[box]? = some (.cells #[.int .i64 (n : Nat)] 3 (0, 0)) ∧ W.heap.size ≤ box ∧ Fr Nof W w' := by
  have hS := St.start Nof W
  refine E_r (m := 3) ?_ Try.func53 rfl Try.ntmps53 rfl; refine C_ft ?_
  repeat (first | (refine S_w ?_; first | (refine S_y hS ?_) | ((first | refine M_bA hS ?_ | refine M_b1 hS ?_ | refine M_aA hS ?_ | refine M_a1 hS ?_ | refine M_sl hS ?_ | refine M_s1 hS ?_ | refine M_mm hS ?_); clear hS; intro b w hS) | ((first | refine M_st hS ?_ | refine M_sA hS ?_ | refine M_in hS ?_ | refine M_sR hS ?_); clear hS; intro w hS; (try simp only [List.set_cons_zero, List.set_cons_succ, Nat.zero_add] at hS)) | (refine M_ap hS ?_; clear hS; intro g cap w hS) | refine M_pn ?_) | refine X_k (by (try simp only [Fm.toList, List.set_cons_succ, List.set_cons_zero]); exact rfl) ?_ | refine S_u ?_ | refine S_v ?_ | refine C_sq ?_ | refine C_rg ?_ | refine L_nil ?_ | refine C_bk ?_ | refine C_ct ?_ | refine C_cf ?_ | refine C_sk ?_ | refine C_ex ?_ | refine C_rt ?_ | refine X_e ?_ | refine X_r ?_ | refine X_bh ?_ | refine X_be ?_ | refine X_br ?_ | refine X_bn ?_ | refine X_p ?_ | refine X_bp ?_)
  obtain ⟨h1, h2⟩ := hS.objNew (List.mem_cons_self ..)
  refine V_1 ⟨_, rfl, h2, h1, hS.fr⟩
end Go.Proofs.Ytebdkmfgfjanoaa
/-
  match.evaluate: the table of the last piece.
-/
namespace Go.Proofs.Ytebdkmfgfjanoaa
open Go.RowKit

structure EvS where
  i : Nat
  tbs : List Nat
  T : List Res
  Ds : List Nat
  A : Option Addr
  c : Nat
def EvI (n k m : Nat) (L : List Pc) (ws : List Nat) (A0 Aw : Option Addr) (W : World) (s : EvS) (w' : World) : Prop :=
  s.tbs.length = s.i ∧ s.i ≤ k ∧ (∀ q, q < s.i → ∃ b bs, s.tbs[q]? = some b ∧ bs.length = n ∧ ∀ r ∈ tabR n (tabAt (tabsR ws (L.take s.i) []) (q : Nat)) b bs, r ∈ s.T) ∧
  (0 < s.i → ∃ b bs T', s.tbs[s.i - 1]? = some b ∧ bs.length = n ∧ s.T = tabR n (tabAt (tabsR ws (L.take s.i) []) ((s.i : Int) - 1)) b bs ++ T') ∧
  St Nof W (Res.row 62 1 (.slice s.A s.i s.c) s.i (s.tbs.map (rowV n)) :: Res.rd 5 A0 k (rxCells L) :: Res.rd 1 Aw m (ws.map vb) :: (s.Ds.map markR ++ s.T)) w'
/-- pieces whose children come ahead of them -/
def Kids (L : List Pc) : Prop := ∀ (i : Nat) (p : Pc), L[i]? = some p → (1 ≤ p.op ∧ p.op ≤ 10) ∧ (4 ≤ p.op → 0 ≤ p.a ∧ p.a < i) ∧ (4 ≤ p.op → p.op ≤ 6 → 0 ≤ p.b ∧ p.b < i)
set_option maxHeartbeats 16000000 in
set_option maxRecDepth 100000 in
theorem evalR (L : List Pc) (ws : List Nat) (A0 Aw : Option Addr) (k c0 m cw : Nat) (W : World) (hA : Rd W 5 A0 k (rxCells L)) (hW : Rd W 1 Aw m (ws.map vb)) (hL : ∀ p ∈ L, p.ok) (hK : Kids L) (hws : ∀ x ∈ ws, x < 256) (hk0 : 0 < k) (hk : k ≤ 4294967296) (hm : m ≤ 1000000) :
    CallsR Try.prog 37 #[.slice A0 k c0, .slice Aw m cw] W fun r w' => ∃ b bs, r = .slice (some ⟨b, 0, none⟩) (m + 1) (m + 1) ∧ bs.length = m + 1 ∧ St Nof W (tabR (m + 1) (tabAt (tabsR ws L []) ((k : Int) - 1)) b bs) w' := by
  have hl : L.length = k := by have := hA.1; rw [rxCells_len] at this; omega
  have hwl : ws.length = m := by have := hW.1; simpa using this
  obtain ⟨n, hn⟩ : ∃ n, m + 1 = n := ⟨_, rfl⟩
  rw [hn]
  have hS := ((St.start Nof W).addRo (r := Res.rd 1 Aw m (ws.map vb)) hW rfl (fun _ h => by cases h)).addRo (r := Res.rd 5 A0 k (rxCells L)) hA rfl (fun s h => by
    rcases List.mem_cons.1 h with rfl | h
    · intro h; cases h
    · cases h)
  have hS := hS.rowNil 62 1
  refine E_m (m := 51) ?_ Try.func37 rfl Try.ntmps37 rfl; refine C_ft ?_
  repeat (first | (refine S_w ?_; first | (refine S_y hS ?_) | ((first | refine M_bA hS ?_ | refine M_b1 hS ?_ | refine M_aA hS ?_ | refine M_a1 hS ?_ | refine M_sl hS ?_ | refine M_s1 hS ?_ | refine M_mm hS ?_); clear hS; intro b w hS) | ((first | refine M_st hS ?_ | refine M_sA hS ?_ | refine M_in hS ?_ | refine M_sR hS ?_); clear hS; intro w hS; (try simp only [List.set_cons_zero, List.set_cons_succ, Nat.zero_add] at hS)) | (refine M_ap hS ?_; clear hS; intro g cap w hS) | refine M_pn ?_) | refine X_k (by (try simp only [Fm.toList, List.set_cons_succ, List.set_cons_zero]); exact rfl) ?_ | refine S_u ?_ | refine S_v ?_ | refine C_sq ?_ | refine C_rg ?_ | refine L_nil ?_ | refine C_bk ?_ | refine C_ct ?_ | refine C_cf ?_ | refine C_sk ?_ | refine C_ex ?_ | refine C_rt ?_ | refine X_e ?_ | refine X_r ?_ | refine X_bh ?_ | refine X_be ?_ | refine X_br ?_ | refine X_bn ?_ | refine X_p ?_ | refine X_bp ?_)
  refine C_lm [5, 1, 1, 5, 2, 16, 2, 15, 6] (fun s : EvS => s.Ds.map markD) (fun s : EvS => [(5, .slice s.A s.i s.c), (14, .int .i64 (s.i : Nat))]) (EvI n k m L ws A0 Aw W) (fun s => k - s.i) ⟨0, [], [], [], none, 0⟩ ⟨rfl, Nat.zero_le _, fun q h => absurd h (Nat.not_lt_zero _), fun h => absurd h (Nat.lt_irrefl _), hS⟩ ?_
  clear hS
  rintro ⟨i, tbs, T, Ds, A, c⟩ y w ⟨htl, hi, hT, hlast, hS⟩
  simp only at htl hi hT hlast hS
  refine C_fs ?_
  have hem : ∀ W', CallsR Try.prog 51 #[.int .i64 ((m : Int) + 1)] W' fun r w' => ∃ b bs, r = .slice (some ⟨b, 0, none⟩) n n ∧ bs.length = n ∧ St Nof W' (tabR n noT b bs) w' := fun W' => by
    have := emptyR n (by omega) W'
    rw [show ((n : Nat) : Int) = (m : Int) + 1 by omega] at this
    exact this
  by_cases hlt : i < k
  · obtain ⟨p, hp⟩ : ∃ p, L[i]? = some p := ⟨L[i]'(by omega), List.getElem?_eq_getElem _⟩
    have hdd := rxCells_drop hp
    have hpo := hL p (List.mem_of_getElem? hp)
    obtain ⟨hop, hka, hkb⟩ := hK i p hp
    simp only [pcV] at hdd
    repeat (first | (refine S_w ?_; first | (refine M_c (hem _) ?_) | (refine S_y hS ?_) | ((first | refine M_bA hS ?_ | refine M_b1 hS ?_ | refine M_aA hS ?_ | refine M_a1 hS ?_ | refine M_sl hS ?_ | refine M_s1 hS ?_ | refine M_mm hS ?_); clear hS; intro b w hS) | ((first | refine M_st hS ?_ | refine M_sA hS ?_ | refine M_in hS ?_ | refine M_sR hS ?_); clear hS; intro w hS; (try simp only [List.set_cons_zero, List.set_cons_succ, Nat.zero_add] at hS)) | (refine M_ap hS ?_; clear hS; intro g cap w hS) | refine M_pn ?_) | refine X_k (by (try simp only [Fm.toList, List.set_cons_succ, List.set_cons_zero]); exact rfl) ?_ | refine S_u ?_ | refine S_v ?_ | refine C_sq ?_ | refine C_rg ?_ | refine L_nil ?_ | refine C_bk ?_ | refine C_ct ?_ | refine C_cf ?_ | refine C_sk ?_ | refine C_ex ?_ | refine C_rt ?_ | refine X_e ?_ | refine X_r ?_ | refine X_bh ?_ | refine X_be ?_ | refine X_br ?_ | refine X_bn ?_ | refine X_p ?_ | refine X_bp ?_)
    obtain ⟨pb, rfl⟩ : ∃ x, x = b := ⟨_, rfl⟩
    rintro _ w1 ⟨ob, bs, rfl, hbs, hE⟩
    have hS := St.mv (cs := [_, _, _, _]) (hS.join hE tabR_own)
    replace hS : St Nof W (_ :: _ :: _ :: _ :: (tabR n noT ob bs ++ (Ds.map markR ++ T))) _ := hS
    clear hE
    have hch : ∀ (x : Int), 0 ≤ x → x < i → ∃ ta, (tbs.map (rowV n))[x.toNat]? = some (.slice (some ⟨ta, 0, none⟩) n n) ∧ ∃ bs, bs.length = n ∧ ∀ r ∈ tabR n (tabAt (tabsR ws (L.take i) []) x) ta bs, r ∈ T := fun x h1 h2 => by
      obtain ⟨ta, bs, e1, e2, e3⟩ := hT x.toNat (by omega)
      rw [show ((x.toNat : Nat) : Int) = x by omega] at e3
      exact ⟨ta, by rw [List.getElem?_map, e1]; rfl, bs, e2, e3⟩
    obtain ⟨ta, hta⟩ : ∃ ta, 4 ≤ p.op → 0 ≤ p.a ∧ (tbs.map (rowV n))[p.a.toNat]? = some (.slice (some ⟨ta, 0, none⟩) n n) ∧ ∃ bs, bs.length = n ∧ ∀ r ∈ tabR n (tabAt (tabsR ws (L.take i) []) p.a) ta bs, r ∈ T := by
      by_cases h : 4 ≤ p.op
      · obtain ⟨ta, h1⟩ := hch p.a (hka h).1 (hka h).2
        exact ⟨ta, fun _ => ⟨(hka h).1, h1⟩⟩
      · exact ⟨0, fun h' => absurd h' h⟩
    obtain ⟨tb, htb⟩ : ∃ tb, 4 ≤ p.op → p.op ≤ 6 → 0 ≤ p.b ∧ (tbs.map (rowV n))[p.b.toNat]? = some (.slice (some ⟨tb, 0, none⟩) n n) ∧ ∃ bs, bs.length = n ∧ ∀ r ∈ tabR n (tabAt (tabsR ws (L.take i) []) p.b) tb bs, r ∈ T := by
      by_cases h : 4 ≤ p.op ∧ p.op ≤ 6
      · obtain ⟨tb, h1⟩ := hch p.b (hkb h.1 h.2).1 (hkb h.1 h.2).2
        exact ⟨tb, fun _ _ => ⟨(hkb h.1 h.2).1, h1⟩⟩
      · exact ⟨0, fun h1 h2 => absurd ⟨h1, h2⟩ h⟩
    repeat (first | (refine S_w ?_; first | (refine M_c (relationR (ta := ta) (tb := tb) (ws := ws) (tbs := tbs) p hS hn.symm (by omega) hws hwl hpo hop inferInstance (fun h => ⟨(hta h).1, (hta h).2.1⟩) (fun h h' => ⟨(htb h h').1, (htb h h').2.1⟩)) ?_) | (refine S_y hS ?_) | ((first | refine M_bA hS ?_ | refine M_b1 hS ?_ | refine M_aA hS ?_ | refine M_a1 hS ?_ | refine M_sl hS ?_ | refine M_s1 hS ?_ | refine M_mm hS ?_); clear hS; intro b w hS) | ((first | refine M_st hS ?_ | refine M_sA hS ?_ | refine M_in hS ?_ | refine M_sR hS ?_); clear hS; intro w hS; (try simp only [List.set_cons_zero, List.set_cons_succ, Nat.zero_add] at hS)) | (refine M_ap hS ?_; clear hS; intro g cap w hS) | refine M_pn ?_) | refine X_k (by (try simp only [Fm.toList, List.set_cons_succ, List.set_cons_zero]); exact rfl) ?_ | refine S_u ?_ | refine S_v ?_ | refine C_sq ?_ | refine C_rg ?_ | refine L_nil ?_ | refine C_bk ?_ | refine C_ct ?_ | refine C_cf ?_ | refine C_sk ?_ | refine C_ex ?_ | refine C_rt ?_ | refine X_e ?_ | refine X_r ?_ | refine X_bh ?_ | refine X_be ?_ | refine X_br ?_ | refine X_bn ?_ | refine X_p ?_ | refine X_bp ?_)
    obtain ⟨ownb, rfl⟩ : ∃ x, x = b := ⟨_, rfl⟩
    rintro _ w2 ⟨bp, bo, bw, ba, bb, va, vb', hS, g, cs, rfl, hg, hspec⟩
    have hS := St.mv (cs := [_, _, _, _, _]) hS
    replace hS : St Nof W (_ :: _ :: _ :: _ :: _ :: (relRes n m cw Aw p ob bp bo bw ba bb va vb' ++ (tabR n noT ob bs ++ (Ds.map markR ++ T)))) _ := hS
    repeat (first | (refine S_w ?_; first | (refine M_c (pairsR n _) ?_) | (refine S_y hS ?_) | ((first | refine M_bA hS ?_ | refine M_b1 hS ?_ | refine M_aA hS ?_ | refine M_a1 hS ?_ | refine M_sl hS ?_ | refine M_s1 hS ?_ | refine M_mm hS ?_); clear hS; intro b w hS) | ((first | refine M_st hS ?_ | refine M_sA hS ?_ | refine M_in hS ?_ | refine M_sR hS ?_); clear hS; intro w hS; (try simp only [List.set_cons_zero, List.set_cons_succ, Nat.zero_add] at hS)) | (refine M_ap hS ?_; clear hS; intro g cap w hS) | refine M_pn ?_) | refine X_k (by (try simp only [Fm.toList, List.set_cons_succ, List.set_cons_zero]); exact rfl) ?_ | refine S_u ?_ | refine S_v ?_ | refine C_sq ?_ | refine C_rg ?_ | refine L_nil ?_ | refine C_bk ?_ | refine C_ct ?_ | refine C_cf ?_ | refine C_sk ?_ | refine C_ex ?_ | refine C_rt ?_ | refine X_e ?_ | refine X_r ?_ | refine X_bh ?_ | refine X_be ?_ | refine X_br ?_ | refine X_bn ?_ | refine X_p ?_ | refine X_bp ?_)
    obtain ⟨isb, rfl⟩ : ∃ x, x = b := ⟨_, rfl⟩
    rintro _ w3 ⟨box, rfl, hbx, hlo, hfr⟩
    repeat (first | (refine S_w ?_; first | (refine S_y hS ?_) | ((first | refine M_bA hS ?_ | refine M_b1 hS ?_ | refine M_aA hS ?_ | refine M_a1 hS ?_ | refine M_sl hS ?_ | refine M_s1 hS ?_ | refine M_mm hS ?_); clear hS; intro b w hS) | ((first | refine M_st hS ?_ | refine M_sA hS ?_ | refine M_in hS ?_ | refine M_sR hS ?_); clear hS; intro w hS; (try simp only [List.set_cons_zero, List.set_cons_succ, Nat.zero_add] at hS)) | (refine M_ap hS ?_; clear hS; intro g cap w hS) | refine M_pn ?_) | refine X_k (by (try simp only [Fm.toList, List.set_cons_succ, List.set_cons_zero]); exact rfl) ?_ | refine S_u ?_ | refine S_v ?_ | refine C_sq ?_ | refine C_rg ?_ | refine L_nil ?_ | refine C_bk ?_ | refine C_ct ?_ | refine C_cf ?_ | refine C_sk ?_ | refine C_ex ?_ | refine C_rt ?_ | refine X_e ?_ | refine X_r ?_ | refine X_bh ?_ | refine X_be ?_ | refine X_br ?_ | refine X_bn ?_ | refine X_p ?_ | refine X_bp ?_)
    obtain ⟨fa, hfa⟩ : ∃ fa, fa = tabAt (tabsR ws (L.take i) []) p.a := ⟨_, rfl⟩
    obtain ⟨fb, hfb⟩ : ∃ fb, fb = tabAt (tabsR ws (L.take i) []) p.b := ⟨_, rfl⟩
    rw [← hfa] at hta
    rw [← hfb] at htb
    refine C_rf (α := PX n) (fun pre => Res.obj isb (.cells #[.func (.func g) #[] cs.toArray] 82 (0, 0)) :: Res.obj ownb (.cells #[.slice (some ⟨ob, 0, none⟩) n n] 62 (0, 0)) :: Res.obj pb (.cells #[vb p.op, vb p.pos, vb p.neg, .int .i64 p.a, .int .i64 p.b] 55 (0, 0)) :: Res.row 62 1 (.slice A i c) i (tbs.map (rowV n)) :: Res.rd 5 A0 k (rxCells L) :: Res.rd 1 Aw m (ws.map vb) :: (relRes n m cw Aw p ob bp bo bw ba bb va vb' ++ (tabR n (fillT ws p.op p.pos p.neg fa fb noT pre) ob bs ++ (Ds.map markR ++ T)))) (fun x l => (l.upd 30 (.int .i64 (x.1.1 : Nat))).upd 31 (.int .i64 (x.1.2 : Nat))) (fun x l => (((l.upd 30 (.int .i64 (x.1.1 : Nat))).upd 31 (.int .i64 (x.1.2 : Nat))).upd 10 (.int .i64 (x.1.1 : Nat))).upd 11 (.int .i64 (x.1.2 : Nat)))
      hS hfr hlo (Array.getElem?_eq_some_iff.1 hbx).1 (pairs_stops n box (by omega) w3 hbx) ?_ ?_ ?_ ?_ (fun x => by simp [encP, Fm.arr, Fm.toList]) (fun x => rfl)
    · intro pre
      simp only [List.map_cons, List.map_append]
      rw [tabR_fp (fillT ws p.op p.pos p.neg fa fb noT pre) (fillT ws p.op p.pos p.neg fa fb noT [])]
    · intro lp x W' K hK
      have hS := St.start Nof W'
      refine I_sq (I_rg ?_)
      repeat (first | (refine S_w ?_; first | (refine S_y hS ?_) | ((first | refine M_bA hS ?_ | refine M_b1 hS ?_ | refine M_aA hS ?_ | refine M_a1 hS ?_ | refine M_sl hS ?_ | refine M_s1 hS ?_ | refine M_mm hS ?_); clear hS; intro b w hS) | ((first | refine M_st hS ?_ | refine M_sA hS ?_ | refine M_in hS ?_ | refine M_sR hS ?_); clear hS; intro w hS; (try simp only [List.set_cons_zero, List.set_cons_succ, Nat.zero_add] at hS)) | (refine M_ap hS ?_; clear hS; intro g cap w hS) | refine M_pn ?_) | refine X_k (by (try simp only [Fm.toList, List.set_cons_succ, List.set_cons_zero]); exact rfl) ?_ | refine S_u ?_ | refine S_v ?_ | refine C_sq ?_ | refine C_rg ?_ | refine L_nil ?_ | refine C_bk ?_ | refine C_ct ?_ | refine C_cf ?_ | refine C_sk ?_ | refine C_ex ?_ | refine C_rt ?_ | refine X_e ?_ | refine X_r ?_ | refine X_bh ?_ | refine X_be ?_ | refine X_br ?_ | refine X_bn ?_ | refine X_p ?_ | refine X_bp ?_)
      refine I_k (I_rg ?_)
      repeat (first | (refine S_w ?_; first | (refine S_y hS ?_) | ((first | refine M_bA hS ?_ | refine M_b1 hS ?_ | refine M_aA hS ?_ | refine M_a1 hS ?_ | refine M_sl hS ?_ | refine M_s1 hS ?_ | refine M_mm hS ?_); clear hS; intro b w hS) | ((first | refine M_st hS ?_ | refine M_sA hS ?_ | refine M_in hS ?_ | refine M_sR hS ?_); clear hS; intro w hS; (try simp only [List.set_cons_zero, List.set_cons_succ, Nat.zero_add] at hS)) | (refine M_ap hS ?_; clear hS; intro g cap w hS) | refine M_pn ?_) | refine X_k (by (try simp only [Fm.toList, List.set_cons_succ, List.set_cons_zero]); exact rfl) ?_ | refine S_u ?_ | refine S_v ?_ | refine C_sq ?_ | refine C_rg ?_ | refine L_nil ?_ | refine C_bk ?_ | refine C_ct ?_ | refine C_cf ?_ | refine C_sk ?_ | refine C_ex ?_ | refine C_rt ?_ | refine X_e ?_ | refine X_r ?_ | refine X_bh ?_ | refine X_be ?_ | refine X_br ?_ | refine X_bn ?_ | refine X_p ?_ | refine X_bp ?_)
      exact ⟨hK⟩
    · intro lp pre x W' hS
      have hij := x.2.1
      have hjn := x.2.2
      obtain ⟨bi, hbi⟩ : ∃ y, bs[x.1.1]? = some y := ⟨bs[x.1.1]'(by omega), List.getElem?_eq_getElem _⟩
      have e1 : (bs.map (rowV n))[x.1.1]? = some (.slice (some ⟨bi, 0, none⟩) n n) := by rw [List.getElem?_map, hbi]; rfl
      have htab : ∀ f : Tab, ∀ r ∈ tabR n f ob bs, r ∈ (Res.obj isb (.cells #[.func (.func g) #[] cs.toArray] 82 (0, 0)) :: Res.obj ownb (.cells #[.slice (some ⟨ob, 0, none⟩) n n] 62 (0, 0)) :: Res.obj pb (.cells #[vb p.op, vb p.pos, vb p.neg, .int .i64 p.a, .int .i64 p.b] 55 (0, 0)) :: Res.row 62 1 (.slice A i c) i (tbs.map (rowV n)) :: Res.rd 5 A0 k (rxCells L) :: Res.rd 1 Aw m (ws.map vb) :: (relRes n m cw Aw p ob bp bo bw ba bb va vb' ++ (tabR n f ob bs ++ (Ds.map markR ++ T)))) := fun f r hr => .tail _ (.tail _ (.tail _ (.tail _ (.tail _ (.tail _ (List.mem_append_right _ (List.mem_append_left _ hr)))))))
      have hOwn : ∀ f : Tab, HasSl (Res.obj isb (.cells #[.func (.func g) #[] cs.toArray] 82 (0, 0)) :: Res.obj ownb (.cells #[.slice (some ⟨ob, 0, none⟩) n n] 62 (0, 0)) :: Res.obj pb (.cells #[vb p.op, vb p.pos, vb p.neg, .int .i64 p.a, .int .i64 p.b] 55 (0, 0)) :: Res.row 62 1 (.slice A i c) i (tbs.map (rowV n)) :: Res.rd 5 A0 k (rxCells L) :: Res.rd 1 Aw m (ws.map vb) :: (relRes n m cw Aw p ob bp bo bw ba bb va vb' ++ (tabR n f ob bs ++ (Ds.map markR ++ T)))) (some ⟨ob, 0, none⟩) n 1 (bs.map (rowV n)) := fun f => ⟨fun h => h.rowAt (htab f _ (List.mem_cons_self ..))⟩
      have hRow : ∀ f : Tab, HasSl (Res.obj isb (.cells #[.func (.func g) #[] cs.toArray] 82 (0, 0)) :: Res.obj ownb (.cells #[.slice (some ⟨ob, 0, none⟩) n n] 62 (0, 0)) :: Res.obj pb (.cells #[vb p.op, vb p.pos, vb p.neg, .int .i64 p.a, .int .i64 p.b] 55 (0, 0)) :: Res.row 62 1 (.slice A i c) i (tbs.map (rowV n)) :: Res.rd 5 A0 k (rxCells L) :: Res.rd 1 Aw m (ws.map vb) :: (relRes n m cw Aw p ob bp bo bw ba bb va vb' ++ (tabR n f ob bs ++ (Ds.map markR ++ T)))) (some ⟨bi, 0, none⟩) n 1 (rowC n f x.1.1) := fun f => ⟨fun h => h.rowAt (htab f _ (List.mem_cons_of_mem _ (by have := rowsR_mem (n := n) (f := f) (k := 0) hbi; rwa [Nat.zero_add] at this)))⟩
      have hbxs : ∀ f : Tab, ∀ r ∈ relRes n m cw Aw p ob bp bo bw ba bb va vb', r ∈ (Res.obj isb (.cells #[.func (.func g) #[] cs.toArray] 82 (0, 0)) :: Res.obj ownb (.cells #[.slice (some ⟨ob, 0, none⟩) n n] 62 (0, 0)) :: Res.obj pb (.cells #[vb p.op, vb p.pos, vb p.neg, .int .i64 p.a, .int .i64 p.b] 55 (0, 0)) :: Res.row 62 1 (.slice A i c) i (tbs.map (rowV n)) :: Res.rd 5 A0 k (rxCells L) :: Res.rd 1 Aw m (ws.map vb) :: (relRes n m cw Aw p ob bp bo bw ba bb va vb' ++ (tabR n f ob bs ++ (Ds.map markR ++ T)))) := fun f r hr => .tail _ (.tail _ (.tail _ (.tail _ (.tail _ (.tail _ (List.mem_append_left _ hr))))))
      have hT' : ∀ f : Tab, ∀ r ∈ T, r ∈ (Res.obj isb (.cells #[.func (.func g) #[] cs.toArray] 82 (0, 0)) :: Res.obj ownb (.cells #[.slice (some ⟨ob, 0, none⟩) n n] 62 (0, 0)) :: Res.obj pb (.cells #[vb p.op, vb p.pos, vb p.neg, .int .i64 p.a, .int .i64 p.b] 55 (0, 0)) :: Res.row 62 1 (.slice A i c) i (tbs.map (rowV n)) :: Res.rd 5 A0 k (rxCells L) :: Res.rd 1 Aw m (ws.map vb) :: (relRes n m cw Aw p ob bp bo bw ba bb va vb' ++ (tabR n f ob bs ++ (Ds.map markR ++ T)))) := fun f r hr => .tail _ (.tail _ (.tail _ (.tail _ (.tail _ (.tail _ (List.mem_append_right _ (List.mem_append_right _ (List.mem_append_right _ hr))))))))
      refine I_bk ?_
      refine I_ps (fun f : Tab => Res.obj isb (.cells #[.func (.func g) #[] cs.toArray] 82 (0, 0)) :: Res.obj ownb (.cells #[.slice (some ⟨ob, 0, none⟩) n n] 62 (0, 0)) :: Res.obj pb (.cells #[vb p.op, vb p.pos, vb p.neg, .int .i64 p.a, .int .i64 p.b] 55 (0, 0)) :: Res.row 62 1 (.slice A i c) i (tbs.map (rowV n)) :: Res.rd 5 A0 k (rxCells L) :: Res.rd 1 Aw m (ws.map vb) :: (relRes n m cw Aw p ob bp bo bw ba bb va vb' ++ (tabR n f ob bs ++ (Ds.map markR ++ T)))) (fillT ws p.op p.pos p.neg fa fb noT pre) (.take 0 (.take 1 (.take 2 (.take 3 (.take 4 (.take 5 (.take 6 (.take 7 (.one 8 (.one 9 (.one 10 .done))))))))))) hS ?_
      clear hS
      intro w hS
      (with_reducible apply P_t); rfl; refine P_ys hS (fun s => Yld) ?_
      (with_reducible apply P_t); rfl; refine P_ys hS (fun s => Yp) ?_
      (with_reducible apply P_t); rfl; refine P_ys hS (fun s => (by first | exact YiN (hm := hOwn s) | exact YiM (hm := hOwn s))) ?_
      (with_reducible apply P_t); rfl; refine P_ys hS (fun s => (by first | exact YlE (hm := hOwn s) | exact YlG (hm := hOwn s))) ?_
      (with_reducible apply P_t); rfl; refine P_ys hS (fun s => Yp) ?_
      (with_reducible apply P_t); rfl; refine P_ys hS (fun s => Yld) ?_
      (with_reducible apply P_t); rfl; refine P_ys hS (fun s => Yp) ?_
      (with_reducible apply P_t); rfl; refine P_ys hS (fun s => Yp) ?_
      (with_reducible apply P_one); rfl; refine P_f ?_; intro Q' hQ' hE'
      have hcl := hspec _ _ _ w fa fb (fillT ws p.op p.pos p.neg fa fb noT pre) hS (hbxs _) (fun h => by obtain ⟨_, _, bs', h1, h2⟩ := hta h; exact tab_has h1 fun r hr => hT' _ r (h2 r hr))
        (fun h h' => by obtain ⟨_, _, bs', h1, h2⟩ := htb h h'; exact tab_has h1 fun r hr => hT' _ r (h2 r hr)) (tab_has hbs (htab _)) inferInstance x.1.1 x.1.2 hij hjn
      refine S_w ?_
      refine M_c (hb := hg) hcl ?_
      rintro _ w4 ⟨rfl, hS⟩
      refine L_nil ?_
      refine hQ' _ _ ⟨_, hS⟩ ?_
      clear hQ' hE'
      (with_reducible apply P_one); rfl; refine P_f ?_; intro Q' hQ' hE'
      refine S_w ?_
      refine S_q hS (by first | exact YiN (hm := hRow _) | exact YiM (hm := hRow _)) ?_
      refine L_nil ?_
      refine hQ' _ _ ⟨_, hS⟩ ?_
      clear hQ' hE'
      (with_reducible apply P_one); rfl; refine P_f ?_; intro Q' hQ' hE'
      refine S_w ?_
      refine M_sX hS (.there (.there (.there (.there (.there (.there (Upd.app (Upd.appl (tabR_upd hbi))))))))) ?_
      clear hS
      intro w hS
      refine L_nil ?_
      refine hQ' _ _ ⟨_, hS⟩ ?_
      clear hQ' hE'
      refine P_d ?_
      rw [← fillT_snoc] at hS
      refine I_endb hS
    · intro D xs W' hxs hS
      have hfin : tabR n (fillT ws p.op p.pos p.neg fa fb noT xs) ob bs = tabR n (tabOf ws (tabsR ws (L.take i) []) p) ob bs := by
        rw [hxs]
        refine tabR_congr hbs fun i' j' h1 h2 => ?_
        rw [fill_all (by omega) i' j' h2, tabOf, ← hfa, ← hfb]
      rw [hfin] at hS
      have hacc : (tabsR ws (L.take i) []).length = i := by rw [tabsR_len, List.length_take, List.length_nil]; omega
      have htk : tabsR ws (L.take (i + 1)) [] = tabsR ws (L.take i) [] ++ [tabOf ws (tabsR ws (L.take i) []) p] := by
        rw [List.take_add_one, hp, Option.toList_some, tabsR_append]
        rfl
      generalize tabOf ws (tabsR ws (L.take i) []) p = tn at hS htk
      repeat (first | (refine S_w ?_; first | (refine S_y hS ?_) | ((first | refine M_bA hS ?_ | refine M_b1 hS ?_ | refine M_aA hS ?_ | refine M_a1 hS ?_ | refine M_sl hS ?_ | refine M_s1 hS ?_ | refine M_mm hS ?_); clear hS; intro b w hS) | ((first | refine M_st hS ?_ | refine M_sA hS ?_ | refine M_in hS ?_ | refine M_sR hS ?_); clear hS; intro w hS; (try simp only [List.set_cons_zero, List.set_cons_succ, Nat.zero_add] at hS)) | (refine M_ap hS ?_; clear hS; intro g cap w hS) | refine M_pn ?_) | refine X_k (by (try simp only [Fm.toList, List.set_cons_succ, List.set_cons_zero]); exact rfl) ?_ | refine S_u ?_ | refine S_v ?_ | refine C_sq ?_ | refine C_rg ?_ | refine L_nil ?_ | refine C_bk ?_ | refine C_ct ?_ | refine C_cf ?_ | refine C_sk ?_ | refine C_ex ?_ | refine C_rt ?_ | refine X_e ?_ | refine X_r ?_ | refine X_bh ?_ | refine X_be ?_ | refine X_br ?_ | refine X_bn ?_ | refine X_p ?_ | refine X_bp ?_)
      have h2 := hS.sub (.cons _ (.cons_cons _ (.cons _ (.cons _ (.cons _ (.cons_cons _ (.cons_cons _ (.cons_cons _ (List.sublist_append_right _ _)))))))))
      have h3 := St.mv (l := [markR D]) (cs := [_, _, _]) h2
      have h4 := h3.prm (.cons _ (.cons _ (.cons _ (.cons _ (mv_perm (tabR n tn ob bs) (Ds.map markR) T)))))
      refine R_m ⟨i + 1, tbs ++ [ob], tabR n tn ob bs ++ T, D :: Ds, _, _⟩ ⟨by simp [htl], by simp only; omega, fun q hq => ?_, fun _ => ⟨ob, bs, T, by simp [htl], hbs, ?_⟩, ?_⟩ (by simp only; omega) rfl
      · simp only at hq ⊢
        rw [htk]
        by_cases hqi : q < i
        · obtain ⟨b1, bs1, f1, f2, f3⟩ := hT q hqi
          refine ⟨b1, bs1, by rw [List.getElem?_append_left (by omega)]; exact f1, f2, fun r hr => List.mem_append_right _ (f3 r ?_)⟩
          rwa [tabAt_app1 (by omega)] at hr
        · obtain rfl : q = i := by omega
          refine ⟨ob, bs, by rw [← htl]; simp, hbs, fun r hr => List.mem_append_left _ ?_⟩
          rwa [tabAt_app2 (by omega)] at hr
      · simp only
        rw [htk, tabAt_app2 (by omega)]
      · simp only [List.map_append, List.map_cons, List.map_nil]
        exact h4
  obtain rfl : i = k := by omega
  obtain ⟨b, bs, T', g1, g2, g3⟩ := hlast hk0
  have g4 : (tbs.map (rowV n))[((i : Int) - 1).toNat]? = some (.slice (some ⟨b, 0, none⟩) n n) := by rw [show ((i : Int) - 1).toNat = i - 1 by omega, List.getElem?_map, g1]; rfl
  repeat (first | (refine S_w ?_; first | (refine S_y hS ?_) | ((first | refine M_bA hS ?_ | refine M_b1 hS ?_ | refine M_aA hS ?_ | refine M_a1 hS ?_ | refine M_sl hS ?_ | refine M_s1 hS ?_ | refine M_mm hS ?_); clear hS; intro b w hS) | ((first | refine M_st hS ?_ | refine M_sA hS ?_ | refine M_in hS ?_ | refine M_sR hS ?_); clear hS; intro w hS; (try simp only [List.set_cons_zero, List.set_cons_succ, Nat.zero_add] at hS)) | (refine M_ap hS ?_; clear hS; intro g cap w hS) | refine M_pn ?_) | refine X_k (by (try simp only [Fm.toList, List.set_cons_succ, List.set_cons_zero]); exact rfl) ?_ | refine S_u ?_ | refine S_v ?_ | refine C_sq ?_ | refine C_rg ?_ | refine L_nil ?_ | refine C_bk ?_ | refine C_ct ?_ | refine C_cf ?_ | refine C_sk ?_ | refine C_ex ?_ | refine C_rt ?_ | refine X_e ?_ | refine X_r ?_ | refine X_bh ?_ | refine X_be ?_ | refine X_br ?_ | refine X_bn ?_ | refine X_p ?_ | refine X_bp ?_)
  refine V_m1 Ds (rs := tabR n (tabAt (tabsR ws L []) ((i : Int) - 1)) b bs) (hS.sub ?_) fun w' h => ⟨b, bs, rfl, g2, h⟩
  rw [List.take_of_length_le (by omega)] at g3
  rw [g3]
  exact .cons _ (.cons _ (.cons _ (List.Sublist.append_left (List.sublist_append_left _ _) _)))
end Go.Proofs.Ytebdkmfgfjanoaa
