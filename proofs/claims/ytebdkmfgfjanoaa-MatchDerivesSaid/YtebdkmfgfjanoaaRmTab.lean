/-
  The reference's tables.
-/
import Derived.Test.YtebdkmfgfjanoaaRmMat
import Derived.Test.YtebdkmfgfjanoaaMC
import Derived.Test.YtebdkmfgfjanoaaMtAwake
namespace Go.Proofs.Ytebdkmfgfjanoaa
open Go.RowKit

/-- a table that is filled by distance: all below d, and of d those that begin below i0 -/
def fF (ws : List Nat) (op pos neg : Nat) (a b : Tab) (d i0 : Nat) : Tab := fun i j => if i ≤ j ∧ (j < i + d ∨ (j = i + d ∧ i < i0)) then rel ws op pos neg a b i j else false
theorem fF_step {ws : List Nat} {op pos neg : Nat} {a b : Tab} {d i0 : Nat} (h : i0 + d ≤ ws.length) : updT (fF ws op pos neg a b d i0) i0 (i0 + d) (relO ws op pos neg a b (fF ws op pos neg a b d i0) i0 (i0 + d)) = fF ws op pos neg a b d (i0 + 1) := by
  rw [relO_rel (i := i0) (j := i0 + d) (by omega) h (fun k h1 h2 => by
    unfold fF
    rw [if_pos ⟨h2, .inl (by omega)⟩])]
  funext i j
  unfold updT fF
  by_cases h1 : i = i0 ∧ j = i0 + d
  · obtain ⟨rfl, rfl⟩ := h1
    rw [if_pos ⟨rfl, rfl⟩, if_pos ⟨by omega, .inr ⟨rfl, by omega⟩⟩]
  · rw [if_neg h1]
    by_cases h2 : i ≤ j ∧ (j < i + d ∨ (j = i + d ∧ i < i0))
    · rw [if_pos h2, if_pos ⟨h2.1, h2.2.imp id fun h => ⟨h.1, by omega⟩⟩]
    · rw [if_neg h2, if_neg (fun h3 => h2 ⟨h3.1, h3.2.imp id fun h => ⟨h.1, by omega⟩⟩)]
theorem fF_zero {ws : List Nat} {op pos neg : Nat} {a b : Tab} : fF ws op pos neg a b 0 0 = noT := by
  funext i j
  unfold fF
  rw [if_neg (by omega)]
  rfl
theorem addRo2' {W : World} {A Aw : Option Addr} {n m : Nat} {xs ys : List Value} (hA : Rd W 5 A n xs) (hW : Rd W 1 Aw m ys) : St Nof W [Res.rd 5 A n xs, Res.rd 1 Aw m ys] W :=
  ((St.start Nof W).addRo (r := Res.rd 1 Aw m ys) hW rfl (fun _ h => by cases h)).addRo (r := Res.rd 5 A n xs) hA rfl (fun s h => by
    rcases List.mem_cons.1 h with rfl | h
    · intro h; cases h
    · cases h)
structure RtS where
  k : Nat
  tbs : List Nat
  T : List Res
def RtI (n K m g : Nat) (L : List Pc) (ws : List Nat) (A0 Aw : Option Addr) (W : World) (s : RtS) (w' : World) : Prop :=
  s.tbs.length = s.k ∧ s.k ≤ K ∧ (∀ q, q < s.k → ∃ b bs, s.tbs[q]? = some b ∧ bs.length = n ∧ ∀ r ∈ tabR n (tabAt (tabsR ws (L.take s.k) []) (q : Nat)) b bs, r ∈ s.T) ∧
  (0 < s.k → ∃ b bs T', s.tbs[s.k - 1]? = some b ∧ bs.length = n ∧ s.T = tabR n (tabAt (tabsR ws (L.take s.k) []) ((s.k : Int) - 1)) b bs ++ T') ∧
  St Nof W (Res.row 29 1 (.slice (some ⟨g, 0, none⟩) K K) K (s.tbs.map (rowV n) ++ List.replicate (K - s.k) (.slice none 0 0)) :: Res.rd 5 A0 K (rxCells L) :: Res.rd 1 Aw m (ws.map vb) :: s.T) w'
set_option maxHeartbeats 16000000 in
set_option maxRecDepth 100000 in
theorem rtablesR (L : List Pc) (ws : List Nat) (A0 Aw : Option Addr) (K c0 m cw : Nat) (W : World) (hA : Rd W 5 A0 K (rxCells L)) (hW : Rd W 1 Aw m (ws.map vb)) (hL : ∀ p ∈ L, p.ok) (hK : Kids L) (hws : ∀ x ∈ ws, x < 256) (hk0 : 0 < K) (hk : K ≤ 100000) (hm : m ≤ 1000000) :
    CallsR Try.prog 34 #[.slice A0 K c0, .slice Aw m cw] W fun r w' => ∃ g cells b bs T, r = .slice (some ⟨g, 0, none⟩) K K ∧ cells[K - 1]? = some (.slice (some ⟨b, 0, none⟩) (m + 1) (m + 1)) ∧ bs.length = m + 1 ∧
      St Nof W (Res.row 29 1 (.slice (some ⟨g, 0, none⟩) K K) K cells :: (tabR (m + 1) (tabAt (tabsR ws L []) ((K : Int) - 1)) b bs ++ T)) w' := by
  have hl : L.length = K := by have := hA.1; rw [rxCells_len] at this; omega
  have hwl : ws.length = m := by have := hW.1; simpa using this
  obtain ⟨n, hn⟩ : ∃ n, m + 1 = n := ⟨_, rfl⟩
  rw [hn]
  have hni : (m : Int) + 1 = ((n : Nat) : Int) := by omega
  have hS := addRo2' hA hW
  refine E_r (m := 71) ?_ Try.func34 rfl Try.ntmps34 rfl; refine C_ft ?_
  repeat (first | (refine S_w ?_; first | (refine M_mk K hS ?_; clear hS; intro g w hS) | (refine S_y hS ?_) | ((first | refine M_bA hS ?_ | refine M_b1 hS ?_ | refine M_aA hS ?_ | refine M_a1 hS ?_ | refine M_sl hS ?_ | refine M_s1 hS ?_ | refine M_mm hS ?_); clear hS; intro b w hS) | ((first | refine M_st hS ?_ | refine M_sA hS ?_ | refine M_in hS ?_ | refine M_sR hS ?_); clear hS; intro w hS; (try simp only [List.set_cons_zero, List.set_cons_succ, Nat.zero_add] at hS)) | (refine M_ap hS ?_; clear hS; intro g cap w hS) | refine M_pn ?_) | refine X_k (by (try simp only [Fm.toList, List.set_cons_succ, List.set_cons_zero]); exact rfl) ?_ | refine S_u ?_ | refine S_v ?_ | refine C_sq ?_ | refine C_rg ?_ | refine L_nil ?_ | refine C_bk ?_ | refine C_ct ?_ | refine C_cf ?_ | refine C_sk ?_ | refine C_ex ?_ | refine C_rt ?_ | refine X_e ?_ | refine X_r ?_ | refine X_bh ?_ | refine X_be ?_ | refine X_br ?_ | refine X_bn ?_ | refine X_p ?_ | refine X_bp ?_)
  refine C_lp [7, 5, 6, 54, 1] (fun s : RtS => [(7, .int .i64 (s.k : Nat))]) (RtI n K m g L ws A0 Aw W) (fun s => K - s.k) ⟨0, [], []⟩ ⟨rfl, Nat.zero_le _, fun q h => absurd h (Nat.not_lt_zero _), fun h => absurd h (Nat.lt_irrefl _), hS⟩ ?_
  clear hS
  rintro ⟨k, tbs, T⟩ y w ⟨htl, hi, hT, hlast, hS⟩
  simp only at htl hi hT hlast hS
  refine C_fs ?_
  by_cases hlt : k < K
  · obtain ⟨p, hp⟩ : ∃ p, L[k]? = some p := ⟨L[k]'(by omega), List.getElem?_eq_getElem _⟩
    have hdd := rxCells_drop hp
    have hpo := hL p (List.mem_of_getElem? hp)
    obtain ⟨hop, hka, hkb⟩ := hK k p hp
    simp only [pcV] at hdd
    repeat (first | (refine S_w ?_; first | (refine M_mk n hS ?_; clear hS; intro tb w hS) | (refine S_y hS ?_) | ((first | refine M_bA hS ?_ | refine M_b1 hS ?_ | refine M_aA hS ?_ | refine M_a1 hS ?_ | refine M_sl hS ?_ | refine M_s1 hS ?_ | refine M_mm hS ?_); clear hS; intro b w hS) | ((first | refine M_st hS ?_ | refine M_sA hS ?_ | refine M_in hS ?_ | refine M_sR hS ?_); clear hS; intro w hS; (try simp only [List.set_cons_zero, List.set_cons_succ, Nat.zero_add] at hS)) | (refine M_ap hS ?_; clear hS; intro g cap w hS) | refine M_pn ?_) | refine X_k (by (try simp only [Fm.toList, List.set_cons_succ, List.set_cons_zero]); exact rfl) ?_ | refine S_u ?_ | refine S_v ?_ | refine C_sq ?_ | refine C_rg ?_ | refine L_nil ?_ | refine C_bk ?_ | refine C_ct ?_ | refine C_cf ?_ | refine C_sk ?_ | refine C_ex ?_ | refine C_rt ?_ | refine X_e ?_ | refine X_r ?_ | refine X_bh ?_ | refine X_be ?_ | refine X_br ?_ | refine X_bn ?_ | refine X_p ?_ | refine X_bp ?_)
    refine C_lp [9, 1, 16, 10, 37] (fun s : Nat × List Nat => [(9, .int .i64 (s.1 : Nat))]) (fun s w' => s.2.length = s.1 ∧ s.1 ≤ n ∧ St Nof W (Res.row 36 1 (.slice (some ⟨tb, 0, none⟩) n n) n (s.2.map (rowV n) ++ List.replicate (n - s.1) (.slice none 0 0)) :: (rowsR n noT 0 s.2 ++ (Res.row 29 1 (.slice (some ⟨g, 0, none⟩) K K) K (tbs.map (rowV n) ++ List.replicate (K - k) (.slice none 0 0)) :: Res.rd 5 A0 K (rxCells L) :: Res.rd 1 Aw m (ws.map vb) :: T))) w') (fun s => n - s.1) (0, []) ⟨rfl, Nat.zero_le _, hS⟩ ?_
    clear hS
    rintro ⟨r, bs⟩ y2 w ⟨hbs, hr, hS⟩
    simp only at hbs hr hS
    refine C_fs ?_
    by_cases hlt2 : r < n
    · repeat (first | (refine S_w ?_; first | (refine M_mk n hS ?_; clear hS; intro b2 w hS) | (refine S_y hS ?_) | ((first | refine M_bA hS ?_ | refine M_b1 hS ?_ | refine M_aA hS ?_ | refine M_a1 hS ?_ | refine M_sl hS ?_ | refine M_s1 hS ?_ | refine M_mm hS ?_); clear hS; intro b w hS) | ((first | refine M_st hS ?_ | refine M_sA hS ?_ | refine M_in hS ?_ | refine M_sR hS ?_); clear hS; intro w hS; (try simp only [List.set_cons_zero, List.set_cons_succ, Nat.zero_add] at hS)) | (refine M_ap hS ?_; clear hS; intro g cap w hS) | refine M_pn ?_) | refine X_k (by (try simp only [Fm.toList, List.set_cons_succ, List.set_cons_zero]); exact rfl) ?_ | refine S_u ?_ | refine S_v ?_ | refine C_sq ?_ | refine C_rg ?_ | refine L_nil ?_ | refine C_bk ?_ | refine C_ct ?_ | refine C_cf ?_ | refine C_sk ?_ | refine C_ex ?_ | refine C_rt ?_ | refine X_e ?_ | refine X_r ?_ | refine X_bh ?_ | refine X_be ?_ | refine X_br ?_ | refine X_bn ?_ | refine X_p ?_ | refine X_bp ?_)
      refine R_e (r + 1, bs ++ [b2]) ⟨by simp [hbs], by simp only; omega, ?_⟩ (by simp only; omega)
      have e : (bs.map (rowV n) ++ List.replicate (n - r) (Value.slice none 0 0)).set r (rowV n b2) = (bs ++ [b2]).map (rowV n) ++ List.replicate (n - (r + 1)) (Value.slice none 0 0) := by
        rw [List.set_append_right _ _ (by simp [hbs]), List.length_map, hbs, Nat.sub_self, show n - r = n - (r + 1) + 1 by omega, List.replicate_succ, List.set_cons_zero, List.map_append, List.append_assoc]
        rfl
      simp only
      rw [rowsR_snoc, rowC_no, ← e]
      refine hS.prm ((List.Perm.swap _ _ _).trans (List.Perm.cons _ ?_))
      rw [← List.cons_append]
      exact (List.perm_append_singleton _ _).symm.append_right _
    obtain rfl : n = r := by omega
    rw [Nat.sub_self, List.replicate_zero, List.append_nil] at hS
    replace hS : St Nof W (tabR n noT tb bs ++ (Res.row 29 1 (.slice (some ⟨g, 0, none⟩) K K) K (tbs.map (rowV n) ++ List.replicate (K - k) (.slice none 0 0)) :: Res.rd 5 A0 K (rxCells L) :: Res.rd 1 Aw m (ws.map vb) :: T)) w := hS
    have hch : ∀ (x : Int), 0 ≤ x → x < k → ∃ ta, (tbs.map (rowV n) ++ List.replicate (K - k) (Value.slice none 0 0))[x.toNat]? = some (.slice (some ⟨ta, 0, none⟩) n n) ∧ ∃ bs, bs.length = n ∧ ∀ r ∈ tabR n (tabAt (tabsR ws (L.take k) []) x) ta bs, r ∈ T := fun x h1 h2 => by
      obtain ⟨ta, bs, e1, e2, e3⟩ := hT x.toNat (by omega)
      rw [show ((x.toNat : Nat) : Int) = x by omega] at e3
      exact ⟨ta, by rw [List.getElem?_append_left (by simp; omega), List.getElem?_map, e1]; rfl, bs, e2, e3⟩
    obtain ⟨fa, hfa⟩ : ∃ fa, fa = tabAt (tabsR ws (L.take k) []) p.a := ⟨_, rfl⟩
    obtain ⟨fb, hfb⟩ : ∃ fb, fb = tabAt (tabsR ws (L.take k) []) p.b := ⟨_, rfl⟩
    obtain ⟨ta, hta⟩ : ∃ ta, 4 ≤ p.op → 0 ≤ p.a ∧ (tbs.map (rowV n) ++ List.replicate (K - k) (Value.slice none 0 0))[p.a.toNat]? = some (.slice (some ⟨ta, 0, none⟩) n n) ∧ ∃ bs, bs.length = n ∧ ∀ r ∈ tabR n fa ta bs, r ∈ T := by
      by_cases h : 4 ≤ p.op
      · obtain ⟨ta, h1⟩ := hch p.a (hka h).1 (hka h).2
        rw [← hfa] at h1
        exact ⟨ta, fun _ => ⟨(hka h).1, h1⟩⟩
      · exact ⟨0, fun h' => absurd h' h⟩
    obtain ⟨tb2, htb⟩ : ∃ tb2, 4 ≤ p.op → p.op ≤ 6 → 0 ≤ p.b ∧ (tbs.map (rowV n) ++ List.replicate (K - k) (Value.slice none 0 0))[p.b.toNat]? = some (.slice (some ⟨tb2, 0, none⟩) n n) ∧ ∃ bs, bs.length = n ∧ ∀ r ∈ tabR n fb tb2 bs, r ∈ T := by
      by_cases h : 4 ≤ p.op ∧ p.op ≤ 6
      · obtain ⟨tb2, h1⟩ := hch p.b (hkb h.1 h.2).1 (hkb h.1 h.2).2
        rw [← hfb] at h1
        exact ⟨tb2, fun _ _ => ⟨(hkb h.1 h.2).1, h1⟩⟩
      · exact ⟨0, fun h1 h2 => absurd ⟨h1, h2⟩ h⟩
    rw [← fF_zero (ws := ws) (op := p.op) (pos := p.pos) (neg := p.neg) (a := fa) (b := fb)] at hS
    have htab : ∀ f : Tab, ∀ r ∈ tabR n f tb bs, r ∈ (tabR n f tb bs ++ (Res.row 29 1 (.slice (some ⟨g, 0, none⟩) K K) K (tbs.map (rowV n) ++ List.replicate (K - k) (.slice none 0 0)) :: Res.rd 5 A0 K (rxCells L) :: Res.rd 1 Aw m (ws.map vb) :: T)) := fun f r hr => List.mem_append_left _ hr
    have hOwn : ∀ f : Tab, HasSl (tabR n f tb bs ++ (Res.row 29 1 (.slice (some ⟨g, 0, none⟩) K K) K (tbs.map (rowV n) ++ List.replicate (K - k) (.slice none 0 0)) :: Res.rd 5 A0 K (rxCells L) :: Res.rd 1 Aw m (ws.map vb) :: T)) (some ⟨tb, 0, none⟩) n 1 (bs.map (rowV n)) := fun f => tabOwnI
    have hT' : ∀ f : Tab, ∀ r ∈ T, r ∈ (tabR n f tb bs ++ (Res.row 29 1 (.slice (some ⟨g, 0, none⟩) K K) K (tbs.map (rowV n) ++ List.replicate (K - k) (.slice none 0 0)) :: Res.rd 5 A0 K (rxCells L) :: Res.rd 1 Aw m (ws.map vb) :: T)) := fun f r hr => List.mem_append_right _ (.tail _ (.tail _ (.tail _ hr)))
    have hAll : ∀ f : Tab, HasSl (tabR n f tb bs ++ (Res.row 29 1 (.slice (some ⟨g, 0, none⟩) K K) K (tbs.map (rowV n) ++ List.replicate (K - k) (.slice none 0 0)) :: Res.rd 5 A0 K (rxCells L) :: Res.rd 1 Aw m (ws.map vb) :: T)) (some ⟨g, 0, none⟩) K 1 (tbs.map (rowV n) ++ List.replicate (K - k) (.slice none 0 0)) := fun f => inferInstance
    have hWd : ∀ f : Tab, HasSl (tabR n f tb bs ++ (Res.row 29 1 (.slice (some ⟨g, 0, none⟩) K K) K (tbs.map (rowV n) ++ List.replicate (K - k) (.slice none 0 0)) :: Res.rd 5 A0 K (rxCells L) :: Res.rd 1 Aw m (ws.map vb) :: T)) Aw m 1 (ws.map vb) := fun f => inferInstance
    repeat (first | (refine S_w ?_; first | (refine S_y hS ?_) | ((first | refine M_bA hS ?_ | refine M_b1 hS ?_ | refine M_aA hS ?_ | refine M_a1 hS ?_ | refine M_sl hS ?_ | refine M_s1 hS ?_ | refine M_mm hS ?_); clear hS; intro b w hS) | ((first | refine M_st hS ?_ | refine M_sA hS ?_ | refine M_in hS ?_ | refine M_sR hS ?_); clear hS; intro w hS; (try simp only [List.set_cons_zero, List.set_cons_succ, Nat.zero_add] at hS)) | (refine M_ap hS ?_; clear hS; intro g cap w hS) | refine M_pn ?_) | refine X_k (by (try simp only [Fm.toList, List.set_cons_succ, List.set_cons_zero]); exact rfl) ?_ | refine S_u ?_ | refine S_v ?_ | refine C_sq ?_ | refine C_rg ?_ | refine L_nil ?_ | refine C_bk ?_ | refine C_ct ?_ | refine C_cf ?_ | refine C_sk ?_ | refine C_ex ?_ | refine C_rt ?_ | refine X_e ?_ | refine X_r ?_ | refine X_bh ?_ | refine X_be ?_ | refine X_br ?_ | refine X_bn ?_ | refine X_p ?_ | refine X_bp ?_)
    refine C_lp [10, 2, 24, 32, 5] (fun d : Nat => [(10, .int .i64 (d : Nat))]) (fun d w' => d ≤ n ∧ St Nof W (tabR n (fF ws p.op p.pos p.neg fa fb d 0) tb bs ++ (Res.row 29 1 (.slice (some ⟨g, 0, none⟩) K K) K (tbs.map (rowV n) ++ List.replicate (K - k) (.slice none 0 0)) :: Res.rd 5 A0 K (rxCells L) :: Res.rd 1 Aw m (ws.map vb) :: T)) w') (fun d => n - d) 0 ⟨Nat.zero_le _, hS⟩ ?_
    clear hS
    rintro d y3 w ⟨hd, hS⟩
    refine C_fs ?_
    by_cases hlt3 : d < n
    · repeat (first | (refine S_w ?_; first | (refine S_y hS ?_) | ((first | refine M_bA hS ?_ | refine M_b1 hS ?_ | refine M_aA hS ?_ | refine M_a1 hS ?_ | refine M_sl hS ?_ | refine M_s1 hS ?_ | refine M_mm hS ?_); clear hS; intro b w hS) | ((first | refine M_st hS ?_ | refine M_sA hS ?_ | refine M_in hS ?_ | refine M_sR hS ?_); clear hS; intro w hS; (try simp only [List.set_cons_zero, List.set_cons_succ, Nat.zero_add] at hS)) | (refine M_ap hS ?_; clear hS; intro g cap w hS) | refine M_pn ?_) | refine X_k (by (try simp only [Fm.toList, List.set_cons_succ, List.set_cons_zero]); exact rfl) ?_ | refine S_u ?_ | refine S_v ?_ | refine C_sq ?_ | refine C_rg ?_ | refine L_nil ?_ | refine C_bk ?_ | refine C_ct ?_ | refine C_cf ?_ | refine C_sk ?_ | refine C_ex ?_ | refine C_rt ?_ | refine X_e ?_ | refine X_r ?_ | refine X_bh ?_ | refine X_be ?_ | refine X_br ?_ | refine X_bn ?_ | refine X_p ?_ | refine X_bp ?_)
      refine C_lp [11, 1, 29, 27, 5] (fun i : Nat => [(11, .int .i64 (i : Nat))]) (fun i w' => i + d ≤ n ∧ St Nof W (tabR n (fF ws p.op p.pos p.neg fa fb d i) tb bs ++ (Res.row 29 1 (.slice (some ⟨g, 0, none⟩) K K) K (tbs.map (rowV n) ++ List.replicate (K - k) (.slice none 0 0)) :: Res.rd 5 A0 K (rxCells L) :: Res.rd 1 Aw m (ws.map vb) :: T)) w') (fun i => n - i) 0 ⟨by omega, hS⟩ ?_
      clear hS
      rintro i y4 w ⟨hid, hS⟩
      refine C_fs ?_
      have hsum : (i : Int) + (d : Int) = ((i + d : Nat) : Int) := by omega
      have hin : IsNat (.int .i64 ((i : Int) + (d : Int))) .i64 (i + d) := ⟨by rw [hsum]⟩
      by_cases hlt4 : i + d < n
      · obtain ⟨bi, hbi⟩ := get_lt hbs (show i < n by omega)
        have e1 := rowV_at (n := n) hbi
        have hRow : ∀ f : Tab, HasSl (tabR n f tb bs ++ (Res.row 29 1 (.slice (some ⟨g, 0, none⟩) K K) K (tbs.map (rowV n) ++ List.replicate (K - k) (.slice none 0 0)) :: Res.rd 5 A0 K (rxCells L) :: Res.rd 1 Aw m (ws.map vb) :: T)) (some ⟨bi, 0, none⟩) n 1 (rowC n f i) := fun f => tabRow hbi
        repeat (first | (refine S_w ?_; first | (refine S_y hS ?_) | ((first | refine M_bA hS ?_ | refine M_b1 hS ?_ | refine M_aA hS ?_ | refine M_a1 hS ?_ | refine M_sl hS ?_ | refine M_s1 hS ?_ | refine M_mm hS ?_); clear hS; intro b w hS) | ((first | refine M_st hS ?_ | refine M_sA hS ?_ | refine M_in hS ?_ | refine M_sR hS ?_); clear hS; intro w hS; (try simp only [List.set_cons_zero, List.set_cons_succ, Nat.zero_add] at hS)) | (refine M_ap hS ?_; clear hS; intro g cap w hS) | refine M_pn ?_) | refine X_k (by (try simp only [Fm.toList, List.set_cons_succ, List.set_cons_zero]); exact rfl) ?_ | refine S_u ?_ | refine S_v ?_ | refine C_sq ?_ | refine C_rg ?_ | refine L_nil ?_ | refine C_bk ?_ | refine C_ct ?_ | refine C_cf ?_ | refine C_sk ?_ | refine C_ex ?_ | refine C_rt ?_ | refine X_e ?_ | refine X_r ?_ | refine X_bh ?_ | refine X_be ?_ | refine X_br ?_ | refine X_bn ?_ | refine X_p ?_ | refine X_bp ?_)
        refine C_ps (fun f : Tab => (tabR n f tb bs ++ (Res.row 29 1 (.slice (some ⟨g, 0, none⟩) K K) K (tbs.map (rowV n) ++ List.replicate (K - k) (.slice none 0 0)) :: Res.rd 5 A0 K (rxCells L) :: Res.rd 1 Aw m (ws.map vb) :: T))) (fF ws p.op p.pos p.neg fa fb d i) (.take 0 (.take 1 (.take 2 (.take 3 (.take 4 (.take 5 (.take 6 (.take 7 (.take 8 (.take 9 (.take 10 (.take 11 (.take 12 (.take 13 (.take 14 (.take 15 (.take 16 (.take 17 (.one 18 (.one 19 (.one 20 .done))))))))))))))))))))) hS ?_
        clear hS
        intro w hS
        (with_reducible apply P_t); rfl; refine P_ys hS (fun s => Yp) ?_
        (with_reducible apply P_t); rfl; refine P_ys hS (fun s => Yp) ?_
        (with_reducible apply P_t); rfl; refine P_ys hS (fun s => (by first | exact YiN (hm := hOwn s) | exact YiM (hm := hOwn s))) ?_
        (with_reducible apply P_t); rfl; refine P_ys hS (fun s => (by first | exact YlE (hm := hOwn s) | exact YlG (hm := hOwn s))) ?_
        (with_reducible apply P_t); rfl; refine P_ys hS (fun s => Yp) ?_
        (with_reducible apply P_t); rfl; refine P_ys hS (fun s => Yp) ?_
        (with_reducible apply P_t); rfl; refine P_ys hS (fun s => Ya) ?_
        (with_reducible apply P_t); rfl; refine P_ys hS (fun s => Yp) ?_
        (with_reducible apply P_t); rfl; refine P_ys hS (fun s => Yp) ?_
        (with_reducible apply P_t); rfl; refine P_ys hS (fun s => (by first | exact YiM | exact YiN)) ?_
        (with_reducible apply P_t); rfl; refine P_ys hS (fun s => (by first | exact YlG | exact YlE)) ?_
        (with_reducible apply P_t); rfl; refine P_ys hS (fun s => Yp) ?_
        (with_reducible apply P_t); rfl; refine P_ys hS (fun s => Yp) ?_
        (with_reducible apply P_t); rfl; refine P_ys hS (fun s => Yp) ?_
        (with_reducible apply P_t); rfl; refine P_ys hS (fun s => Yp) ?_
        (with_reducible apply P_t); rfl; refine P_ys hS (fun s => Yp) ?_
        (with_reducible apply P_t); rfl; refine P_ys hS (fun s => Yp) ?_
        (with_reducible apply P_t); rfl; refine P_ys hS (fun s => Ya) ?_
        (with_reducible apply P_one); rfl; refine P_f ?_; intro Q' hQ' hE'
        have hcl := rmatR (ta := ta) (tb := tb2) (fa := fa) (fb := fb) (ws := ws) (A := Aw) (m := m) (c := cw) (ck := K) p hS hn.symm (by omega) hws hwl hpo hop (hAll _) (fun h => by obtain ⟨q1, q2, bs', q3, q4⟩ := hta h; exact ⟨q1, q2, tab_has q3 fun r hr => hT' _ r (q4 r hr)⟩)
          (fun h h' => by obtain ⟨q1, q2, bs', q3, q4⟩ := htb h h'; exact ⟨q1, q2, tab_has q3 fun r hr => hT' _ r (q4 r hr)⟩) (tab_has hbs (htab _)) (hWd _) i (i + d) (by omega) hlt4
        refine S_w ?_
        refine M_c hcl ?_
        rintro _ w4 ⟨rfl, hS⟩
        refine L_nil ?_
        refine hQ' _ _ ⟨_, hS⟩ ?_
        clear hQ' hE'
        (with_reducible apply P_one); rfl; refine P_f ?_; intro Q' hQ' hE'
        refine S_w ?_
        refine S_q hS (by first | exact YiN (hm := hRow _) | exact YiM (hm := hRow _)) ?_
        refine L_nil ?_
        refine hQ' _ _ ⟨_, hS⟩ ?_
        clear hQ' hE'
        (with_reducible apply P_one); rfl; refine P_f ?_; intro Q' hQ' hE'
        refine S_w ?_
        refine M_sX hS (Upd.appl (tabR_upd hbi)) ?_
        clear hS
        intro w hS
        refine L_nil ?_
        refine hQ' _ _ ⟨_, hS⟩ ?_
        clear hQ' hE'
        refine P_d ?_
        rw [fF_step (by omega)] at hS
        repeat (first | (refine S_w ?_; first | (refine S_y hS ?_) | ((first | refine M_bA hS ?_ | refine M_b1 hS ?_ | refine M_aA hS ?_ | refine M_a1 hS ?_ | refine M_sl hS ?_ | refine M_s1 hS ?_ | refine M_mm hS ?_); clear hS; intro b w hS) | ((first | refine M_st hS ?_ | refine M_sA hS ?_ | refine M_in hS ?_ | refine M_sR hS ?_); clear hS; intro w hS; (try simp only [List.set_cons_zero, List.set_cons_succ, Nat.zero_add] at hS)) | (refine M_ap hS ?_; clear hS; intro g cap w hS) | refine M_pn ?_) | refine X_k (by (try simp only [Fm.toList, List.set_cons_succ, List.set_cons_zero]); exact rfl) ?_ | refine S_u ?_ | refine S_v ?_ | refine C_sq ?_ | refine C_rg ?_ | refine L_nil ?_ | refine C_bk ?_ | refine C_ct ?_ | refine C_cf ?_ | refine C_sk ?_ | refine C_ex ?_ | refine C_rt ?_ | refine X_e ?_ | refine X_r ?_ | refine X_bh ?_ | refine X_be ?_ | refine X_br ?_ | refine X_bn ?_ | refine X_p ?_ | refine X_bp ?_)
        refine R_e (i + 1) ⟨by omega, hS⟩ (by omega)
      · have hcg : tabR n (fF ws p.op p.pos p.neg fa fb d i) tb bs = tabR n (fF ws p.op p.pos p.neg fa fb (d + 1) 0) tb bs := tabR_congr hbs fun i' j' g1 g2 => by
          unfold fF
          by_cases q : i' ≤ j' ∧ (j' < i' + d ∨ (j' = i' + d ∧ i' < i))
          · rw [if_pos q, if_pos ⟨q.1, .inl (by omega)⟩]
          · rw [if_neg q, if_neg (fun q2 => q ⟨q2.1, by omega⟩)]
        rw [hcg] at hS
        repeat (first | (refine S_w ?_; first | (refine S_y hS ?_) | ((first | refine M_bA hS ?_ | refine M_b1 hS ?_ | refine M_aA hS ?_ | refine M_a1 hS ?_ | refine M_sl hS ?_ | refine M_s1 hS ?_ | refine M_mm hS ?_); clear hS; intro b w hS) | ((first | refine M_st hS ?_ | refine M_sA hS ?_ | refine M_in hS ?_ | refine M_sR hS ?_); clear hS; intro w hS; (try simp only [List.set_cons_zero, List.set_cons_succ, Nat.zero_add] at hS)) | (refine M_ap hS ?_; clear hS; intro g cap w hS) | refine M_pn ?_) | refine X_k (by (try simp only [Fm.toList, List.set_cons_succ, List.set_cons_zero]); exact rfl) ?_ | refine S_u ?_ | refine S_v ?_ | refine C_sq ?_ | refine C_rg ?_ | refine L_nil ?_ | refine C_bk ?_ | refine C_ct ?_ | refine C_cf ?_ | refine C_sk ?_ | refine C_ex ?_ | refine C_rt ?_ | refine X_e ?_ | refine X_r ?_ | refine X_bh ?_ | refine X_be ?_ | refine X_br ?_ | refine X_bn ?_ | refine X_p ?_ | refine X_bp ?_)
        refine R_e (d + 1) ⟨by omega, hS⟩ (by omega)
    · obtain rfl : n = d := by omega
      have hcg : tabR n (fF ws p.op p.pos p.neg fa fb n 0) tb bs = tabR n (tabOf ws (tabsR ws (L.take k) []) p) tb bs := tabR_congr hbs fun i' j' g1 g2 => by
        unfold fF
        rw [tabOf, ← hfa, ← hfb]
        by_cases q : i' ≤ j'
        · rw [if_pos ⟨q, .inl (by omega)⟩]
        · rw [if_neg (fun q2 => q q2.1), rel_out (by omega)]
      rw [hcg] at hS
      have hacc : (tabsR ws (L.take k) []).length = k := by rw [tabsR_len, List.length_take, List.length_nil]; omega
      have htk : tabsR ws (L.take (k + 1)) [] = tabsR ws (L.take k) [] ++ [tabOf ws (tabsR ws (L.take k) []) p] := by
        rw [List.take_add_one, hp, Option.toList_some, tabsR_append]
        rfl
      generalize tabOf ws (tabsR ws (L.take k) []) p = tn at hS htk
      repeat (first | (refine S_w ?_; first | (refine M_sX hS (Upd.app .here) ?_; clear hS; intro w hS) | (refine S_y hS ?_) | ((first | refine M_bA hS ?_ | refine M_b1 hS ?_ | refine M_aA hS ?_ | refine M_a1 hS ?_ | refine M_sl hS ?_ | refine M_s1 hS ?_ | refine M_mm hS ?_); clear hS; intro b w hS) | ((first | refine M_st hS ?_ | refine M_sA hS ?_ | refine M_in hS ?_ | refine M_sR hS ?_); clear hS; intro w hS; (try simp only [List.set_cons_zero, List.set_cons_succ, Nat.zero_add] at hS)) | (refine M_ap hS ?_; clear hS; intro g cap w hS) | refine M_pn ?_) | refine X_k (by (try simp only [Fm.toList, List.set_cons_succ, List.set_cons_zero]); exact rfl) ?_ | refine S_u ?_ | refine S_v ?_ | refine C_sq ?_ | refine C_rg ?_ | refine L_nil ?_ | refine C_bk ?_ | refine C_ct ?_ | refine C_cf ?_ | refine C_sk ?_ | refine C_ex ?_ | refine C_rt ?_ | refine X_e ?_ | refine X_r ?_ | refine X_bh ?_ | refine X_be ?_ | refine X_br ?_ | refine X_bn ?_ | refine X_p ?_ | refine X_bp ?_)
      have e : (tbs.map (rowV n) ++ List.replicate (K - k) (Value.slice none 0 0)).set k (rowV n tb) = (tbs ++ [tb]).map (rowV n) ++ List.replicate (K - (k + 1)) (Value.slice none 0 0) := by
        rw [List.set_append_right _ _ (by simp [htl]), List.length_map, htl, Nat.sub_self, show K - k = K - (k + 1) + 1 by omega, List.replicate_succ, List.set_cons_zero, List.map_append, List.append_assoc]
        rfl
      have hS2 : St Nof W (tabR n tn tb bs ++ (Res.row 29 1 (.slice (some ⟨g, 0, none⟩) K K) K ((tbs.map (rowV n) ++ List.replicate (K - k) (Value.slice none 0 0)).set k (rowV n tb)) :: Res.rd 5 A0 K (rxCells L) :: Res.rd 1 Aw m (ws.map vb) :: T)) w := hS
      rw [e] at hS2
      have h3 := St.mv (l := tabR n tn tb bs) (cs := [_, _, _]) hS2
      refine R_e ⟨k + 1, tbs ++ [tb], tabR n tn tb bs ++ T⟩ ⟨by simp [htl], by simp only; omega, fun q hq => ?_, fun _ => ⟨tb, bs, T, by simp [htl], hbs, ?_⟩, h3⟩ (by simp only; omega)
      · simp only at hq ⊢
        rw [htk]
        by_cases hqi : q < k
        · obtain ⟨b1, bs1, f1, f2, f3⟩ := hT q hqi
          refine ⟨b1, bs1, by rw [List.getElem?_append_left (by omega)]; exact f1, f2, fun r hr => List.mem_append_right _ (f3 r ?_)⟩
          rwa [tabAt_app1 (by omega)] at hr
        · obtain rfl : q = k := by omega
          refine ⟨tb, bs, by rw [← htl]; simp, hbs, fun r hr => List.mem_append_left _ ?_⟩
          rwa [tabAt_app2 (by omega)] at hr
      · simp only
        rw [htk, tabAt_app2 (by omega)]
  obtain rfl : K = k := by omega
  obtain ⟨b, bs, T', g1, g2, g3⟩ := hlast hk0
  rw [List.take_of_length_le (by omega)] at g3
  have g4 : (tbs.map (rowV n) ++ List.replicate (K - K) (Value.slice none 0 0))[K - 1]? = some (.slice (some ⟨b, 0, none⟩) n n) := by rw [List.getElem?_append_left (by simp; omega), List.getElem?_map, g1]; rfl
  rw [g3] at hS
  repeat (first | (refine S_w ?_; first | (refine S_y hS ?_) | ((first | refine M_bA hS ?_ | refine M_b1 hS ?_ | refine M_aA hS ?_ | refine M_a1 hS ?_ | refine M_sl hS ?_ | refine M_s1 hS ?_ | refine M_mm hS ?_); clear hS; intro b w hS) | ((first | refine M_st hS ?_ | refine M_sA hS ?_ | refine M_in hS ?_ | refine M_sR hS ?_); clear hS; intro w hS; (try simp only [List.set_cons_zero, List.set_cons_succ, Nat.zero_add] at hS)) | (refine M_ap hS ?_; clear hS; intro g cap w hS) | refine M_pn ?_) | refine X_k (by (try simp only [Fm.toList, List.set_cons_succ, List.set_cons_zero]); exact rfl) ?_ | refine S_u ?_ | refine S_v ?_ | refine C_sq ?_ | refine C_rg ?_ | refine L_nil ?_ | refine C_bk ?_ | refine C_ct ?_ | refine C_cf ?_ | refine C_sk ?_ | refine C_ex ?_ | refine C_rt ?_ | refine X_e ?_ | refine X_r ?_ | refine X_bh ?_ | refine X_be ?_ | refine X_br ?_ | refine X_bn ?_ | refine X_p ?_ | refine X_bp ?_)
  refine V_1 ⟨g, _, b, bs, T', rfl, g4, g2, hS.sub ?_⟩
  exact .cons_cons _ (.cons _ (.cons _ (List.Sublist.refl _)))
end Go.Proofs.Ytebdkmfgfjanoaa
