/-
  The reference of layer 4: join.
-/
import Derived.Test.YtcholfpomalgdaaRfCut
import Derived.Test.YtcholfpomalgdaaRxKit
namespace Go.Proofs.Ytcholfpomalgdaa
open Go.RowKit

/-- pieces moved up by k -/
def upPc (k : Nat) (p : Pc) : Pc := { p with a := if 0 < kids p.op then p.a + k else p.a, b := if 1 < kids p.op then p.b + k else p.b }
theorem up_flat {v : Int} (j : Nat) : ∀ (t : T) (k : Nat), t.wf v → (t.flat k).map (upPc j) = t.flat (j + k)
  | .none, _, _ => rfl
  | .empty, _, _ => rfl
  | .letter _ _, _, _ => rfl
  | .un op a, k, h => by
    have h1 := T.size_pos a
    simp only [T.flat, List.map_append, up_flat j a k h.2, List.map_cons, List.map_nil]
    congr 2
    simp only [T.root, upPc, h.1]
    refine Pc.ext' rfl rfl rfl ?_ rfl
    rw [if_pos (by omega)]; simp only; omega
  | .bin op a b, k, h => by
    have h1 := T.size_pos a
    have h2 := T.size_pos b
    have e : j + k + a.size = j + (k + a.size) := by omega
    simp only [T.flat, List.map_append, up_flat j a k h.2.1, up_flat j b (k + a.size) h.2.2, List.map_cons, List.map_nil, e]
    congr 3
    simp only [T.root, upPc, h.1]
    refine Pc.ext' rfl rfl rfl ?_ ?_
    · rw [if_pos (by omega)]; simp only; omega
    · rw [if_pos (by omega)]; simp only; omega
theorem wf_ops {v : Int} : ∀ (t : T) (k : Nat), t.wf v → ∀ p ∈ t.flat k, 1 ≤ p.op ∧ p.op ≤ 10
  | .none, k, _, p, hp => by simp [T.flat, T.root] at hp; subst hp; decide
  | .empty, k, _, p, hp => by simp [T.flat, T.root] at hp; subst hp; decide
  | .letter a b, k, _, p, hp => by simp [T.flat, T.root] at hp; subst hp; exact ⟨show 1 ≤ 3 by decide, show 3 ≤ 10 by decide⟩
  | .un op a, k, h, p, hp => by
    have := kids_one.1 h.1
    rcases List.mem_append.1 (by simpa only [T.flat] using hp) with hp | hp
    · exact wf_ops a k h.2 p hp
    · simp [T.root] at hp; subst hp; simp only; omega
  | .bin op a b, k, h, p, hp => by
    have := kids_two.1 h.1
    rcases List.mem_append.1 (by simpa only [T.flat] using hp) with hp | hp
    · exact wf_ops a k h.2.1 p hp
    · rcases List.mem_append.1 hp with hp | hp
      · exact wf_ops b _ h.2.2 p hp
      · simp [T.root] at hp; subst hp; simp only; omega
theorem flat_high {v : Int} : ∀ (t : T) (k : Nat), t.wf v → ∀ p ∈ t.flat k, p.a ≤ ((k + t.size : Nat) : Int) ∧ p.b ≤ ((k + t.size : Nat) : Int)
  | .none, k, _, p, hp => by simp [T.flat, T.root] at hp; subst hp; simp [T.size]; omega
  | .empty, k, _, p, hp => by simp [T.flat, T.root] at hp; subst hp; simp [T.size]; omega
  | .letter a b, k, _, p, hp => by simp [T.flat, T.root] at hp; subst hp; simp [T.size]; omega
  | .un op a, k, h, p, hp => by
    rcases List.mem_append.1 (by simpa only [T.flat] using hp) with hp | hp
    · have := flat_high a k h.2 p hp
      simp only [T.size]; omega
    · simp [T.root] at hp; subst hp; simp only [T.size]; omega
  | .bin op a b, k, h, p, hp => by
    rcases List.mem_append.1 (by simpa only [T.flat] using hp) with hp | hp
    · have := flat_high a k h.2.1 p hp
      simp only [T.size]; omega
    · rcases List.mem_append.1 hp with hp | hp
      · have := flat_high b _ h.2.2 p hp
        simp only [T.size]; omega
      · simp [T.root] at hp; subst hp; simp only [T.size]; omega
theorem sub_un (op : Nat) (a : T) : (T.un op a).sub 0 (a.size - 1) = (0, a) := by
  have h := T.size_pos a
  have := sub_whole a 0
  rw [Nat.zero_add] at this
  simp only [T.sub]; rw [if_neg (by omega)]; exact this
theorem sub_binA (op : Nat) (a b : T) : (T.bin op a b).sub 0 (a.size - 1) = (0, a) := by
  have h := T.size_pos a
  have := sub_whole a 0
  rw [Nat.zero_add] at this
  simp only [T.sub]; rw [if_neg (by omega), if_pos (by omega)]; exact this
theorem sub_binB (op : Nat) (a b : T) : (T.bin op a b).sub 0 (a.size + b.size - 1) = (a.size, b) := by
  have h := T.size_pos a
  have h2 := T.size_pos b
  have := sub_whole b a.size
  simp only [T.sub]; rw [if_neg (by omega), if_neg (by omega), Nat.zero_add]; exact this
/-- a block that was written out whole is a row -/
theorem objRow {w0 w : World} {rs : List Res} {b n size : Nat} {ys : List Value} {e : TypeId} (hS : St Nof w0 rs w) (hm : HasObj rs b (.cells ys.toArray e (0, 0)) := by infer_instance) (hn : ys.length = n * size := by rfl) (hl : n ≤ 1000000 := by omega) : w.ownsRow w0.heap.size e size (.slice (some ⟨b, 0, none⟩) n n) n ys := by
  have hb : w.heap[b]? = some (.cells ys.toArray e (0, 0)) := hS.all _ hm.mem
  have hg : w0.heap.size ≤ b := (hS.own _ hm.mem rfl b rfl).resolve_left fun h => h
  exact ⟨hn, .inr ⟨b, n, _, rfl, hg, hb, Nat.le_refl _, by unfold maxLen; omega, by simpa using hn, List.take_of_length_le (by simp [hn])⟩⟩
set_option maxHeartbeats 8000000 in
set_option maxRecDepth 100000 in
theorem joinR1 (A : Option Addr) (n c op : Nat) (L : List Pc) (W : World) (hA : Rd W 5 A n (rxCells L)) (hop : op < 256) (h0 : 0 < n) (hn : n ≤ 1000000) :
    CallsR Try.prog 55 #[vb op, .slice A n c, .slice none 0 0] W fun r w' => ∃ A' c', r = .slice A' (n + 1) c' ∧ w'.ownsRow W.heap.size 34 5 (.slice A' (n + 1) c') (n + 1) (rxCells (L ++ [⟨op, 0, 0, (n : Int) - 1, 0⟩])) ∧ Fr Nof W w' := by
  have hl : L.length = n := by have := hA.1; rw [rxCells_len] at this; omega
  have h1 := rxCells_one L
  have hS := ((St.start Nof W).addRo (r := Res.rd 5 A n (rxCells L)) hA rfl (fun _ h => by cases h)).rowNil 34 5
  have hcs : rxCells (L ++ [⟨op, 0, 0, (n : Int) - 1, 0⟩]) = rxCells L ++ [vb op, vb 0, vb 0, .int .i64 ((n : Int) - 1), .int .i64 0] := by rw [rxCells_append]; simp [rxCells, pcV]
  rw [hcs]
  refine E_r (m := 68) ?_ Try.func55 rfl Try.ntmps55 rfl; refine C_ft ?_
  repeat (first | (refine S_w ?_; first | (refine M_aR hS ?_; clear hS; intro g cap w hS) | (refine S_y hS ?_) | ((first | refine M_bA hS ?_ | refine M_b1 hS ?_ | refine M_aA hS ?_ | refine M_a1 hS ?_ | refine M_sl hS ?_ | refine M_s1 hS ?_ | refine M_mm hS ?_); clear hS; intro b w hS) | ((first | refine M_st hS ?_ | refine M_sA hS ?_ | refine M_in hS ?_ | refine M_sR hS ?_); clear hS; intro w hS; (try simp only [List.set_cons_zero, List.set_cons_succ, Nat.zero_add] at hS)) | (refine M_ap hS ?_; clear hS; intro g cap w hS) | refine M_pn ?_) | refine X_k (by (try simp only [Fm.toList, List.set_cons_succ, List.set_cons_zero]); exact rfl) ?_ | refine S_u ?_ | refine S_v ?_ | refine C_sq ?_ | refine C_rg ?_ | refine L_nil ?_ | refine C_bk ?_ | refine C_ct ?_ | refine C_cf ?_ | refine C_sk ?_ | refine C_ex ?_ | refine C_rt ?_ | refine X_e ?_ | refine X_r ?_ | refine X_bh ?_ | refine X_be ?_ | refine X_br ?_ | refine X_bn ?_ | refine X_p ?_ | refine X_bp ?_)
  rw [Nat.zero_add, List.nil_append] at hS
  rw [Nat.zero_add]
  have hS0 := hS
  refine C_lp [7, 3, 2, 34, 25] (fun i : Nat => [(7, .slice (some ⟨g, 0, none⟩) n cap), (8, .int .i64 (i : Nat))]) (fun i w' => i = 0 ∧ St Nof W [Res.row 34 5 (.slice (some ⟨g, 0, none⟩) n cap) n (rxCells L), Res.rd 5 A n (rxCells L)] w') (fun i => i) 0 ⟨rfl, hS⟩ ?_
  clear hS hS0
  rintro i y w ⟨rfl, hS⟩
  refine C_fs ?_
  repeat (first | (refine S_w ?_; first | (refine S_y hS ?_) | ((first | refine M_bA hS ?_ | refine M_b1 hS ?_ | refine M_aA hS ?_ | refine M_a1 hS ?_ | refine M_sl hS ?_ | refine M_s1 hS ?_ | refine M_mm hS ?_); clear hS; intro b w hS) | ((first | refine M_st hS ?_ | refine M_sA hS ?_ | refine M_in hS ?_ | refine M_sR hS ?_); clear hS; intro w hS; (try simp only [List.set_cons_zero, List.set_cons_succ, Nat.zero_add] at hS)) | (refine M_ap hS ?_; clear hS; intro g cap w hS) | refine M_pn ?_) | refine X_k (by (try simp only [Fm.toList, List.set_cons_succ, List.set_cons_zero]); exact rfl) ?_ | refine S_u ?_ | refine S_v ?_ | refine C_sq ?_ | refine C_rg ?_ | refine L_nil ?_ | refine C_bk ?_ | refine C_ct ?_ | refine C_cf ?_ | refine C_sk ?_ | refine C_ex ?_ | refine C_rt ?_ | refine X_e ?_ | refine X_r ?_ | refine X_bh ?_ | refine X_be ?_ | refine X_br ?_ | refine X_bn ?_ | refine X_p ?_ | refine X_bp ?_)
  refine V_1 ⟨_, _, rfl, hS.rowOwnM, hS.fr⟩
set_option maxHeartbeats 8000000 in
set_option maxRecDepth 100000 in
theorem joinR2 (A B : Option Addr) (n c m d op : Nat) (L : List Pc) (t : T) (v : Int) (W : World) (hA : Rd W 5 A n (rxCells L)) (hB : Rd W 5 B m (rxCells (t.flat 0))) (hw : t.wf v) (hlet : ∀ p ∈ t.flat 0, p.ok) (hm : t.size = m) (hop : op < 256) (h0 : 0 < n) (hn : n ≤ 1000000) (hm2 : m ≤ 1000000) :
    CallsR Try.prog 55 #[vb op, .slice A n c, .slice B m d] W fun r w' => ∃ A' c', r = .slice A' (n + m + 1) c' ∧ w'.ownsRow W.heap.size 34 5 (.slice A' (n + m + 1) c') (n + m + 1) (rxCells (L ++ t.flat n ++ [⟨op, 0, 0, (n : Int) - 1, (n : Int) + m - 1⟩])) ∧ Fr Nof W w' := by
  have hl : L.length = n := by have := hA.1; rw [rxCells_len] at this; omega
  have h1 := rxCells_one L
  have hpos := T.size_pos t
  have hfl := T.flat_len 0 t
  have hfn := T.flat_len n t
  have hup : (t.flat 0).map (upPc n) = t.flat n := up_flat (v := v) n t 0 hw
  have hlow := flat_low t 0 hw
  have hhigh := flat_high t 0 hw
  have hops := wf_ops t 0 hw
  have hS := (((St.start Nof W).addRo (r := Res.rd 5 B m (rxCells (t.flat 0))) hB rfl (fun _ h => by cases h)).addRo (r := Res.rd 5 A n (rxCells L)) hA rfl (fun s h hro => by
    rcases List.mem_cons.1 h with rfl | h
    · cases hro
    · cases h)).rowNil 34 5
  have hcs : rxCells (L ++ t.flat n ++ [⟨op, 0, 0, (n : Int) - 1, (n : Int) + m - 1⟩]) = rxCells (L ++ t.flat n) ++ [vb op, vb 0, vb 0, .int .i64 ((n : Int) - 1), .int .i64 ((n : Int) + m - 1)] := by rw [rxCells_append]; simp [rxCells, pcV]
  rw [hcs]
  refine E_r (m := 68) ?_ Try.func55 rfl Try.ntmps55 rfl; refine C_ft ?_
  repeat (first | (refine S_w ?_; first | (refine M_aR hS ?_; clear hS; intro g cap w hS) | (refine S_y hS ?_) | ((first | refine M_bA hS ?_ | refine M_b1 hS ?_ | refine M_aA hS ?_ | refine M_a1 hS ?_ | refine M_sl hS ?_ | refine M_s1 hS ?_ | refine M_mm hS ?_); clear hS; intro b w hS) | ((first | refine M_st hS ?_ | refine M_sA hS ?_ | refine M_in hS ?_ | refine M_sR hS ?_); clear hS; intro w hS; (try simp only [List.set_cons_zero, List.set_cons_succ, Nat.zero_add] at hS)) | (refine M_ap hS ?_; clear hS; intro g cap w hS) | refine M_pn ?_) | refine X_k (by (try simp only [Fm.toList, List.set_cons_succ, List.set_cons_zero]); exact rfl) ?_ | refine S_u ?_ | refine S_v ?_ | refine C_sq ?_ | refine C_rg ?_ | refine L_nil ?_ | refine C_bk ?_ | refine C_ct ?_ | refine C_cf ?_ | refine C_sk ?_ | refine C_ex ?_ | refine C_rt ?_ | refine X_e ?_ | refine X_r ?_ | refine X_bh ?_ | refine X_be ?_ | refine X_br ?_ | refine X_bn ?_ | refine X_p ?_ | refine X_bp ?_)
  rw [Nat.zero_add, List.nil_append] at hS
  rw [Nat.zero_add]
  refine C_lp [7, 3, 2, 34, 25] (fun s : Nat × Value => [(7, s.2), (8, .int .i64 (s.1 : Nat))]) (fun s w' => s.1 ≤ m ∧ St Nof W [Res.row 34 5 s.2 (n + s.1) (rxCells (L ++ (t.flat n).take s.1)), Res.rd 5 A n (rxCells L), Res.rd 5 B m (rxCells (t.flat 0))] w') (fun s => m - s.1) (0, .slice (some ⟨g, 0, none⟩) n cap) ⟨Nat.zero_le _, by simpa using hS⟩ ?_
  clear hS
  rintro ⟨q, r⟩ y w ⟨hq, hS⟩
  simp only at hq hS ⊢
  refine C_fs ?_
  obtain ⟨A7, c7, rfl, _, _⟩ := ownsRow_slice (hS.get (r := Res.row 34 5 r (n + q) (rxCells (L ++ (t.flat n).take q))) (by repeat (first | exact List.Mem.head _ | assumption | apply List.Mem.tail)))
  by_cases hlt : q < m
  · obtain ⟨p, hp⟩ : ∃ p, (t.flat 0)[q]? = some p := ⟨(t.flat 0)[q], List.getElem?_eq_getElem (by omega)⟩
    have hpo := hlet p (List.mem_of_getElem? hp)
    have hpl := hlow p (List.mem_of_getElem? hp)
    have hph := hhigh p (List.mem_of_getElem? hp)
    have hpd := rxCells_drop hp
    have hp0 : (t.flat n)[q]? = some (upPc n p) := by rw [← hup, List.getElem?_map, hp]; rfl
    have hsn : rxCells (L ++ (t.flat n).take (q + 1)) = rxCells (L ++ (t.flat n).take q) ++ pcV (upPc n p) := by
      rw [rxCells_append, rxSnoc hp0, rxCells_append, List.append_assoc]
    have hk2 := kids_le p.op
    have hop10 := hops p (List.mem_of_getElem? hp)
    have hch : ∀ w, CallsR Try.prog 41 #[vb p.op] w fun r w' => r = .int .i64 (kids p.op : Nat) ∧ Fr Nof w w' := fun w => by
      rw [← chN_kids hop10]; exact childrenR p.op hpo.op w
    obtain ⟨po, pos, neg, pa, pb⟩ := p
    obtain ⟨g1, g2, g3, g4, g5⟩ := hpo
    simp only [pcV] at g1 g2 g3 g4 g5 hpl hph hk2 hpd hch
    rcases (show kids po = 0 ∨ kids po = 1 ∨ kids po = 2 by omega) with hk | hk | hk
    · have hsv : pcV (upPc n ⟨po, pos, neg, pa, pb⟩) = [vb po, vb pos, vb neg, .int .i64 pa, .int .i64 pb] := by simp [upPc, pcV, hk]
      rw [hsv] at hsn
      rw [hk] at hch
      repeat (first | (refine S_w ?_; first | (refine M_c (hch _) ?_) | (refine S_y hS ?_) | ((first | refine M_bA hS ?_ | refine M_b1 hS ?_ | refine M_aA hS ?_ | refine M_a1 hS ?_ | refine M_sl hS ?_ | refine M_s1 hS ?_ | refine M_mm hS ?_); clear hS; intro b w hS) | ((first | refine M_st hS ?_ | refine M_sA hS ?_ | refine M_in hS ?_ | refine M_sR hS ?_); clear hS; intro w hS; (try simp only [List.set_cons_zero, List.set_cons_succ, Nat.zero_add] at hS)) | (refine M_ap hS ?_; clear hS; intro g cap w hS) | refine M_pn ?_) | refine X_k (by (try simp only [Fm.toList, List.set_cons_succ, List.set_cons_zero]); exact rfl) ?_ | refine S_u ?_ | refine S_v ?_ | refine C_sq ?_ | refine C_rg ?_ | refine L_nil ?_ | refine C_bk ?_ | refine C_ct ?_ | refine C_cf ?_ | refine C_sk ?_ | refine C_ex ?_ | refine C_rt ?_ | refine X_e ?_ | refine X_r ?_ | refine X_bh ?_ | refine X_be ?_ | refine X_br ?_ | refine X_bn ?_ | refine X_p ?_ | refine X_bp ?_)
      rintro _ w2 ⟨rfl, hb2⟩
      have hS := hS.call hb2
      repeat (first | (refine S_w ?_; first | (refine M_c (hch _) ?_) | (refine S_y hS ?_) | ((first | refine M_bA hS ?_ | refine M_b1 hS ?_ | refine M_aA hS ?_ | refine M_a1 hS ?_ | refine M_sl hS ?_ | refine M_s1 hS ?_ | refine M_mm hS ?_); clear hS; intro b w hS) | ((first | refine M_st hS ?_ | refine M_sA hS ?_ | refine M_in hS ?_ | refine M_sR hS ?_); clear hS; intro w hS; (try simp only [List.set_cons_zero, List.set_cons_succ, Nat.zero_add] at hS)) | (refine M_ap hS ?_; clear hS; intro g cap w hS) | refine M_pn ?_) | refine X_k (by (try simp only [Fm.toList, List.set_cons_succ, List.set_cons_zero]); exact rfl) ?_ | refine S_u ?_ | refine S_v ?_ | refine C_sq ?_ | refine C_rg ?_ | refine L_nil ?_ | refine C_bk ?_ | refine C_ct ?_ | refine C_cf ?_ | refine C_sk ?_ | refine C_ex ?_ | refine C_rt ?_ | refine X_e ?_ | refine X_r ?_ | refine X_bh ?_ | refine X_be ?_ | refine X_br ?_ | refine X_bn ?_ | refine X_p ?_ | refine X_bp ?_)
      rintro _ w3 ⟨rfl, hb3⟩
      have hS := hS.call hb3
      repeat (first | (refine S_w ?_; first | (refine S_y hS ?_) | ((first | refine M_bA hS ?_ | refine M_b1 hS ?_ | refine M_aA hS ?_ | refine M_a1 hS ?_ | refine M_sl hS ?_ | refine M_s1 hS ?_ | refine M_mm hS ?_); clear hS; intro b w hS) | ((first | refine M_st hS ?_ | refine M_sA hS ?_ | refine M_in hS ?_ | refine M_sR hS ?_); clear hS; intro w hS; (try simp only [List.set_cons_zero, List.set_cons_succ, Nat.zero_add] at hS)) | (refine M_ap hS ?_; clear hS; intro g cap w hS) | refine M_pn ?_) | refine X_k (by (try simp only [Fm.toList, List.set_cons_succ, List.set_cons_zero]); exact rfl) ?_ | refine S_u ?_ | refine S_v ?_ | refine C_sq ?_ | refine C_rg ?_ | refine L_nil ?_ | refine C_bk ?_ | refine C_ct ?_ | refine C_cf ?_ | refine C_sk ?_ | refine C_ex ?_ | refine C_rt ?_ | refine X_e ?_ | refine X_r ?_ | refine X_bh ?_ | refine X_be ?_ | refine X_br ?_ | refine X_bn ?_ | refine X_p ?_ | refine X_bp ?_)
      refine R_e (q + 1, .slice (some ⟨g, 0, none⟩) (n + q + 1) cap) ⟨by simp only; omega, ?_⟩ (by simp only; omega)
      simp only
      rw [hsn]
      exact hS.sb
    · have hsv : pcV (upPc n ⟨po, pos, neg, pa, pb⟩) = [vb po, vb pos, vb neg, .int .i64 (pa + n), .int .i64 pb] := by simp [upPc, pcV, hk]
      rw [hsv] at hsn
      rw [hk] at hch
      have hpl1 := hpl.1 (by omega)
      repeat (first | (refine S_w ?_; first | (refine M_c (hch _) ?_) | (refine S_y hS ?_) | ((first | refine M_bA hS ?_ | refine M_b1 hS ?_ | refine M_aA hS ?_ | refine M_a1 hS ?_ | refine M_sl hS ?_ | refine M_s1 hS ?_ | refine M_mm hS ?_); clear hS; intro b w hS) | ((first | refine M_st hS ?_ | refine M_sA hS ?_ | refine M_in hS ?_ | refine M_sR hS ?_); clear hS; intro w hS; (try simp only [List.set_cons_zero, List.set_cons_succ, Nat.zero_add] at hS)) | (refine M_ap hS ?_; clear hS; intro g cap w hS) | refine M_pn ?_) | refine X_k (by (try simp only [Fm.toList, List.set_cons_succ, List.set_cons_zero]); exact rfl) ?_ | refine S_u ?_ | refine S_v ?_ | refine C_sq ?_ | refine C_rg ?_ | refine L_nil ?_ | refine C_bk ?_ | refine C_ct ?_ | refine C_cf ?_ | refine C_sk ?_ | refine C_ex ?_ | refine C_rt ?_ | refine X_e ?_ | refine X_r ?_ | refine X_bh ?_ | refine X_be ?_ | refine X_br ?_ | refine X_bn ?_ | refine X_p ?_ | refine X_bp ?_)
      rintro _ w2 ⟨rfl, hb2⟩
      have hS := hS.call hb2
      repeat (first | (refine S_w ?_; first | (refine M_c (hch _) ?_) | (refine S_y hS ?_) | ((first | refine M_bA hS ?_ | refine M_b1 hS ?_ | refine M_aA hS ?_ | refine M_a1 hS ?_ | refine M_sl hS ?_ | refine M_s1 hS ?_ | refine M_mm hS ?_); clear hS; intro b w hS) | ((first | refine M_st hS ?_ | refine M_sA hS ?_ | refine M_in hS ?_ | refine M_sR hS ?_); clear hS; intro w hS; (try simp only [List.set_cons_zero, List.set_cons_succ, Nat.zero_add] at hS)) | (refine M_ap hS ?_; clear hS; intro g cap w hS) | refine M_pn ?_) | refine X_k (by (try simp only [Fm.toList, List.set_cons_succ, List.set_cons_zero]); exact rfl) ?_ | refine S_u ?_ | refine S_v ?_ | refine C_sq ?_ | refine C_rg ?_ | refine L_nil ?_ | refine C_bk ?_ | refine C_ct ?_ | refine C_cf ?_ | refine C_sk ?_ | refine C_ex ?_ | refine C_rt ?_ | refine X_e ?_ | refine X_r ?_ | refine X_bh ?_ | refine X_be ?_ | refine X_br ?_ | refine X_bn ?_ | refine X_p ?_ | refine X_bp ?_)
      rintro _ w3 ⟨rfl, hb3⟩
      have hS := hS.call hb3
      repeat (first | (refine S_w ?_; first | (refine S_y hS ?_) | ((first | refine M_bA hS ?_ | refine M_b1 hS ?_ | refine M_aA hS ?_ | refine M_a1 hS ?_ | refine M_sl hS ?_ | refine M_s1 hS ?_ | refine M_mm hS ?_); clear hS; intro b w hS) | ((first | refine M_st hS ?_ | refine M_sA hS ?_ | refine M_in hS ?_ | refine M_sR hS ?_); clear hS; intro w hS; (try simp only [List.set_cons_zero, List.set_cons_succ, Nat.zero_add] at hS)) | (refine M_ap hS ?_; clear hS; intro g cap w hS) | refine M_pn ?_) | refine X_k (by (try simp only [Fm.toList, List.set_cons_succ, List.set_cons_zero]); exact rfl) ?_ | refine S_u ?_ | refine S_v ?_ | refine C_sq ?_ | refine C_rg ?_ | refine L_nil ?_ | refine C_bk ?_ | refine C_ct ?_ | refine C_cf ?_ | refine C_sk ?_ | refine C_ex ?_ | refine C_rt ?_ | refine X_e ?_ | refine X_r ?_ | refine X_bh ?_ | refine X_be ?_ | refine X_br ?_ | refine X_bn ?_ | refine X_p ?_ | refine X_bp ?_)
      refine R_e (q + 1, .slice (some ⟨g, 0, none⟩) (n + q + 1) cap) ⟨by simp only; omega, ?_⟩ (by simp only; omega)
      simp only
      rw [hsn]
      exact hS.sb
    · have hsv : pcV (upPc n ⟨po, pos, neg, pa, pb⟩) = [vb po, vb pos, vb neg, .int .i64 (pa + n), .int .i64 (pb + n)] := by simp [upPc, pcV, hk]
      rw [hsv] at hsn
      rw [hk] at hch
      have hpl1 := hpl.1 (by omega)
      have hpl2 := hpl.2 (by omega)
      repeat (first | (refine S_w ?_; first | (refine M_c (hch _) ?_) | (refine S_y hS ?_) | ((first | refine M_bA hS ?_ | refine M_b1 hS ?_ | refine M_aA hS ?_ | refine M_a1 hS ?_ | refine M_sl hS ?_ | refine M_s1 hS ?_ | refine M_mm hS ?_); clear hS; intro b w hS) | ((first | refine M_st hS ?_ | refine M_sA hS ?_ | refine M_in hS ?_ | refine M_sR hS ?_); clear hS; intro w hS; (try simp only [List.set_cons_zero, List.set_cons_succ, Nat.zero_add] at hS)) | (refine M_ap hS ?_; clear hS; intro g cap w hS) | refine M_pn ?_) | refine X_k (by (try simp only [Fm.toList, List.set_cons_succ, List.set_cons_zero]); exact rfl) ?_ | refine S_u ?_ | refine S_v ?_ | refine C_sq ?_ | refine C_rg ?_ | refine L_nil ?_ | refine C_bk ?_ | refine C_ct ?_ | refine C_cf ?_ | refine C_sk ?_ | refine C_ex ?_ | refine C_rt ?_ | refine X_e ?_ | refine X_r ?_ | refine X_bh ?_ | refine X_be ?_ | refine X_br ?_ | refine X_bn ?_ | refine X_p ?_ | refine X_bp ?_)
      rintro _ w2 ⟨rfl, hb2⟩
      have hS := hS.call hb2
      repeat (first | (refine S_w ?_; first | (refine M_c (hch _) ?_) | (refine S_y hS ?_) | ((first | refine M_bA hS ?_ | refine M_b1 hS ?_ | refine M_aA hS ?_ | refine M_a1 hS ?_ | refine M_sl hS ?_ | refine M_s1 hS ?_ | refine M_mm hS ?_); clear hS; intro b w hS) | ((first | refine M_st hS ?_ | refine M_sA hS ?_ | refine M_in hS ?_ | refine M_sR hS ?_); clear hS; intro w hS; (try simp only [List.set_cons_zero, List.set_cons_succ, Nat.zero_add] at hS)) | (refine M_ap hS ?_; clear hS; intro g cap w hS) | refine M_pn ?_) | refine X_k (by (try simp only [Fm.toList, List.set_cons_succ, List.set_cons_zero]); exact rfl) ?_ | refine S_u ?_ | refine S_v ?_ | refine C_sq ?_ | refine C_rg ?_ | refine L_nil ?_ | refine C_bk ?_ | refine C_ct ?_ | refine C_cf ?_ | refine C_sk ?_ | refine C_ex ?_ | refine C_rt ?_ | refine X_e ?_ | refine X_r ?_ | refine X_bh ?_ | refine X_be ?_ | refine X_br ?_ | refine X_bn ?_ | refine X_p ?_ | refine X_bp ?_)
      rintro _ w3 ⟨rfl, hb3⟩
      have hS := hS.call hb3
      repeat (first | (refine S_w ?_; first | (refine S_y hS ?_) | ((first | refine M_bA hS ?_ | refine M_b1 hS ?_ | refine M_aA hS ?_ | refine M_a1 hS ?_ | refine M_sl hS ?_ | refine M_s1 hS ?_ | refine M_mm hS ?_); clear hS; intro b w hS) | ((first | refine M_st hS ?_ | refine M_sA hS ?_ | refine M_in hS ?_ | refine M_sR hS ?_); clear hS; intro w hS; (try simp only [List.set_cons_zero, List.set_cons_succ, Nat.zero_add] at hS)) | (refine M_ap hS ?_; clear hS; intro g cap w hS) | refine M_pn ?_) | refine X_k (by (try simp only [Fm.toList, List.set_cons_succ, List.set_cons_zero]); exact rfl) ?_ | refine S_u ?_ | refine S_v ?_ | refine C_sq ?_ | refine C_rg ?_ | refine L_nil ?_ | refine C_bk ?_ | refine C_ct ?_ | refine C_cf ?_ | refine C_sk ?_ | refine C_ex ?_ | refine C_rt ?_ | refine X_e ?_ | refine X_r ?_ | refine X_bh ?_ | refine X_be ?_ | refine X_br ?_ | refine X_bn ?_ | refine X_p ?_ | refine X_bp ?_)
      refine R_e (q + 1, .slice (some ⟨g, 0, none⟩) (n + q + 1) cap) ⟨by simp only; omega, ?_⟩ (by simp only; omega)
      simp only
      rw [hsn]
      exact hS.sb
  · obtain rfl : q = m := by omega
    rw [List.take_of_length_le (by omega)] at hS
    repeat (first | (refine S_w ?_; first | (refine S_y hS ?_) | ((first | refine M_bA hS ?_ | refine M_b1 hS ?_ | refine M_aA hS ?_ | refine M_a1 hS ?_ | refine M_sl hS ?_ | refine M_s1 hS ?_ | refine M_mm hS ?_); clear hS; intro b w hS) | ((first | refine M_st hS ?_ | refine M_sA hS ?_ | refine M_in hS ?_ | refine M_sR hS ?_); clear hS; intro w hS; (try simp only [List.set_cons_zero, List.set_cons_succ, Nat.zero_add] at hS)) | (refine M_ap hS ?_; clear hS; intro g cap w hS) | refine M_pn ?_) | refine X_k (by (try simp only [Fm.toList, List.set_cons_succ, List.set_cons_zero]); exact rfl) ?_ | refine S_u ?_ | refine S_v ?_ | refine C_sq ?_ | refine C_rg ?_ | refine L_nil ?_ | refine C_bk ?_ | refine C_ct ?_ | refine C_cf ?_ | refine C_sk ?_ | refine C_ex ?_ | refine C_rt ?_ | refine X_e ?_ | refine X_r ?_ | refine X_bh ?_ | refine X_be ?_ | refine X_br ?_ | refine X_bn ?_ | refine X_p ?_ | refine X_bp ?_)
    refine V_1 ⟨_, _, rfl, hS.rowOwnM, hS.fr⟩
end Go.Proofs.Ytcholfpomalgdaa
