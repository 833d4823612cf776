/-
  strings.Builder: what its methods leave, in the words of the walk.
-/
import Derived.Test.YtcholfpomalgdaaEE
import Derived.Test.YtcholfpomalgdaaFormat
import Derived.Lib.AppendStr
namespace Go.Proofs.Ytcholfpomalgdaa
open Go.RowKit

section
variable {P : Program} {w : World}
theorem run_append_str_at (t u ty e : TypeId) (i : TypeInfo) (ht : P.underlying t = some (.slice e)) (hu : P.underlying u = some .string) (hi : P.info? e = some i) (hz : i.zero = some (.int .u8 0)) (hsize : i.size = 1) (hby : i.bytes = 1)
    (v : Value) (n : Nat) (xs : List Value) (hown : w.ownsRow 0 e 1 v n xs) (s : ByteArray) (hb : n + s.size ≤ 4294967296) :
    ∃ v' w', (Builtin.append_ #[t, u] ty #[v, .string s]).run P w = .ok v' w' ∧ w'.ownsRow 0 e 1 v' (n + s.size) (xs ++ Lib.strCells s) ∧ w.grownBy w' v.ownBlock ∧ ∀ b, v'.ownBlock = some b → v.ownBlock = some b ∨ w.heap.size ≤ b := by
  have h63 : n + s.size ≤ maxLen := by unfold maxLen; omega
  obtain ⟨v', w', hr, ho, hg, _⟩ := Lib.run_append_own_string w 0 t u ty e i ht hu hi hz hsize hby v n xs hown s h63 (by omega) (Nat.zero_le _)
  refine ⟨v', w', hr, ho, hg, fun b hb' => ?_⟩
  have hown0 := hown
  rcases hown.2 with ⟨rfl, rfl⟩ | ⟨g, cap, cur, rfl, _, hgh, hnc, hcm, hcs, htake⟩
  · have hxl : xs.length = 0 := by simpa using hown.1
    have hx : xs = [] := List.eq_nil_of_length_eq_zero hxl
    subst hx
    obtain ⟨v2, w2, hr2, ho2, _, _⟩ := Lib.run_append_own_string w w.heap.size t u ty e i ht hu hi hz hsize hby (.slice none 0 0) 0 [] (World.ownsRow_nil _ _ _ _) s h63 (by omega) (Nat.le_refl _)
    rw [hr] at hr2
    cases hr2
    exact .inr (ho2.lt b hb').1
  · by_cases hroom : n + s.size ≤ cap
    · have hcs' : cur.size = cap := by simpa using hcs
      have hr2 := Lib.run_append_room_string (P := P) w t u ty e i ht hu hi hsize g n cap cur hgh s hroom (by omega)
      rw [hr] at hr2
      cases hr2
      exact .inl hb'
    · have holds : ∀ j u, xs[j]? = some u → w.cell? ((⟨g, 0, none⟩ : Addr).add j) = some u := hown0.cells (g := g) rfl
      have hxl : xs.length = n := by simpa using hown.1
      have hr2 := Lib.run_append_grow_string (P := P) w t u ty e i (.int .u8 0) ht hu hi hz ⟨g, 0, none⟩ n cap xs (by rw [hsize]; simpa using hxl) holds s (by omega) (by omega) (by rw [hby]; exact growslice_fits (by omega) (by omega))
      rw [hr] at hr2
      cases hr2
      cases hb'
      exact .inr (Nat.le_refl _)
end
section
variable {P : Program} {ops : Array Oper} {Q : Exit → Act → World → Prop} {rest : List Oper} {o : Oper} {l : Fm} {ds : List Deferred} {w : World}
variable {F : Nat → Prop} {w0 : World} {rs rs' : List Res} {x y : Operand} {t u e : TypeId} {d : Nat} {v : Value}
def byteT (P : Program) (e : TypeId) : Bool := match P.info? e with | some i => i.size == 1 && i.bytes == 1 && (match i.zero with | some (.int .u8 0) => true | _ => false) | none => false
theorem strCells_bytes (L : List UInt8) : Lib.strCells ⟨L.toArray⟩ = Lib.byteCells L := by simp [Lib.strCells, Lib.byteCells]
/-- a string's bytes appended -/
theorem M_as {ar : Array Operand} {ts : Array TypeId} {n : Nat} {xs : List Value} {L : List UInt8} {mk : Value → Nat → List Value → List Res} (hS : St F w0 rs w)
    (k : ∀ A' c' w', St F w0 (mk (.slice A' (n + L.length) c') (n + L.length) (xs ++ Lib.byteCells L)) w' → WL P ops Q rest (l.upd d (.slice A' (n + L.length) c')) ds w')
    (ho : o.op = .call { callee := .builtin .append, args := ar, argTypes := ts } := by rfl) (hd : o.dst = some d := by rfl) (har : ar.toList = [x, y] := by rfl) (hts : ts.toList = [t, u] := by rfl) (ht : elemT P t = some e := by rfl) (hut : P.underlying u = some .string := by rfl)
    (hx : lk l x = some v := by rfl) (hy : lk l y = some (.string ⟨L.toArray⟩) := by rfl) (hr : HasRow rs e v 1 n xs := by infer_instance)
    (hu : PutRow rs e v 1 n xs mk := by infer_instance) (hi : byteT P e = true := by rfl) (hn : n + L.length ≤ 4294967296 := by omega) : SStep P ops Q rest o l ds w := by
  obtain rfl : ar = #[x, y] := by cases ar; simp_all
  obtain rfl : ts = #[t, u] := by cases ts; simp_all
  unfold byteT at hi
  cases hq : P.info? e with
  | none => rw [hq] at hi; cases hi
  | some i =>
    rw [hq] at hi
    simp only [Bool.and_eq_true, beq_iff_eq] at hi
    have hz : i.zero = some (.int .u8 0) := by
      revert hi
      split
      · rename_i h; exact fun _ => h
      · intro h; cases h.2
    have hown : w.ownsRow 0 e 1 v n xs := hS.get hr.mem
    obtain ⟨v', w', hrun, hown', hgr, hblk⟩ := run_append_str_at (P := P) t u o.type e i (elemT_ok ht) hut hq hz hi.1.1 hi.1.2 v n xs hown ⟨L.toArray⟩ (by simpa [ByteArray.size] using hn)
    rw [strCells_bytes] at hown'
    have e1 := lk_eval (ds := ds) hx
    have e2 := lk_eval (ds := ds) hy
    have hsz : (ByteArray.mk L.toArray).size = L.length := by simp [ByteArray.size]
    rw [hsz] at hown'
    obtain ⟨A', c', rfl, _, _⟩ := ownsRow_slice hown'
    refine S_ok hd (w' := w') (v := .slice A' (n + L.length) c') ?_ (k A' c' w' (hS.upd (hu.upd _ _ _) rfl ⟨hgr.os, hgr.tape, hgr.output, hgr.size, fun i hi hne => hgr.block i hi fun h => hne h.symm⟩ hown' hblk))
    generalize (Act.mk l.arr ds).eval = ρ at e1 e2 ⊢
    unfold execOp
    simp only [ho, resolve, invoke, builtin, Sem.run_bind, Sem.run_pure, Result.andThen_ok, List.map_toArray, List.map_cons, List.map_nil, e1, e2, hrun]
end
section
variable {F : Nat → Prop} {w0 w : World} {rs : List Res} {bb : Nat} {L : List UInt8}
/-- a builder that holds L -/
def Bst (F : Nat → Prop) (w0 : World) (bb : Nat) (L : List UInt8) (rs : List Res) (w : World) : Prop :=
  ∃ p s : Value, (p = .pointer none ∨ p = .pointer (some ⟨bb, 0, none⟩)) ∧ St F w0 (Res.obj bb (.cells [p, s].toArray 56 (0, 0)) :: Res.row 5 1 s L.length (Lib.byteCells L) :: rs) w
theorem copyC {p s : Value} (hp : p = .pointer none ∨ p = .pointer (some ⟨bb, 0, none⟩)) (hS : St F w0 (Res.obj bb (.cells [p, s].toArray 56 (0, 0)) :: rs) w) :
    CallsR Try.prog 49 #[.pointer (some ⟨bb, 0, none⟩)] w fun r w' => r = .tuple #[] ∧ St F w0 (Res.obj bb (.cells [.pointer (some ⟨bb, 0, none⟩), s].toArray 56 (0, 0)) :: rs) w' := by
  have hh : w.heap[bb]? = some (.cells [p, s].toArray 56 (0, 0)) := hS.get (List.mem_cons_self ..)
  rcases hp with rfl | rfl
  · refine Calls.mono (copyCheck_fresh bb w (hS.cell (List.mem_cons_self ..) rfl) (by simp [World.shape?, hh]) (by simp [World.frozen?, hh])) ?_
    rintro e w' ⟨rfl, rfl⟩
    exact ⟨_, rfl, rfl, hS.setCell (c := [.pointer none, s]) (off := 0) .here⟩
  · refine Calls.mono (copyCheck_used bb w (hS.cell (List.mem_cons_self ..) rfl)) ?_
    rintro e w' ⟨rfl, rfl⟩
    exact ⟨_, rfl, rfl, hS⟩
set_option maxHeartbeats 4000000 in
set_option maxRecDepth 100000 in
theorem writeB (c : UInt8) (h : Bst F w0 bb L rs w) (hL : L.length ≤ 4294967295) : CallsR Try.prog 29 #[.pointer (some ⟨bb, 0, none⟩), .int .u8 (c.toNat : Int)] w fun r w' => r = .nilIface ∧ Bst F w0 bb (L ++ [c]) rs w' := by
  obtain ⟨p, s, hp, hS⟩ := h
  refine E_r (m := 15) ?_ Try.func29 rfl Try.ntmps29 rfl; refine C_ft ?_
  repeat (first | (refine S_w ?_; first | (refine M_c (copyC hp hS) ?_) | (refine S_y hS ?_) | ((first | refine M_bA hS ?_ | refine M_b1 hS ?_ | refine M_aA hS ?_ | refine M_a1 hS ?_ | refine M_sl hS ?_ | refine M_s1 hS ?_ | refine M_mm hS ?_); clear hS; intro b w hS) | ((first | refine M_st hS ?_ | refine M_sA hS ?_ | refine M_in hS ?_ | refine M_sR hS ?_); clear hS; intro w hS; (try simp only [List.set_cons_zero, List.set_cons_succ, Nat.zero_add] at hS)) | (refine M_ap hS ?_; clear hS; intro g cap w hS) | refine M_pn ?_) | refine X_k (by (try simp only [Fm.toList, List.set_cons_succ, List.set_cons_zero]); exact rfl) ?_ | refine S_u ?_ | refine S_v ?_ | refine C_sq ?_ | refine C_rg ?_ | refine L_nil ?_ | refine C_bk ?_ | refine C_ct ?_ | refine C_cf ?_ | refine C_sk ?_ | refine C_ex ?_ | refine C_rt ?_ | refine X_e ?_ | refine X_r ?_ | refine X_bh ?_ | refine X_be ?_ | refine X_br ?_ | refine X_bn ?_ | refine X_p ?_ | refine X_bp ?_)
  rintro _ w1 ⟨rfl, hS⟩
  clear hp
  repeat (first | (refine S_w ?_; first | (refine S_y hS ?_) | ((first | refine M_bA hS ?_ | refine M_b1 hS ?_ | refine M_aA hS ?_ | refine M_a1 hS ?_ | refine M_sl hS ?_ | refine M_s1 hS ?_ | refine M_mm hS ?_); clear hS; intro b w hS) | ((first | refine M_st hS ?_ | refine M_sA hS ?_ | refine M_in hS ?_ | refine M_sR hS ?_); clear hS; intro w hS; (try simp only [List.set_cons_zero, List.set_cons_succ, Nat.zero_add] at hS)) | (refine M_ap hS ?_; clear hS; intro g cap w hS) | refine M_pn ?_) | refine X_k (by (try simp only [Fm.toList, List.set_cons_succ, List.set_cons_zero]); exact rfl) ?_ | refine S_u ?_ | refine S_v ?_ | refine C_sq ?_ | refine C_rg ?_ | refine L_nil ?_ | refine C_bk ?_ | refine C_ct ?_ | refine C_cf ?_ | refine C_sk ?_ | refine C_ex ?_ | refine C_rt ?_ | refine X_e ?_ | refine X_r ?_ | refine X_bh ?_ | refine X_be ?_ | refine X_br ?_ | refine X_bn ?_ | refine X_p ?_ | refine X_bp ?_)
  refine V_1 ⟨rfl, .pointer (some ⟨bb, 0, none⟩), .slice (some ⟨g, 0, none⟩) (L.length + 1) cap, .inr rfl, ?_⟩
  have e1 : Lib.byteCells (L ++ [c]) = Lib.byteCells L ++ [.int .u8 c.toNat] := by simp [Lib.byteCells]
  have e2 : (L ++ [c]).length = L.length + 1 := by simp
  rw [e1, e2]
  exact hS.sb
set_option maxHeartbeats 4000000 in
set_option maxRecDepth 100000 in
theorem writeS (M : List UInt8) (h : Bst F w0 bb L rs w) (hL : L.length + M.length ≤ 4294967295) : CallsR Try.prog 31 #[.pointer (some ⟨bb, 0, none⟩), .string ⟨M.toArray⟩] w fun r w' => (∃ u, r = u) ∧ Bst F w0 bb (L ++ M) rs w' := by
  obtain ⟨p, s, hp, hS⟩ := h
  refine E_r (m := 17) ?_ Try.func31 rfl Try.ntmps31 rfl; refine C_ft ?_
  repeat (first | (refine S_w ?_; first | (refine M_c (copyC hp hS) ?_) | (refine S_y hS ?_) | ((first | refine M_bA hS ?_ | refine M_b1 hS ?_ | refine M_aA hS ?_ | refine M_a1 hS ?_ | refine M_sl hS ?_ | refine M_s1 hS ?_ | refine M_mm hS ?_); clear hS; intro b w hS) | ((first | refine M_st hS ?_ | refine M_sA hS ?_ | refine M_in hS ?_ | refine M_sR hS ?_); clear hS; intro w hS; (try simp only [List.set_cons_zero, List.set_cons_succ, Nat.zero_add] at hS)) | (refine M_ap hS ?_; clear hS; intro g cap w hS) | refine M_pn ?_) | refine X_k (by (try simp only [Fm.toList, List.set_cons_succ, List.set_cons_zero]); exact rfl) ?_ | refine S_u ?_ | refine S_v ?_ | refine C_sq ?_ | refine C_rg ?_ | refine L_nil ?_ | refine C_bk ?_ | refine C_ct ?_ | refine C_cf ?_ | refine C_sk ?_ | refine C_ex ?_ | refine C_rt ?_ | refine X_e ?_ | refine X_r ?_ | refine X_bh ?_ | refine X_be ?_ | refine X_br ?_ | refine X_bn ?_ | refine X_p ?_ | refine X_bp ?_)
  rintro _ w1 ⟨rfl, hS⟩
  clear hp
  repeat (first | (refine S_w ?_; first | (refine M_as hS ?_; clear hS; intro A1 c1 w hS) | (refine S_y hS ?_) | ((first | refine M_bA hS ?_ | refine M_b1 hS ?_ | refine M_aA hS ?_ | refine M_a1 hS ?_ | refine M_sl hS ?_ | refine M_s1 hS ?_ | refine M_mm hS ?_); clear hS; intro b w hS) | ((first | refine M_st hS ?_ | refine M_sA hS ?_ | refine M_in hS ?_ | refine M_sR hS ?_); clear hS; intro w hS; (try simp only [List.set_cons_zero, List.set_cons_succ, Nat.zero_add] at hS)) | (refine M_ap hS ?_; clear hS; intro g cap w hS) | refine M_pn ?_) | refine X_k (by (try simp only [Fm.toList, List.set_cons_succ, List.set_cons_zero]); exact rfl) ?_ | refine S_u ?_ | refine S_v ?_ | refine C_sq ?_ | refine C_rg ?_ | refine L_nil ?_ | refine C_bk ?_ | refine C_ct ?_ | refine C_cf ?_ | refine C_sk ?_ | refine C_ex ?_ | refine C_rt ?_ | refine X_e ?_ | refine X_r ?_ | refine X_bh ?_ | refine X_be ?_ | refine X_br ?_ | refine X_bn ?_ | refine X_p ?_ | refine X_bp ?_)
  refine V_2 ⟨⟨_, rfl⟩, .pointer (some ⟨bb, 0, none⟩), .slice A1 (L.length + M.length) c1, .inr rfl, ?_⟩
  have e1 : Lib.byteCells (L ++ M) = Lib.byteCells L ++ Lib.byteCells M := by simp [Lib.byteCells]
  have e2 : (L ++ M).length = L.length + M.length := by simp
  rw [e1, e2]
  exact hS.sb
theorem strR (hF : ∀ b, ¬ F b) (h : Bst F w0 bb L rs w) : CallsR Try.prog 33 #[.pointer (some ⟨bb, 0, none⟩)] w fun r w' => r = .string ⟨L.toArray⟩ ∧ Fr Nof w0 w' := by
  obtain ⟨p, s, hp, hS⟩ := h
  have hh : w.heap[bb]? = some (.cells [p, s].toArray 56 (0, 0)) := hS.get (List.mem_cons_self ..)
  have hb0 : w0.heap.size ≤ bb := (hS.own _ (List.mem_cons_self ..) rfl bb rfl).resolve_left (hF bb)
  have hr : w.ownsRow 0 5 1 s L.length (Lib.byteCells L) := hS.get (List.mem_cons_of_mem _ (List.mem_cons_self ..))
  have hrow : w.ownsRow w0.heap.size 5 1 s L.length (Lib.byteCells L) := by
    refine ⟨hr.1, ?_⟩
    rcases hr.2 with h2 | ⟨g, cap, cur, hv, _, r⟩
    · exact .inl h2
    · refine .inr ⟨g, cap, cur, hv, ?_, r⟩
      exact (hS.own (Res.row 5 1 s L.length (Lib.byteCells L)) (List.mem_cons_of_mem _ (List.mem_cons_self ..)) rfl g (by subst hv; rfl)).resolve_left (hF g)
  have hap : s.ownBlock ≠ some bb := fun he => by
    have := (List.pairwise_cons.1 hS.apart).1 (Res.row 5 1 s L.length (Lib.byteCells L)) (List.mem_cons_self ..)
    rcases this with ⟨h1, _⟩ | h1
    · cases h1
    · exact h1 bb rfl he
  have hlen : (Lib.byteCells L).length = L.length := byteCells_len L
  have hB : Lib.BuilderAt 56 5 w0.heap.size bb p (Lib.byteCells L) w := ⟨hb0, s, hh, by rw [hlen]; exact hrow, hap⟩
  refine Calls.mono (Try.Builder_String_any w0.heap.size bb L w (hp.elim (fun h => .inl (h ▸ hB)) (fun h => .inr (h ▸ hB))) hS.fr.size) ?_
  rintro e w' ⟨rfl, hbl⟩
  refine ⟨_, rfl, rfl, ?_⟩
  have h1 : Fr Nof w0 w := hS.fr.mono fun i _ h => (hF i h).elim
  exact ⟨hbl.os.trans h1.os, hbl.tape.trans h1.tape, hbl.output.trans h1.output, Nat.le_trans h1.size hbl.size, fun b hb hn => (hbl.block b hb).trans (h1.keep b hb hn)⟩
end
end Go.Proofs.Ytcholfpomalgdaa
