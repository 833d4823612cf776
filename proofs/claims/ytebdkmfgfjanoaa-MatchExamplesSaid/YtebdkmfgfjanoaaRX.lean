/-
  strings.Builder: what its methods leave, in the words of the walk.
-/
import Derived.Test.YtebdkmfgfjanoaaEE
import Derived.Test.YtebdkmfgfjanoaaCD
import Derived.Lib.AppendStr
import Derived.Test.YtebdkmfgfjanoaaRxChk
namespace Go.Proofs.Ytebdkmfgfjanoaa
open Go.RowKit

section
variable {P : Program} {w : World}
theorem run_append_str_at (t u ty e : TypeId) (i : TypeInfo) (ht : P.underlying t = some (.slice e)) (hu : P.underlying u = some .string) (hi : P.info? e = some i) (hz : i.zero = some (.int .u8 0)) (hsize : i.size = 1) (hby : i.bytes = 1)
    (v : Value) (n : Nat) (xs : List Value) (hown : w.ownsRow 0 e 1 v n xs) (s : ByteArray) (hb : n + s.size ≤ 4294967296) :
    ∃ v' w', (Builtin.append_ #[t, u] ty #[v, .string s]).run P w = .ok v' w' ∧ w'.ownsRow 0 e 1 v' (n + s.size) (xs ++ Lib.strCells s) ∧ w.grownBy w' v.ownBlock ∧ ∀ b, v'.ownBlock = some b → v.ownBlock = some b ∨ w.heap.size ≤ b := by
  have h63 : n + s.size ≤ maxLen := by unfold maxLen; omega
  obtain ⟨v', w', hr, ho, hg, _⟩ := Lib.run_append_own_string w 0 t u ty e i ht hu hi hz hsize hby v n xs hown s h63 (by omega) (Nat.zero_le _)
  refine ⟨v', w', hr, ho, hg, fun b hb' => ?_⟩
  have hown0 := hown
  rcases hown.2 with ⟨rfl, rfl⟩ | ⟨g, cap, cur, rfl, _, hgh, hnc, hcm, hcs, htake⟩
  · have hxl : xs.length = 0 := by simpa using hown.1
    have hx : xs = [] := List.eq_nil_of_length_eq_zero hxl
    subst hx
    obtain ⟨v2, w2, hr2, ho2, _, _⟩ := Lib.run_append_own_string w w.heap.size t u ty e i ht hu hi hz hsize hby (.slice none 0 0) 0 [] (World.ownsRow_nil _ _ _ _) s h63 (by omega) (Nat.le_refl _)
    rw [hr] at hr2
    cases hr2
    exact .inr (ho2.lt b hb').1
  · by_cases hroom : n + s.size ≤ cap
    · have hcs' : cur.size = cap := by simpa using hcs
      have hr2 := Lib.run_append_room_string (P := P) w t u ty e i ht hu hi hsize g n cap cur hgh s hroom (by omega)
      rw [hr] at hr2
      cases hr2
      exact .inl hb'
    · have holds : ∀ j u, xs[j]? = some u → w.cell? ((⟨g, 0, none⟩ : Addr).add j) = some u := hown0.cells (g := g) rfl
      have hxl : xs.length = n := by simpa using hown.1
      have hr2 := Lib.run_append_grow_string (P := P) w t u ty e i (.int .u8 0) ht hu hi hz ⟨g, 0, none⟩ n cap xs (by rw [hsize]; simpa using hxl) holds s (by omega) (by omega) (by rw [hby]; exact growslice_fits (by omega) (by omega))
      rw [hr] at hr2
      cases hr2
      cases hb'
      exact .inr (Nat.le_refl _)
end
section
variable {P : Program} {ops : Array Oper} {Q : Exit → Act → World → Prop} {rest : List Oper} {o : Oper} {l : Fm} {ds : List Deferred} {w : World}
variable {F : Nat → Prop} {w0 : World} {rs rs' : List Res} {x y : Operand} {t u e : TypeId} {d : Nat} {v : Value}
def byteT (P : Program) (e : TypeId) : Bool := match P.info? e with | some i => i.size == 1 && i.bytes == 1 && (match i.zero with | some (.int .u8 0) => true | _ => false) | none => false
theorem strCells_bytes (L : List UInt8) : Lib.strCells ⟨L.toArray⟩ = Lib.byteCells L := by simp [Lib.strCells, Lib.byteCells]
/-- a string's bytes appended -/
theorem M_as {ar : Array Operand} {ts : Array TypeId} {n : Nat} {xs : List Value} {L : List UInt8} {mk : Value → Nat → List Value → List Res} (hS : St F w0 rs w)
    (k : ∀ A' c' w', St F w0 (mk (.slice A' (n + L.length) c') (n + L.length) (xs ++ Lib.byteCells L)) w' → WL P ops Q rest (l.upd d (.slice A' (n + L.length) c')) ds w')
    (ho : o.op = .call { callee := .builtin .append, args := ar, argTypes := ts } := by rfl) (hd : o.dst = some d := by rfl) (har : ar.toList = [x, y] := by rfl) (hts : ts.toList = [t, u] := by rfl) (ht : elemT P t = some e := by rfl) (hut : P.underlying u = some .string := by rfl)
    (hx : lk l x = some v := by rfl) (hy : lk l y = some (.string ⟨L.toArray⟩) := by rfl) (hr : HasRow rs e v 1 n xs := by infer_instance)
    (hu : PutRow rs e v 1 n xs mk := by infer_instance) (hi : byteT P e = true := by rfl) (hn : n + L.length ≤ 4294967296 := by omega) : SStep P ops Q rest o l ds w := by
  obtain rfl : ar = #[x, y] := by cases ar; simp_all
  obtain rfl : ts = #[t, u] := by cases ts; simp_all
  unfold byteT at hi
  cases hq : P.info? e with
  | none => rw [hq] at hi; cases hi
  | some i =>
    rw [hq] at hi
    simp only [Bool.and_eq_true, beq_iff_eq] at hi
    have hz : i.zero = some (.int .u8 0) := by
      revert hi
      split
      · rename_i h; exact fun _ => h
      · intro h; cases h.2
    have hown : w.ownsRow 0 e 1 v n xs := hS.get hr.mem
    obtain ⟨v', w', hrun, hown', hgr, hblk⟩ := run_append_str_at (P := P) t u o.type e i (elemT_ok ht) hut hq hz hi.1.1 hi.1.2 v n xs hown ⟨L.toArray⟩ (by simpa [ByteArray.size] using hn)
    rw [strCells_bytes] at hown'
    have e1 := lk_eval (ds := ds) hx
    have e2 := lk_eval (ds := ds) hy
    have hsz : (ByteArray.mk L.toArray).size = L.length := by simp [ByteArray.size]
    rw [hsz] at hown'
    obtain ⟨A', c', rfl, _, _⟩ := ownsRow_slice hown'
    refine S_ok hd (w' := w') (v := .slice A' (n + L.length) c') ?_ (k A' c' w' (hS.upd (hu.upd _ _ _) rfl ⟨hgr.os, hgr.tape, hgr.output, hgr.size, fun i hi hne => hgr.block i hi fun h => hne h.symm⟩ hown' hblk))
    generalize (Act.mk l.arr ds).eval = ρ at e1 e2 ⊢
    unfold execOp
    simp only [ho, resolve, invoke, builtin, Sem.run_bind, Sem.run_pure, Result.andThen_ok, List.map_toArray, List.map_cons, List.map_nil, e1, e2, hrun]
end
section
variable {F : Nat → Prop} {w0 w : World} {rs : List Res} {bb : Nat} {L : List UInt8}
end
end Go.Proofs.Ytebdkmfgfjanoaa
/-
  The text of an expression.
-/
namespace Go.Proofs.Ytebdkmfgfjanoaa
open Go.RowKit

def T.text : T → List UInt8
  | .none => [48]
  | .empty => [49]
  | .letter p n => 91 :: (fmtText p n ++ [93])
  | .un op a => opB op ++ (a.text ++ (opM op ++ opA op))
  | .bin op a b => opB op ++ (a.text ++ (opM op ++ (b.text ++ opA op)))
theorem opB_len (op : Nat) : (opB op).length ≤ 2 := by unfold opB; (repeat' split) <;> simp
theorem opM_len (op : Nat) : (opM op).length ≤ 1 := by unfold opM; (repeat' split) <;> simp
theorem opA_len (op : Nat) : (opA op).length ≤ 2 := by unfold opA; (repeat' split) <;> simp
theorem fmtText_len (p n : Nat) : (fmtText p n).length ≤ 32 := by
  unfold fmtText
  split
  · simp
  · have := litsText_len (lits p n); have := litTo_len p n 8; unfold lits at *; omega
theorem T.text_len : ∀ t : T, t.text.length ≤ 34 * t.size
  | .none => by simp [T.text, T.size]
  | .empty => by simp [T.text, T.size]
  | .letter p n => by have := fmtText_len p n; simp [T.text, T.size]; omega
  | .un op a => by have := T.text_len a; have := opB_len op; have := opM_len op; have := opA_len op; simp [T.text, T.size]; omega
  | .bin op a b => by have := T.text_len a; have := T.text_len b; have := opB_len op; have := opM_len op; have := opA_len op; simp [T.text, T.size]; omega
theorem wf_letter {p n : Nat} {v : Int} (h : chk p n v = 0) : p < 64 ∧ n < 64 ∧ p &&& n = 0 := by
  have h1 : ¬ (v < 0 ∨ 6 < v) := fun h' => by rw [chk_out h'] at h; cases h
  obtain ⟨k, rfl⟩ := Int.eq_ofNat_of_zero_le (show 0 ≤ v by omega)
  obtain ⟨z1, z2, z3⟩ := chk_zero (show k ≤ 6 by omega) h
  have := two_le6 (show k ≤ 6 by omega)
  exact ⟨by omega, by omega, z3⟩
section
variable {F : Nat → Prop} {w0 w : World} {rs : List Res} {a b c d : Res}
theorem St.perm {rs' : List Res} (h : St F w0 rs w) (hp : rs.Perm rs') : St F w0 rs' w :=
  ⟨h.fr, fun r hr => h.all r (hp.mem_iff.2 hr), (hp.pairwise_iff Res.apart_symm).1 h.apart, fun r hr => h.own r (hp.mem_iff.2 hr)⟩
theorem St.p3 (h : St F w0 (a :: b :: c :: rs) w) : St F w0 (b :: c :: a :: rs) w :=
  h.perm ((List.Perm.swap b a (c :: rs)).trans (List.Perm.cons b (List.Perm.swap c a rs)))
theorem St.p4 (h : St F w0 (a :: b :: c :: d :: rs) w) : St F w0 (c :: d :: a :: b :: rs) w :=
  h.perm ((List.perm_append_comm (l₁ := [a, b]) (l₂ := [c, d])).append_right rs)
end
end Go.Proofs.Ytebdkmfgfjanoaa
/-
  regex.Format: the text of an expression.
-/
namespace Go.Proofs.Ytebdkmfgfjanoaa
open Go.RowKit

section
variable (A : Option Addr) (n c : Nat) (L : List Pc) (be bb bv bw : Nat) (fty : TypeId)
def WArgs (i : Int) : Array Value := #[.int .i64 i, .pointer (some ⟨be, 0, none⟩), .pointer (some ⟨bb, 0, none⟩), .pointer (some ⟨bv, 0, none⟩), .pointer (some ⟨bw, 0, none⟩)]
end
end Go.Proofs.Ytebdkmfgfjanoaa
/-
  regex.Check, Plain, Format.
-/
namespace Go.Proofs.Ytebdkmfgfjanoaa
open Go.RowKit

theorem checkF {A : Option Addr} {n c : Nat} {L : List Pc} {v : Int} {W : World} (hA : Rd W 5 A n (rxCells L)) (hL : ∀ p ∈ L, p.ok) (hn : n ≤ 4294967296) :
    CallsR Try.prog 44 #[.slice A n c, .int .i64 v] W fun r w' => (∃ A' m c', r = .tuple #[.slice A' m c', .int .i64 (chkR L v)]) ∧ Fr Nof W w' :=
  (checkR A n c L v W hA hL hn).mono fun _ _ ⟨A', c', he, _, hf⟩ => ⟨⟨A', _, c', he⟩, hf⟩
set_option maxHeartbeats 4000000 in
set_option maxRecDepth 100000 in
theorem CheckR (A : Option Addr) (n c : Nat) (L : List Pc) (v : Int) (W : World) (hA : Rd W 5 A n (rxCells L)) (hL : ∀ p ∈ L, p.ok) (hn : n ≤ 4294967296) :
    CallsR Try.prog 30 #[.slice A n c, .int .i64 v] W fun r w' => r = .int .i64 (chkR L v) ∧ Fr Nof W w' := by
  have hS := (St.start Nof W).addRo (r := Res.rd 5 A n (rxCells L)) hA rfl (fun _ h => by cases h)
  refine E_r (m := 12) ?_ Try.func30 rfl Try.ntmps30 rfl; refine C_ft ?_
  repeat (first | (refine S_w ?_; first | (refine M_c (checkF ((inferInstance : HasSl _ A _ _ _).rd hS) hL hn) ?_) | (refine S_y hS ?_) | ((first | refine M_bA hS ?_ | refine M_b1 hS ?_ | refine M_aA hS ?_ | refine M_a1 hS ?_ | refine M_sl hS ?_ | refine M_s1 hS ?_ | refine M_mm hS ?_); clear hS; intro b w hS) | ((first | refine M_st hS ?_ | refine M_sA hS ?_ | refine M_in hS ?_ | refine M_sR hS ?_); clear hS; intro w hS; (try simp only [List.set_cons_zero, List.set_cons_succ, Nat.zero_add] at hS)) | (refine M_ap hS ?_; clear hS; intro g cap w hS) | refine M_pn ?_) | refine X_k (by (try simp only [Fm.toList, List.set_cons_succ, List.set_cons_zero]); exact rfl) ?_ | refine S_u ?_ | refine S_v ?_ | refine C_sq ?_ | refine C_rg ?_ | refine L_nil ?_ | refine C_bk ?_ | refine C_ct ?_ | refine C_cf ?_ | refine C_sk ?_ | refine C_ex ?_ | refine C_rt ?_ | refine X_e ?_ | refine X_r ?_ | refine X_bh ?_ | refine X_be ?_ | refine X_br ?_ | refine X_bn ?_ | refine X_p ?_ | refine X_bp ?_)
  rintro _ w1 ⟨⟨A1, m, c1, rfl⟩, hb1⟩
  have hS := hS.call hb1
  repeat (first | (refine S_w ?_; first | (refine S_y hS ?_) | ((first | refine M_bA hS ?_ | refine M_b1 hS ?_ | refine M_aA hS ?_ | refine M_a1 hS ?_ | refine M_sl hS ?_ | refine M_s1 hS ?_ | refine M_mm hS ?_); clear hS; intro b w hS) | ((first | refine M_st hS ?_ | refine M_sA hS ?_ | refine M_in hS ?_ | refine M_sR hS ?_); clear hS; intro w hS; (try simp only [List.set_cons_zero, List.set_cons_succ, Nat.zero_add] at hS)) | (refine M_ap hS ?_; clear hS; intro g cap w hS) | refine M_pn ?_) | refine X_k (by (try simp only [Fm.toList, List.set_cons_succ, List.set_cons_zero]); exact rfl) ?_ | refine S_u ?_ | refine S_v ?_ | refine C_sq ?_ | refine C_rg ?_ | refine L_nil ?_ | refine C_bk ?_ | refine C_ct ?_ | refine C_cf ?_ | refine C_sk ?_ | refine C_ex ?_ | refine C_rt ?_ | refine X_e ?_ | refine X_r ?_ | refine X_bh ?_ | refine X_be ?_ | refine X_br ?_ | refine X_bn ?_ | refine X_p ?_ | refine X_bp ?_)
  refine V_1 ⟨rfl, hS.fr⟩
/-- the tree of a valid list -/
theorem chk_tree {L : List Pc} {v : Int} (h : chkR L v = 0) : ∃ t : T, (stkRun v L []) = (0, [t]) ∧ t.wf v ∧ t.free true = true ∧ t.size ≤ 64 ∧ L = t.flat 0 ∧ 0 ≤ v ∧ v ≤ 6 := by
  obtain ⟨hv, t, h1, h2, h3, h4⟩ := chkR_zero.1 h
  refine ⟨t, ?_, h1, h2, h3, h4, hv⟩
  subst h4
  have := stkRun_tree (v := v) t [] [] h1
  simpa [stkSize, stkRun] using this
def treeOf (L : List Pc) (v : Int) : Option T := if chkR L v = 0 then (stkRun v L []).2.head? else none
def fmtR (L : List Pc) (v : Int) : List UInt8 := match treeOf L v with | some t => t.text | none => []
theorem fmtR_tree {v : Int} {t : T} (hv : 0 ≤ v ∧ v ≤ 6) (h1 : t.wf v) (h2 : t.free true = true) (h3 : t.size ≤ 64) : treeOf (t.flat 0) v = some t := by
  have h : chkR (t.flat 0) v = 0 := chkR_zero.2 ⟨hv, t, h1, h2, h3, rfl⟩
  have := stkRun_tree (v := v) t [] [] h1
  have : stkRun v (t.flat 0) [] = (0, [t]) := by simpa [stkSize, stkRun] using this
  rw [treeOf, if_pos h, this]; rfl
theorem fmtR_bad {L : List Pc} {v : Int} (h : chkR L v ≠ 0) : fmtR L v = [] := by rw [fmtR, treeOf, if_neg h]
theorem fmtR_len (L : List Pc) (v : Int) : (fmtR L v).length ≤ 2176 := by
  by_cases h : chkR L v = 0
  · obtain ⟨t, _, h1, h2, h3, rfl, hv⟩ := chk_tree h
    rw [fmtR, fmtR_tree hv h1 h2 h3]
    have := T.text_len t
    simp only; omega
  · rw [fmtR_bad h]; simp
/-! Plain -/
def isLook (op : Nat) : Bool := op == 9 || op == 10
def plnB (L : List Pc) : Bool := L.all fun p => !isLook p.op
def plnR (L : List Pc) (v : Int) : Bool := if chkR L v = 0 then plnB L else false
theorem pln_take_succ {L : List Pc} {i : Nat} {p : Pc} (h : L[i]? = some p) : plnB (L.take (i + 1)) = (plnB (L.take i) && !isLook p.op) := by
  rw [plnB, List.take_add_one, h]; simp [plnB]
theorem pln_false {L : List Pc} {i : Nat} {p : Pc} (h : L[i]? = some p) (hp : isLook p.op = true) : plnB L = false := by
  rw [plnB, List.all_eq_false]
  exact ⟨p, List.mem_of_getElem? h, by simp [hp]⟩
set_option maxHeartbeats 4000000 in
set_option maxRecDepth 100000 in
theorem plainR (A : Option Addr) (n c : Nat) (L : List Pc) (v : Int) (W : World) (hA : Rd W 5 A n (rxCells L)) (hL : ∀ p ∈ L, p.ok) (hn : n ≤ 4294967296) :
    CallsR Try.prog 29 #[.slice A n c, .int .i64 v] W fun r w' => r = .tuple #[.bool (plnR L v), .int .i64 (chkR L v)] ∧ Fr Nof W w' := by
  have hl : L.length = n := by have := hA.1; rw [rxCells_len] at this; omega
  have hS := (St.start Nof W).addRo (r := Res.rd 5 A n (rxCells L)) hA rfl (fun _ h => by cases h)
  refine E_r (m := 32) ?_ Try.func29 rfl Try.ntmps29 rfl; refine C_ft ?_
  repeat (first | (refine S_w ?_; first | (refine M_c (checkF ((inferInstance : HasSl _ A _ _ _).rd hS) hL hn) ?_) | (refine S_y hS ?_) | ((first | refine M_bA hS ?_ | refine M_b1 hS ?_ | refine M_aA hS ?_ | refine M_a1 hS ?_ | refine M_sl hS ?_ | refine M_s1 hS ?_ | refine M_mm hS ?_); clear hS; intro b w hS) | ((first | refine M_st hS ?_ | refine M_sA hS ?_ | refine M_in hS ?_ | refine M_sR hS ?_); clear hS; intro w hS; (try simp only [List.set_cons_zero, List.set_cons_succ, Nat.zero_add] at hS)) | (refine M_ap hS ?_; clear hS; intro g cap w hS) | refine M_pn ?_) | refine X_k (by (try simp only [Fm.toList, List.set_cons_succ, List.set_cons_zero]); exact rfl) ?_ | refine S_u ?_ | refine S_v ?_ | refine C_sq ?_ | refine C_rg ?_ | refine L_nil ?_ | refine C_bk ?_ | refine C_ct ?_ | refine C_cf ?_ | refine C_sk ?_ | refine C_ex ?_ | refine C_rt ?_ | refine X_e ?_ | refine X_r ?_ | refine X_bh ?_ | refine X_be ?_ | refine X_br ?_ | refine X_bn ?_ | refine X_p ?_ | refine X_bp ?_)
  rintro _ w1 ⟨⟨A1, m, c1, rfl⟩, hb1⟩
  have hS := hS.call hb1
  by_cases he : chkR L v = 0
  · have hp : plnR L v = plnB L := if_pos he
    rw [he]
    repeat (first | (refine S_w ?_; first | (refine S_y hS ?_) | ((first | refine M_bA hS ?_ | refine M_b1 hS ?_ | refine M_aA hS ?_ | refine M_a1 hS ?_ | refine M_sl hS ?_ | refine M_s1 hS ?_ | refine M_mm hS ?_); clear hS; intro b w hS) | ((first | refine M_st hS ?_ | refine M_sA hS ?_ | refine M_in hS ?_ | refine M_sR hS ?_); clear hS; intro w hS; (try simp only [List.set_cons_zero, List.set_cons_succ, Nat.zero_add] at hS)) | (refine M_ap hS ?_; clear hS; intro g cap w hS) | refine M_pn ?_) | refine X_k (by (try simp only [Fm.toList, List.set_cons_succ, List.set_cons_zero]); exact rfl) ?_ | refine S_u ?_ | refine S_v ?_ | refine C_sq ?_ | refine C_rg ?_ | refine L_nil ?_ | refine C_bk ?_ | refine C_ct ?_ | refine C_cf ?_ | refine C_sk ?_ | refine C_ex ?_ | refine C_rt ?_ | refine X_e ?_ | refine X_r ?_ | refine X_bh ?_ | refine X_be ?_ | refine X_br ?_ | refine X_bn ?_ | refine X_p ?_ | refine X_bp ?_)
    refine C_lp [4, 2, 3, 1, 11, 13] (fun i : Nat => [(21, .int .i64 (i : Nat))]) (fun i w' => i ≤ n ∧ plnB (L.take i) = true ∧ St Nof W [Res.rd 5 A n (rxCells L)] w') (fun i => n - i) 0 ⟨Nat.zero_le _, rfl, hS⟩ ?_
    clear hS
    rintro i y w ⟨hi, hpl, hS⟩
    refine C_fs ?_
    by_cases hlt : i < n
    · obtain ⟨p, hx⟩ : ∃ p, L[i]? = some p := ⟨L[i], List.getElem?_eq_getElem (by omega)⟩
      have hpo := (hL p (List.mem_of_getElem? hx)).op
      have hpd := rxCells_drop hx
      by_cases h9 : p.op = 9
      · have hpf := pln_false hx (by rw [h9]; rfl)
        repeat (first | (refine S_w ?_; first | (refine S_y hS ?_) | ((first | refine M_bA hS ?_ | refine M_b1 hS ?_ | refine M_aA hS ?_ | refine M_a1 hS ?_ | refine M_sl hS ?_ | refine M_s1 hS ?_ | refine M_mm hS ?_); clear hS; intro b w hS) | ((first | refine M_st hS ?_ | refine M_sA hS ?_ | refine M_in hS ?_ | refine M_sR hS ?_); clear hS; intro w hS; (try simp only [List.set_cons_zero, List.set_cons_succ, Nat.zero_add] at hS)) | (refine M_ap hS ?_; clear hS; intro g cap w hS) | refine M_pn ?_) | refine X_k (by (try simp only [Fm.toList, List.set_cons_succ, List.set_cons_zero]); exact rfl) ?_ | refine S_u ?_ | refine S_v ?_ | refine C_sq ?_ | refine C_rg ?_ | refine L_nil ?_ | refine C_bk ?_ | refine C_ct ?_ | refine C_cf ?_ | refine C_sk ?_ | refine C_ex ?_ | refine C_rt ?_ | refine X_e ?_ | refine X_r ?_ | refine X_bh ?_ | refine X_be ?_ | refine X_br ?_ | refine X_bn ?_ | refine X_p ?_ | refine X_bp ?_)
        refine V_2 ⟨by rw [hp, hpf], hS.sub (List.Sublist.cons _ (List.Sublist.refl _)) |>.fr⟩
      · by_cases h10 : p.op = 10
        · have hpf := pln_false hx (by rw [h10]; rfl)
          repeat (first | (refine S_w ?_; first | (refine S_y hS ?_) | ((first | refine M_bA hS ?_ | refine M_b1 hS ?_ | refine M_aA hS ?_ | refine M_a1 hS ?_ | refine M_sl hS ?_ | refine M_s1 hS ?_ | refine M_mm hS ?_); clear hS; intro b w hS) | ((first | refine M_st hS ?_ | refine M_sA hS ?_ | refine M_in hS ?_ | refine M_sR hS ?_); clear hS; intro w hS; (try simp only [List.set_cons_zero, List.set_cons_succ, Nat.zero_add] at hS)) | (refine M_ap hS ?_; clear hS; intro g cap w hS) | refine M_pn ?_) | refine X_k (by (try simp only [Fm.toList, List.set_cons_succ, List.set_cons_zero]); exact rfl) ?_ | refine S_u ?_ | refine S_v ?_ | refine C_sq ?_ | refine C_rg ?_ | refine L_nil ?_ | refine C_bk ?_ | refine C_ct ?_ | refine C_cf ?_ | refine C_sk ?_ | refine C_ex ?_ | refine C_rt ?_ | refine X_e ?_ | refine X_r ?_ | refine X_bh ?_ | refine X_be ?_ | refine X_br ?_ | refine X_bn ?_ | refine X_p ?_ | refine X_bp ?_)
          refine V_2 ⟨by rw [hp, hpf], hS.sub (List.Sublist.cons _ (List.Sublist.refl _)) |>.fr⟩
        · have hnl : isLook p.op = false := by simp [isLook, h9, h10]
          have hs := pln_take_succ hx
          rw [hpl, hnl] at hs
          repeat (first | (refine S_w ?_; first | (refine S_y hS ?_) | ((first | refine M_bA hS ?_ | refine M_b1 hS ?_ | refine M_aA hS ?_ | refine M_a1 hS ?_ | refine M_sl hS ?_ | refine M_s1 hS ?_ | refine M_mm hS ?_); clear hS; intro b w hS) | ((first | refine M_st hS ?_ | refine M_sA hS ?_ | refine M_in hS ?_ | refine M_sR hS ?_); clear hS; intro w hS; (try simp only [List.set_cons_zero, List.set_cons_succ, Nat.zero_add] at hS)) | (refine M_ap hS ?_; clear hS; intro g cap w hS) | refine M_pn ?_) | refine X_k (by (try simp only [Fm.toList, List.set_cons_succ, List.set_cons_zero]); exact rfl) ?_ | refine S_u ?_ | refine S_v ?_ | refine C_sq ?_ | refine C_rg ?_ | refine L_nil ?_ | refine C_bk ?_ | refine C_ct ?_ | refine C_cf ?_ | refine C_sk ?_ | refine C_ex ?_ | refine C_rt ?_ | refine X_e ?_ | refine X_r ?_ | refine X_bh ?_ | refine X_be ?_ | refine X_br ?_ | refine X_bn ?_ | refine X_p ?_ | refine X_bp ?_)
          refine R_e (i + 1) ⟨by omega, hs, hS.sb⟩ (by omega)
    · obtain rfl : i = n := by omega
      rw [List.take_of_length_le (by omega)] at hpl
      repeat (first | (refine S_w ?_; first | (refine S_y hS ?_) | ((first | refine M_bA hS ?_ | refine M_b1 hS ?_ | refine M_aA hS ?_ | refine M_a1 hS ?_ | refine M_sl hS ?_ | refine M_s1 hS ?_ | refine M_mm hS ?_); clear hS; intro b w hS) | ((first | refine M_st hS ?_ | refine M_sA hS ?_ | refine M_in hS ?_ | refine M_sR hS ?_); clear hS; intro w hS; (try simp only [List.set_cons_zero, List.set_cons_succ, Nat.zero_add] at hS)) | (refine M_ap hS ?_; clear hS; intro g cap w hS) | refine M_pn ?_) | refine X_k (by (try simp only [Fm.toList, List.set_cons_succ, List.set_cons_zero]); exact rfl) ?_ | refine S_u ?_ | refine S_v ?_ | refine C_sq ?_ | refine C_rg ?_ | refine L_nil ?_ | refine C_bk ?_ | refine C_ct ?_ | refine C_cf ?_ | refine C_sk ?_ | refine C_ex ?_ | refine C_rt ?_ | refine X_e ?_ | refine X_r ?_ | refine X_bh ?_ | refine X_be ?_ | refine X_br ?_ | refine X_bn ?_ | refine X_p ?_ | refine X_bp ?_)
      refine V_2 ⟨by rw [hp, hpl], hS.fr⟩
  · have hp : plnR L v = false := if_neg he
    repeat (first | (refine S_w ?_; first | (refine S_y hS ?_) | ((first | refine M_bA hS ?_ | refine M_b1 hS ?_ | refine M_aA hS ?_ | refine M_a1 hS ?_ | refine M_sl hS ?_ | refine M_s1 hS ?_ | refine M_mm hS ?_); clear hS; intro b w hS) | ((first | refine M_st hS ?_ | refine M_sA hS ?_ | refine M_in hS ?_ | refine M_sR hS ?_); clear hS; intro w hS; (try simp only [List.set_cons_zero, List.set_cons_succ, Nat.zero_add] at hS)) | (refine M_ap hS ?_; clear hS; intro g cap w hS) | refine M_pn ?_) | refine X_k (by (try simp only [Fm.toList, List.set_cons_succ, List.set_cons_zero]); exact rfl) ?_ | refine S_u ?_ | refine S_v ?_ | refine C_sq ?_ | refine C_rg ?_ | refine L_nil ?_ | refine C_bk ?_ | refine C_ct ?_ | refine C_cf ?_ | refine C_sk ?_ | refine C_ex ?_ | refine C_rt ?_ | refine X_e ?_ | refine X_r ?_ | refine X_bh ?_ | refine X_be ?_ | refine X_br ?_ | refine X_bn ?_ | refine X_p ?_ | refine X_bp ?_)
    refine V_2 ⟨by rw [hp], hS.fr⟩
end Go.Proofs.Ytebdkmfgfjanoaa
/-
  Strings: pieces of them, a byte sought in them, cut at a byte.
-/
namespace Go.Proofs.Ytebdkmfgfjanoaa
open Go.RowKit

section
variable {P : Program} {rs : List Res} {o : Oper} {l : Fm} {x y z : Operand} {t : TypeId} {k k' : IntKind} {a : List UInt8} {i j : Int}
theorem take_drop_ba (a : List UInt8) (i j : Nat) : (ByteArray.mk a.toArray).extract i j = ⟨((a.take j).drop i).toArray⟩ := by
  apply ByteArray.ext
  simp [List.drop_take]
theorem Ysh (ho : o.op = .slice t x none (some z) none := by rfl) (hx : lk l x = some (.string ⟨a.toArray⟩) := by rfl) (hz : lk l z = some (.int k' j) := by rfl) (ht : P.underlying t = some .string := by rfl) (hj : 0 ≤ j ∧ j ≤ a.length := by first | omega | (simp <;> omega)) : Yl P rs l o (.string ⟨(a.take j.toNat).toArray⟩) := ⟨fun {_ _ w ds} _ => by
  unfold Ex execOp; rw [ho]; simp only [lk_eval hx, lk_eval hz, Option.map_some, Option.map_none]
  refine run_v ?_
  have hle : j ≤ ((ByteArray.mk a.toArray).size : Int) := by simpa [ByteArray.size] using hj.2
  have hb : (Instr.sliceBound (.int k' j) (ByteArray.mk a.toArray).size .sliceAlen).run P w = .ok j.toNat w := by
    simp only [Instr.sliceBound, asIntOf, Sem.run_bind, Sem.run_pure, Result.andThen_ok, if_pos (And.intro hj.1 hle)]
  have he := take_drop_ba a 0 j.toNat
  rw [List.drop_zero] at he
  simp only [Instr.sliceAt, Instr.slice, Instr.sliceBounds, Sem.run_bind, run_underlying ht, Result.andThen_ok, Sem.run_pure, Option.isSome_none, Bool.false_eq_true, if_false, hb, he]⟩
theorem Ysm (ho : o.op = .slice t x (some y) (some z) none := by rfl) (hx : lk l x = some (.string ⟨a.toArray⟩) := by rfl) (hy : lk l y = some (.int k i) := by rfl) (hz : lk l z = some (.int k' j) := by rfl) (ht : P.underlying t = some .string := by rfl) (hi : 0 ≤ i ∧ i ≤ j := by omega) (hj : j ≤ a.length := by first | omega | (simp <;> omega)) : Yl P rs l o (.string ⟨((a.take j.toNat).drop i.toNat).toArray⟩) := ⟨fun {_ _ w ds} _ => by
  unfold Ex execOp; rw [ho]; simp only [lk_eval hx, lk_eval hy, lk_eval hz, Option.map_some, Option.map_none]
  refine run_v ?_
  have hle : j ≤ ((ByteArray.mk a.toArray).size : Int) := by simpa [ByteArray.size] using hj
  have hb : (Instr.sliceBound (.int k' j) (ByteArray.mk a.toArray).size .sliceAlen).run P w = .ok j.toNat w := by
    simp only [Instr.sliceBound, asIntOf, Sem.run_bind, Sem.run_pure, Result.andThen_ok, if_pos (And.intro (show 0 ≤ j by omega) hle)]
  have hb2 : (Instr.sliceBound (.int k i) j.toNat .sliceB).run P w = .ok i.toNat w := by
    simp only [Instr.sliceBound, asIntOf, Sem.run_bind, Sem.run_pure, Result.andThen_ok, if_pos (show 0 ≤ i ∧ i ≤ (j.toNat : Int) by omega)]
  have he := take_drop_ba a i.toNat j.toNat
  simp only [Instr.sliceAt, Instr.slice, Instr.sliceBounds, Sem.run_bind, run_underlying ht, Result.andThen_ok, Sem.run_pure, Option.isSome_none, Bool.false_eq_true, if_false, hb, hb2, he]⟩
end
end Go.Proofs.Ytebdkmfgfjanoaa
