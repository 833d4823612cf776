/-
  A slice that is cut from the left and appended to. Nothing here names a function of the program.
-/
import Derived.Test.YtijmggoikieelaaDA
import Derived.ArgAppend
namespace Go.Proofs.Ytijmggoikieelaa
open Go.RowKit

/-- a slice somewhere in a block of one's own, elements of one cell -/
def Res.qu (e : TypeId) (A : Option Addr) (c n : Nat) (xs : List Value) : Res where
  fp := A.map (·.block)
  ro := false
  holds w := xs.length = n ∧ ∃ g off cur, A = some ⟨g, off, none⟩ ∧ w.heap[g]? = some (.cells cur e (0, 0)) ∧ n ≤ c ∧ off + c ≤ cur.size ∧ c ≤ maxLen ∧ (cur.toList.drop off).take n = xs
  loc {w w'} h hk := by
    obtain ⟨hx, g, off, cur, rfl, hh, r⟩ := h
    exact ⟨hx, g, off, cur, rfl, (hk g rfl).trans hh, r⟩
  lt {w} h b hb := by
    obtain ⟨_, g, off, cur, rfl, hh, _⟩ := h
    cases hb
    exact (Array.getElem?_eq_some_iff.1 hh).1
theorem mid_cell {w : World} {g off j : Nat} {cur : Array Value} {e : TypeId} {v : Value} (hh : w.heap[g]? = some (.cells cur e (0, 0))) (hv : cur[off + j]? = some v) : w.cell? ((⟨g, off, none⟩ : Addr).add j) = some v := by
  have : (⟨g, off, none⟩ : Addr).add j = ⟨g, off + j, none⟩ := by unfold Addr.add; split <;> simp_all
  rw [this]
  unfold World.cell?
  simp only [hh]
  exact hv
theorem qu_cells {off n : Nat} {cur : Array Value} {xs : List Value} (h : (cur.toList.drop off).take n = xs) : ∀ j u, xs[j]? = some u → cur[off + j]? = some u := fun j u hj => by
  rw [← h, List.getElem?_take] at hj
  split at hj
  · rw [List.getElem?_drop] at hj
    simpa using hj
  · cases hj
theorem qu_rd {w : World} {e : TypeId} {A : Option Addr} {c n : Nat} {xs : List Value} (h : (Res.qu e A c n xs).holds w) : Rd w 1 A n xs := by
  obtain ⟨hx, g, off, cur, rfl, hh, hnc, hoc, hcm, ht⟩ := h
  exact ⟨by omega, fun _ => ⟨_, rfl, (Array.getElem?_eq_some_iff.1 hh).1, fun j u hj => mid_cell hh (qu_cells ht j u hj)⟩⟩
instance (priority := high) hasSlQ {e : TypeId} {A : Option Addr} {c n : Nat} {xs : List Value} {rs : List Res} : HasSl (Res.qu e A c n xs :: rs) A n 1 xs := ⟨fun h => qu_rd (h.get (r := Res.qu e A c n xs) (List.mem_cons_self ..))⟩
class PutQu (rs : List Res) (A : Option Addr) (e : outParam TypeId) (c n : outParam Nat) (xs : outParam (List Value)) (mk : outParam (Option Addr → Nat → Nat → List Value → List Res)) : Prop where
  upd : ∀ A' c' n' xs', Upd (Res.qu e A c n xs) (Res.qu e A' c' n' xs') rs (mk A' c' n' xs')
instance (priority := high) putQuH {e : TypeId} {A : Option Addr} {c n : Nat} {xs : List Value} {rs : List Res} : PutQu (Res.qu e A c n xs :: rs) A e c n xs (fun A' c' n' xs' => Res.qu e A' c' n' xs' :: rs) := ⟨fun _ _ _ _ => .here⟩
instance putQuT {e : TypeId} {A : Option Addr} {c n : Nat} {xs : List Value} {r : Res} {rs : List Res} {mk : Option Addr → Nat → Nat → List Value → List Res} [h : PutQu rs A e c n xs mk] : PutQu (r :: rs) A e c n xs (fun A' c' n' xs' => r :: mk A' c' n' xs') := ⟨fun _ _ _ _ => .there (h.upd _ _ _ _)⟩
theorem setCells_heap : ∀ (vs : List Value) (b o : Nat) (w : World) (cur : Array Value) (e : TypeId), w.heap[b]? = some (.cells cur e (0, 0)) → o + vs.length ≤ cur.size →
    (w.setCells b o vs).heap[b]? = some (.cells (cur.toList.take o ++ vs ++ cur.toList.drop (o + vs.length)).toArray e (0, 0))
  | [], b, o, w, cur, e, h, _ => by simpa [World.setCells] using h
  | v :: vs, b, o, w, cur, e, h, hl => by
    simp only [List.length_cons] at hl
    have h1 : (w.setCell ⟨b, o, none⟩ v).heap[b]? = some (.cells (cur.setIfInBounds o v) e (0, 0)) := by
      simp [World.setCell, Array.getElem?_modify, h]
    have ih := setCells_heap vs b (o + 1) _ _ e h1 (by simp; omega)
    have e0 : (w.setCells b o (v :: vs)) = (w.setCell ⟨b, o, none⟩ v).setCells b (o + 1) vs := rfl
    rw [e0, ih]
    have ho : o < cur.toList.length := by simp; omega
    have e1 : (cur.toList.set o v).take (o + 1) = cur.toList.take o ++ [v] := by
      rw [List.take_add_one, List.take_set_of_le (Nat.le_refl _), List.getElem?_set_self ho]; rfl
    have e2 : (cur.toList.set o v).drop (o + 1 + vs.length) = cur.toList.drop (o + (v :: vs).length) := by
      rw [List.drop_set_of_lt (by omega)]
      congr 1; simp; omega
    simp only [Array.toList_setIfInBounds, e1, e2]
    simp
theorem setCells_other : ∀ (vs : List Value) (b o : Nat) (w : World) (i : Nat), i ≠ b → (w.setCells b o vs).heap[i]? = w.heap[i]?
  | [], _, _, _, _, _ => rfl
  | v :: vs, b, o, w, i, h => by
    have e0 : (w.setCells b o (v :: vs)) = (w.setCell ⟨b, o, none⟩ v).setCells b (o + 1) vs := rfl
    rw [e0, setCells_other vs b (o + 1) _ i h]
    exact Below.heap_setCell _ _ _ _ (by simpa using h)
theorem setCells_fr : ∀ (vs : List Value) (b o : Nat) (w : World), (w.setCells b o vs).os = w.os ∧ (w.setCells b o vs).tape = w.tape ∧ (w.setCells b o vs).output = w.output ∧ (w.setCells b o vs).heap.size = w.heap.size
  | [], _, _, _ => ⟨rfl, rfl, rfl, rfl⟩
  | v :: vs, b, o, w => by
    obtain ⟨h1, h2, h3, h4⟩ := setCells_fr vs b (o + 1) (w.setCell ⟨b, o, none⟩ v)
    exact ⟨h1, h2, h3, h4.trans (by simp [World.setCell])⟩
section
variable {P : Program} {ops : Array Oper} {Q : Exit → Act → World → Prop} {rest : List Oper} {o : Oper} {l : Fm} {ds : List Deferred} {w : World}
variable {F : Nat → Prop} {w0 : World} {rs rs' : List Res} {x y : Operand} {t e : TypeId} {d : Nat}
/-- append of something that was written out -/
theorem M_qa {ar : Array Operand} {ts : Array TypeId} {n m c c2 b : Nat} {A : Option Addr} {xs news : List Value} {ty : TypeId} {fz : Nat × Nat} {mk : Option Addr → Nat → Nat → List Value → List Res} (hS : St F w0 rs w)
    (k : ∀ A' c' w', St F w0 (mk A' c' (n + m) (xs ++ news)) w' → WL P ops Q rest (l.upd d (.slice A' (n + m) c')) ds w')
    (ho : o.op = .call { callee := .builtin .append, args := ar, argTypes := ts } := by rfl) (hd : o.dst = some d := by rfl) (har : ar.toList = [x, y] := by rfl) (hts : ts.toList = [t, t] := by rfl) (ht : elemT P t = some e := by rfl)
    (hx : lk l x = some (.slice A n c) := by rfl) (hy : lk l y = some (.slice (some ⟨b, 0, none⟩) m c2) := by rfl) (hm : HasObj rs b (.cells news.toArray ty fz) := by infer_instance)
    (hu : PutQu rs A e c n xs mk := by infer_instance) (hi : infoT P e 1 = true := by rfl) (hl : news.length = m := by rfl) (h1 : one' news = true := by rfl) (hpos : 0 < m := by omega) (hn : n + m ≤ 4294967296 := by omega) : SStep P ops Q rest o l ds w := by
  have ht' := elemT_ok ht
  obtain rfl : ar = #[x, y] := by cases ar; simp_all
  obtain rfl : ts = #[t, t] := by cases ts; simp_all
  unfold infoT at hi
  cases hq : P.info? e with
  | none => rw [hq] at hi; cases hi
  | some i =>
    rw [hq] at hi
    simp only [Bool.and_eq_true, beq_iff_eq, decide_eq_true_eq] at hi
    obtain ⟨⟨hs1, hs2⟩, hs3⟩ := hi
    have hb : (n + m) * i.bytes ≤ 140737488355328 := Nat.le_trans (Nat.mul_le_mul hn hs2) (by omega)
    cases hz : i.zero with
    | none => rw [hz] at hs3; cases hs3
    | some z =>
      rw [hz] at hs3
      simp only [beq_iff_eq] at hs3
      have hq0 : (Res.qu e A c n xs).holds w := hS.get (hu.upd A c n xs).mem
      obtain ⟨hxl, g, off, cur, rfl, hh, hnc, hoc, hcm, htk⟩ := hq0
      have hcell := cells_at hS hm.mem
      have e1 := lk_eval (ds := ds) hx
      have e2 := lk_eval (ds := ds) hy
      have hex : ∀ {v' : Value} {w' : World}, (Builtin.append_ #[t, t] o.type #[.slice (some ⟨g, off, none⟩) n c, .slice (some ⟨b, 0, none⟩) m c2]).run P w = .ok v' w' → (execOp (Act.mk l.arr ds).eval o).run P w = .ok (.value v') w' := fun hrun => by
        generalize (Act.mk l.arr ds).eval = ρ at e1 e2 ⊢
        unfold execOp
        simp only [ho, resolve, invoke, builtin, Sem.run_bind, Sem.run_pure, Result.andThen_ok, List.map_toArray, List.map_cons, List.map_nil, e1, e2, hrun]
      by_cases hroom : n + m ≤ c
      · have hfit : off + n + news.length ≤ cur.size := by omega
        have hr := run_append_room_cells (P := P) w t o.type e i ht' hq g off n c ⟨b, 0, none⟩ m c2 news (by rw [hl, hs1]; omega) hcell (by simpa [one'] using h1) hroom
          (fun j hj => by
            have hlt : off + n * i.size + j < cur.size := by rw [hs1]; omega
            simp [World.cell?, hh, hlt]) (fun j hj => by simp [World.frozen?, hh])
        rw [hs1, Nat.mul_one] at hr
        have hset := setCells_heap news g (off + n) w cur e hh hfit
        obtain ⟨f1, f2, f3, f4⟩ := setCells_fr news g (off + n) w
        refine S_ok hd (hex hr) (k _ _ _ (hS.upd (hu.upd (some ⟨g, off, none⟩) c (n + m) (xs ++ news)) rfl ⟨f1, f2, f3, Nat.le_of_eq f4.symm, fun j hj hne => setCells_other _ _ _ _ _ fun e => hne (by rw [e]; rfl)⟩ ?_ fun _ h => .inl h))
        refine ⟨by simp [hxl, hl], g, off, _, rfl, hset, hroom, ?_, hcm, ?_⟩
        · simp; omega
        · have hlo : (cur.toList.take (off + n)).length = off + n := by simp; omega
          show (List.drop off (cur.toList.take (off + n) ++ news ++ cur.toList.drop (off + n + news.length))).take (n + m) = _
          rw [List.append_assoc, List.drop_append_of_le_length (by omega), List.drop_take, show off + n - off = n by omega, htk, ← List.append_assoc, List.take_append_of_le_length (by simp; omega), List.take_of_length_le (by simp; omega)]
      · obtain ⟨v', w', hr, hown, hgr⟩ := run_append_arg_grows (P := P) w t o.type e i z 1 i.bytes ht' hq hz hs1 rfl hs3 (by omega) ⟨g, off, none⟩ n c xs (by omega) (fun j u hj => mid_cell hh (qu_cells htk j u hj)) ⟨b, 0, none⟩ m c2 news (by omega) hcell (by omega) (by unfold maxLen; omega) hb
        obtain ⟨g2, cap2, rfl, hge, _⟩ := hown.form (by omega)
        obtain ⟨hol, ho2⟩ := hown
        rcases ho2 with ⟨h3, _⟩ | ⟨g3, cap3, cur3, h3, h4, h5, h6, h7, h8, h9⟩
        · cases h3
        · injection h3 with h31 h32 h33
          injection h31 with h31
          injection h31 with h31
          subst h31 h33
          refine S_ok hd (hex hr) (k _ _ _ (hS.upd (hu.upd (some ⟨g2, 0, none⟩) cap2 (n + m) (xs ++ news)) rfl ⟨hgr.os, hgr.tape, hgr.output, hgr.size, fun j hj hne => hgr.block j hj (by simp)⟩ ⟨by simp [hxl, hl], g2, 0, cur3, rfl, h5, h6, by omega, h7, by rw [List.drop_zero, ← h9]; simp⟩ fun b' hb' => .inr (by cases hb'; exact h4)))
end
section
variable {F : Nat → Prop} {w0 w : World} {rs : List Res}
/-- the first element away -/
theorem St.quTail {e : TypeId} {A : Option Addr} {c n : Nat} {xs : List Value} (h : St F w0 (Res.qu e A c n xs :: rs) w) (hn : 0 < n) : St F w0 (Res.qu e (subA A c 1 1) (c - 1) (n - 1) xs.tail :: rs) w := by
  have hq : (Res.qu e A c n xs).holds w := h.all _ (List.mem_cons_self ..)
  obtain ⟨hxl, g, off, cur, rfl, hh, hnc, hoc, hcm, htk⟩ := hq
  obtain ⟨h1, h2⟩ := List.pairwise_cons.1 h.apart
  have hA : ∃ off', subA (some ⟨g, off, none⟩) c 1 1 = some ⟨g, off', none⟩ ∧ off' + (c - 1) ≤ cur.size ∧ (cur.toList.drop off').take (n - 1) = xs.tail := by
    unfold subA
    by_cases hc : c = 1
    · rw [if_pos hc]
      refine ⟨off, rfl, by omega, ?_⟩
      have : n = 1 := by omega
      subst this
      rw [Nat.sub_self, List.take_zero]
      match xs, hxl with
      | [a], _ => rfl
    · rw [if_neg hc]
      refine ⟨off + 1, by simp [Addr.add], by omega, ?_⟩
      rw [← htk, ← List.drop_one, List.drop_take, List.drop_drop]
  obtain ⟨off', hA1, hA2, hA3⟩ := hA
  rw [hA1]
  refine ⟨h.fr, fun r hr' => ?_, List.pairwise_cons.2 ⟨fun r hr' => ?_, h2⟩, fun r hr' ho i hi => ?_⟩
  · rcases List.mem_cons.1 hr' with rfl | hr'
    · exact ⟨by simp [hxl], g, off', cur, rfl, hh, by omega, hA2, by omega, hA3⟩
    · exact h.all r (List.mem_cons_of_mem _ hr')
  · rcases h1 r hr' with ⟨h3, _⟩ | h3
    · cases h3
    · exact .inr fun b hb1 hb2 => h3 b hb1 hb2
  · rcases List.mem_cons.1 hr' with rfl | hr'
    · exact h.own _ (List.mem_cons_self ..) rfl i hi
    · exact h.own r (List.mem_cons_of_mem _ hr') ho i hi
/-- a block written out whole, as such a slice -/
theorem St.toQu {b : Nat} {xs : List Value} {e : TypeId} (h : St F w0 (Res.obj b (.cells xs.toArray e (0, 0)) :: rs) w) (hl : xs.length ≤ 1000) : St F w0 (Res.qu e (some ⟨b, 0, none⟩) xs.length xs.length xs :: rs) w := by
  have hb : w.heap[b]? = some (.cells xs.toArray e (0, 0)) := h.all _ (List.mem_cons_self ..)
  obtain ⟨h1, h2⟩ := List.pairwise_cons.1 h.apart
  refine ⟨h.fr, fun r hr' => ?_, List.pairwise_cons.2 ⟨fun r hr' => ?_, h2⟩, fun r hr' ho i hi => ?_⟩
  · rcases List.mem_cons.1 hr' with rfl | hr'
    · exact ⟨rfl, b, 0, _, rfl, hb, Nat.le_refl _, by simp, by unfold maxLen; omega, by simp⟩
    · exact h.all r (List.mem_cons_of_mem _ hr')
  · rcases h1 r hr' with ⟨h3, _⟩ | h3
    · cases h3
    · exact .inr fun b hb1 hb2 => h3 b hb1 hb2
  · rcases List.mem_cons.1 hr' with rfl | hr'
    · exact h.own _ (List.mem_cons_self ..) rfl i hi
    · exact h.own r (List.mem_cons_of_mem _ hr') ho i hi
end
end Go.Proofs.Ytijmggoikieelaa
