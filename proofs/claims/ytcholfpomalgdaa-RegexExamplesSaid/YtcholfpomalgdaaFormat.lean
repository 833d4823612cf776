/-
  cube.Format: the text of a cube.
-/
import Derived.Test.YtcholfpomalgdaaBuilder
namespace Go.Proofs.Ytcholfpomalgdaa
open Go.RowKit Go.Shelf
attribute [local go_sem] Oper.semAt_some

def litText (x : Litl) : List UInt8 := if x.2 then [UInt8.ofNat (97 + x.1.val)] else [33, UInt8.ofNat (97 + x.1.val)]
def litsText (l : List Litl) : List UInt8 := l.flatMap litText
def fmtText (p n : Nat) : List UInt8 := if litsText (lits p n) = [] then [42] else litsText (lits p n)
theorem litText_len (x : Litl) : (litText x).length ≤ 2 := by unfold litText; split <;> simp
theorem litsText_snoc (l : List Litl) (x : Litl) : litsText (l ++ [x]) = litsText l ++ litText x := by simp [litsText]
theorem litsText_len (l : List Litl) : (litsText l).length ≤ 2 * l.length := by
  induction l with
  | nil => simp [litsText]
  | cons x l ih => have := litText_len x; simp only [litsText, List.flatMap_cons, List.length_append, List.length_cons] at *; omega
theorem byteCells_append (l m : List UInt8) : Lib.byteCells (l ++ m) = Lib.byteCells l ++ Lib.byteCells m := by simp [Lib.byteCells]
theorem byteCells_len (l : List UInt8) : (Lib.byteCells l).length = l.length := by simp [Lib.byteCells]

set_option maxHeartbeats 1000000 in
theorem format_in (p n : Nat) (k : Int) (hp : p < 256) (hn : n < 256) (hc : chk p n k = 0) (w : World) :
    Calls Try.prog 30 #[.agg #[.int .u8 p, .int .u8 n], .int .i64 k] w fun e w' => e = .returned (.tuple #[.string ⟨(fmtText p n).toArray⟩, .int .i64 0]) ∧ Below w.heap.size w w' := by
  have HC := Lib.hid hc; clear hc
  refine (callsIn_wide (n := 3)).1 ?_
  refine callsIn_of_wp_marks Try.func30 rfl trivial ?_ rfl
  simp only [Try.ntmps30, List.size_toArray, List.length_cons, List.length_nil, Nat.reduceAdd, Nat.reduceSub, Array.replicate_succ, Array.replicate_zero, List.push_toArray, List.append_toArray, List.nil_append, List.cons_append]
  gi_wp2_with (refine ⟨trivial, ?_⟩; gi_at_call 50; refine (callsIn_wide.2 (check_any p n k hp hn _)).mono ?_)
  rintro e w1 ⟨rfl, hb1⟩
  rw [HC.out]
  obtain ⟨hc1, hf1⟩ := bcell hb1
  have hcell0 : w1.cell? ⟨w.heap.size, 0, none⟩ = some (vb p) := by rw [hc1 _ _ (by simp)]; simp [go_sem]
  have hcell1 : w1.cell? ⟨w.heap.size, 1, none⟩ = some (vb n) := by rw [hc1 _ _ (by simp)]; simp [go_sem]
  have hsz : w.heap.size < w1.heap.size := by have := hb1.size; simp at this; omega
  clear hc1 hf1
  gi_wp2_with (refine ⟨trivial, ?_⟩; gi_at_call 51; refine (callsIn_wide.2 (literals_any p n _)).mono ?_)
  rintro e w2 ⟨rfl, rfl⟩
  gi_wp2
  refine wpIn_rangeFunc_ownG rfl (by omega) (gf := 67) (lb := #[.pointer (some ⟨w1.heap.size + 1, 0, none⟩)]) (by simp [go_sem]) trivial (enters_of Try.func67 (by kernel_rfl) rfl)
    (lits_stops 2 (w1.heap.size + 1) p n (by omega) hp hn _ (by simp) (by simp [go_sem]) (by simp [go_sem])) (fun h1 h2 => h2.trans h1) ?kb (Below.refl _ _) (fun _ => rfl)
    (fun pre W => (Lib.IsBuilder 56 5 w1.heap.size w1.heap.size (Lib.byteCells (litsText pre)) W ∧ W.heap[w1.heap.size + 1]? = some (.cells #[vb p, vb n] 63 (0, 0))) ∧ Below w1.heap.size w1 W)
    (fun _ _ _ => False) ?hI (fun _ _ _ _ _ hs _ _ => hs) ?h0
    (fun x => { tmps := #[.agg #[.int .u8 p, .int .u8 n], .int .i64 k, .pointer (some ⟨w.heap.size, 0, none⟩), undef, .string ⟨#[]⟩, .int .i64 0, .int .i64 0, .pointer (some ⟨w1.heap.size, 0, none⟩), .int .i64 x.1.val, .bool x.2,
      .agg #[.int .u8 p, .int .u8 n], .int .i64 k, .int .i64 0, .int .i64 0, .bool false, undef, .agg #[vb p, vb n], .func (.func 67) #[] #[.pointer (some ⟨w1.heap.size + 1, 0, none⟩)], .int .i64 x.1.val, .bool x.2, undef, undef, undef, undef, undef, undef, undef, undef, undef, undef], defers := [] }) ?assign ?body ?done ?stop
  case kb => intro W l o o' hl _ _ _; exact World.putObj_heap_other (by simp at hl; omega)
  case hI =>
    refine OwnFrom.and (OwnFrom.and (fun s A Bw row hs hg hr => isBuilder_kept hs hg (fun r e => (hr r e).2)) (fun s A Bw row hs hg hr => ?_)) (ownFrom_below (Nat.le_refl _) (by simp; omega))
    refine (hg.block _ (Array.getElem?_eq_some_iff.1 hs).1 (fun e => ?_)).trans hs
    have := (hr _ e.symm).1
    simp at this
    omega
  case h0 =>
    refine ⟨⟨?_, ?_⟩, ((Below.refl _ _).alloc (Nat.le_refl _) _).alloc (by simp) _⟩
    · exact isBuilder_kept (Lib.fresh_isBuilder _ _ _) (World.grownBy_alloc _ _ none) (fun r e => by cases e)
    · have := World.alloc_heap_new (w1.alloc (.cells #[.pointer none, .slice none 0 0] 56)) (.cells #[vb p, vb n] 63)
      rwa [World.size_alloc] at this
  case assign => intro l x W K hK; gi_wp2; exact hK
  case body =>
    rintro l pre ⟨x, val⟩ W ⟨⟨hB, hcap⟩, hbw⟩ hlen
    have hx : x.val < 8 := x.2
    have hl1 := litsText_len pre
    have hsz1 := hbw.size
    have hl2 : (Lib.byteCells (litsText pre)).length ≤ 64 := by rw [byteCells_len]; omega
    have hcell : ∀ y, y < 8 → Lib.byteCells [UInt8.ofNat (97 + y)] = [Value.int .u8 (97 + (y : Int))] := fun y hy => by
      simp only [Lib.byteCells, List.map_cons, List.map_nil, UInt8.toNat_ofNat']
      rw [Nat.mod_eq_of_lt (by omega)]
      simp
    cases val
    · gi_wp2_with (refine ⟨trivial, ?_⟩; gi_at_call 29; refine (CallsIn.inRound l (callsIn_wide.2 (writeByte_any w1.heap.size w1.heap.size _ 33 _ hB ?c1 hsz1))).mono ?_)
      case c1 => omega
      rintro e W1 ⟨rfl, hB1, hb1', hk1⟩
      have hsz2 := Nat.le_trans hsz1 hb1'.size
      gi_wp2_with (refine ⟨trivial, ?_⟩; gi_at_call 29; refine (CallsIn.inRound l (callsIn_wide.2 (writeByte_any w1.heap.size w1.heap.size _ (97 + (x.val : Int)) _ hB1 ?c2 hsz2))).mono ?_)
      case c2 => simp; omega
      rintro e W2 ⟨rfl, hB2, hb2', hk2⟩
      gi_wp2
      refine ⟨((keepsOthers_of hB hb1'.size hk1).trans (keepsOthers_of hB1 hb2'.size hk2)).from _, ?_, ⟨?_, ?_⟩, hbw.trans (hb1'.trans hb2')⟩
      · exact ((hk1.trans hk2) _ _ hcap (by simp) (by simp)).trans hcap.symm
      · rw [litsText_snoc, byteCells_append]
        have h2 : Lib.byteCells (litText (x, false)) = [Value.int .u8 33] ++ [Value.int .u8 (97 + (x.val : Int))] := by
          rw [← hcell _ hx]; rfl
        rw [h2, ← List.append_assoc]
        exact hB2
      · exact (hk1.trans hk2) _ _ hcap (by simp) (by simp)
    · gi_wp2_with (refine ⟨trivial, ?_⟩; gi_at_call 29; refine (CallsIn.inRound l (callsIn_wide.2 (writeByte_any w1.heap.size w1.heap.size _ (97 + (x.val : Int)) _ hB ?c3 hsz1))).mono ?_)
      case c3 => omega
      rintro e W2 ⟨rfl, hB2, hb2', hk2⟩
      gi_wp2
      refine ⟨(keepsOthers_of hB hb2'.size hk2).from _, ?_, ⟨?_, ?_⟩, hbw.trans hb2'⟩
      · exact (hk2 _ _ hcap (by simp) (by simp)).trans hcap.symm
      · rw [litsText_snoc, byteCells_append]
        have h2 : Lib.byteCells (litText (x, true)) = [Value.int .u8 (97 + (x.val : Int))] := by
          rw [← hcell _ hx]; rfl
        rw [h2]
        exact hB2
      · exact hk2 _ _ hcap (by simp) (by simp)
  case done =>
    rintro D xs W hD rfl ⟨⟨hB, _⟩, hbw⟩ hK
    have hDlt : w1.heap.size + 2 ≤ D := by simp at hD; omega
    have hbelow : Below w.heap.size w W := ((Below.refl _ _).alloc (Nat.le_refl _) _).trans ((hb1.mono (by simp)).trans (hbw.mono (by omega)))
    have hput : ∀ W', Below w1.heap.size W W' → W'.heap[D]? = some (.deferred (some [])) → Below w.heap.size w (W'.putObj D (.deferred none)) := fun W' h1 h2 =>
      (hbelow.trans (h1.mono (by omega))).trans ⟨rfl, rfl, rfl, by simp, fun i hi => World.putObj_heap_other (by omega)⟩
    clear hbelow hD
    by_cases he : litsText (lits p n) = []
    · have hl0 : (((Lib.byteCells (litsText (lits p n))).length : Int) == 0) = true := by rw [he]; rfl
      have hfin : fmtText p n = [42] := by rw [fmtText, if_pos he]
      have HF := Lib.hid hfin; clear hfin
      have HE := Lib.hid he; clear he
      gi_wp2_with (refine ⟨trivial, ?_⟩; gi_at_call 52; refine (callsIn_wide.2 (Try.Builder_Len _ _ _ _ hB)).mono ?_; rintro e w' ⟨rfl, rfl⟩)
      refine ⟨by simp, .inl ⟨_, _, rfl, run_takeDeferred hK, ?_⟩⟩
      exact ⟨_, results_tmp2 rfl _ _ _, by rw [HF.out]; rfl, hput _ (Below.refl _ _) hK⟩
    · have hl0 : (((Lib.byteCells (litsText (lits p n))).length : Int) == 0) = false := by
        rw [byteCells_len, beq_eq_false_iff_ne]
        have := List.length_pos_iff.2 he
        omega
      have hfin : fmtText p n = litsText (lits p n) := by rw [fmtText, if_neg he]
      have HF := Lib.hid hfin; clear hfin
      have HE := Lib.hid he; clear he
      gi_wp2_with (first
        | (refine ⟨trivial, ?_⟩; gi_at_call 52; refine (callsIn_wide.2 (Try.Builder_Len _ _ _ _ hB)).mono ?_; rintro e w' ⟨rfl, rfl⟩)
        | (refine ⟨trivial, ?_⟩; gi_at_call 33; refine (callsIn_wide.2 (Try.Builder_String_any_k _ _ _ _ (Lib.IsBuilderF.of hB) hbw.size)).mono ?_; rintro e w3 ⟨rfl, _, hb3, hk3⟩))
      have hK3 : w3.heap[D]? = some (.deferred (some [])) := hk3 _ _ hK (by simp; omega) (fun _ _ e => by cases e)
      refine ⟨by simp, .inl ⟨_, _, rfl, run_takeDeferred hK3, ?_⟩⟩
      exact ⟨_, results_tmp2 rfl _ _ _, by rw [HF.out]; rfl, hput _ hb3 hK3⟩
  case stop => rintro D c pre W _ _ h _; exact h.elim

set_option maxHeartbeats 400000 in
set_option maxRecDepth 100000 in
theorem format_bad (p n : Nat) (v : Int) (hp : p < 256) (hn : n < 256) (hc : chk p n v ≠ 0) (w : World) :
    Calls Try.prog 30 #[.agg #[.int .u8 p, .int .u8 n], .int .i64 v] w fun e w' => e = .returned (.tuple #[.string ⟨#[]⟩, .int .i64 (chk p n v)]) ∧ Below w.heap.size w w' := by
  generalize hx : chk p n v = x at hc
  have HX := Lib.hid hx; clear hx
  have hne : (x != 0) = true := by rw [bne_iff_ne]; exact hc
  go_enter Try.func30, Try.ntmps30
  go_wp2_with (go_at_call 50; refine (check_any p n v hp hn _).mono ?_; rintro e w1 ⟨rfl, hb1⟩; rw [HX.out])
  go_ret2
  exact ⟨rfl, ((Below.refl _ _).alloc (Nat.le_refl _) _).trans (hb1.mono (by simp))⟩
end Go.Proofs.Ytcholfpomalgdaa
