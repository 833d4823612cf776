/-
  cube.literals: the iterator over the literals of a cube.
-/
import Derived.Test.YtcholfpomalgdaaCA
import Derived.RangeFuncNested
import Derived.RangeFuncBound
import Derived.RangeFuncCalls
import Derived.RangeFuncLeaves
import Derived.Shelf.Abstract
import Derived.Shelf.RegionOpen
import Derived.OwnWalkIn
import Derived.TacticsInMore
import Derived.LoopNIn
import Derived.LoopIn
namespace Go.Proofs.Ytcholfpomalgdaa
open Go.RowKit Go.Shelf
attribute [local go_sem] Oper.semAt_some
attribute [local go_sem] u8_and_nat u8_or_nat u8_xor_nat u8_andNot_nat

/-- a literal: the variable and its value -/
abbrev Litl := Fin 8 × Bool
def litAt (p n : Nat) (k : Fin 8) : List Litl := (if p &&& two k.val = 0 then [] else [(k, true)]) ++ (if n &&& two k.val = 0 then [] else [(k, false)])
def litTo (p n : Nat) : Nat → List Litl
  | 0 => []
  | k + 1 => litTo p n k ++ (if h : k < 8 then litAt p n ⟨k, h⟩ else [])
theorem litAt_len (p n : Nat) (k : Fin 8) : (litAt p n k).length ≤ 2 := by
  unfold litAt; split <;> split <;> simp
theorem litTo_len (p n k : Nat) : (litTo p n k).length ≤ 2 * k := by
  induction k with
  | zero => simp [litTo]
  | succ k ih =>
    simp only [litTo, List.length_append]
    split
    · have := litAt_len p n ⟨k, ‹_›⟩; omega
    · simp; omega
theorem litTo_prefix (p n i j : Nat) (h : i ≤ j) : litTo p n i <+: litTo p n j := by
  induction j with
  | zero => obtain rfl : i = 0 := by omega
            exact List.prefix_rfl
  | succ j ih =>
    by_cases e : i = j + 1
    · subst e; exact List.prefix_rfl
    · exact (ih (by omega)).trans (List.prefix_append _ _)
def lits (p n : Nat) : List Litl := litTo p n 8

set_option maxHeartbeats 400000 in
set_option maxRecDepth 100000 in
theorem lits1_in (n l Bn p q : Nat) (hn : 1 ≤ n) (hp : p < 256) (hq : q < 256) (J Jx : List Litl → World → Prop)
    (hY : ∀ pre (x : Litl) W, J pre W → pre.length < 16 → YieldAt Fence.wide (n - 1) Try.prog l #[.int .i64 x.1.val, .bool x.2] W fun e W' =>
      (e = .returned (.bool true) ∧ J (pre ++ [x]) W' ∧ W'.heap[Bn]? = W.heap[Bn]?) ∨ (e = .returned (.bool false) ∧ Jx (pre ++ [x]) W'))
    (W : World) (hc0 : W.cell? ⟨Bn, 0, none⟩ = some (vb p)) (hc1 : W.cell? ⟨Bn, 1, none⟩ = some (vb q)) (h0 : J [] W) :
    CallsIn Fence.wide n Try.prog 67 #[.func (.yield l) #[] #[], .pointer (some ⟨Bn, 0, none⟩)] W fun e W' => (∃ v, e = .returned v) ∧
      ((∃ ys, ys = lits p q ∧ J ys W') ∨ (∃ pre, pre <+: lits p q ∧ Jx pre W')) := by
  refine callsIn_of_wp Try.func67 rfl trivial ?_ rfl
  simp only [Try.ntmps67, List.size_toArray, List.length_cons, List.length_nil, Nat.reduceAdd, Nat.reduceSub, Array.replicate_succ, Array.replicate_zero, List.push_toArray, List.append_toArray, List.nil_append, List.cons_append]
  gi_wp2
  gi_loopw [5] (fun i wr => ∃ k : Nat, k ≤ 8 ∧ i = .int .i64 k ∧ J (litTo p q k) wr ∧ wr.cell? ⟨Bn, 0, none⟩ = some (vb p) ∧ wr.cell? ⟨Bn, 1, none⟩ = some (vb q))
    (fun i _ => 8 - (intOf i).toNat)
  case atStart => exact ⟨0, by omega, rfl, h0, hc0, hc1⟩
  case round =>
    obtain ⟨k, hk, rfl, hJs, hr0, hr1⟩ := hrel
    by_cases hlt : k < 8
    · have hsh : (2 : Int) ^ k % 256 = ((two k : Nat) : Int) := by
        have h1 : two k ≤ 128 := Nat.pow_le_pow_right (n := 2) (i := k) (j := 7) (by omega) (by omega)
        have h2 : ((2 : Int) ^ k) = ((two k : Nat) : Int) := by simp [two]
        rw [h2]; omega
      have ht : two k < 256 := by
        have h1 : two k ≤ 128 := Nat.pow_le_pow_right (n := 2) (i := k) (j := 7) (by omega) (by omega)
        omega
      have hlen := litTo_len p q k
      have hstep : litTo p q (k + 1) = litTo p q k ++ litAt p q ⟨k, hlt⟩ := by simp [litTo, hlt]
      have HS := Lib.hid hstep; clear hstep
      by_cases hP : p &&& two k = 0
      · have hP' : (((p &&& two k : Nat) : Int) != 0) = false := by rw [hP]; rfl
        by_cases hQ : q &&& two k = 0
        · have hQ' : (((q &&& two k : Nat) : Int) != 0) = false := by rw [hQ]; rfl
          have HP := Lib.hid hP; clear hP
          have HQ := Lib.hid hQ; clear hQ
          gi_wp2
          refine ⟨fun _ h => (by cases h), ?_⟩
          gi_wp2
          refine ⟨fun _ h => (by cases h), ?_⟩
          gi_wp2
          go_roundw
          case rel => exact ⟨k + 1, by omega, by go_num, by rw [HS.out, litAt, if_pos HP.out, if_pos HQ.out]; simpa using hJs, hr0, hr1⟩
          case measure => simp [intOf]; omega
        · have hQ' : (((q &&& two k : Nat) : Int) != 0) = true := by rw [bne_iff_ne]; omega
          have HP := Lib.hid hP; clear hP
          have HQ := Lib.hid hQ; clear hQ
          obtain ⟨fn, tmps, assign, body, hy, hR⟩ := hY (litTo p q k) (⟨k, hlt⟩, false) wr hJs (by omega)
          gi_wp2
          refine ⟨fun _ h => (by cases h), ?_⟩
          gi_wp2
          refine hR.mono ?_
          rintro e W3 (⟨rfl, hJ3, hk3⟩ | ⟨rfl, hJx3⟩)
          · gi_wp2
            go_roundw
            case rel => exact ⟨k + 1, by omega, by go_num, by rw [HS.out, litAt, if_pos HP.out, if_neg HQ.out]; simpa using hJ3, (World.cell?_of_block (a := ⟨Bn, 0, none⟩) hk3).trans hr0, (World.cell?_of_block (a := ⟨Bn, 1, none⟩) hk3).trans hr1⟩
            case measure => simp [intOf]; omega
          · gi_wp2
            refine bodyPost_ret (results_none rfl _ _ _) rfl ?_
            refine ⟨⟨_, rfl⟩, .inr ⟨_, ?_, hJx3⟩⟩
            refine List.IsPrefix.trans ?_ (litTo_prefix p q (k + 1) 8 (by omega))
            rw [HS.out, litAt, if_pos HP.out, if_neg HQ.out]; exact List.prefix_rfl
      · have hP' : (((p &&& two k : Nat) : Int) != 0) = true := by rw [bne_iff_ne]; omega
        have HP := Lib.hid hP; clear hP
        obtain ⟨fn, tmps, assign, body, hy, hR⟩ := hY (litTo p q k) (⟨k, hlt⟩, true) wr hJs (by omega)
        gi_wp2
        refine hR.mono ?_
        rintro e W3 (⟨rfl, hJ3, hk3⟩ | ⟨rfl, hJx3⟩)
        · clear hy hR
          have hr0' := (World.cell?_of_block (a := ⟨Bn, 0, none⟩) hk3).trans hr0
          have hr1' := (World.cell?_of_block (a := ⟨Bn, 1, none⟩) hk3).trans hr1
          have HK3 := Lib.hid hk3; clear hk3
          by_cases hQ : q &&& two k = 0
          · have hQ' : (((q &&& two k : Nat) : Int) != 0) = false := by rw [hQ]; rfl
            have HQ := Lib.hid hQ; clear hQ
            gi_wp2
            refine ⟨fun _ h => (by cases h), ?_⟩
            gi_wp2
            go_roundw
            case rel => exact ⟨k + 1, by omega, by go_num, by rw [HS.out, litAt, if_neg HP.out, if_pos HQ.out]; simpa using hJ3, hr0', hr1'⟩
            case measure => simp [intOf]; omega
          · have hQ' : (((q &&& two k : Nat) : Int) != 0) = true := by rw [bne_iff_ne]; omega
            have HQ := Lib.hid hQ; clear hQ
            obtain ⟨fn, tmps, assign, body, hy, hR⟩ := hY (litTo p q k ++ [(⟨k, hlt⟩, true)]) (⟨k, hlt⟩, false) W3 hJ3 (by simp; omega)
            gi_wp2
            refine hR.mono ?_
            rintro e W4 (⟨rfl, hJ4, hk4⟩ | ⟨rfl, hJx4⟩)
            · gi_wp2
              go_roundw
              case rel => exact ⟨k + 1, by omega, by go_num, by rw [HS.out, litAt, if_neg HP.out, if_neg HQ.out]; simpa using hJ4, (World.cell?_of_block (a := ⟨Bn, 0, none⟩) hk4).trans hr0', (World.cell?_of_block (a := ⟨Bn, 1, none⟩) hk4).trans hr1'⟩
              case measure => simp [intOf]; omega
            · gi_wp2
              refine bodyPost_ret (results_none rfl _ _ _) rfl ?_
              refine ⟨⟨_, rfl⟩, .inr ⟨_, ?_, hJx4⟩⟩
              refine List.IsPrefix.trans ?_ (litTo_prefix p q (k + 1) 8 (by omega))
              rw [HS.out, litAt, if_neg HP.out, if_neg HQ.out]; simp
        · clear hy hR
          have hund : undef = Value.tuple #[] := rfl
          gi_wp2
          refine bodyPost_ret (results_none rfl _ _ _) rfl ?_
          refine ⟨⟨_, rfl⟩, .inr ⟨_, ?_, hJx3⟩⟩
          refine List.IsPrefix.trans ?_ (litTo_prefix p q (k + 1) 8 (by omega))
          rw [HS.out, litAt, if_neg HP.out]; simp
    · obtain rfl : k = 8 := by omega
      gi_wp2
      go_end0
      exact ⟨⟨_, rfl⟩, .inl ⟨_, rfl, hJs⟩⟩

/-- the iterator's contract, as the law of a range over a function asks it -/
theorem lits_stops (n Bn p q : Nat) (hn : 1 ≤ n) (hp : p < 256) (hq : q < 256) (w : World) (hBw : Bn < w.heap.size) (hc0 : w.cell? ⟨Bn, 0, none⟩ = some (vb p)) (hc1 : w.cell? ⟨Bn, 1, none⟩ = some (vb q)) :
    SeqStopsK Fence.wide n Try.prog 67 #[.pointer (some ⟨Bn, 0, none⟩)] (fun x : Litl => #[.int .i64 x.1.val, .bool x.2]) (fun W W' => W'.heap[Bn]? = W.heap[Bn]?) (fun ys => ys = lits p q) (fun pre => pre <+: lits p q) 16 w :=
  fun l J Jx W hW _ _ hY h0 => lits1_in n l Bn p q hn hp hq J Jx hY W ((hW.cell (p := ⟨Bn, 0, none⟩) hBw).trans hc0) ((hW.cell (p := ⟨Bn, 1, none⟩) hBw).trans hc1) h0

set_option maxHeartbeats 400000 in
set_option maxRecDepth 100000 in
theorem literals_any (p q : Nat) (w : World) :
    Calls Try.prog 51 #[.agg #[.int .u8 p, .int .u8 q]] w fun e w' => e = .returned (.func (.func 67) #[] #[.pointer (some ⟨w.heap.size, 0, none⟩)]) ∧ w.alloc (.cells #[vb p, vb q] 63) = w' := by
  go_enter Try.func51, Try.ntmps51
  go_wp2
  go_ret
  exact ⟨rfl, rfl⟩
end Go.Proofs.Ytcholfpomalgdaa
