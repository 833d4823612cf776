/-
  cube.Parse: the cube of a text.
-/
import Derived.Test.YtfdfnamkkepbiaaCover
namespace Go.Proofs.Ytfdfnamkkepbiaa
open Go.RowKit
theorem ba_get0 (d : UInt8) (r : List UInt8) (h : 0 < (⟨(d :: r).toArray⟩ : ByteArray).size) : (⟨(d :: r).toArray⟩ : ByteArray)[0]'h = d := rfl
theorem ba_tail (d : UInt8) (r : List UInt8) : (⟨(d :: r).toArray⟩ : ByteArray).extract 1 (r.length + 1) = ⟨r.toArray⟩ := by
  apply ByteArray.ext
  simp [ByteArray.data_extract]
attribute [local go_sem] u8_and_nat u8_or_nat u8_xor_nat u8_andNot_nat ba_get0 ba_tail

/-- reading literals: what has been read, and the last variable -/
def pGo : List UInt8 → Int → Nat → Nat → Option (Nat × Nat × Int)
  | [], la, p, n => some (p, n, la)
  | c :: r, la, p, n =>
    if c = 33 then
      match r with
      | [] => none
      | d :: r' => if 97 ≤ d.toNat ∧ d.toNat < 103 ∧ la < (d.toNat : Int) - 97 then pGo r' ((d.toNat : Int) - 97) p (n ||| two (d.toNat - 97)) else none
    else if 97 ≤ c.toNat ∧ c.toNat < 103 ∧ la < (c.toNat : Int) - 97 then pGo r ((c.toNat : Int) - 97) (p ||| two (c.toNat - 97)) n else none

def strLen : Value → Nat | .string s => s.size | _ => 0

theorem cut_yes (r : List UInt8) (w : World) : Calls Try.prog 42 #[.string ⟨(33 :: r).toArray⟩, .string ⟨#[33]⟩] w fun e w' => e = .returned (.tuple #[.string ⟨r.toArray⟩, .bool true]) ∧ w = w' := by
  refine (Try.strings_CutPrefix _ _ _).mono ?_
  rintro e w' ⟨rfl, rfl⟩
  exact ⟨by simp [Lib.trimPrefix, Lib.hasPrefix], rfl⟩
theorem cut_no (c : UInt8) (hc : c ≠ 33) (r : List UInt8) (w : World) : Calls Try.prog 42 #[.string ⟨(c :: r).toArray⟩, .string ⟨#[33]⟩] w fun e w' => e = .returned (.tuple #[.string ⟨(c :: r).toArray⟩, .bool false]) ∧ w = w' := by
  refine (Try.strings_CutPrefix _ _ _).mono ?_
  rintro e w' ⟨rfl, rfl⟩
  have h : Lib.hasPrefix (c :: r) [33] = false := by simp [Lib.hasPrefix, List.isPrefixOf]; exact fun h => hc h.symm
  exact ⟨by simp [Lib.trimPrefix, h], rfl⟩

/-- what Parse answers -/
def parseV (l : List UInt8) (v : Int) : Nat × Nat × Int :=
  if v < 0 ∨ 6 < v then (0, 0, 7) else if 4096 < l.length then (0, 0, 4) else if l = [42] then (0, 0, 0) else if l = [] then (0, 0, 2)
  else match pGo l (-1) 0 0 with
    | none => (0, 0, 2)
    | some (p, n, la) => if v ≤ la then (0, 0, 7) else (p, n, 0)
def ParsePost (l : List UInt8) (v : Int) (w : World) (e : Ending) (w' : World) : Prop :=
  e = .returned (.tuple #[.agg #[vb (parseV l v).1, vb (parseV l v).2.1], .int .i64 (parseV l v).2.2]) ∧ Below w.heap.size w w'

set_option maxHeartbeats 1000000 in
theorem parse_in (l : List UInt8) (k : Nat) (hk : k ≤ 6) (w : World) (hl : l.length ≤ 4096) (h0 : l ≠ []) (h1 : l ≠ [42]) :
    Calls Try.prog 27 #[.string ⟨l.toArray⟩, .int .i64 k] w (ParsePost l k w) := by
  have hd0 : decide ((k : Int) < 0) = false := decide_eq_false (by omega)
  have hd6 : decide (6 < (k : Int)) = false := decide_eq_false (by omega)
  have h42 : (l == [42]) = false := by simpa using h1
  have hem : l.isEmpty = false := by simpa using h0
  have hV : parseV l k = match pGo l (-1) 0 0 with | none => (0, 0, 2) | some (p, n, la) => if (k : Int) ≤ la then (0, 0, 7) else (p, n, 0) := by
    rw [parseV, if_neg (by omega), if_neg (by omega), if_neg h1, if_neg h0]
  have HV := Lib.hid hV; clear hV
  clear h0 h1
  go_enter Try.func27, Try.ntmps27
  go_wp2
  refine wp_gen (fun W => W.heap[w.heap.size]? = some (.cells #[vb 0, vb 0] 23 (0, 0)) ∧ Below w.heap.size w W) ⟨World.alloc_heap_new _ _, (by repeat (first | exact Below.refl _ _ | assumption | refine Below.drew ?_ | refine below_drewN ?_ _ | refine Below.alloc ?_ (by simp <;> omega) _ | refine Below.setCell ?_ (by simp <;> omega) _))⟩ ?_
  rintro W1 ⟨hc1, hb1⟩
  go_loopw [0, 6] (fun s la wr => ∃ (r : List UInt8) (p n : Nat) (z : Int), s = .string ⟨r.toArray⟩ ∧ la = .int .i64 z ∧ -1 ≤ z ∧ z ≤ 5 ∧ p < 256 ∧ n < 256 ∧ r.length ≤ 4096 ∧ pGo l (-1) 0 0 = pGo r z p n ∧
      wr.heap[w.heap.size]? = some (.cells #[vb p, vb n] 23 (0, 0)) ∧ Below w.heap.size w wr) (fun s _ _ => strLen s)
  case atStart => exact ⟨l, 0, 0, -1, rfl, rfl, by omega, by omega, by omega, by omega, hl, rfl, hc1, hb1⟩
  case round =>
    obtain ⟨r, p, n, z, rfl, rfl, hz1, hz2, hp, hn, hr, hpg, hcw, hbw⟩ := hrel
    have HPG := Lib.hid hpg; clear hpg
    have hc0 : wr.cell? ⟨w.heap.size, 0, none⟩ = some (vb p) := by rw [Lib.cell_of_heap hcw]; rfl
    have hc1 : wr.cell? ⟨w.heap.size, 1, none⟩ = some (vb n) := by rw [Lib.cell_of_heap hcw]; rfl
    have hf0 : wr.frozen? ⟨w.heap.size, 0, none⟩ = false := Lib.frozen_of_heap hcw 0
    have hf1 : wr.frozen? ⟨w.heap.size, 1, none⟩ = false := Lib.frozen_of_heap hcw 1
    have HCW := Lib.hid hcw; clear hcw
    have hVw : ∀ (a b : Nat) (er : Int), (parseV l k) = (a, b, er) → ∀ W', Below w.heap.size w W' → ParsePost l k w (.returned (.tuple #[.agg #[vb a, vb b], .int .i64 er])) W' := fun a b er he W' hb => ⟨by rw [he], hb⟩
    have HVW := Lib.hid hVw; clear hVw
    cases r with
    | nil =>
      by_cases hkz : (k : Int) ≤ z
      · go_wp2
        refine bodyPost_ret (v := .tuple #[.agg #[vb 0, vb 0], .int .i64 7]) (by simp [results, Try.results27, go_sem, hc0, hc1]) rfl (HVW.out _ _ _ ?_ _ (by repeat (first | exact Below.refl _ _ | assumption | refine Below.drew ?_ | refine below_drewN ?_ _ | refine Below.alloc ?_ (by simp <;> omega) _ | refine Below.setCell ?_ (by simp <;> omega) _)))
        rw [HV.out, HPG.out]; simp [pGo, hkz]
      · go_wp2
        refine bodyPost_ret (v := .tuple #[.agg #[vb p, vb n], .int .i64 0]) (by simp [results, Try.results27, go_sem, hc0, hc1]) rfl (HVW.out _ _ _ ?_ _ (by repeat (first | exact Below.refl _ _ | assumption | refine Below.drew ?_ | refine below_drewN ?_ _ | refine Below.alloc ?_ (by simp <;> omega) _ | refine Below.setCell ?_ (by simp <;> omega) _)))
        rw [HV.out, HPG.out]; simp [pGo, hkz]
    | cons c r =>
      by_cases hc : c = 33
      · subst hc
        cases r with
        | nil =>
          go_wp2_with (go_at_call 42; refine (cut_yes _ _).mono ?_; rintro e w' ⟨rfl, rfl⟩)
          refine bodyPost_ret (v := .tuple #[.agg #[vb 0, vb 0], .int .i64 2]) (by simp [results, Try.results27, go_sem, hc0, hc1]) rfl (HVW.out _ _ _ ?_ _ (by repeat (first | exact Below.refl _ _ | assumption | refine Below.drew ?_ | refine below_drewN ?_ _ | refine Below.alloc ?_ (by simp <;> omega) _ | refine Below.setCell ?_ (by simp <;> omega) _)))
          rw [HV.out, HPG.out]; simp [pGo]
        | cons d r =>
          by_cases hd : 97 ≤ d.toNat ∧ d.toNat < 103 ∧ z < (d.toNat : Int) - 97
          · obtain ⟨hd1, hd2, hd3⟩ := hd
            have hstep : pGo (33 :: d :: r) z p n = pGo r ((d.toNat : Int) - 97) p (n ||| two (d.toNat - 97)) := by simp [pGo, hd1, hd2, hd3]
            obtain ⟨q, hq⟩ : ∃ q : Nat, (d.toNat : Int) - 97 = (q : Int) := ⟨d.toNat - 97, by omega⟩
            rw [hq, show d.toNat - 97 = q by omega] at hstep
            have HST := Lib.hid hstep; clear hstep
            have hb1 : decide ((d.toNat : Int) < 97) = false := decide_eq_false (by omega)
            have hb2 : decide (103 ≤ (d.toNat : Int)) = false := decide_eq_false (by omega)
            have hb3 : decide ((q : Int) ≤ z) = false := decide_eq_false (by omega)
            have hq6 : q < 6 := by omega
            have ht : two q ≤ 64 := two_le6 (by omega)
            have ht2 : two q < 256 := by omega
            have hsh : (2 : Int) ^ q % 256 = ((two q : Nat) : Int) := by
              have h2 : ((2 : Int) ^ q) = ((two q : Nat) : Int) := by simp [two]
              rw [h2]; omega
            have hrl : r.length ≤ 4096 := by simp at hr; omega
            clear hd3
            go_wp2_with (go_at_call 42; refine (cut_yes _ _).mono ?_; rintro e w' ⟨rfl, rfl⟩)
            go_region
            go_wp2
            go_roundw
            case rel =>
              refine ⟨r, p, n ||| two q, q, rfl, rfl, by omega, by omega, hp, or_u8 hn ht2, hrl, by rw [HPG.out, HST.out], ?_, (by repeat (first | exact Below.refl _ _ | assumption | refine Below.drew ?_ | refine below_drewN ?_ _ | refine Below.alloc ?_ (by simp <;> omega) _ | refine Below.setCell ?_ (by simp <;> omega) _))⟩
              show (wr.setCell _ _).heap[_]? = _
              simp [World.setCell, Array.getElem?_modify, HCW.out]
            case measure => (simp [strLen, ByteArray.size] <;> omega)
          · have hstep : pGo (33 :: d :: r) z p n = none := by simp only [pGo, if_true]; rw [if_neg hd]
            have HST := Lib.hid hstep; clear hstep
            by_cases hd1 : d.toNat < 97
            · have hb1 : decide ((d.toNat : Int) < 97) = true := decide_eq_true (by omega)
              clear hd
              go_wp2_with (go_at_call 42; refine (cut_yes _ _).mono ?_; rintro e w' ⟨rfl, rfl⟩)
              refine bodyPost_ret (v := .tuple #[.agg #[vb 0, vb 0], .int .i64 2]) (by simp [results, Try.results27, go_sem, hc0, hc1]) rfl (HVW.out _ _ _ ?_ _ (by repeat (first | exact Below.refl _ _ | assumption | refine Below.drew ?_ | refine below_drewN ?_ _ | refine Below.alloc ?_ (by simp <;> omega) _ | refine Below.setCell ?_ (by simp <;> omega) _)))
              rw [HV.out, HPG.out, HST.out]
            · have hb1 : decide ((d.toNat : Int) < 97) = false := decide_eq_false (by omega)
              by_cases hd2 : 103 ≤ d.toNat
              · have hb2 : decide (103 ≤ (d.toNat : Int)) = true := decide_eq_true (by omega)
                clear hd
                go_wp2_with (go_at_call 42; refine (cut_yes _ _).mono ?_; rintro e w' ⟨rfl, rfl⟩)
                refine bodyPost_ret (v := .tuple #[.agg #[vb 0, vb 0], .int .i64 2]) (by simp [results, Try.results27, go_sem, hc0, hc1]) rfl (HVW.out _ _ _ ?_ _ (by repeat (first | exact Below.refl _ _ | assumption | refine Below.drew ?_ | refine below_drewN ?_ _ | refine Below.alloc ?_ (by simp <;> omega) _ | refine Below.setCell ?_ (by simp <;> omega) _)))
                rw [HV.out, HPG.out, HST.out]
              · have hb2 : decide (103 ≤ (d.toNat : Int)) = false := decide_eq_false (by omega)
                obtain ⟨q, hq⟩ : ∃ q : Nat, (d.toNat : Int) - 97 = (q : Int) := ⟨d.toNat - 97, by omega⟩
                have hb3 : decide ((q : Int) ≤ z) = true := decide_eq_true (by omega)
                clear hd
                go_wp2_with (go_at_call 42; refine (cut_yes _ _).mono ?_; rintro e w' ⟨rfl, rfl⟩)
                refine bodyPost_ret (v := .tuple #[.agg #[vb 0, vb 0], .int .i64 2]) (by simp [results, Try.results27, go_sem, hc0, hc1]) rfl (HVW.out _ _ _ ?_ _ (by repeat (first | exact Below.refl _ _ | assumption | refine Below.drew ?_ | refine below_drewN ?_ _ | refine Below.alloc ?_ (by simp <;> omega) _ | refine Below.setCell ?_ (by simp <;> omega) _)))
                rw [HV.out, HPG.out, HST.out]
      · obtain ⟨d, hdc⟩ : ∃ d, d = c := ⟨_, rfl⟩
        subst hdc
        by_cases hd : 97 ≤ d.toNat ∧ d.toNat < 103 ∧ z < (d.toNat : Int) - 97
        · obtain ⟨hd1, hd2, hd3⟩ := hd
          have hstep : pGo (d :: r) z p n = pGo r ((d.toNat : Int) - 97) (p ||| two (d.toNat - 97)) n := by rw [pGo.eq_def]; simp [hc, hd1, hd2, hd3]
          obtain ⟨q, hq⟩ : ∃ q : Nat, (d.toNat : Int) - 97 = (q : Int) := ⟨d.toNat - 97, by omega⟩
          rw [hq, show d.toNat - 97 = q by omega] at hstep
          have HST := Lib.hid hstep; clear hstep
          have hb1 : decide ((d.toNat : Int) < 97) = false := decide_eq_false (by omega)
          have hb2 : decide (103 ≤ (d.toNat : Int)) = false := decide_eq_false (by omega)
          have hb3 : decide ((q : Int) ≤ z) = false := decide_eq_false (by omega)
          have hq6 : q < 6 := by omega
          have ht : two q ≤ 64 := two_le6 (by omega)
          have ht2 : two q < 256 := by omega
          have hsh : (2 : Int) ^ q % 256 = ((two q : Nat) : Int) := by
            have h2 : ((2 : Int) ^ q) = ((two q : Nat) : Int) := by simp [two]
            rw [h2]; omega
          have hrl : r.length ≤ 4096 := by simp at hr; omega
          clear hd3
          go_wp2_with (go_at_call 42; refine (cut_no d hc r _).mono ?_; rintro e w' ⟨rfl, rfl⟩)
          go_region
          go_wp2
          go_roundw
          case rel =>
            refine ⟨r, p ||| two q, n, q, rfl, rfl, by omega, by omega, or_u8 hp ht2, hn, hrl, by rw [HPG.out, HST.out], ?_, (by repeat (first | exact Below.refl _ _ | assumption | refine Below.drew ?_ | refine below_drewN ?_ _ | refine Below.alloc ?_ (by simp <;> omega) _ | refine Below.setCell ?_ (by simp <;> omega) _))⟩
            show (wr.setCell _ _).heap[_]? = _
            simp [World.setCell, Array.getElem?_modify, HCW.out]
          case measure => (simp [strLen, ByteArray.size] <;> omega)
        · have hstep : pGo (d :: r) z p n = none := by rw [pGo.eq_def]; simp only [if_neg hc, if_neg hd]
          have HST := Lib.hid hstep; clear hstep
          by_cases hd1 : d.toNat < 97
          · have hb1 : decide ((d.toNat : Int) < 97) = true := decide_eq_true (by omega)
            clear hd
            go_wp2_with (go_at_call 42; refine (cut_no d hc r _).mono ?_; rintro e w' ⟨rfl, rfl⟩)
            refine bodyPost_ret (v := .tuple #[.agg #[vb 0, vb 0], .int .i64 2]) (by simp [results, Try.results27, go_sem, hc0, hc1]) rfl (HVW.out _ _ _ ?_ _ (by repeat (first | exact Below.refl _ _ | assumption | refine Below.drew ?_ | refine below_drewN ?_ _ | refine Below.alloc ?_ (by simp <;> omega) _ | refine Below.setCell ?_ (by simp <;> omega) _)))
            rw [HV.out, HPG.out, HST.out]
          · have hb1 : decide ((d.toNat : Int) < 97) = false := decide_eq_false (by omega)
            by_cases hd2 : 103 ≤ d.toNat
            · have hb2 : decide (103 ≤ (d.toNat : Int)) = true := decide_eq_true (by omega)
              clear hd
              go_wp2_with (go_at_call 42; refine (cut_no d hc r _).mono ?_; rintro e w' ⟨rfl, rfl⟩)
              refine bodyPost_ret (v := .tuple #[.agg #[vb 0, vb 0], .int .i64 2]) (by simp [results, Try.results27, go_sem, hc0, hc1]) rfl (HVW.out _ _ _ ?_ _ (by repeat (first | exact Below.refl _ _ | assumption | refine Below.drew ?_ | refine below_drewN ?_ _ | refine Below.alloc ?_ (by simp <;> omega) _ | refine Below.setCell ?_ (by simp <;> omega) _)))
              rw [HV.out, HPG.out, HST.out]
            · have hb2 : decide (103 ≤ (d.toNat : Int)) = false := decide_eq_false (by omega)
              obtain ⟨q, hq⟩ : ∃ q : Nat, (d.toNat : Int) - 97 = (q : Int) := ⟨d.toNat - 97, by omega⟩
              have hb3 : decide ((q : Int) ≤ z) = true := decide_eq_true (by omega)
              clear hd
              go_wp2_with (go_at_call 42; refine (cut_no d hc r _).mono ?_; rintro e w' ⟨rfl, rfl⟩)
              refine bodyPost_ret (v := .tuple #[.agg #[vb 0, vb 0], .int .i64 2]) (by simp [results, Try.results27, go_sem, hc0, hc1]) rfl (HVW.out _ _ _ ?_ _ (by repeat (first | exact Below.refl _ _ | assumption | refine Below.drew ?_ | refine below_drewN ?_ _ | refine Below.alloc ?_ (by simp <;> omega) _ | refine Below.setCell ?_ (by simp <;> omega) _)))
              rw [HV.out, HPG.out, HST.out]

set_option maxHeartbeats 400000 in
set_option maxRecDepth 100000 in
theorem parse_out (l : List UInt8) (v : Int) (w : World) (h : v < 0 ∨ 6 < v) : Calls Try.prog 27 #[.string ⟨l.toArray⟩, .int .i64 v] w (ParsePost l v w) := by
  have hv : parseV l v = (0, 0, 7) := by rw [parseV, if_pos h]
  rcases h with h | h
  · go_enter Try.func27, Try.ntmps27
    go_wp2
    exact bodyPost_ret (v := .tuple #[.agg #[vb 0, vb 0], .int .i64 7]) (by simp [results, Try.results27, go_sem]) rfl ⟨by rw [hv], (by repeat (first | exact Below.refl _ _ | assumption | refine Below.drew ?_ | refine below_drewN ?_ _ | refine Below.alloc ?_ (by simp <;> omega) _ | refine Below.setCell ?_ (by simp <;> omega) _))⟩
  · have h' : ¬ v < 0 := by omega
    go_enter Try.func27, Try.ntmps27
    go_wp2
    exact bodyPost_ret (v := .tuple #[.agg #[vb 0, vb 0], .int .i64 7]) (by simp [results, Try.results27, go_sem]) rfl ⟨by rw [hv], (by repeat (first | exact Below.refl _ _ | assumption | refine Below.drew ?_ | refine below_drewN ?_ _ | refine Below.alloc ?_ (by simp <;> omega) _ | refine Below.setCell ?_ (by simp <;> omega) _))⟩

set_option maxHeartbeats 400000 in
set_option maxRecDepth 100000 in
theorem parse_any (l : List UInt8) (v : Int) (w : World) : Calls Try.prog 27 #[.string ⟨l.toArray⟩, .int .i64 v] w (ParsePost l v w) := by
  by_cases h : v < 0 ∨ 6 < v
  · exact parse_out l v w h
  · obtain ⟨k, rfl⟩ := Int.eq_ofNat_of_zero_le (show 0 ≤ v by omega)
    have hk : k ≤ 6 := by omega
    have hd0 : decide ((k : Int) < 0) = false := decide_eq_false (by omega)
    have hd6 : decide (6 < (k : Int)) = false := decide_eq_false (by omega)
    by_cases hl : 4096 < l.length
    · have hv : parseV l k = (0, 0, 4) := by rw [parseV, if_neg h, if_pos hl]
      have hll : decide (4096 < (l.length : Int)) = true := decide_eq_true (by omega)
      clear h
      go_enter Try.func27, Try.ntmps27
      go_wp2
      exact bodyPost_ret (v := .tuple #[.agg #[vb 0, vb 0], .int .i64 4]) (by simp [results, Try.results27, go_sem]) rfl ⟨by rw [hv], (by repeat (first | exact Below.refl _ _ | assumption | refine Below.drew ?_ | refine below_drewN ?_ _ | refine Below.alloc ?_ (by simp <;> omega) _ | refine Below.setCell ?_ (by simp <;> omega) _))⟩
    · have hll : decide (4096 < (l.length : Int)) = false := decide_eq_false (by omega)
      by_cases h1 : l = [42]
      · have hv : parseV l k = (0, 0, 0) := by rw [parseV, if_neg h, if_neg hl, if_pos h1]
        subst h1
        clear h hl hll
        go_enter Try.func27, Try.ntmps27
        go_wp2
        exact bodyPost_ret (v := .tuple #[.agg #[vb 0, vb 0], .int .i64 0]) (by simp [results, Try.results27, go_sem]) rfl ⟨by rw [hv], (by repeat (first | exact Below.refl _ _ | assumption | refine Below.drew ?_ | refine below_drewN ?_ _ | refine Below.alloc ?_ (by simp <;> omega) _ | refine Below.setCell ?_ (by simp <;> omega) _))⟩
      · by_cases h0 : l = []
        · have hv : parseV l k = (0, 0, 2) := by rw [parseV, if_neg h, if_neg hl, if_neg h1, if_pos h0]
          subst h0
          clear h hl hll h1
          go_enter Try.func27, Try.ntmps27
          go_wp2
          exact bodyPost_ret (v := .tuple #[.agg #[vb 0, vb 0], .int .i64 2]) (by simp [results, Try.results27, go_sem]) rfl ⟨by rw [hv], (by repeat (first | exact Below.refl _ _ | assumption | refine Below.drew ?_ | refine below_drewN ?_ _ | refine Below.alloc ?_ (by simp <;> omega) _ | refine Below.setCell ?_ (by simp <;> omega) _))⟩
        · exact parse_in l k hk w (by omega) h0 h1
end Go.Proofs.Ytfdfnamkkepbiaa
