/-
  RegexExamples: the tables. 
-/
import Derived.Test.YtcholfpomalgdaaRxEx1
import Derived.Test.YtcholfpomalgdaaRxPrs
namespace Go.Proofs.Ytcholfpomalgdaa
open Go.RowKit

def prT : List (List UInt8 × Int × Int) := [
  ([], 0, 3),
  ([48], 7, 7),
  ([120], -1, 7),
  ([40, 48, 46, 49], 0, 3),
  ([40, 48, 43, 49, 41], 0, 2),
  ([48, 49], 0, 5),
  ([48, 32], 0, 5),
  ([32, 48], 0, 2),
  ([40, 40, 62, 48, 41, 42, 41], 0, 2),
  ([40, 126, 40, 60, 48, 41, 41], 0, 2),
  ([40, 40, 62, 40, 60, 48, 41, 41, 38, 49, 41], 0, 2),
  ([40, 62, 40, 60, 48, 41, 41], 0, 2),
  ([40, 40, 62, 48, 41, 124, 40, 60, 49, 41, 41], 0, 0),
  ([91, 98, 93], 1, 7),
  ([91, 98, 93], 2, 0),
  ([91, 93], 1, 2),
  ([91, 33, 93], 1, 2),
  ([91, 98, 97, 93], 2, 2),
  ([91, 97, 97, 93], 2, 2),
  ([91, 102, 33], 6, 2),
  ([91, 102], 6, 3),
  ([91, 42, 97, 93], 6, 2),
  ([91, 97, 33, 98], 6, 3),
  ([40, 41], 0, 2),
  ([40, 48, 41], 0, 2),
  ([40, 48, 42], 0, 3),
  ([40, 48, 42, 42, 41], 0, 2),
  ([40, 126, 48, 42, 41], 0, 2),
  ([40], 0, 3),
  ([41], 0, 2),
  ([50], 0, 2)]
def prRow (x : List UInt8 × Int × Int) : List Value := [.string ⟨x.1.toArray⟩, .int .i64 x.2.1, .int .i64 x.2.2]
def prC : List Value := prT.flatMap prRow
set_option maxRecDepth 100000 in
theorem prT_ok : ∀ x ∈ prT, prsE x.1 x.2.1 = x.2.2 ∧ x.1.length < 20 := by decide +kernel
theorem prC_drop {i : Nat} {x : List UInt8 × Int × Int} (h : prT[i]? = some x) : (prC.drop (i * 3)).take (prRow x).length = prRow x := by
  match i, h with
  | 0, h => cases h; rfl
  | 1, h => cases h; rfl
  | 2, h => cases h; rfl
  | 3, h => cases h; rfl
  | 4, h => cases h; rfl
  | 5, h => cases h; rfl
  | 6, h => cases h; rfl
  | 7, h => cases h; rfl
  | 8, h => cases h; rfl
  | 9, h => cases h; rfl
  | 10, h => cases h; rfl
  | 11, h => cases h; rfl
  | 12, h => cases h; rfl
  | 13, h => cases h; rfl
  | 14, h => cases h; rfl
  | 15, h => cases h; rfl
  | 16, h => cases h; rfl
  | 17, h => cases h; rfl
  | 18, h => cases h; rfl
  | 19, h => cases h; rfl
  | 20, h => cases h; rfl
  | 21, h => cases h; rfl
  | 22, h => cases h; rfl
  | 23, h => cases h; rfl
  | 24, h => cases h; rfl
  | 25, h => cases h; rfl
  | 26, h => cases h; rfl
  | 27, h => cases h; rfl
  | 28, h => cases h; rfl
  | 29, h => cases h; rfl
  | 30, h => cases h; rfl
  | n + 31, h => exact absurd h (by simp [prT])
/-- the examples of expressions -/
def rgT : List (List Pc × Int × Int) := [
  ([], -1, 7),
  ([], 0, 3),
  (List.replicate 65 ⟨0, 0, 0, 0, 0⟩, 0, 4),
  (List.replicate 64 ⟨0, 0, 0, 0, 0⟩, 0, 6),
  ([⟨11, 0, 0, 0, 0⟩], 0, 6),
  ([⟨1, 0, 0, 1, 0⟩], 0, 2),
  ([⟨2, 1, 0, 0, 0⟩], 1, 2),
  ([⟨3, 1, 0, 0, 0⟩], 0, 7),
  ([⟨3, 1, 1, 0, 0⟩], 1, 2),
  ([⟨1, 0, 0, 0, 0⟩, ⟨1, 0, 0, 0, 0⟩], 0, 2),
  ([⟨7, 0, 0, -1, 0⟩], 0, 8),
  ([⟨1, 0, 0, 0, 0⟩, ⟨4, 0, 0, 0, 0⟩], 0, 8),
  ([⟨1, 0, 0, 0, 0⟩, ⟨1, 0, 0, 0, 0⟩, ⟨4, 0, 0, 1, 0⟩], 0, 8),
  ([⟨1, 0, 0, 0, 0⟩, ⟨1, 0, 0, 0, 0⟩, ⟨4, 0, 0, 0, 1⟩], 0, 0),
  ([⟨1, 0, 0, 0, 0⟩, ⟨7, 0, 0, 0, 1⟩], 0, 2),
  ([⟨1, 0, 0, 0, 0⟩, ⟨9, 0, 0, 0, 0⟩, ⟨8, 0, 0, 1, 0⟩], 0, 2)]
instance : DecidableEq Pc := fun a b => by
  cases a; cases b
  simp only [Pc.mk.injEq]
  infer_instance
set_option maxRecDepth 100000 in
theorem rgT_ok : ∀ x ∈ rgT, chkR x.1 x.2.1 = x.2.2 := by decide +kernel
/-- a row of the examples -/
def exRow (A : Option Addr) (x : List Pc × Int × Int) : List Value := [.slice A x.1.length x.1.length, .int .i64 x.2.1, .int .i64 x.2.2]
/-- the cells of the examples -/
def exFin (y : Nat → Value) : List Value := [0, 1, 3, 5, 8, 11, 14, 17, 20, 24, 27, 31, 36, 41, 45, 50].flatMap fun d => aggL (y (92 + d))
set_option maxRecDepth 100000 in
theorem exFin_of {y : Nat → Value} (hd : ∀ d ∈ (exA 51).deps, (exA d).ok y) : exFin y = [.slice none 0 0, .int .i64 (-1), .int .i64 7, .slice none 0 0, .int .i64 0, .int .i64 3, .slice (some ⟨blk (y 94), 0, none⟩) 65 65, .int .i64 0, .int .i64 4, .slice (some ⟨blk (y 96), 0, none⟩) 64 64, .int .i64 0, .int .i64 6, .slice (some ⟨blk (y 99), 0, none⟩) 1 1, .int .i64 0, .int .i64 6, .slice (some ⟨blk (y 102), 0, none⟩) 1 1, .int .i64 0, .int .i64 2, .slice (some ⟨blk (y 105), 0, none⟩) 1 1, .int .i64 1, .int .i64 2, .slice (some ⟨blk (y 108), 0, none⟩) 1 1, .int .i64 0, .int .i64 7, .slice (some ⟨blk (y 111), 0, none⟩) 1 1, .int .i64 1, .int .i64 2, .slice (some ⟨blk (y 115), 0, none⟩) 2 2, .int .i64 0, .int .i64 2, .slice (some ⟨blk (y 118), 0, none⟩) 1 1, .int .i64 0, .int .i64 8, .slice (some ⟨blk (y 122), 0, none⟩) 2 2, .int .i64 0, .int .i64 8, .slice (some ⟨blk (y 127), 0, none⟩) 3 3, .int .i64 0, .int .i64 8, .slice (some ⟨blk (y 132), 0, none⟩) 3 3, .int .i64 0, .int .i64 0, .slice (some ⟨blk (y 136), 0, none⟩) 2 2, .int .i64 0, .int .i64 2, .slice (some ⟨blk (y 141), 0, none⟩) 3 3, .int .i64 0, .int .i64 2] := by
  have h0 : y 92 = .agg [.slice none 0 0, .int .i64 (-1), .int .i64 7].toArray := hd 0 (by simp only [exA, exK, XK.op]; decide)
  have h1 : y 93 = .agg [.slice none 0 0, .int .i64 0, .int .i64 3].toArray := hd 1 (by simp only [exA, exK, XK.op]; decide)
  have h2 : y 95 = .agg [.slice (some ⟨blk (y 94), 0, none⟩) 65 65, .int .i64 0, .int .i64 4].toArray := hd 3 (by simp only [exA, exK, XK.op]; decide)
  have h3 : y 97 = .agg [.slice (some ⟨blk (y 96), 0, none⟩) 64 64, .int .i64 0, .int .i64 6].toArray := hd 5 (by simp only [exA, exK, XK.op]; decide)
  have h4 : y 100 = .agg [.slice (some ⟨blk (y 99), 0, none⟩) 1 1, .int .i64 0, .int .i64 6].toArray := hd 8 (by simp only [exA, exK, XK.op]; decide)
  have h5 : y 103 = .agg [.slice (some ⟨blk (y 102), 0, none⟩) 1 1, .int .i64 0, .int .i64 2].toArray := hd 11 (by simp only [exA, exK, XK.op]; decide)
  have h6 : y 106 = .agg [.slice (some ⟨blk (y 105), 0, none⟩) 1 1, .int .i64 1, .int .i64 2].toArray := hd 14 (by simp only [exA, exK, XK.op]; decide)
  have h7 : y 109 = .agg [.slice (some ⟨blk (y 108), 0, none⟩) 1 1, .int .i64 0, .int .i64 7].toArray := hd 17 (by simp only [exA, exK, XK.op]; decide)
  have h8 : y 112 = .agg [.slice (some ⟨blk (y 111), 0, none⟩) 1 1, .int .i64 1, .int .i64 2].toArray := hd 20 (by simp only [exA, exK, XK.op]; decide)
  have h9 : y 116 = .agg [.slice (some ⟨blk (y 115), 0, none⟩) 2 2, .int .i64 0, .int .i64 2].toArray := hd 24 (by simp only [exA, exK, XK.op]; decide)
  have h10 : y 119 = .agg [.slice (some ⟨blk (y 118), 0, none⟩) 1 1, .int .i64 0, .int .i64 8].toArray := hd 27 (by simp only [exA, exK, XK.op]; decide)
  have h11 : y 123 = .agg [.slice (some ⟨blk (y 122), 0, none⟩) 2 2, .int .i64 0, .int .i64 8].toArray := hd 31 (by simp only [exA, exK, XK.op]; decide)
  have h12 : y 128 = .agg [.slice (some ⟨blk (y 127), 0, none⟩) 3 3, .int .i64 0, .int .i64 8].toArray := hd 36 (by simp only [exA, exK, XK.op]; decide)
  have h13 : y 133 = .agg [.slice (some ⟨blk (y 132), 0, none⟩) 3 3, .int .i64 0, .int .i64 0].toArray := hd 41 (by simp only [exA, exK, XK.op]; decide)
  have h14 : y 137 = .agg [.slice (some ⟨blk (y 136), 0, none⟩) 2 2, .int .i64 0, .int .i64 2].toArray := hd 45 (by simp only [exA, exK, XK.op]; decide)
  have h15 : y 142 = .agg [.slice (some ⟨blk (y 141), 0, none⟩) 3 3, .int .i64 0, .int .i64 2].toArray := hd 50 (by simp only [exA, exK, XK.op]; decide)
  show aggL (y 92) ++ (aggL (y 93) ++ (aggL (y 95) ++ (aggL (y 97) ++ (aggL (y 100) ++ (aggL (y 103) ++ (aggL (y 106) ++ (aggL (y 109) ++ (aggL (y 112) ++ (aggL (y 116) ++ (aggL (y 119) ++ (aggL (y 123) ++ (aggL (y 128) ++ (aggL (y 133) ++ (aggL (y 137) ++ (aggL (y 142) ++ []))))))))))))))) = _
  rw [h0, h1, h2, h3, h4, h5, h6, h7, h8, h9, h10, h11, h12, h13, h14, h15]
  rfl
theorem exFin_eq {y : Nat → Value} (hok : ∀ i, i < 54 → (exA i).ok y) : exFin y = [.slice none 0 0, .int .i64 (-1), .int .i64 7, .slice none 0 0, .int .i64 0, .int .i64 3, .slice (some ⟨blk (y 94), 0, none⟩) 65 65, .int .i64 0, .int .i64 4, .slice (some ⟨blk (y 96), 0, none⟩) 64 64, .int .i64 0, .int .i64 6, .slice (some ⟨blk (y 99), 0, none⟩) 1 1, .int .i64 0, .int .i64 6, .slice (some ⟨blk (y 102), 0, none⟩) 1 1, .int .i64 0, .int .i64 2, .slice (some ⟨blk (y 105), 0, none⟩) 1 1, .int .i64 1, .int .i64 2, .slice (some ⟨blk (y 108), 0, none⟩) 1 1, .int .i64 0, .int .i64 7, .slice (some ⟨blk (y 111), 0, none⟩) 1 1, .int .i64 1, .int .i64 2, .slice (some ⟨blk (y 115), 0, none⟩) 2 2, .int .i64 0, .int .i64 2, .slice (some ⟨blk (y 118), 0, none⟩) 1 1, .int .i64 0, .int .i64 8, .slice (some ⟨blk (y 122), 0, none⟩) 2 2, .int .i64 0, .int .i64 8, .slice (some ⟨blk (y 127), 0, none⟩) 3 3, .int .i64 0, .int .i64 8, .slice (some ⟨blk (y 132), 0, none⟩) 3 3, .int .i64 0, .int .i64 0, .slice (some ⟨blk (y 136), 0, none⟩) 2 2, .int .i64 0, .int .i64 2, .slice (some ⟨blk (y 141), 0, none⟩) 3 3, .int .i64 0, .int .i64 2] := exFin_of fun d h => hok d (Nat.lt_trans ((by simp only [exA, exK, XK.op]; decide : ∀ d ∈ (exA 51).deps, d < 51) d h) (by omega))
theorem aggO_nil (l : Fm) (k : Nat) : aggO l k [] = some [] := rfl
theorem aggO_cons {l : Fm} {k : Nat} {x : Operand} {cs : Array Value} {ps : List (Nat × Operand)} {vs : List (List Value)} (hx : lk l x = some (.agg cs)) (h : aggO l (k + 1) ps = some vs) : aggO l k ((k, x) :: ps) = some (cs.toList :: vs) := by
  unfold aggO
  rw [Nat.beq_refl, hx, h]
  rfl
set_option maxRecDepth 100000 in
theorem ex_tab {y : Nat → Value} (hok : ∀ i, i < 54 → (exA i).ok y) {i : Nat} {x : List Pc × Int × Int} (h : rgT[i]? = some x) :
    ∃ A, ((exFin y).drop (i * 3)).take (exRow A x).length = exRow A x ∧ (A = none ∧ x.1 = [] ∨ ∃ b, A = some ⟨b, 0, none⟩ ∧ Res.obj b (.cells (rxCells x.1).toArray 34 (0, 0)) ∈ resA exA 54 y) := by
  have e := exFin_eq hok
  match i, h with
  | 0, h => cases h; exact ⟨none, by rw [e]; rfl, .inl ⟨rfl, rfl⟩⟩
  | 1, h => cases h; exact ⟨none, by rw [e]; rfl, .inl ⟨rfl, rfl⟩⟩
  | 2, h => cases h; exact ⟨some ⟨blk (y 94), 0, none⟩, by rw [e]; rfl, .inr ⟨_, rfl, List.mem_flatMap.2 ⟨2, List.mem_range.2 (by omega), List.mem_cons_self ..⟩⟩⟩
  | 3, h => cases h; exact ⟨some ⟨blk (y 96), 0, none⟩, by rw [e]; rfl, .inr ⟨_, rfl, List.mem_flatMap.2 ⟨4, List.mem_range.2 (by omega), List.mem_cons_self ..⟩⟩⟩
  | 4, h => cases h; exact ⟨some ⟨blk (y 99), 0, none⟩, by rw [e]; rfl, .inr ⟨_, rfl, List.mem_flatMap.2 ⟨7, List.mem_range.2 (by omega), List.mem_cons_self ..⟩⟩⟩
  | 5, h => cases h; exact ⟨some ⟨blk (y 102), 0, none⟩, by rw [e]; rfl, .inr ⟨_, rfl, List.mem_flatMap.2 ⟨10, List.mem_range.2 (by omega), List.mem_cons_self ..⟩⟩⟩
  | 6, h => cases h; exact ⟨some ⟨blk (y 105), 0, none⟩, by rw [e]; rfl, .inr ⟨_, rfl, List.mem_flatMap.2 ⟨13, List.mem_range.2 (by omega), List.mem_cons_self ..⟩⟩⟩
  | 7, h => cases h; exact ⟨some ⟨blk (y 108), 0, none⟩, by rw [e]; rfl, .inr ⟨_, rfl, List.mem_flatMap.2 ⟨16, List.mem_range.2 (by omega), List.mem_cons_self ..⟩⟩⟩
  | 8, h => cases h; exact ⟨some ⟨blk (y 111), 0, none⟩, by rw [e]; rfl, .inr ⟨_, rfl, List.mem_flatMap.2 ⟨19, List.mem_range.2 (by omega), List.mem_cons_self ..⟩⟩⟩
  | 9, h => cases h; exact ⟨some ⟨blk (y 115), 0, none⟩, by rw [e]; rfl, .inr ⟨_, rfl, List.mem_flatMap.2 ⟨23, List.mem_range.2 (by omega), List.mem_cons_self ..⟩⟩⟩
  | 10, h => cases h; exact ⟨some ⟨blk (y 118), 0, none⟩, by rw [e]; rfl, .inr ⟨_, rfl, List.mem_flatMap.2 ⟨26, List.mem_range.2 (by omega), List.mem_cons_self ..⟩⟩⟩
  | 11, h => cases h; exact ⟨some ⟨blk (y 122), 0, none⟩, by rw [e]; rfl, .inr ⟨_, rfl, List.mem_flatMap.2 ⟨30, List.mem_range.2 (by omega), List.mem_cons_self ..⟩⟩⟩
  | 12, h => cases h; exact ⟨some ⟨blk (y 127), 0, none⟩, by rw [e]; rfl, .inr ⟨_, rfl, List.mem_flatMap.2 ⟨35, List.mem_range.2 (by omega), List.mem_cons_self ..⟩⟩⟩
  | 13, h => cases h; exact ⟨some ⟨blk (y 132), 0, none⟩, by rw [e]; rfl, .inr ⟨_, rfl, List.mem_flatMap.2 ⟨40, List.mem_range.2 (by omega), List.mem_cons_self ..⟩⟩⟩
  | 14, h => cases h; exact ⟨some ⟨blk (y 136), 0, none⟩, by rw [e]; rfl, .inr ⟨_, rfl, List.mem_flatMap.2 ⟨44, List.mem_range.2 (by omega), List.mem_cons_self ..⟩⟩⟩
  | 15, h => cases h; exact ⟨some ⟨blk (y 141), 0, none⟩, by rw [e]; rfl, .inr ⟨_, rfl, List.mem_flatMap.2 ⟨49, List.mem_range.2 (by omega), List.mem_cons_self ..⟩⟩⟩
  | n + 16, h => exact absurd h (by simp [rgT])
/-- the examples can be read -/
theorem ex_rd {F : Nat → Prop} {w0 w : World} {rs : List Res} {A : Option Addr} {L : List Pc} {y : Nat → Value} (h : A = none ∧ L = [] ∨ ∃ b, A = some ⟨b, 0, none⟩ ∧ Res.obj b (.cells (rxCells L).toArray 34 (0, 0)) ∈ resA exA 54 y) (hS : St F w0 rs w) (hsub : ∀ r ∈ resA exA 54 y, r ∈ rs) : Rd w 5 A L.length (rxCells L) := by
  rcases h with ⟨rfl, rfl⟩ | ⟨b, rfl, hm⟩
  · exact Rd.nil
  · exact objRd hS ⟨hsub _ hm⟩ rfl (rxCells_len L)
theorem exFin_len {y : Nat → Value} (hok : ∀ i, i < 54 → (exA i).ok y) : (exFin y).length = 16 * 3 := by rw [exFin_eq hok]; rfl
theorem exFin_mem (y : Nat → Value) : Res.obj (blk (y 143)) (.cells (exFin y).toArray 48 (0, 0)) ∈ resA exA 54 y := List.mem_flatMap.2 ⟨51, List.mem_range.2 (by omega), List.mem_cons_self ..⟩
set_option maxRecDepth 100000 in
theorem rgT_pok : ∀ x ∈ rgT, (∀ p ∈ x.1, p.ok) ∧ x.1.length ≤ 65 := by
  intro x hx
  simp only [rgT, List.mem_cons, List.not_mem_nil, or_false] at hx
  rcases hx with rfl | rfl | rfl | rfl | rfl | rfl | rfl | rfl | rfl | rfl | rfl | rfl | rfl | rfl | rfl | rfl
  all_goals refine ⟨fun p hp => ?_, by simp⟩
  all_goals first
    | (cases hp; done)
    | (obtain rfl := (List.mem_replicate.1 hp).2; constructor <;> decide)
    | (simp only [List.mem_cons, List.not_mem_nil, or_false] at hp; subst hp; constructor <;> decide)
    | (simp only [List.mem_cons, List.not_mem_nil, or_false] at hp; rcases hp with rfl | rfl <;> constructor <;> decide)
    | (simp only [List.mem_cons, List.not_mem_nil, or_false] at hp; rcases hp with rfl | rfl | rfl <;> constructor <;> decide)
theorem prsE_long {s : List UInt8} {v : Int} (hv : ¬ (v < 0 ∨ 6 < v)) (h : 4096 < s.length) : prsE s v = 4 := by rw [prsE, if_neg hv, if_pos h]
theorem exBlk : blkE [⟨1, 0, 0, 0, 0⟩] 0 1 = 8 ∧ blkE [⟨1, 0, 0, 0, 0⟩] 0 (-1) = 8 ∧ blkE [] 0 (-1) = 3 := by decide +kernel
theorem blkErr (L : List Pc) (v i e : Int) (A : Option Addr) (n c : Nat) (W : World) (hA : Rd W 5 A n (rxCells L)) (hL : ∀ p ∈ L, p.ok) (hn : n ≤ 4294967296) (hc : n ≤ c) (h : blkE L v i = e) (he : e ≠ 0) : CallsR Try.prog 12 #[.slice A n c, .int .i64 v, .int .i64 i] W fun r w' =>
    (∃ A' c', r = .tuple #[.slice A' 0 c', .int .i64 e]) ∧ Fr Nof W w' := by
  refine (blockR A n c L v i W hA hL hn hc).mono ?_
  rintro r w' ⟨A', c', rfl, _, hf⟩
  have h0 : blkL L v i = [] := if_neg (by rw [h]; exact he)
  rw [h, h0]
  exact ⟨⟨A', c', rfl⟩, hf⟩
/-- a deep text -/
def nest : Nat → T
  | 0 => .none
  | k + 1 => .un 7 (nest k)
theorem nest_text (k : Nat) : (nest (k + 1)).text = [40, 126] ++ (nest k).text ++ [41] := by
  show opB 7 ++ ((nest k).text ++ (opM 7 ++ opA 7)) = _
  have h1 : opB 7 = [40, 126] := rfl
  have h2 : opM 7 ++ opA 7 = [41] := rfl
  rw [h1, h2]; simp
theorem nest_size : ∀ k, (nest k).size = k + 1
  | 0 => rfl
  | k + 1 => by show (nest k).size + 1 = _; rw [nest_size k]
theorem nest_len : ∀ k, (nest k).text.length = 3 * k + 1
  | 0 => rfl
  | k + 1 => by rw [nest_text]; simp [nest_len k]; omega
theorem nest_wf (v : Int) : ∀ k, (nest k).wf v
  | 0 => trivial
  | k + 1 => ⟨rfl, nest_wf v k⟩
theorem nest_free : ∀ k b, (nest k).free b = true
  | 0, _ => rfl
  | k + 1, b => by
    show ((b || !((7 : Nat) == 9 || (7 : Nat) == 10)) && (nest k).free false) = true
    rw [nest_free k false]; cases b <;> rfl
theorem nest_long {k : Nat} (h : 64 ≤ k) (hk : k ≤ 1000) : prsE (nest k).text 0 = 4 := by
  have hl := nest_len k
  have hg : prsG (nest k).text = .ok (nest k) [] := by
    have := pExpr_text (nest k) (nest_wf 6 k) (2 * (nest k).text.length + 1) [] (by omega)
    rwa [List.append_nil] at this
  unfold prsE
  rw [if_neg (by decide), if_neg (by omega), hg]
  show chkR _ _ = 4
  unfold chkR
  have hf : ((nest k).flat 0).length = k + 1 := by rw [T.flat_len, nest_size]
  rw [if_neg (by decide), if_neg (by omega), if_pos (by omega)]
end Go.Proofs.Ytcholfpomalgdaa
