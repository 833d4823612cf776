/-
  RegexExamples: the region that makes the examples, in any order.
-/
import Derived.Test.YtcholfpomalgdaaY8
import Derived.Test.YtcholfpomalgdaaRxAwake
namespace Go.Proofs.Ytcholfpomalgdaa
open Go.RowKit

def blk : Value → Nat
  | .slice (some a) _ _ => a.block
  | _ => 0
def aggL : Value → List Value
  | .agg a => a.toList
  | _ => []
/-- the kinds of operations -/
inductive XK where
  | con (u : Value)
  | pc (p : Pc)
  | agg (d n : Nat) (us : List Value)
  | mk (n : Nat)
  | sl (ds : List Nat) (ps : List Pc)
  | fin (ds : List Nat)
  | len
/-- the slot's number -/
def xs0 : Nat := 92
def XK.op (i : Nat) : XK → AOp
  | .con u => ⟨[], fun y => y (92 + i) = u, []⟩
  | .pc p => ⟨[], fun y => y (92 + i) = .agg (pcV p).toArray, []⟩
  | .agg d n us => ⟨[d], fun y => y (92 + i) = .agg (.slice (some ⟨blk (y (92 + d)), 0, none⟩) n n :: us).toArray, []⟩
  | .mk n => ⟨[], fun y => y (92 + i) = .slice (some ⟨blk (y (92 + i)), 0, none⟩) n n, [fun y => Res.obj (blk (y (92 + i))) (.cells (rxCells (List.replicate n ⟨0, 0, 0, 0, 0⟩)).toArray 34 (0, 0))]⟩
  | .sl ds ps => ⟨ds, fun y => y (92 + i) = .slice (some ⟨blk (y (92 + i)), 0, none⟩) ps.length ps.length, [fun y => Res.obj (blk (y (92 + i))) (.cells (rxCells ps).toArray 34 (0, 0))]⟩
  | .fin ds => ⟨ds, fun y => y (92 + i) = .slice (some ⟨blk (y (92 + i)), 0, none⟩) ds.length ds.length, [fun y => Res.obj (blk (y (92 + i))) (.cells (ds.flatMap fun d => aggL (y (92 + d))).toArray 48 (0, 0))]⟩
  | .len => ⟨[i - 1], fun y => y (92 + i) = .int .i64 16, []⟩
def exK : List XK := [
  .con (.agg [.slice none 0 0, .int .i64 (-1), .int .i64 7].toArray),
  .con (.agg [.slice none 0 0, .int .i64 0, .int .i64 3].toArray),
  .mk 65,
  .agg 2 65 [.int .i64 0, .int .i64 4],
  .mk 64,
  .agg 4 64 [.int .i64 0, .int .i64 6],
  .pc ⟨11, 0, 0, 0, 0⟩,
  .sl [6] [⟨11, 0, 0, 0, 0⟩],
  .agg 7 1 [.int .i64 0, .int .i64 6],
  .pc ⟨1, 0, 0, 1, 0⟩,
  .sl [9] [⟨1, 0, 0, 1, 0⟩],
  .agg 10 1 [.int .i64 0, .int .i64 2],
  .pc ⟨2, 1, 0, 0, 0⟩,
  .sl [12] [⟨2, 1, 0, 0, 0⟩],
  .agg 13 1 [.int .i64 1, .int .i64 2],
  .pc ⟨3, 1, 0, 0, 0⟩,
  .sl [15] [⟨3, 1, 0, 0, 0⟩],
  .agg 16 1 [.int .i64 0, .int .i64 7],
  .pc ⟨3, 1, 1, 0, 0⟩,
  .sl [18] [⟨3, 1, 1, 0, 0⟩],
  .agg 19 1 [.int .i64 1, .int .i64 2],
  .pc ⟨1, 0, 0, 0, 0⟩,
  .pc ⟨1, 0, 0, 0, 0⟩,
  .sl [21, 22] [⟨1, 0, 0, 0, 0⟩, ⟨1, 0, 0, 0, 0⟩],
  .agg 23 2 [.int .i64 0, .int .i64 2],
  .pc ⟨7, 0, 0, -1, 0⟩,
  .sl [25] [⟨7, 0, 0, -1, 0⟩],
  .agg 26 1 [.int .i64 0, .int .i64 8],
  .pc ⟨1, 0, 0, 0, 0⟩,
  .pc ⟨4, 0, 0, 0, 0⟩,
  .sl [28, 29] [⟨1, 0, 0, 0, 0⟩, ⟨4, 0, 0, 0, 0⟩],
  .agg 30 2 [.int .i64 0, .int .i64 8],
  .pc ⟨1, 0, 0, 0, 0⟩,
  .pc ⟨1, 0, 0, 0, 0⟩,
  .pc ⟨4, 0, 0, 1, 0⟩,
  .sl [32, 33, 34] [⟨1, 0, 0, 0, 0⟩, ⟨1, 0, 0, 0, 0⟩, ⟨4, 0, 0, 1, 0⟩],
  .agg 35 3 [.int .i64 0, .int .i64 8],
  .pc ⟨1, 0, 0, 0, 0⟩,
  .pc ⟨1, 0, 0, 0, 0⟩,
  .pc ⟨4, 0, 0, 0, 1⟩,
  .sl [37, 38, 39] [⟨1, 0, 0, 0, 0⟩, ⟨1, 0, 0, 0, 0⟩, ⟨4, 0, 0, 0, 1⟩],
  .agg 40 3 [.int .i64 0, .int .i64 0],
  .pc ⟨1, 0, 0, 0, 0⟩,
  .pc ⟨7, 0, 0, 0, 1⟩,
  .sl [42, 43] [⟨1, 0, 0, 0, 0⟩, ⟨7, 0, 0, 0, 1⟩],
  .agg 44 2 [.int .i64 0, .int .i64 2],
  .pc ⟨1, 0, 0, 0, 0⟩,
  .pc ⟨9, 0, 0, 0, 0⟩,
  .pc ⟨8, 0, 0, 1, 0⟩,
  .sl [46, 47, 48] [⟨1, 0, 0, 0, 0⟩, ⟨9, 0, 0, 0, 0⟩, ⟨8, 0, 0, 1, 0⟩],
  .agg 49 3 [.int .i64 0, .int .i64 2],
  .fin [0, 1, 3, 5, 8, 11, 14, 17, 20, 24, 27, 31, 36, 41, 45, 50],
  .len,
  .con (.int .i64 0)]
def exA (i : Nat) : AOp := match exK[i]? with
  | some k => k.op i
  | none => ⟨[], fun _ => True, []⟩
theorem up_ne {y : Nat → Value} {p q : Nat} {v : Value} (h : q ≠ p) : up y p v q = y q := if_neg h
theorem exA_dep (i : Nat) (y : Nat → Value) (k : Nat) (v : Value) (h : k ≠ i) (hd : k ∉ (exA i).deps) : ((exA i).ok y → (exA i).ok (up y (92 + k) v)) ∧ (exA i).rs (up y (92 + k) v) = (exA i).rs y := by
  have hi : up y (92 + k) v (92 + i) = y (92 + i) := up_ne (by omega)
  unfold exA at hd ⊢
  cases hk : exK[i]? with
  | none => exact ⟨fun _ => trivial, rfl⟩
  | some x =>
    rw [hk] at hd
    cases x with
    | con u => exact ⟨fun h => hi.trans h, rfl⟩
    | pc p => exact ⟨fun h => hi.trans h, rfl⟩
    | agg d n us =>
      have hdd : up y (92 + k) v (92 + d) = y (92 + d) := up_ne (by
        intro e
        have : k = d := by omega
        exact hd (by rw [this]; exact List.mem_cons_self ..))
      refine ⟨fun h => ?_, rfl⟩
      show up y (92 + k) v (92 + i) = .agg (.slice (some ⟨blk (up y (92 + k) v (92 + d)), 0, none⟩) n n :: us).toArray
      rw [hi, hdd]; exact h
    | mk n => simp only [XK.op, AOp.rs, List.map, hi]; exact ⟨fun h => h, trivial⟩
    | sl ds ps => simp only [XK.op, AOp.rs, List.map, hi]; exact ⟨fun h => h, trivial⟩
    | fin ds =>
      have hf : (ds.flatMap fun d => aggL (up y (92 + k) v (92 + d))) = ds.flatMap fun d => aggL (y (92 + d)) := by
        rw [List.flatMap_def, List.flatMap_def]
        congr 1
        refine List.map_congr_left fun d hm => ?_
        rw [up_ne]
        intro e
        have : k = d := by omega
        exact hd (by rw [this]; exact hm)
      simp only [XK.op, AOp.rs, List.map, hi, hf]; exact ⟨fun h => h, trivial⟩
    | len => exact ⟨fun h => hi.trans h, rfl⟩
/-- all slots -/
def exF (y : Nat → Value) : List Value := [y 0, y 1, y 2, y 3, y 4, y 5, y 6, y 7, y 8, y 9, y 10, y 11, y 12, y 13, y 14, y 15, y 16, y 17, y 18, y 19, y 20, y 21, y 22, y 23, y 24, y 25, y 26, y 27, y 28, y 29, y 30, y 31, y 32, y 33, y 34, y 35, y 36, y 37, y 38, y 39, y 40, y 41, y 42, y 43, y 44, y 45, y 46, y 47, y 48, y 49, y 50, y 51, y 52, y 53, y 54, y 55, y 56, y 57, y 58, y 59, y 60, y 61, y 62, y 63, y 64, y 65, y 66, y 67, y 68, y 69, y 70, y 71, y 72, y 73, y 74, y 75, y 76, y 77, y 78, y 79, y 80, y 81, y 82, y 83, y 84, y 85, y 86, y 87, y 88, y 89, y 90, y 91, y 92, y 93, y 94, y 95, y 96, y 97, y 98, y 99, y 100, y 101, y 102, y 103, y 104, y 105, y 106, y 107, y 108, y 109, y 110, y 111, y 112, y 113, y 114, y 115, y 116, y 117, y 118, y 119, y 120, y 121, y 122, y 123, y 124, y 125, y 126, y 127, y 128, y 129, y 130, y 131, y 132, y 133, y 134, y 135, y 136, y 137, y 138, y 139, y 140, y 141, y 142, y 143, y 144, y 145, y 146, y 147, y 148, y 149, y 150, y 151, y 152, y 153, y 154, y 155, y 156, y 157, y 158, y 159, y 160, y 161, y 162, y 163, y 164, y 165, y 166, y 167, y 168, y 169, y 170, y 171, y 172, y 173, y 174, y 175, y 176, y 177, y 178, y 179, y 180, y 181, y 182, y 183, y 184, y 185, y 186, y 187, y 188, y 189, y 190, y 191, y 192, y 193, y 194, y 195, y 196, y 197, y 198, y 199, y 200, y 201, y 202, y 203, y 204, y 205, y 206, y 207, y 208, y 209, y 210, y 211, y 212, y 213, y 214, y 215, y 216, y 217, y 218, y 219, y 220, y 221, y 222, y 223, y 224, y 225, y 226, y 227, y 228, y 229, y 230, y 231, y 232, y 233, y 234, y 235, y 236, y 237, y 238, y 239, y 240, y 241, y 242, y 243, y 244, y 245, y 246, y 247, y 248, y 249, y 250, y 251, y 252, y 253]
set_option maxRecDepth 100000 in
theorem exF_eq (y : Nat → Value) : exF y = (List.range 254).map y := rfl
theorem exF_set (y : Nat → Value) (p : Nat) (v : Value) : (exF y).set p v = exF (up y p v) := by
  rw [exF_eq, exF_eq]
  apply List.ext_getElem?
  intro q
  rw [List.getElem?_set, List.getElem?_map, List.getElem?_map, List.length_map, List.length_range]
  by_cases hq : q < 254
  · rw [List.getElem?_range hq]
    by_cases hp : p = q
    · subst hp; rw [if_pos rfl, if_pos hq]; simp [up]
    · rw [if_neg hp]; simp [up, Ne.symm hp]
  · rw [List.getElem?_eq_none (by simpa using hq)]
    by_cases hp : p = q
    · subst hp; rw [if_pos rfl, if_neg hq]; rfl
    · rw [if_neg hp]; rfl
theorem exF_of (l : List Value) (h : l.length = 254) : l = exF fun p => l.getD p undef := by
  rw [exF_eq]
  apply List.ext_getElem?
  intro q
  rw [List.getElem?_map]
  by_cases hq : q < 254
  · rw [List.getElem?_range hq, List.getElem?_eq_getElem (by omega)]
    simp [List.getD_eq_getElem?_getD, List.getElem?_eq_getElem (show q < l.length by omega)]
  · rw [List.getElem?_eq_none (by omega), List.getElem?_eq_none (by simpa using hq)]
    rfl
theorem exF_at {y : Nat → Value} {p : Nat} {c : Value} (h : y p = c) : exF y = (exF y).set p c := by
  rw [exF_set]
  congr 1
  funext q
  unfold up
  split
  · rename_i hq; rw [hq]; exact h
  · rfl
end Go.Proofs.Ytcholfpomalgdaa
