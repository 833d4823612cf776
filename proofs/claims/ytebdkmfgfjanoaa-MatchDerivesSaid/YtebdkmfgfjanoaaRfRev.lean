/-
  The reference of layer 4: join.
-/
import Derived.Test.YtebdkmfgfjanoaaRfCut
import Derived.Test.YtebdkmfgfjanoaaRxKit
namespace Go.Proofs.Ytebdkmfgfjanoaa
open Go.RowKit

/-- pieces moved up by k -/
def upPc (k : Nat) (p : Pc) : Pc := { p with a := if 0 < kids p.op then p.a + k else p.a, b := if 1 < kids p.op then p.b + k else p.b }
theorem up_flat {v : Int} (j : Nat) : ∀ (t : T) (k : Nat), t.wf v → (t.flat k).map (upPc j) = t.flat (j + k)
  | .none, _, _ => rfl
  | .empty, _, _ => rfl
  | .letter _ _, _, _ => rfl
  | .un op a, k, h => by
    have h1 := T.size_pos a
    simp only [T.flat, List.map_append, up_flat j a k h.2, List.map_cons, List.map_nil]
    congr 2
    simp only [T.root, upPc, h.1]
    refine Pc.ext' rfl rfl rfl ?_ rfl
    rw [if_pos (by omega)]; simp only; omega
  | .bin op a b, k, h => by
    have h1 := T.size_pos a
    have h2 := T.size_pos b
    have e : j + k + a.size = j + (k + a.size) := by omega
    simp only [T.flat, List.map_append, up_flat j a k h.2.1, up_flat j b (k + a.size) h.2.2, List.map_cons, List.map_nil, e]
    congr 3
    simp only [T.root, upPc, h.1]
    refine Pc.ext' rfl rfl rfl ?_ ?_
    · rw [if_pos (by omega)]; simp only; omega
    · rw [if_pos (by omega)]; simp only; omega
theorem wf_ops {v : Int} : ∀ (t : T) (k : Nat), t.wf v → ∀ p ∈ t.flat k, 1 ≤ p.op ∧ p.op ≤ 10
  | .none, k, _, p, hp => by simp [T.flat, T.root] at hp; subst hp; decide
  | .empty, k, _, p, hp => by simp [T.flat, T.root] at hp; subst hp; decide
  | .letter a b, k, _, p, hp => by simp [T.flat, T.root] at hp; subst hp; exact ⟨show 1 ≤ 3 by decide, show 3 ≤ 10 by decide⟩
  | .un op a, k, h, p, hp => by
    have := kids_one.1 h.1
    rcases List.mem_append.1 (by simpa only [T.flat] using hp) with hp | hp
    · exact wf_ops a k h.2 p hp
    · simp [T.root] at hp; subst hp; simp only; omega
  | .bin op a b, k, h, p, hp => by
    have := kids_two.1 h.1
    rcases List.mem_append.1 (by simpa only [T.flat] using hp) with hp | hp
    · exact wf_ops a k h.2.1 p hp
    · rcases List.mem_append.1 hp with hp | hp
      · exact wf_ops b _ h.2.2 p hp
      · simp [T.root] at hp; subst hp; simp only; omega
theorem flat_high {v : Int} : ∀ (t : T) (k : Nat), t.wf v → ∀ p ∈ t.flat k, p.a ≤ ((k + t.size : Nat) : Int) ∧ p.b ≤ ((k + t.size : Nat) : Int)
  | .none, k, _, p, hp => by simp [T.flat, T.root] at hp; subst hp; simp [T.size]; omega
  | .empty, k, _, p, hp => by simp [T.flat, T.root] at hp; subst hp; simp [T.size]; omega
  | .letter a b, k, _, p, hp => by simp [T.flat, T.root] at hp; subst hp; simp [T.size]; omega
  | .un op a, k, h, p, hp => by
    rcases List.mem_append.1 (by simpa only [T.flat] using hp) with hp | hp
    · have := flat_high a k h.2 p hp
      simp only [T.size]; omega
    · simp [T.root] at hp; subst hp; simp only [T.size]; omega
  | .bin op a b, k, h, p, hp => by
    rcases List.mem_append.1 (by simpa only [T.flat] using hp) with hp | hp
    · have := flat_high a k h.2.1 p hp
      simp only [T.size]; omega
    · rcases List.mem_append.1 hp with hp | hp
      · have := flat_high b _ h.2.2 p hp
        simp only [T.size]; omega
      · simp [T.root] at hp; subst hp; simp only [T.size]; omega
theorem sub_un (op : Nat) (a : T) : (T.un op a).sub 0 (a.size - 1) = (0, a) := by
  have h := T.size_pos a
  have := sub_whole a 0
  rw [Nat.zero_add] at this
  simp only [T.sub]; rw [if_neg (by omega)]; exact this
theorem sub_binA (op : Nat) (a b : T) : (T.bin op a b).sub 0 (a.size - 1) = (0, a) := by
  have h := T.size_pos a
  have := sub_whole a 0
  rw [Nat.zero_add] at this
  simp only [T.sub]; rw [if_neg (by omega), if_pos (by omega)]; exact this
theorem sub_binB (op : Nat) (a b : T) : (T.bin op a b).sub 0 (a.size + b.size - 1) = (a.size, b) := by
  have h := T.size_pos a
  have h2 := T.size_pos b
  have := sub_whole b a.size
  simp only [T.sub]; rw [if_neg (by omega), if_neg (by omega), Nat.zero_add]; exact this
/-- a block that was written out whole is a row -/
theorem objRow {w0 w : World} {rs : List Res} {b n size : Nat} {ys : List Value} {e : TypeId} (hS : St Nof w0 rs w) (hm : HasObj rs b (.cells ys.toArray e (0, 0)) := by infer_instance) (hn : ys.length = n * size := by rfl) (hl : n ≤ 1000000 := by omega) : w.ownsRow w0.heap.size e size (.slice (some ⟨b, 0, none⟩) n n) n ys := by
  have hb : w.heap[b]? = some (.cells ys.toArray e (0, 0)) := hS.all _ hm.mem
  have hg : w0.heap.size ≤ b := (hS.own _ hm.mem rfl b rfl).resolve_left fun h => h
  exact ⟨hn, .inr ⟨b, n, _, rfl, hg, hb, Nat.le_refl _, by unfold maxLen; omega, by simpa using hn, List.take_of_length_le (by simp [hn])⟩⟩
end Go.Proofs.Ytebdkmfgfjanoaa
