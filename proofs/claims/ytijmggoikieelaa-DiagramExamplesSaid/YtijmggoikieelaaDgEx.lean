/-
  The store of the examples, computed.
-/
import Derived.Test.YtijmggoikieelaaDgOps
namespace Go.Proofs.Ytijmggoikieelaa
open Go.RowKit

def exT : List Int := (List.range 64).map Int.ofNat
def exN : List Dg.Nd := (Dg.bld (fun x => exT.getD x 0) 6 0 0 []).2
theorem ex_len : exN.length = 127 := by kernel_rfl
theorem ex_ref : (Dg.bld (fun x => exT.getD x 0) 6 0 0 []).1 = 126 := by kernel_rfl
theorem ex_def : exN = (Dg.bld (fun x => exT.getD x 0) 6 0 0 []).2 := by unfold exN; rfl
theorem pair_of {p : Nat × List Dg.Nd} {k : Nat} (h : p.1 = k) : p = (k, p.2) := by
  cases p; cases h; rfl
theorem ex_bld : Dg.bld (fun x => exT.getD x 0) 6 0 0 [] = (126, exN) := by
  have h := pair_of ex_ref
  rw [← ex_def] at h
  exact h
theorem ex_ins : insD (fun x => exT.getD x 0) 6 4096 [] [] = (126, 0, exN, [126]) := by
  unfold insD
  have h1 : ¬ 4096 < (Dg.bld (fun x => exT.getD x 0) 6 0 0 []).2.length := by
    have := ex_len
    unfold exN at this
    omega
  rw [if_neg h1, ex_ref]
  rfl
def ex5 : Nat := (Dg.bld (fun _ => 5) 6 0 0 exN).1
theorem ex_five : insD (fun _ => 5) 6 4096 exN [126] = ((ex5 : Int), 0, exN, [126, ex5]) := by
  have h1 : (Dg.bld (fun _ => 5) 6 0 0 exN).2 = exN := by kernel_rfl
  have h2 : Dg.kadd [126] ex5 = [126, ex5] := by kernel_rfl
  unfold insD
  rw [h1, if_neg (by rw [ex_len]; decide)]
  show (((ex5 : Nat) : Int), (0 : Int), exN, Dg.kadd [126] ex5) = _
  rw [h2]
theorem ex_five2 : insD (fun _ => 5) 6 4096 exN [126, ex5] = ((ex5 : Int), 0, exN, [126, ex5]) := by
  have h1 : (Dg.bld (fun _ => 5) 6 0 0 exN).2 = exN := by kernel_rfl
  have h2 : Dg.kadd [126, ex5] ex5 = [126, ex5] := by kernel_rfl
  unfold insD
  rw [h1, if_neg (by rw [ex_len]; decide)]
  show (((ex5 : Nat) : Int), (0 : Int), exN, Dg.kadd [126, ex5] ex5) = _
  rw [h2]
theorem ex_put : Dg.Ok 6 exN ∧ Dg.tabOf 6 exN 126 = exT ∧ exN.length = (Dg.ddT 6 [] [exT]).length := by
  have h := (SI0 6).put (t := exT) (by kernel_rfl) (f := fun x => exT.getD x 0) (fun y _ => rfl) (r := 126) (N' := exN) ex_bld
  exact ⟨h.1.inv.ok, h.2.2.1, h.2.2.2.2.2.1⟩
theorem ex_sz : (Dg.ddT 6 [] [Dg.tabOf 6 exN 126]).length = 127 := by rw [ex_put.2.1, ← ex_put.2.2, ex_len]
theorem ex_cube : insD (fun x => if hasB 1 0 x = true then 5 else 5) 6 4096 exN [126] = ((ex5 : Int), 0, exN, [126, ex5]) := by
  have h : (fun x => if hasB 1 0 x = true then (5 : Int) else 5) = fun _ => 5 := by funext x; split <;> rfl
  rw [h]; exact ex_five
def onN : List Dg.Nd := [.leaf 3]
theorem on_1 : insD (fun _ => 3) 0 1 [] [] = (0, 0, onN, [0]) := by kernel_rfl
theorem on_2 : insD (fun _ => 4) 0 1 onN [0] = (0, 10, onN, [0]) := by kernel_rfl
theorem on_3 : insD (fun x => ([3] : List Int).getD x 0) 0 1 onN [0] = (0, 0, onN, [0]) := by kernel_rfl
theorem on_ok : Dg.Ok 0 onN := by
  have h := (SI0 0).put (t := [3]) rfl (f := fun _ => 3) (fun y hy => by
    obtain rfl : y = 0 := by omega
    rfl) (r := 0) (N' := onN) (by kernel_rfl)
  exact h.1.inv.ok
end Go.Proofs.Ytijmggoikieelaa
