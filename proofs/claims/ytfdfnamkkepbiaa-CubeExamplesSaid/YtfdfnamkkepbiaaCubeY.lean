/-
  Cubes held against each other, as short laws.
-/
import Derived.Test.YtfdfnamkkepbiaaY3
import Derived.Test.YtfdfnamkkepbiaaCubeEq
namespace Go.Proofs.Ytfdfnamkkepbiaa
open Go.RowKit
section
variable {rs : List Res} {o : Oper} {l : Fm} {x y : Operand} {t' : TypeId} {a b c d : Nat}
theorem YceT (ho : o.op = .binOp .eql 23 x y t' := by rfl) (hx : lk l x = some (.agg #[.int .u8 a, .int .u8 b]) := by rfl) (hy : lk l y = some (.agg #[.int .u8 c, .int .u8 d]) := by rfl) (h : a = c ∧ b = d := by first | (constructor <;> rfl) | assumption | omega) : Yl Try.prog rs l o (.bool true) := ⟨fun _ => x_cubeEq_t ho hx hy h⟩
theorem YceF (ho : o.op = .binOp .eql 23 x y t' := by rfl) (hx : lk l x = some (.agg #[.int .u8 a, .int .u8 b]) := by rfl) (hy : lk l y = some (.agg #[.int .u8 c, .int .u8 d]) := by rfl) (h : ¬ (a = c ∧ b = d) := by first | assumption | omega) : Yl Try.prog rs l o (.bool false) := ⟨fun _ => x_cubeEq_f ho hx hy h⟩
theorem YcnT (ho : o.op = .binOp .neq 23 x y t' := by rfl) (hx : lk l x = some (.agg #[.int .u8 a, .int .u8 b]) := by rfl) (hy : lk l y = some (.agg #[.int .u8 c, .int .u8 d]) := by rfl) (h : ¬ (a = c ∧ b = d) := by first | assumption | omega) : Yl Try.prog rs l o (.bool true) := ⟨fun _ => x_cubeNe_t ho hx hy h⟩
theorem YcnF (ho : o.op = .binOp .neq 23 x y t' := by rfl) (hx : lk l x = some (.agg #[.int .u8 a, .int .u8 b]) := by rfl) (hy : lk l y = some (.agg #[.int .u8 c, .int .u8 d]) := by rfl) (h : a = c ∧ b = d := by first | (constructor <;> rfl) | assumption | omega) : Yl Try.prog rs l o (.bool false) := ⟨fun _ => x_cubeNe_f ho hx hy h⟩
end
end Go.Proofs.Ytfdfnamkkepbiaa
