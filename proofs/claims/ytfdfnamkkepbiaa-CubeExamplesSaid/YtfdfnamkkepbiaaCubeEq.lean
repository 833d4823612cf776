/-
  Cubes held against each other; the head and the end of a law's walk.
-/
import Derived.Test.YtfdfnamkkepbiaaWalk5
import Derived.Test.YtfdfnamkkepbiaaSame
namespace Go.Proofs.Ytfdfnamkkepbiaa
open Go.RowKit
section
variable {o : Oper} {l : Fm} {ds : List Deferred} {w : World} {x y : Operand} {t' : TypeId} {a b c d : Nat}
theorem cube_guard (op : BinOp) (x y : Operand) (a b c d : Nat) (w : World) : (eqGuard op 23 x y (.agg #[vb a, vb b]) (.agg #[vb c, vb d])).run Try.prog w = .ok () w := by
  cases op <;> simp [eqGuard, go_sem]
theorem x_cubeEq_t (ho : o.op = .binOp .eql 23 x y t') (hx : lk l x = some (.agg #[.int .u8 a, .int .u8 b])) (hy : lk l y = some (.agg #[.int .u8 c, .int .u8 d])) (h : a = c ∧ b = d) : Ex Try.prog l ds o w (.bool true) :=
  x_bin ho hx hy (cube_guard _ _ _ _ _ _ _ _) (by have := cube_eql a b c d w; rwa [decide_eq_true h] at this)
theorem x_cubeEq_f (ho : o.op = .binOp .eql 23 x y t') (hx : lk l x = some (.agg #[.int .u8 a, .int .u8 b])) (hy : lk l y = some (.agg #[.int .u8 c, .int .u8 d])) (h : ¬ (a = c ∧ b = d)) : Ex Try.prog l ds o w (.bool false) :=
  x_bin ho hx hy (cube_guard _ _ _ _ _ _ _ _) (by have := cube_eql a b c d w; rwa [decide_eq_false h] at this)
theorem x_cubeNe_t (ho : o.op = .binOp .neq 23 x y t') (hx : lk l x = some (.agg #[.int .u8 a, .int .u8 b])) (hy : lk l y = some (.agg #[.int .u8 c, .int .u8 d])) (h : ¬ (a = c ∧ b = d)) : Ex Try.prog l ds o w (.bool true) :=
  x_bin ho hx hy (cube_guard _ _ _ _ _ _ _ _) (by have := cube_neq a b c d w; rwa [decide_eq_true h] at this)
theorem x_cubeNe_f (ho : o.op = .binOp .neq 23 x y t') (hx : lk l x = some (.agg #[.int .u8 a, .int .u8 b])) (hy : lk l y = some (.agg #[.int .u8 c, .int .u8 d])) (h : a = c ∧ b = d) : Ex Try.prog l ds o w (.bool false) :=
  x_bin ho hx hy (cube_guard _ _ _ _ _ _ _ _) (by have := cube_neq a b c d w; rwa [decide_eq_false (fun h' => h' h)] at this)
end
theorem kitLettersR (k : Nat) (w : World) (hk : k ≤ 6) : CallsR Try.prog 33 #[.int .i64 k] w fun v w' => v = .int .i64 (two k : Nat) ∧ w = w' := Calls.toR (kitLetters_any k w (by omega) (by omega))
/-- a law's walk: it returns true and turns nothing -/
theorem law_start {P : Program} {f : FuncId} {args : Array Value} {W : World} (h : CallsR P f args W fun r w' => r = .bool true ∧ Fr Nof W w') : Calls P f args W fun e w' => e = .returned (.bool true) ∧ Below W.heap.size W w' :=
  CallsR.plain (Φ := fun w' => Below W.heap.size W w') (CallsR.mono h fun _ _ h => ⟨h.1, h.2.below⟩)
end Go.Proofs.Ytfdfnamkkepbiaa
