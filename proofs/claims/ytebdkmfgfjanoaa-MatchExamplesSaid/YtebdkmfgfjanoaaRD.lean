/-
  regex's parser: a letter.
-/
import Derived.Test.YtebdkmfgfjanoaaRC
import Derived.Test.YtebdkmfgfjanoaaRB
import Derived.Recover
namespace Go.Proofs.Ytebdkmfgfjanoaa
open Go.RowKit

/-- a letter's cube, and what is left -/
def letR : PR (Nat × Nat) → PR T
  | .ok (p, n) r => .ok (.letter p n) r
  | .err e => .err e
theorem or_u6 {a j : Nat} (ha : a < 64) (hj : j ≤ 5) : a ||| two j < 64 := Nat.or_lt_two_pow (n := 6) ha (Nat.pow_lt_pow_right (a := 2) (m := j) (n := 6) (by omega) (by omega))
section
variable {f k p n : Nat} {c d : UInt8} {r : List UInt8}
theorem pLet_close (h : p ||| n ≠ 0) : pLet (f + 1) k p n (93 :: r) = .ok (p, n) r := if_pos ⟨rfl, h⟩
theorem pLet_n3 (hk : k < 6) : pLet (f + 1) k p n [33] = .err 3 := by
  unfold pLet; rw [if_neg (by simp), if_pos ⟨rfl, hk⟩]
theorem pLet_n2 (hk : k < 6) (h : d ∉ nm k) : pLet (f + 1) k p n (33 :: d :: r) = .err 2 := by
  unfold pLet; rw [if_neg (by simp), if_pos ⟨rfl, hk⟩]; exact if_neg h
theorem pLet_n1 (hk : k < 6) (h : d ∈ nm k) : pLet (f + 1) k p n (33 :: d :: r) = pLet f (d.toNat - 96) p (n ||| two (d.toNat - 97)) r := by
  conv => lhs; unfold pLet
  rw [if_neg (by simp), if_pos ⟨rfl, hk⟩]; exact if_pos h
theorem pLet_p1 (h1 : ¬ (c = 93 ∧ p ||| n ≠ 0)) (h2 : ¬ (c = 33 ∧ k < 6)) (h : c ∈ nm k) : pLet (f + 1) k p n (c :: r) = pLet f (c.toNat - 96) (p ||| two (c.toNat - 97)) n r := by
  conv => lhs; unfold pLet
  rw [if_neg h1, if_neg h2, if_pos h]
theorem pLet_p2 (h1 : ¬ (c = 93 ∧ p ||| n ≠ 0)) (h2 : ¬ (c = 33 ∧ k < 6)) (h : c ∉ nm k) : pLet (f + 1) k p n (c :: r) = .err 2 := by
  conv => lhs; unfold pLet
  rw [if_neg h1, if_neg h2, if_neg h]
end
section
variable {F : Nat → Prop} {w0 w : World} {rs : List Res} {bp : Nat} {s : List UInt8} {L : List Pc}
end
end Go.Proofs.Ytebdkmfgfjanoaa
/-
  regex's parser: expressions.
-/
namespace Go.Proofs.Ytebdkmfgfjanoaa
open Go.RowKit

section
variable {F : Nat → Prop} {w0 w : World} {rs : List Res} {bp : Nat} {s : List UInt8} {L : List Pc}
def thenUn (op : Nat) : PR T → PR T
  | .ok a r => pTake 41 (.un op a) r
  | .err e => .err e
def thenBin (op : Nat) (a : T) : PR T → PR T
  | .ok b r => pTake 41 (.bin op a b) r
  | .err e => .err e
end
end Go.Proofs.Ytebdkmfgfjanoaa
/-
  regex's parser: groups, and expressions of every length.
-/
namespace Go.Proofs.Ytebdkmfgfjanoaa
open Go.RowKit

section
variable {F : Nat → Prop} {w0 w : World} {rs : List Res} {bp : Nat} {s : List UInt8} {L : List Pc}
theorem pGroup_pre {f : Nat} {c : UInt8} {r : List UInt8} (h : preOp c ≠ 0) : pGroup (f + 1) (c :: r) = thenUn (preOp c) (pExpr f r) := by
  simp only [pGroup]
  rw [if_pos h]
  cases pExpr f r <;> rfl
def afterA (f : Nat) (a : T) : List UInt8 → PR T
  | [] => .err 3
  | d :: r3 => if d = 42 then pTake 41 (.un 8 a) r3 else if midOp d ≠ 0 then thenBin (midOp d) a (pExpr f r3) else .err 2
theorem pGroup_mid {f : Nat} {c : UInt8} {r : List UInt8} (h : preOp c = 0) : pGroup (f + 1) (c :: r) = match pExpr f (c :: r) with | .ok a r2 => afterA f a r2 | .err e => .err e := by
  simp only [pGroup]
  rw [if_neg (by simpa using h)]
  cases pExpr f (c :: r) with
  | err e => rfl
  | ok a r2 =>
    cases r2 with
    | nil => rfl
    | cons d r3 =>
      simp only [afterA]
      split
      · rfl
      · split
        · cases pExpr f r3 <;> rfl
        · rfl
theorem pre_iff {c : UInt8} : preOp c ≠ 0 ↔ c = 126 ∨ c = 62 ∨ c = 60 := by
  unfold preOp; split <;> (try split) <;> (try split) <;> simp_all
theorem mid_iff {c : UInt8} : midOp c ≠ 0 ↔ c = 46 ∨ c = 124 ∨ c = 38 := by
  unfold midOp; split <;> (try split) <;> (try split) <;> simp_all
end
end Go.Proofs.Ytebdkmfgfjanoaa
/-
  regex's parser: expr does what pExpr says.
-/
namespace Go.Proofs.Ytebdkmfgfjanoaa
open Go.RowKit

section
variable {F : Nat → Prop} {w0 w : World} {rs : List Res} {bp : Nat} {s : List UInt8} {L : List Pc}
theorem pTop_iff {c : UInt8} : c ∈ ([48, 49, 91, 40] : List UInt8) ↔ c = 48 ∨ c = 49 ∨ c = 91 ∨ c = 40 := by simp
end
end Go.Proofs.Ytebdkmfgfjanoaa
/-
  Deferred calls that recover: rules; regex.Parse's deferred closure in both modes.
-/
namespace Go.Proofs.Ytebdkmfgfjanoaa
open Go.RowKit
section
variable {P : Program} {o : Oper} {l : Fm} {ds : List Deferred} {w : World} {x y : Operand} {t t' xt a : TypeId} {v : Value}
theorem x_assert {fs : Array Field} (ho : o.op = .typeAssert x xt a true) (hu : P.underlying a = some (.struct fs)) (hx : lk l x = some (.iface a v)) : Ex P l ds o w (.tuple #[v, .bool true]) := by
  unfold Ex execOp; rw [ho]; simp only [lk_eval hx]
  simp [Instr.typeAssert, underlying, hu, go_sem]
theorem eq_nil_f {ms : Array (String × TypeId)} (hi : P.underlying t = some (.interface ms)) : (Op.equal t (.iface a v) .nilIface).run P w = .ok false w := by
  have h : ∀ d : Nat, (Op.equalIn (d + 1) t (.iface a v) .nilIface).run P w = .ok false w := fun d => by simp [Op.equalIn, underlying, hi, go_sem]
  exact h 9999
theorem eq_nil_t {ms : Array (String × TypeId)} (hi : P.underlying t = some (.interface ms)) : (Op.equal t .nilIface .nilIface).run P w = .ok true w := by
  have h : ∀ d : Nat, (Op.equalIn (d + 1) t .nilIface .nilIface).run P w = .ok true w := fun d => by simp [Op.equalIn, underlying, hi, go_sem]
  exact h 9999
theorem x_neNil_t {ms : Array (String × TypeId)} (ho : o.op = .binOp .neq t x y t') (hi : P.underlying t = some (.interface ms)) (hx : lk l x = some (.iface a v)) (hy : lk l y = some .nilIface) : Ex P l ds o w (.bool true) := by
  refine x_bin ho hx hy ?_ ?_ <;> simp [eqGuard, binOp, go_sem, eq_nil_f hi]
theorem x_neNil_f {ms : Array (String × TypeId)} (ho : o.op = .binOp .neq t x (.const .nilIface) t') (hi : P.underlying t = some (.interface ms)) (hx : lk l x = some .nilIface) : Ex P l ds o w (.bool false) := by
  refine x_bin (b := .nilIface) ho hx (by simp [lk]) ?_ ?_ <;> simp [eqGuard, binOp, go_sem, eq_nil_t hi]
end
/-! the frame that called the deferred function: its mode -/
section
variable {P : Program} {Q : Exit → Act → List Frame → World → Prop} {cs cs' : List Frame} {w : World} {c : Code} {l : Fm} {fn : Func} {c₀ : Frame} {R : Ending → FrameMode → World → Prop} {u' : FrameMode}
/-- what a deferred function owes at its end, the frames below it being cs' -/
structure Dp (P : Program) (fn : Func) (c₀ : Frame) (cs : List Frame) (R : Ending → FrameMode → World → Prop) (cs' : List Frame) (e : Exit) (a : Act) (w : World) : Prop where
  out : bodyPostS P fn c₀ cs R e a cs' w
theorem S_s {tm : Array Value} (h : Wc P c (Dp P fn c₀ cs R cs') (Fm.base tm.toList) [] w) : c.wpS P (bodyPostS P fn c₀ cs R) { tmps := tm, defers := [] } cs' w := by
  have := h.out
  exact wpS_of_wp (wp_mono (Q := Dp P fn c₀ cs R cs') (by simpa [Fm.arr, Fm.toList] using this) fun _ _ _ h => h.out)
theorem V_d (h : R (.returned (.tuple #[])) u' w) (hr : fn.results = #[] := by rfl) : Wx (Dp P fn c₀ cs R ({ c₀ with mode := u' } :: cs)) .normal l [] w := ⟨⟨by
  refine ⟨rfl, u', rfl, .tuple #[], ?_, h⟩
  rw [results_eq, hr]; simp [go_sem]⟩⟩
theorem V_r (h : R (.returned (.tuple #[])) u' w) (hr : fn.results = #[] := by rfl) : Wx (Dp P fn c₀ cs R ({ c₀ with mode := u' } :: cs)) .ret l [] w := ⟨⟨by
  refine ⟨rfl, u', rfl, .tuple #[], ?_, h⟩
  rw [results_eq, hr]; simp [go_sem]⟩⟩
end
theorem hi20 : (Try.prog).underlying 20 = some (.interface #[]) := by kernel_rfl
def strT (P : Program) (t : TypeId) : Bool := match P.underlying t with | some (.struct _) => true | _ => false
theorem strT_ok {P : Program} {t : TypeId} (h : strT P t = true) : ∃ fs, P.underlying t = some (.struct fs) := by
  unfold strT at h
  split at h
  · exact ⟨_, by assumption⟩
  · cases h
section
variable {F : Nat → Prop} {w0 w : World} {rs : List Res} {eb rb : Nat}
end
end Go.Proofs.Ytebdkmfgfjanoaa
/-
  regex.Parse: the tree of the text, or an error.
-/
namespace Go.Proofs.Ytebdkmfgfjanoaa
open Go.RowKit

/-! a function with a deferred call -/
section
variable {P : Program} {ops : Array Oper} {Q : Exit → Act → World → Prop} {rest : List Oper} {o : Oper} {l : Fm} {ds : List Deferred} {w w0 : World} {F : Nat → Prop} {rs : List Res} {fn : Func} {Φ : Ending → World → Prop} {g : FuncId} {bs cs : Array Value} {v : Value}
theorem S_df {fs : Array Value} {f : Operand} {ar : Array Operand} {ts : Array TypeId} (k : WL P ops Q rest l ({ target := .fn (.func g) cs, args := fs ++ (lks l ar.toList).toArray } :: ds) w)
    (ho : o.op = .defer { callee := .value f, args := ar, argTypes := ts } := by rfl) (hd : o.dst = none := by rfl) (hf : lk l f = some (.func (.func g) fs cs) := by rfl) : SStep P ops Q rest o l ds w := S_of (by
  have e := lk_eval (ds := ds) hf
  have e2 := lks_eval (l := l) (ds := ds) (ar := ar)
  unfold Oper.wp
  have hr : (execOp (Act.mk l.arr ds).eval o).run P w = .ok (.defer { target := .fn (.func g) cs, args := fs ++ (lks l ar.toList).toArray }) w := by
    unfold execOp; rw [ho]
    simp only [resolve, e, e2, Deferred.ofValue]
    rfl
  rw [hr]
  show wpList P ops Q rest _ w
  rw [hd]
  exact k.out)
theorem E_d {f n m : Nat} {c : Code} {args : List Value} (h : Wc P c (bodyPostD P fn Φ) (Fm.base (args ++ List.replicate m undef)) [] w) (hf : P.funcs[f]? = some fn) (hb : fn.body = some c) (hn : fn.ntmps = n) (hl : n - args.length = m) : Calls P f args.toArray w Φ := by
  refine calls_of_wp_defers hf hb ?_
  have : args.toArray ++ Array.replicate (fn.ntmps - args.toArray.size) undef = (Fm.base (args ++ List.replicate m undef)).arr := by
    rw [hn]; simp [Fm.arr, Fm.toList, hl]
  rw [this]
  exact h.out
/-- two results that lie in cells -/
theorem res_c2 {a b ba bb : Nat} {t t' ta tb : TypeId} {va vb : Value} {fa fb : Nat × Nat} (hS : St F w0 rs w) (hr : fn.results = #[.cell a t, .cell b t'] := by rfl) (ha : fnth l a = some (.pointer (some ⟨ba, 0, none⟩)) := by rfl) (hb : fnth l b = some (.pointer (some ⟨bb, 0, none⟩)) := by rfl)
    (hma : HasObj rs ba (.cells #[va] ta fa) := by infer_instance) (hmb : HasObj rs bb (.cells #[vb] tb fb) := by infer_instance) (hta : flatT P t = true := by rfl) (htb : flatT P t' = true := by rfl) : (results fn l.arr).run P w = .ok (.tuple #[va, vb]) w := by
  have h1 := Rv.one hS ha hma.mem hta
  have h2 := Rv.one hS hb hmb.mem htb
  unfold Rv at h1 h2
  rw [results_eq, hr]
  simp [h1, h2, go_sem]
theorem D_0 (h : (results fn l.arr).run P w = .ok v w) (hΦ : Φ (.returned v) w) : Wx (bodyPostD P fn Φ) .ret l [] w := ⟨⟨v, h, hΦ⟩⟩
theorem D_r (hc : CallsD P g (bs ++ cs) .returning w fun e u w' => e = .returned (.tuple #[]) ∧ u = .returning ∧ w' = w) (hres : (results fn l.arr).run P w = .ok v w) (hΦ : Φ (.returned v) w) (hb : enterB P g = true := by rfl) : Wx (bodyPostD P fn Φ) .ret l [{ target := .fn (.func g) cs, args := bs }] w := ⟨by
  refine leaves_cons (f := g) (args := bs ++ cs) (by simp) (callFunc_run hb) (hc.mono ?_)
  rintro e u w' ⟨rfl, rfl, rfl⟩
  exact ⟨v, hres, hΦ⟩⟩
theorem D_p {chain : List PanicEntry} {pv : Value} {S : World → Prop} (hc : CallsD P g (bs ++ cs) (.panicking chain) w fun e u w' => e = .returned (.tuple #[]) ∧ u = .panicking [{ v := pv, recovered := true }] ∧ S w') (hres : ∀ w', S w' → ∃ v, (results fn l.arr).run P w' = .ok v w' ∧ Φ (.returned v) w') (hb : enterB P g = true := by rfl) : Wx (bodyPostD P fn Φ) (.panic chain) l [{ target := .fn (.func g) cs, args := bs }] w := ⟨by
  refine leaves_cons (f := g) (args := bs ++ cs) (by simp) (callFunc_run hb) (hc.mono ?_)
  rintro e u w' ⟨rfl, rfl, hw⟩
  exact hres w' hw⟩
end
/-! the plain answer -/
def prsG (s : List UInt8) : PR T := pExpr (2 * s.length + 1) s
def prsE (s : List UInt8) (v : Int) : Int := if v < 0 ∨ 6 < v then 7 else if 4096 < s.length then 4 else match prsG s with
  | .err e => e
  | .ok t [] => chkR (t.flat 0) v
  | .ok _ (_ :: _) => 5
def prsL (s : List UInt8) (v : Int) : List Pc := if prsE s v = 0 then (match prsG s with
  | .ok t _ => t.flat 0
  | .err _ => []) else []
def PrsPost (s : List UInt8) (v : Int) (W : World) (r : Value) (w' : World) : Prop :=
  ∃ A c, r = .tuple #[.slice A (prsL s v).length c, .int .i64 (prsE s v)] ∧ w'.ownsRow W.heap.size 55 5 (.slice A (prsL s v).length c) (prsL s v).length (rxCells (prsL s v)) ∧ Fr Nof W w'
theorem prsL_bad {s : List UInt8} {v : Int} (h : prsE s v ≠ 0) : prsL s v = [] := if_neg h
theorem prs_err {s : List UInt8} {v e : Int} {W w' : World} (h : prsE s v = e) (he : e ≠ 0) (hf : Fr Nof W w') : PrsPost s v W (.tuple #[.slice none 0 0, .int .i64 e]) w' := by
  have h0 : prsL s v = [] := prsL_bad (by rw [h]; exact he)
  refine ⟨none, 0, ?_, ?_, hf⟩
  · rw [h0, h]; rfl
  · rw [h0]; exact World.ownsRow_nil _ _ _ _
/-- the pieces of a tree are in range -/
theorem flat_ok : ∀ (t : T) (k : Nat), t.wf 6 → k + t.size ≤ 4611686018427387904 → ∀ p ∈ t.flat k, p.ok
  | .none, k, _, _, p, hp => by simp [T.flat, T.root] at hp; subst hp; constructor <;> simp
  | .empty, k, _, _, p, hp => by simp [T.flat, T.root] at hp; subst hp; constructor <;> simp
  | .letter a b, k, h, _, p, hp => by
    obtain ⟨h1, h2, _⟩ := chk6 h
    simp [T.flat, T.root] at hp; subst hp; constructor <;> simp <;> omega
  | .un op a, k, h, hk, p, hp => by
    have h1 := kids_one.1 h.1
    have h2 := T.size_pos a
    simp only [T.size] at hk
    rcases List.mem_append.1 (by simpa only [T.flat] using hp) with hp | hp
    · exact flat_ok a k h.2 (by omega) p hp
    · simp [T.root] at hp; subst hp; constructor <;> simp <;> omega
  | .bin op a b, k, h, hk, p, hp => by
    have h1 := kids_two.1 h.1
    have h2 := T.size_pos a
    have h3 := T.size_pos b
    simp only [T.size] at hk
    rcases List.mem_append.1 (by simpa only [T.flat] using hp) with hp | hp
    · exact flat_ok a k h.2.1 (by omega) p hp
    · rcases List.mem_append.1 hp with hp | hp
      · exact flat_ok b (k + a.size) h.2.2 (by omega) p hp
      · simp [T.root] at hp; subst hp; constructor <;> simp <;> omega
section
variable {F : Nat → Prop} {w0 w : World} {rs : List Res} {a b c d : Res}
theorem St.p2 (h : St F w0 (a :: b :: rs) w) : St F w0 (b :: a :: rs) w := h.perm (List.Perm.swap b a rs)
end
end Go.Proofs.Ytebdkmfgfjanoaa
