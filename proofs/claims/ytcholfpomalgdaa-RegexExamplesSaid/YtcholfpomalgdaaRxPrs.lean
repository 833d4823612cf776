/-
  regex.Parse: the tree of the text, or an error.
-/
import Derived.Test.YtcholfpomalgdaaRxRec
import Derived.Test.YtcholfpomalgdaaRB
namespace Go.Proofs.Ytcholfpomalgdaa
open Go.RowKit

/-! a function with a deferred call -/
section
variable {P : Program} {ops : Array Oper} {Q : Exit → Act → World → Prop} {rest : List Oper} {o : Oper} {l : Fm} {ds : List Deferred} {w w0 : World} {F : Nat → Prop} {rs : List Res} {fn : Func} {Φ : Ending → World → Prop} {g : FuncId} {bs cs : Array Value} {v : Value}
theorem S_df {fs : Array Value} {f : Operand} {ar : Array Operand} {ts : Array TypeId} (k : WL P ops Q rest l ({ target := .fn (.func g) cs, args := fs ++ (lks l ar.toList).toArray } :: ds) w)
    (ho : o.op = .defer { callee := .value f, args := ar, argTypes := ts } := by rfl) (hd : o.dst = none := by rfl) (hf : lk l f = some (.func (.func g) fs cs) := by rfl) : SStep P ops Q rest o l ds w := S_of (by
  have e := lk_eval (ds := ds) hf
  have e2 := lks_eval (l := l) (ds := ds) (ar := ar)
  unfold Oper.wp
  have hr : (execOp (Act.mk l.arr ds).eval o).run P w = .ok (.defer { target := .fn (.func g) cs, args := fs ++ (lks l ar.toList).toArray }) w := by
    unfold execOp; rw [ho]
    simp only [resolve, e, e2, Deferred.ofValue]
    rfl
  rw [hr]
  show wpList P ops Q rest _ w
  rw [hd]
  exact k.out)
theorem E_d {f n m : Nat} {c : Code} {args : List Value} (h : Wc P c (bodyPostD P fn Φ) (Fm.base (args ++ List.replicate m undef)) [] w) (hf : P.funcs[f]? = some fn) (hb : fn.body = some c) (hn : fn.ntmps = n) (hl : n - args.length = m) : Calls P f args.toArray w Φ := by
  refine calls_of_wp_defers hf hb ?_
  have : args.toArray ++ Array.replicate (fn.ntmps - args.toArray.size) undef = (Fm.base (args ++ List.replicate m undef)).arr := by
    rw [hn]; simp [Fm.arr, Fm.toList, hl]
  rw [this]
  exact h.out
/-- two results that lie in cells -/
theorem res_c2 {a b ba bb : Nat} {t t' ta tb : TypeId} {va vb : Value} {fa fb : Nat × Nat} (hS : St F w0 rs w) (hr : fn.results = #[.cell a t, .cell b t'] := by rfl) (ha : fnth l a = some (.pointer (some ⟨ba, 0, none⟩)) := by rfl) (hb : fnth l b = some (.pointer (some ⟨bb, 0, none⟩)) := by rfl)
    (hma : HasObj rs ba (.cells #[va] ta fa) := by infer_instance) (hmb : HasObj rs bb (.cells #[vb] tb fb) := by infer_instance) (hta : flatT P t = true := by rfl) (htb : flatT P t' = true := by rfl) : (results fn l.arr).run P w = .ok (.tuple #[va, vb]) w := by
  have h1 := Rv.one hS ha hma.mem hta
  have h2 := Rv.one hS hb hmb.mem htb
  unfold Rv at h1 h2
  rw [results_eq, hr]
  simp [h1, h2, go_sem]
theorem D_0 (h : (results fn l.arr).run P w = .ok v w) (hΦ : Φ (.returned v) w) : Wx (bodyPostD P fn Φ) .ret l [] w := ⟨⟨v, h, hΦ⟩⟩
theorem D_r (hc : CallsD P g (bs ++ cs) .returning w fun e u w' => e = .returned (.tuple #[]) ∧ u = .returning ∧ w' = w) (hres : (results fn l.arr).run P w = .ok v w) (hΦ : Φ (.returned v) w) (hb : enterB P g = true := by rfl) : Wx (bodyPostD P fn Φ) .ret l [{ target := .fn (.func g) cs, args := bs }] w := ⟨by
  refine leaves_cons (f := g) (args := bs ++ cs) (by simp) (callFunc_run hb) (hc.mono ?_)
  rintro e u w' ⟨rfl, rfl, rfl⟩
  exact ⟨v, hres, hΦ⟩⟩
theorem D_p {chain : List PanicEntry} {pv : Value} {S : World → Prop} (hc : CallsD P g (bs ++ cs) (.panicking chain) w fun e u w' => e = .returned (.tuple #[]) ∧ u = .panicking [{ v := pv, recovered := true }] ∧ S w') (hres : ∀ w', S w' → ∃ v, (results fn l.arr).run P w' = .ok v w' ∧ Φ (.returned v) w') (hb : enterB P g = true := by rfl) : Wx (bodyPostD P fn Φ) (.panic chain) l [{ target := .fn (.func g) cs, args := bs }] w := ⟨by
  refine leaves_cons (f := g) (args := bs ++ cs) (by simp) (callFunc_run hb) (hc.mono ?_)
  rintro e u w' ⟨rfl, rfl, hw⟩
  exact hres w' hw⟩
end
/-! the plain answer -/
def prsG (s : List UInt8) : PR T := pExpr (2 * s.length + 1) s
def prsE (s : List UInt8) (v : Int) : Int := if v < 0 ∨ 6 < v then 7 else if 4096 < s.length then 4 else match prsG s with
  | .err e => e
  | .ok t [] => chkR (t.flat 0) v
  | .ok _ (_ :: _) => 5
def prsL (s : List UInt8) (v : Int) : List Pc := if prsE s v = 0 then (match prsG s with
  | .ok t _ => t.flat 0
  | .err _ => []) else []
def PrsPost (s : List UInt8) (v : Int) (W : World) (r : Value) (w' : World) : Prop :=
  ∃ A c, r = .tuple #[.slice A (prsL s v).length c, .int .i64 (prsE s v)] ∧ w'.ownsRow W.heap.size 34 5 (.slice A (prsL s v).length c) (prsL s v).length (rxCells (prsL s v)) ∧ Fr Nof W w'
theorem prsL_bad {s : List UInt8} {v : Int} (h : prsE s v ≠ 0) : prsL s v = [] := if_neg h
theorem prs_err {s : List UInt8} {v e : Int} {W w' : World} (h : prsE s v = e) (he : e ≠ 0) (hf : Fr Nof W w') : PrsPost s v W (.tuple #[.slice none 0 0, .int .i64 e]) w' := by
  have h0 : prsL s v = [] := prsL_bad (by rw [h]; exact he)
  refine ⟨none, 0, ?_, ?_, hf⟩
  · rw [h0, h]; rfl
  · rw [h0]; exact World.ownsRow_nil _ _ _ _
/-- the pieces of a tree are in range -/
theorem flat_ok : ∀ (t : T) (k : Nat), t.wf 6 → k + t.size ≤ 4611686018427387904 → ∀ p ∈ t.flat k, p.ok
  | .none, k, _, _, p, hp => by simp [T.flat, T.root] at hp; subst hp; constructor <;> simp
  | .empty, k, _, _, p, hp => by simp [T.flat, T.root] at hp; subst hp; constructor <;> simp
  | .letter a b, k, h, _, p, hp => by
    obtain ⟨h1, h2, _⟩ := chk6 h
    simp [T.flat, T.root] at hp; subst hp; constructor <;> simp <;> omega
  | .un op a, k, h, hk, p, hp => by
    have h1 := kids_one.1 h.1
    have h2 := T.size_pos a
    simp only [T.size] at hk
    rcases List.mem_append.1 (by simpa only [T.flat] using hp) with hp | hp
    · exact flat_ok a k h.2 (by omega) p hp
    · simp [T.root] at hp; subst hp; constructor <;> simp <;> omega
  | .bin op a b, k, h, hk, p, hp => by
    have h1 := kids_two.1 h.1
    have h2 := T.size_pos a
    have h3 := T.size_pos b
    simp only [T.size] at hk
    rcases List.mem_append.1 (by simpa only [T.flat] using hp) with hp | hp
    · exact flat_ok a k h.2.1 (by omega) p hp
    · rcases List.mem_append.1 hp with hp | hp
      · exact flat_ok b (k + a.size) h.2.2 (by omega) p hp
      · simp [T.root] at hp; subst hp; constructor <;> simp <;> omega
section
variable {F : Nat → Prop} {w0 w : World} {rs : List Res} {a b c d : Res}
theorem St.p2 (h : St F w0 (a :: b :: rs) w) : St F w0 (b :: a :: rs) w := h.perm (List.Perm.swap b a rs)
end
set_option maxHeartbeats 4000000 in
set_option maxRecDepth 100000 in
theorem prsR (s : List UInt8) (v : Int) (W : World) (hs : s.length ≤ 4611686018427387904) : CallsR Try.prog 26 #[.string ⟨s.toArray⟩, .int .i64 v] W (PrsPost s v W) := by
  have hS := St.start Nof W
  refine E_d (m := 49) ?_ Try.func26 rfl Try.ntmps26 rfl; refine C_ft ?_
  by_cases hv : v < 0 ∨ 6 < v
  · have hE : prsE s v = 7 := if_pos hv
    rcases hv with hv | hv
    all_goals
      repeat (first | (refine S_w ?_; first | (refine S_y hS ?_) | ((first | refine M_bA hS ?_ | refine M_b1 hS ?_ | refine M_aA hS ?_ | refine M_a1 hS ?_ | refine M_sl hS ?_ | refine M_s1 hS ?_ | refine M_mm hS ?_); clear hS; intro b w hS) | ((first | refine M_st hS ?_ | refine M_sA hS ?_ | refine M_in hS ?_ | refine M_sR hS ?_); clear hS; intro w hS; (try simp only [List.set_cons_zero, List.set_cons_succ, Nat.zero_add] at hS)) | (refine M_ap hS ?_; clear hS; intro g cap w hS) | refine M_pn ?_) | refine X_k (by (try simp only [Fm.toList, List.set_cons_succ, List.set_cons_zero]); exact rfl) ?_ | refine S_u ?_ | refine S_v ?_ | refine C_sq ?_ | refine C_rg ?_ | refine L_nil ?_ | refine C_bk ?_ | refine C_ct ?_ | refine C_cf ?_ | refine C_sk ?_ | refine C_ex ?_ | refine C_rt ?_ | refine X_e ?_ | refine X_r ?_ | refine X_bh ?_ | refine X_be ?_ | refine X_br ?_ | refine X_bn ?_ | refine X_p ?_ | refine X_bp ?_)
      exact D_0 (res_c2 hS) ⟨_, rfl, prs_err hE (by decide) hS.fr⟩
  by_cases hl : 4096 < s.length
  · have hE : prsE s v = 4 := by rw [prsE, if_neg hv, if_pos hl]
    repeat (first | (refine S_w ?_; first | (refine S_y hS ?_) | ((first | refine M_bA hS ?_ | refine M_b1 hS ?_ | refine M_aA hS ?_ | refine M_a1 hS ?_ | refine M_sl hS ?_ | refine M_s1 hS ?_ | refine M_mm hS ?_); clear hS; intro b w hS) | ((first | refine M_st hS ?_ | refine M_sA hS ?_ | refine M_in hS ?_ | refine M_sR hS ?_); clear hS; intro w hS; (try simp only [List.set_cons_zero, List.set_cons_succ, Nat.zero_add] at hS)) | (refine M_ap hS ?_; clear hS; intro g cap w hS) | refine M_pn ?_) | refine X_k (by (try simp only [Fm.toList, List.set_cons_succ, List.set_cons_zero]); exact rfl) ?_ | refine S_u ?_ | refine S_v ?_ | refine C_sq ?_ | refine C_rg ?_ | refine L_nil ?_ | refine C_bk ?_ | refine C_ct ?_ | refine C_cf ?_ | refine C_sk ?_ | refine C_ex ?_ | refine C_rt ?_ | refine X_e ?_ | refine X_r ?_ | refine X_bh ?_ | refine X_be ?_ | refine X_br ?_ | refine X_bn ?_ | refine X_p ?_ | refine X_bp ?_)
    exact D_0 (res_c2 hS) ⟨_, rfl, prs_err hE (by decide) hS.fr⟩
  have hE : prsE s v = match prsG s with
    | .err e => e
    | .ok t [] => chkR (t.flat 0) v
    | .ok _ (_ :: _) => 5 := by rw [prsE, if_neg hv, if_neg hl]
  repeat (first | (refine S_w ?_; first | (refine S_df ?_) | (refine S_y hS ?_) | ((first | refine M_bA hS ?_ | refine M_b1 hS ?_ | refine M_aA hS ?_ | refine M_a1 hS ?_ | refine M_sl hS ?_ | refine M_s1 hS ?_ | refine M_mm hS ?_); clear hS; intro b w hS) | ((first | refine M_st hS ?_ | refine M_sA hS ?_ | refine M_in hS ?_ | refine M_sR hS ?_); clear hS; intro w hS; (try simp only [List.set_cons_zero, List.set_cons_succ, Nat.zero_add] at hS)) | (refine M_ap hS ?_; clear hS; intro g cap w hS) | refine M_pn ?_) | refine X_k (by (try simp only [Fm.toList, List.set_cons_succ, List.set_cons_zero]); exact rfl) ?_ | refine S_u ?_ | refine S_v ?_ | refine C_sq ?_ | refine C_rg ?_ | refine L_nil ?_ | refine C_bk ?_ | refine C_ct ?_ | refine C_cf ?_ | refine C_sk ?_ | refine C_ex ?_ | refine C_rt ?_ | refine X_e ?_ | refine X_r ?_ | refine X_bh ?_ | refine X_be ?_ | refine X_br ?_ | refine X_bn ?_ | refine X_p ?_ | refine X_bp ?_)
  rename_i b4 _ b5 _
  replace hS : St Nof W (Res.obj b (.cells [.string ⟨s.toArray⟩, .slice none 0 0].toArray 88 (0, 0)) :: [Res.obj b5 (.cells #[.int .i64 0] 25 (0, 0)), Res.obj b4 (.cells #[.slice none 0 0] 23 (0, 0))]) w := hS
  have hP : Pst Nof W b s [] [Res.obj b5 (.cells #[.int .i64 0] 25 (0, 0)), Res.obj b4 (.cells #[.slice none 0 0] 23 (0, 0))] w := ⟨none, 0, (hS.rowNil 34 5).p2⟩
  have hcall := (exprOk (F := Nof) (w0 := W) (bp := b) (2 * s.length + 1)).1 s [] _ w hP (by omega) (by simp; omega)
  have hG : pExpr (2 * s.length + 1) s = prsG s := rfl
  rw [hG] at hcall
  have hfail : ∀ (e : Int) (l : Fm) (w3 : World), prsE s v = e → e ≠ 0 → (∃ s' L', Pst Nof W b s' L' [Res.obj b5 (.cells #[.int .i64 0] 25 (0, 0)), Res.obj b4 (.cells #[.slice none 0 0] 23 (0, 0))] w3) → fnth l 4 = some (.pointer (some ⟨b4, 0, none⟩)) → fnth l 5 = some (.pointer (some ⟨b5, 0, none⟩)) →
      Wx (bodyPostD Try.prog Try.f26 fun e w' => ∃ v_1, e = .returned v_1 ∧ PrsPost s v W v_1 w') (.panic (failC e)) l [{ target := .fn (.func 44) #[.pointer (some ⟨b4, 0, none⟩), .pointer (some ⟨b5, 0, none⟩)], args := #[] }] w3 := by
    intro e l w3 he hne hP h4 h5
    obtain ⟨s', L', A', c', hS⟩ := hP
    have hS := hS.drop.drop
    refine D_p (catchP e 0 (.slice none 0 0) rfl hS) ?_
    intro w4 hS
    exact ⟨_, res_c2 hS rfl h4 h5, _, rfl, prs_err he hne hS.fr⟩
  cases hg : prsG s with
  | err e =>
    have he : prsE s v = e := by rw [hE, hg]
    have hne : e ≠ 0 := by have := pExpr_err (f := 2 * s.length + 1) (by omega) hg; omega
    rw [hg] at hcall
    repeat (first | (refine S_w ?_; first | (refine M_p (POut.toP hcall) ?_) | (refine S_y hS ?_) | ((first | refine M_bA hS ?_ | refine M_b1 hS ?_ | refine M_aA hS ?_ | refine M_a1 hS ?_ | refine M_sl hS ?_ | refine M_s1 hS ?_ | refine M_mm hS ?_); clear hS; intro b w hS) | ((first | refine M_st hS ?_ | refine M_sA hS ?_ | refine M_in hS ?_ | refine M_sR hS ?_); clear hS; intro w hS; (try simp only [List.set_cons_zero, List.set_cons_succ, Nat.zero_add] at hS)) | (refine M_ap hS ?_; clear hS; intro g cap w hS) | refine M_pn ?_) | refine X_k (by (try simp only [Fm.toList, List.set_cons_succ, List.set_cons_zero]); exact rfl) ?_ | refine S_u ?_ | refine S_v ?_ | refine C_sq ?_ | refine C_rg ?_ | refine L_nil ?_ | refine C_bk ?_ | refine C_ct ?_ | refine C_cf ?_ | refine C_sk ?_ | refine C_ex ?_ | refine C_rt ?_ | refine X_e ?_ | refine X_r ?_ | refine X_bh ?_ | refine X_be ?_ | refine X_br ?_ | refine X_bn ?_ | refine X_p ?_ | refine X_bp ?_)
    rintro _ w3 ⟨rfl, hP⟩
    clear hS
    have hS := St.start Nof w3
    repeat (first | (refine S_w ?_; first | (refine S_y hS ?_) | ((first | refine M_bA hS ?_ | refine M_b1 hS ?_ | refine M_aA hS ?_ | refine M_a1 hS ?_ | refine M_sl hS ?_ | refine M_s1 hS ?_ | refine M_mm hS ?_); clear hS; intro b w hS) | ((first | refine M_st hS ?_ | refine M_sA hS ?_ | refine M_in hS ?_ | refine M_sR hS ?_); clear hS; intro w hS; (try simp only [List.set_cons_zero, List.set_cons_succ, Nat.zero_add] at hS)) | (refine M_ap hS ?_; clear hS; intro g cap w hS) | refine M_pn ?_) | refine X_k (by (try simp only [Fm.toList, List.set_cons_succ, List.set_cons_zero]); exact rfl) ?_ | refine S_u ?_ | refine S_v ?_ | refine C_sq ?_ | refine C_rg ?_ | refine L_nil ?_ | refine C_bk ?_ | refine C_ct ?_ | refine C_cf ?_ | refine C_sk ?_ | refine C_ex ?_ | refine C_rt ?_ | refine X_e ?_ | refine X_r ?_ | refine X_bh ?_ | refine X_be ?_ | refine X_br ?_ | refine X_bn ?_ | refine X_p ?_ | refine X_bp ?_)
    exact hfail e _ _ he hne hP rfl rfl
  | ok t r =>
    rw [hg] at hcall
    obtain ⟨hwf, htx⟩ := pExpr_ok hg
    have hsz := (pBoth_len _).1 _ _ _ hg
    have hfo := flat_ok t 0 hwf (by omega)
    repeat (first | (refine S_w ?_; first | (refine M_c (POut.toR hcall) ?_) | (refine S_y hS ?_) | ((first | refine M_bA hS ?_ | refine M_b1 hS ?_ | refine M_aA hS ?_ | refine M_a1 hS ?_ | refine M_sl hS ?_ | refine M_s1 hS ?_ | refine M_mm hS ?_); clear hS; intro b w hS) | ((first | refine M_st hS ?_ | refine M_sA hS ?_ | refine M_in hS ?_ | refine M_sR hS ?_); clear hS; intro w hS; (try simp only [List.set_cons_zero, List.set_cons_succ, Nat.zero_add] at hS)) | (refine M_ap hS ?_; clear hS; intro g cap w hS) | refine M_pn ?_) | refine X_k (by (try simp only [Fm.toList, List.set_cons_succ, List.set_cons_zero]); exact rfl) ?_ | refine S_u ?_ | refine S_v ?_ | refine C_sq ?_ | refine C_rg ?_ | refine L_nil ?_ | refine C_bk ?_ | refine C_ct ?_ | refine C_cf ?_ | refine C_sk ?_ | refine C_ex ?_ | refine C_rt ?_ | refine X_e ?_ | refine X_r ?_ | refine X_bh ?_ | refine X_be ?_ | refine X_br ?_ | refine X_bn ?_ | refine X_p ?_ | refine X_bp ?_)
    rintro _ w3 ⟨rfl, A3, c3, hS⟩
    have hS0 := hS
    cases r with
    | cons x r =>
      have he : prsE s v = 5 := by rw [hE, hg]
      have hnn : x :: r ≠ [] := by simp
      repeat (first | (refine S_w ?_; first | (refine M_p (failP 5 _ _) ?_) | (refine S_y hS ?_) | ((first | refine M_bA hS ?_ | refine M_b1 hS ?_ | refine M_aA hS ?_ | refine M_a1 hS ?_ | refine M_sl hS ?_ | refine M_s1 hS ?_ | refine M_mm hS ?_); clear hS; intro b w hS) | ((first | refine M_st hS ?_ | refine M_sA hS ?_ | refine M_in hS ?_ | refine M_sR hS ?_); clear hS; intro w hS; (try simp only [List.set_cons_zero, List.set_cons_succ, Nat.zero_add] at hS)) | (refine M_ap hS ?_; clear hS; intro g cap w hS) | refine M_pn ?_) | refine X_k (by (try simp only [Fm.toList, List.set_cons_succ, List.set_cons_zero]); exact rfl) ?_ | refine S_u ?_ | refine S_v ?_ | refine C_sq ?_ | refine C_rg ?_ | refine L_nil ?_ | refine C_bk ?_ | refine C_ct ?_ | refine C_cf ?_ | refine C_sk ?_ | refine C_ex ?_ | refine C_rt ?_ | refine X_e ?_ | refine X_r ?_ | refine X_bh ?_ | refine X_be ?_ | refine X_br ?_ | refine X_bn ?_ | refine X_p ?_ | refine X_bp ?_)
      rintro _ w4 ⟨rfl, rfl⟩
      repeat (first | (refine S_w ?_; first | (refine S_y hS ?_) | ((first | refine M_bA hS ?_ | refine M_b1 hS ?_ | refine M_aA hS ?_ | refine M_a1 hS ?_ | refine M_sl hS ?_ | refine M_s1 hS ?_ | refine M_mm hS ?_); clear hS; intro b w hS) | ((first | refine M_st hS ?_ | refine M_sA hS ?_ | refine M_in hS ?_ | refine M_sR hS ?_); clear hS; intro w hS; (try simp only [List.set_cons_zero, List.set_cons_succ, Nat.zero_add] at hS)) | (refine M_ap hS ?_; clear hS; intro g cap w hS) | refine M_pn ?_) | refine X_k (by (try simp only [Fm.toList, List.set_cons_succ, List.set_cons_zero]); exact rfl) ?_ | refine S_u ?_ | refine S_v ?_ | refine C_sq ?_ | refine C_rg ?_ | refine L_nil ?_ | refine C_bk ?_ | refine C_ct ?_ | refine C_cf ?_ | refine C_sk ?_ | refine C_ex ?_ | refine C_rt ?_ | refine X_e ?_ | refine X_r ?_ | refine X_bh ?_ | refine X_be ?_ | refine X_br ?_ | refine X_bn ?_ | refine X_p ?_ | refine X_bp ?_)
      exact hfail 5 _ _ he (by decide) ⟨_, _, _, _, hS0⟩ rfl rfl
    | nil =>
      have he : prsE s v = chkR (t.flat 0) v := by rw [hE, hg]
      repeat (first | (refine S_w ?_; first | (refine M_c (checkF ((inferInstance : HasSl _ A3 _ _ _).rd hS) hfo (by simp [T.flat_len]; omega)) ?_) | (refine S_y hS ?_) | ((first | refine M_bA hS ?_ | refine M_b1 hS ?_ | refine M_aA hS ?_ | refine M_a1 hS ?_ | refine M_sl hS ?_ | refine M_s1 hS ?_ | refine M_mm hS ?_); clear hS; intro b w hS) | ((first | refine M_st hS ?_ | refine M_sA hS ?_ | refine M_in hS ?_ | refine M_sR hS ?_); clear hS; intro w hS; (try simp only [List.set_cons_zero, List.set_cons_succ, Nat.zero_add] at hS)) | (refine M_ap hS ?_; clear hS; intro g cap w hS) | refine M_pn ?_) | refine X_k (by (try simp only [Fm.toList, List.set_cons_succ, List.set_cons_zero]); exact rfl) ?_ | refine S_u ?_ | refine S_v ?_ | refine C_sq ?_ | refine C_rg ?_ | refine L_nil ?_ | refine C_bk ?_ | refine C_ct ?_ | refine C_cf ?_ | refine C_sk ?_ | refine C_ex ?_ | refine C_rt ?_ | refine X_e ?_ | refine X_r ?_ | refine X_bh ?_ | refine X_be ?_ | refine X_br ?_ | refine X_bn ?_ | refine X_p ?_ | refine X_bp ?_)
      rintro _ w4 ⟨⟨A4, m4, c4, rfl⟩, hb4⟩
      have hS := hS.call hb4
      have hS0 := hS
      by_cases h0 : chkR (t.flat 0) v = 0
      · rw [h0]
        have hL : prsL s v = t.flat 0 := by rw [prsL, if_pos (by rw [he, h0]), hg]
        repeat (first | (refine S_w ?_; first | (refine S_y hS ?_) | ((first | refine M_bA hS ?_ | refine M_b1 hS ?_ | refine M_aA hS ?_ | refine M_a1 hS ?_ | refine M_sl hS ?_ | refine M_s1 hS ?_ | refine M_mm hS ?_); clear hS; intro b w hS) | ((first | refine M_st hS ?_ | refine M_sA hS ?_ | refine M_in hS ?_ | refine M_sR hS ?_); clear hS; intro w hS; (try simp only [List.set_cons_zero, List.set_cons_succ, Nat.zero_add] at hS)) | (refine M_ap hS ?_; clear hS; intro g cap w hS) | refine M_pn ?_) | refine X_k (by (try simp only [Fm.toList, List.set_cons_succ, List.set_cons_zero]); exact rfl) ?_ | refine S_u ?_ | refine S_v ?_ | refine C_sq ?_ | refine C_rg ?_ | refine L_nil ?_ | refine C_bk ?_ | refine C_ct ?_ | refine C_cf ?_ | refine C_sk ?_ | refine C_ex ?_ | refine C_rt ?_ | refine X_e ?_ | refine X_r ?_ | refine X_bh ?_ | refine X_be ?_ | refine X_br ?_ | refine X_bn ?_ | refine X_p ?_ | refine X_bp ?_)
        refine D_r (catchI _ _ _) (res_c2 hS) ⟨_, rfl, A3, c3, by rw [hL, he, h0]; rfl, ?_, hS.fr⟩
        rw [hL]
        exact hS.rowOwnM
      · repeat (first | (refine S_w ?_; first | (refine M_p (failP (chkR (t.flat 0) v) _ _) ?_) | (refine S_y hS ?_) | ((first | refine M_bA hS ?_ | refine M_b1 hS ?_ | refine M_aA hS ?_ | refine M_a1 hS ?_ | refine M_sl hS ?_ | refine M_s1 hS ?_ | refine M_mm hS ?_); clear hS; intro b w hS) | ((first | refine M_st hS ?_ | refine M_sA hS ?_ | refine M_in hS ?_ | refine M_sR hS ?_); clear hS; intro w hS; (try simp only [List.set_cons_zero, List.set_cons_succ, Nat.zero_add] at hS)) | (refine M_ap hS ?_; clear hS; intro g cap w hS) | refine M_pn ?_) | refine X_k (by (try simp only [Fm.toList, List.set_cons_succ, List.set_cons_zero]); exact rfl) ?_ | refine S_u ?_ | refine S_v ?_ | refine C_sq ?_ | refine C_rg ?_ | refine L_nil ?_ | refine C_bk ?_ | refine C_ct ?_ | refine C_cf ?_ | refine C_sk ?_ | refine C_ex ?_ | refine C_rt ?_ | refine X_e ?_ | refine X_r ?_ | refine X_bh ?_ | refine X_be ?_ | refine X_br ?_ | refine X_bn ?_ | refine X_p ?_ | refine X_bp ?_)
        rintro _ w5 ⟨rfl, rfl⟩
        repeat (first | (refine S_w ?_; first | (refine S_y hS ?_) | ((first | refine M_bA hS ?_ | refine M_b1 hS ?_ | refine M_aA hS ?_ | refine M_a1 hS ?_ | refine M_sl hS ?_ | refine M_s1 hS ?_ | refine M_mm hS ?_); clear hS; intro b w hS) | ((first | refine M_st hS ?_ | refine M_sA hS ?_ | refine M_in hS ?_ | refine M_sR hS ?_); clear hS; intro w hS; (try simp only [List.set_cons_zero, List.set_cons_succ, Nat.zero_add] at hS)) | (refine M_ap hS ?_; clear hS; intro g cap w hS) | refine M_pn ?_) | refine X_k (by (try simp only [Fm.toList, List.set_cons_succ, List.set_cons_zero]); exact rfl) ?_ | refine S_u ?_ | refine S_v ?_ | refine C_sq ?_ | refine C_rg ?_ | refine L_nil ?_ | refine C_bk ?_ | refine C_ct ?_ | refine C_cf ?_ | refine C_sk ?_ | refine C_ex ?_ | refine C_rt ?_ | refine X_e ?_ | refine X_r ?_ | refine X_bh ?_ | refine X_be ?_ | refine X_br ?_ | refine X_bn ?_ | refine X_p ?_ | refine X_bp ?_)
        exact hfail _ _ _ he h0 ⟨_, _, _, _, hS0⟩ rfl rfl
end Go.Proofs.Ytcholfpomalgdaa
