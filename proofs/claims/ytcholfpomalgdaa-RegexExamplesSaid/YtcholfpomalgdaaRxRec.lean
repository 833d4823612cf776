/-
  Deferred calls that recover: rules; regex.Parse's deferred closure in both modes.
-/
import Derived.Test.YtcholfpomalgdaaRxExpr
import Derived.Recover
namespace Go.Proofs.Ytcholfpomalgdaa
open Go.RowKit
section
variable {P : Program} {o : Oper} {l : Fm} {ds : List Deferred} {w : World} {x y : Operand} {t t' xt a : TypeId} {v : Value}
theorem x_assert {fs : Array Field} (ho : o.op = .typeAssert x xt a true) (hu : P.underlying a = some (.struct fs)) (hx : lk l x = some (.iface a v)) : Ex P l ds o w (.tuple #[v, .bool true]) := by
  unfold Ex execOp; rw [ho]; simp only [lk_eval hx]
  simp [Instr.typeAssert, underlying, hu, go_sem]
theorem eq_nil_f {ms : Array (String × TypeId)} (hi : P.underlying t = some (.interface ms)) : (Op.equal t (.iface a v) .nilIface).run P w = .ok false w := by
  have h : ∀ d : Nat, (Op.equalIn (d + 1) t (.iface a v) .nilIface).run P w = .ok false w := fun d => by simp [Op.equalIn, underlying, hi, go_sem]
  exact h 9999
theorem eq_nil_t {ms : Array (String × TypeId)} (hi : P.underlying t = some (.interface ms)) : (Op.equal t .nilIface .nilIface).run P w = .ok true w := by
  have h : ∀ d : Nat, (Op.equalIn (d + 1) t .nilIface .nilIface).run P w = .ok true w := fun d => by simp [Op.equalIn, underlying, hi, go_sem]
  exact h 9999
theorem x_neNil_t {ms : Array (String × TypeId)} (ho : o.op = .binOp .neq t x y t') (hi : P.underlying t = some (.interface ms)) (hx : lk l x = some (.iface a v)) (hy : lk l y = some .nilIface) : Ex P l ds o w (.bool true) := by
  refine x_bin ho hx hy ?_ ?_ <;> simp [eqGuard, binOp, go_sem, eq_nil_f hi]
theorem x_neNil_f {ms : Array (String × TypeId)} (ho : o.op = .binOp .neq t x (.const .nilIface) t') (hi : P.underlying t = some (.interface ms)) (hx : lk l x = some .nilIface) : Ex P l ds o w (.bool false) := by
  refine x_bin (b := .nilIface) ho hx (by simp [lk]) ?_ ?_ <;> simp [eqGuard, binOp, go_sem, eq_nil_t hi]
end
/-! the frame that called the deferred function: its mode -/
section
variable {P : Program} {Q : Exit → Act → List Frame → World → Prop} {cs cs' : List Frame} {w : World} {c : Code} {l : Fm} {fn : Func} {c₀ : Frame} {R : Ending → FrameMode → World → Prop} {u' : FrameMode}
/-- what a deferred function owes at its end, the frames below it being cs' -/
structure Dp (P : Program) (fn : Func) (c₀ : Frame) (cs : List Frame) (R : Ending → FrameMode → World → Prop) (cs' : List Frame) (e : Exit) (a : Act) (w : World) : Prop where
  out : bodyPostS P fn c₀ cs R e a cs' w
theorem S_s {tm : Array Value} (h : Wc P c (Dp P fn c₀ cs R cs') (Fm.base tm.toList) [] w) : c.wpS P (bodyPostS P fn c₀ cs R) { tmps := tm, defers := [] } cs' w := by
  have := h.out
  exact wpS_of_wp (wp_mono (Q := Dp P fn c₀ cs R cs') (by simpa [Fm.arr, Fm.toList] using this) fun _ _ _ h => h.out)
theorem V_d (h : R (.returned (.tuple #[])) u' w) (hr : fn.results = #[] := by rfl) : Wx (Dp P fn c₀ cs R ({ c₀ with mode := u' } :: cs)) .normal l [] w := ⟨⟨by
  refine ⟨rfl, u', rfl, .tuple #[], ?_, h⟩
  rw [results_eq, hr]; simp [go_sem]⟩⟩
theorem V_r (h : R (.returned (.tuple #[])) u' w) (hr : fn.results = #[] := by rfl) : Wx (Dp P fn c₀ cs R ({ c₀ with mode := u' } :: cs)) .ret l [] w := ⟨⟨by
  refine ⟨rfl, u', rfl, .tuple #[], ?_, h⟩
  rw [results_eq, hr]; simp [go_sem]⟩⟩
end
theorem hi20 : (Try.prog).underlying 20 = some (.interface #[]) := by kernel_rfl
def strT (P : Program) (t : TypeId) : Bool := match P.underlying t with | some (.struct _) => true | _ => false
theorem strT_ok {P : Program} {t : TypeId} (h : strT P t = true) : ∃ fs, P.underlying t = some (.struct fs) := by
  unfold strT at h
  split at h
  · exact ⟨_, by assumption⟩
  · cases h
theorem hi84 : ∃ fs, (Try.prog).underlying 84 = some (.struct fs) := strT_ok (by kernel_rfl)
section
variable {F : Nat → Prop} {w0 w : World} {rs : List Res} {eb rb : Nat}
set_option maxHeartbeats 4000000 in
set_option maxRecDepth 100000 in
theorem catchP (x y : Int) (v0 : Value) (h0 : v0.oneCell' = true) (hS : St F w0 (Res.obj rb (.cells #[.int .i64 y] 25 (0, 0)) :: Res.obj eb (.cells #[v0] 23 (0, 0)) :: rs) w) :
    CallsD Try.prog 44 #[.pointer (some ⟨eb, 0, none⟩), .pointer (some ⟨rb, 0, none⟩)] (.panicking (failC x)) w fun e u w' =>
      e = .returned (.tuple #[]) ∧ u = .panicking [{ v := .iface 84 (.agg #[.int .i64 x]), recovered := true }] ∧
      St F w0 (Res.obj rb (.cells #[.int .i64 x] 25 (0, 0)) :: Res.obj eb (.cells #[.slice none 0 0] 23 (0, 0)) :: rs) w' := by
  refine callsD_of_wpS Try.func44 rfl fun c₀ cs hu => ?_
  apply wpS_seq
  apply wpS_region
  simp [wpOpsS, go_sem, recoverD, hu, failC, Try.ntmps44, Exit.thenS]
  refine S_s ?_
  refine C_fr (l' := [.pointer (some ⟨eb, 0, none⟩), .pointer (some ⟨rb, 0, none⟩), .iface 84 (.agg #[.int .i64 x]), undef, undef, .iface 84 (.agg #[.int .i64 x]), undef, undef, undef, undef, undef, undef, undef, undef, undef, undef, undef, undef]) rfl ?_
  repeat (first | (refine S_w ?_; first | (refine S_ex rfl (x_neNil_t rfl hi20 rfl rfl) ?_) | (refine S_ex rfl (x_assert rfl hi84.choose_spec rfl) ?_) | (refine S_y hS ?_) | ((first | refine M_bA hS ?_ | refine M_b1 hS ?_ | refine M_aA hS ?_ | refine M_a1 hS ?_ | refine M_sl hS ?_ | refine M_s1 hS ?_ | refine M_mm hS ?_); clear hS; intro b w hS) | ((first | refine M_st hS ?_ | refine M_sA hS ?_ | refine M_in hS ?_ | refine M_sR hS ?_); clear hS; intro w hS; (try simp only [List.set_cons_zero, List.set_cons_succ, Nat.zero_add] at hS)) | (refine M_ap hS ?_; clear hS; intro g cap w hS) | refine M_pn ?_) | refine X_k (by (try simp only [Fm.toList, List.set_cons_succ, List.set_cons_zero]); exact rfl) ?_ | refine S_u ?_ | refine S_v ?_ | refine C_sq ?_ | refine C_rg ?_ | refine L_nil ?_ | refine C_bk ?_ | refine C_ct ?_ | refine C_cf ?_ | refine C_sk ?_ | refine C_ex ?_ | refine C_rt ?_ | refine X_e ?_ | refine X_r ?_ | refine X_bh ?_ | refine X_be ?_ | refine X_br ?_ | refine X_bn ?_ | refine X_p ?_ | refine X_bp ?_)
  refine C_p0 (.take 0 (.two 1 2 (.one 2 (.one 3 .done)) (.one 1 (.one 3 .done)))) (fun (_ : Unit) f => (f.upd 16 (.pointer (some ⟨b, 0, none⟩))).upd 17 (.int .i64 x)) (fun _ => Res.obj rb (.cells #[.int .i64 x] 25 (0, 0)) :: Res.obj eb (.cells #[.slice none 0 0] 23 (0, 0)) :: rs) hS ?_ ?_
  · clear hS; intro w hS
    repeat ((with_reducible apply P_t); rfl; first | (refine P_a (by first | exact Yp | exact Ya | exact Yt | exact Yf | exact Yfc | exact Yfe) ?_) | refine P_b ?_)
    (with_reducible apply P_two); rfl; rfl
    · refine P_f ?_; intro Q' hQ' hE'
      repeat (first | (refine S_w ?_; first | (refine S_y hS ?_) | ((first | refine M_bA hS ?_ | refine M_b1 hS ?_ | refine M_aA hS ?_ | refine M_a1 hS ?_ | refine M_sl hS ?_ | refine M_s1 hS ?_ | refine M_mm hS ?_); clear hS; intro b w hS) | ((first | refine M_st hS ?_ | refine M_sA hS ?_ | refine M_in hS ?_ | refine M_sR hS ?_); clear hS; intro w hS; (try simp only [List.set_cons_zero, List.set_cons_succ, Nat.zero_add] at hS)) | (refine M_ap hS ?_; clear hS; intro g cap w hS) | refine M_pn ?_) | refine X_k (by (try simp only [Fm.toList, List.set_cons_succ, List.set_cons_zero]); exact rfl) ?_ | refine S_u ?_ | refine S_v ?_ | refine C_sq ?_ | refine C_rg ?_ | refine L_nil ?_ | refine C_bk ?_ | refine C_ct ?_ | refine C_cf ?_ | refine C_sk ?_ | refine C_ex ?_ | refine C_rt ?_ | refine X_e ?_ | refine X_r ?_ | refine X_bh ?_ | refine X_be ?_ | refine X_br ?_ | refine X_bn ?_ | refine X_p ?_ | refine X_bp ?_)
      (try refine L_nil ?_); refine hQ' _ _ trivial ?_; clear hQ' hE'
      (with_reducible apply P_one); rfl; refine P_f ?_; intro Q' hQ' hE'
      repeat (first | (refine S_w ?_; first | (refine S_y hS ?_) | ((first | refine M_bA hS ?_ | refine M_b1 hS ?_ | refine M_aA hS ?_ | refine M_a1 hS ?_ | refine M_sl hS ?_ | refine M_s1 hS ?_ | refine M_mm hS ?_); clear hS; intro b w hS) | ((first | refine M_st hS ?_ | refine M_sA hS ?_ | refine M_in hS ?_ | refine M_sR hS ?_); clear hS; intro w hS; (try simp only [List.set_cons_zero, List.set_cons_succ, Nat.zero_add] at hS)) | (refine M_ap hS ?_; clear hS; intro g cap w hS) | refine M_pn ?_) | refine X_k (by (try simp only [Fm.toList, List.set_cons_succ, List.set_cons_zero]); exact rfl) ?_ | refine S_u ?_ | refine S_v ?_ | refine C_sq ?_ | refine C_rg ?_ | refine L_nil ?_ | refine C_bk ?_ | refine C_ct ?_ | refine C_cf ?_ | refine C_sk ?_ | refine C_ex ?_ | refine C_rt ?_ | refine X_e ?_ | refine X_r ?_ | refine X_bh ?_ | refine X_be ?_ | refine X_br ?_ | refine X_bn ?_ | refine X_p ?_ | refine X_bp ?_)
      (try refine L_nil ?_); refine hQ' _ _ trivial ?_; clear hQ' hE'
      (with_reducible apply P_one); rfl; refine P_f ?_; intro Q' hQ' hE'
      repeat (first | (refine S_w ?_; first | (refine S_y hS ?_) | ((first | refine M_bA hS ?_ | refine M_b1 hS ?_ | refine M_aA hS ?_ | refine M_a1 hS ?_ | refine M_sl hS ?_ | refine M_s1 hS ?_ | refine M_mm hS ?_); clear hS; intro b w hS) | ((first | refine M_st hS ?_ | refine M_sA hS ?_ | refine M_in hS ?_ | refine M_sR hS ?_); clear hS; intro w hS; (try simp only [List.set_cons_zero, List.set_cons_succ, Nat.zero_add] at hS)) | (refine M_ap hS ?_; clear hS; intro g cap w hS) | refine M_pn ?_) | refine X_k (by (try simp only [Fm.toList, List.set_cons_succ, List.set_cons_zero]); exact rfl) ?_ | refine S_u ?_ | refine S_v ?_ | refine C_sq ?_ | refine C_rg ?_ | refine L_nil ?_ | refine C_bk ?_ | refine C_ct ?_ | refine C_cf ?_ | refine C_sk ?_ | refine C_ex ?_ | refine C_rt ?_ | refine X_e ?_ | refine X_r ?_ | refine X_bh ?_ | refine X_be ?_ | refine X_br ?_ | refine X_bn ?_ | refine X_p ?_ | refine X_bp ?_)
      (try refine L_nil ?_); refine hQ' _ _ trivial ?_; clear hQ' hE'
      refine P_e () hS.sb
    · refine P_f ?_; intro Q' hQ' hE'
      repeat (first | (refine S_w ?_; first | (refine S_y hS ?_) | ((first | refine M_bA hS ?_ | refine M_b1 hS ?_ | refine M_aA hS ?_ | refine M_a1 hS ?_ | refine M_sl hS ?_ | refine M_s1 hS ?_ | refine M_mm hS ?_); clear hS; intro b w hS) | ((first | refine M_st hS ?_ | refine M_sA hS ?_ | refine M_in hS ?_ | refine M_sR hS ?_); clear hS; intro w hS; (try simp only [List.set_cons_zero, List.set_cons_succ, Nat.zero_add] at hS)) | (refine M_ap hS ?_; clear hS; intro g cap w hS) | refine M_pn ?_) | refine X_k (by (try simp only [Fm.toList, List.set_cons_succ, List.set_cons_zero]); exact rfl) ?_ | refine S_u ?_ | refine S_v ?_ | refine C_sq ?_ | refine C_rg ?_ | refine L_nil ?_ | refine C_bk ?_ | refine C_ct ?_ | refine C_cf ?_ | refine C_sk ?_ | refine C_ex ?_ | refine C_rt ?_ | refine X_e ?_ | refine X_r ?_ | refine X_bh ?_ | refine X_be ?_ | refine X_br ?_ | refine X_bn ?_ | refine X_p ?_ | refine X_bp ?_)
      (try refine L_nil ?_); refine hQ' _ _ trivial ?_; clear hQ' hE'
      (with_reducible apply P_one); rfl; refine P_f ?_; intro Q' hQ' hE'
      repeat (first | (refine S_w ?_; first | (refine S_y hS ?_) | ((first | refine M_bA hS ?_ | refine M_b1 hS ?_ | refine M_aA hS ?_ | refine M_a1 hS ?_ | refine M_sl hS ?_ | refine M_s1 hS ?_ | refine M_mm hS ?_); clear hS; intro b w hS) | ((first | refine M_st hS ?_ | refine M_sA hS ?_ | refine M_in hS ?_ | refine M_sR hS ?_); clear hS; intro w hS; (try simp only [List.set_cons_zero, List.set_cons_succ, Nat.zero_add] at hS)) | (refine M_ap hS ?_; clear hS; intro g cap w hS) | refine M_pn ?_) | refine X_k (by (try simp only [Fm.toList, List.set_cons_succ, List.set_cons_zero]); exact rfl) ?_ | refine S_u ?_ | refine S_v ?_ | refine C_sq ?_ | refine C_rg ?_ | refine L_nil ?_ | refine C_bk ?_ | refine C_ct ?_ | refine C_cf ?_ | refine C_sk ?_ | refine C_ex ?_ | refine C_rt ?_ | refine X_e ?_ | refine X_r ?_ | refine X_bh ?_ | refine X_be ?_ | refine X_br ?_ | refine X_bn ?_ | refine X_p ?_ | refine X_bp ?_)
      (try refine L_nil ?_); refine hQ' _ _ trivial ?_; clear hQ' hE'
      (with_reducible apply P_one); rfl; refine P_f ?_; intro Q' hQ' hE'
      repeat (first | (refine S_w ?_; first | (refine S_y hS ?_) | ((first | refine M_bA hS ?_ | refine M_b1 hS ?_ | refine M_aA hS ?_ | refine M_a1 hS ?_ | refine M_sl hS ?_ | refine M_s1 hS ?_ | refine M_mm hS ?_); clear hS; intro b w hS) | ((first | refine M_st hS ?_ | refine M_sA hS ?_ | refine M_in hS ?_ | refine M_sR hS ?_); clear hS; intro w hS; (try simp only [List.set_cons_zero, List.set_cons_succ, Nat.zero_add] at hS)) | (refine M_ap hS ?_; clear hS; intro g cap w hS) | refine M_pn ?_) | refine X_k (by (try simp only [Fm.toList, List.set_cons_succ, List.set_cons_zero]); exact rfl) ?_ | refine S_u ?_ | refine S_v ?_ | refine C_sq ?_ | refine C_rg ?_ | refine L_nil ?_ | refine C_bk ?_ | refine C_ct ?_ | refine C_cf ?_ | refine C_sk ?_ | refine C_ex ?_ | refine C_rt ?_ | refine X_e ?_ | refine X_r ?_ | refine X_bh ?_ | refine X_be ?_ | refine X_br ?_ | refine X_bn ?_ | refine X_p ?_ | refine X_bp ?_)
      (try refine L_nil ?_); refine hQ' _ _ trivial ?_; clear hQ' hE'
      refine P_e () hS.sb
  rintro _ w hS
  repeat (first | (refine S_w ?_; first | (refine S_y hS ?_) | ((first | refine M_bA hS ?_ | refine M_b1 hS ?_ | refine M_aA hS ?_ | refine M_a1 hS ?_ | refine M_sl hS ?_ | refine M_s1 hS ?_ | refine M_mm hS ?_); clear hS; intro b w hS) | ((first | refine M_st hS ?_ | refine M_sA hS ?_ | refine M_in hS ?_ | refine M_sR hS ?_); clear hS; intro w hS; (try simp only [List.set_cons_zero, List.set_cons_succ, Nat.zero_add] at hS)) | (refine M_ap hS ?_; clear hS; intro g cap w hS) | refine M_pn ?_) | refine X_k (by (try simp only [Fm.toList, List.set_cons_succ, List.set_cons_zero]); exact rfl) ?_ | refine S_u ?_ | refine S_v ?_ | refine C_sq ?_ | refine C_rg ?_ | refine L_nil ?_ | refine C_bk ?_ | refine C_ct ?_ | refine C_cf ?_ | refine C_sk ?_ | refine C_ex ?_ | refine C_rt ?_ | refine X_e ?_ | refine X_r ?_ | refine X_bh ?_ | refine X_be ?_ | refine X_br ?_ | refine X_bn ?_ | refine X_p ?_ | refine X_bp ?_)
  exact V_d ⟨rfl, rfl, hS⟩
set_option maxHeartbeats 4000000 in
set_option maxRecDepth 100000 in
theorem catchI (p q : Value) (w : World) :
    CallsD Try.prog 44 #[p, q] .returning w fun e u w' => e = .returned (.tuple #[]) ∧ u = .returning ∧ w' = w := by
  refine callsD_of_wpS Try.func44 rfl fun c₀ cs hu => ?_
  apply wpS_seq
  apply wpS_region
  simp [wpOpsS, go_sem, recoverD, hu, Try.ntmps44, Exit.thenS]
  refine S_s ?_
  have hS := St.start Nof w
  refine C_fr (l' := [p, q, .nilIface, undef, undef, .nilIface, undef, undef, undef, undef, undef, undef, undef, undef, undef, undef, undef, undef]) rfl ?_
  refine C_sq ?_
  refine C_rg ?_
  refine S_w ?_
  refine S_q hS Yp ?_
  refine S_w ?_
  refine S_ex rfl (x_neNil_f rfl hi20 rfl) ?_
  refine L_nil ?_
  refine X_k (by (try simp only [Fm.toList, List.set_cons_succ, List.set_cons_zero]); exact rfl) ?_
  refine C_cf ?_
  refine C_sk ?_
  exact V_d (u' := c₀.mode) ⟨rfl, hu, rfl⟩
end
end Go.Proofs.Ytcholfpomalgdaa
