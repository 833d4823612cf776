/-
  The laws' runs: the end of step.
-/
import Derived.Test.YtijmggoikieelaaDgStM
namespace Go.Proofs.Ytijmggoikieelaa
open Go.RowKit

noncomputable def stepC : Code := tailC 7 ((Try.f12).body.getD .skip)
theorem St.rowTb {F : Nat → Prop} {w0 w : World} {rs : List Res} {e : TypeId} {A : Option Addr} {n c : Nat} {xs : List Int} (h : St F w0 (Res.row e 1 (.slice A n c) n (xs.map iv) :: rs) w) : St F w0 ((⟨A, c, xs⟩ : Tb).res :: rs) w := by
  have hl : xs.length = n := by
    have := (h.rowAt (List.mem_cons_self ..) : Rd w 1 A n (xs.map iv)).1
    simpa using this
  subst hl
  exact h.rowRd
theorem raddV {F : Nat → Prop} {w0 w : World} {rs : List Res} {mb m cp c n : Nat} {A : Option Addr} {MT : List Tb} {t : Tb} (hn : t.xs.length = n) (hm : m ≤ 6) (hl : MT.length ≤ 900) (hlen : ∀ u ∈ MT, u.xs.length = two m) (ht : t.xs.length = two m) (hL : ∀ u ∈ MT, u.res ∈ rs) (hT : t.res ∈ rs) (hS : St F w0 (rfR mb m cp MT A c rs) w) :
    CallsR Try.prog 43 #[.pointer (some ⟨mb, 0, none⟩), .slice t.A n t.c] w fun r w' => r = .int .i64 (addE m cp (MT.map Tb.xs) t.xs) ∧ ∃ A' c', St F w0 (rfR mb m cp (addT m cp MT t) A' c' rs) w' := by
  subst hn
  exact raddR hm hl hlen ht hL hT hS
theorem Good.mem {s : Rn} (hG : Good s) (A : Option Addr) (c : Nat) (Am : Option Addr) (cm : Nat) : Good { s with A := A, c := c, Am := Am, cm := cm } :=
  ⟨hG.m6, hG.cp1, hG.cp2, hG.si, hG.nc, hG.rl, hG.rt, hG.kr, hG.tm, hG.mt, hG.tl, hG.ii, hG.ml⟩
theorem Yb2 {P : Program} {rs : List Res} {o : Oper} {l : Fm} {x y : Operand} {t t' : TypeId} {k : IntKind} {a : Nat} (ho : o.op = .binOp .rem t x y t' := by rfl) (hx : lk l x = some (.int k (a : Nat)) := by rfl) (hy : lk l y = some (.int k 2) := by rfl) : Yl P rs l o (.int k (a % 2 : Nat)) := ⟨fun _ => x_bins ho hx hy B_mod2⟩
/-- what follows, in a frame of which some slots are known -/
theorem C_tl {P : Program} {c : Code} {Q : Exit → Act → World → Prop} {l : Fm} {ds : List Deferred} {w : World} {vals : List (Nat × Value)} {bs : List Bool} {l0 : List Value} (h : Wc P c Q (Fm.base (mask (ov vals (fun i => (fnth l i).getD undef)) 0 bs l0)) ds w) (e : l.toList = mask (ov vals (fun i => (fnth l i).getD undef)) 0 bs l0 := by rfl) : Wc P c Q l ds w := C_fr e h
theorem upd_sw {f : Fm} {d d2 : Nat} {v v2 : Value} (h : d ≠ d2) : ((f.upd d v).upd d2 v2).toList = ((f.upd d2 v2).upd d v).toList := by
  simp only [Fm.toList]; exact List.set_comm _ _ h
theorem upd_cg {f g : Fm} {d : Nat} {v : Value} (h : f.toList = g.toList) : (f.upd d v).toList = (g.upd d v).toList := by
  simp only [Fm.toList, h]
/-- a state within a region, walked once -/
theorem W_lem {P : Program} {ops : Array Oper} {Q : Exit → Act → World → Prop} {ds : List Deferred} {w : World} {l : Fm} {α : Type} {p p0 : PlanM} (fr : α → Fm → Fm) (rsf : α → List Res) {F : Nat → Prop} {w0 : World} (h1 : ∀ a w, St F w0 (rsf a) w → WM P ops Q p (fr a l) ds w)
    (h2 : (∀ a l' w, l'.toList = (fr a l).toList → St F w0 (rsf a) w → WM P ops Q p l' ds w) → WM P ops Q p0 l ds w) : WM P ops Q p0 l ds w :=
  h2 fun a l' w e hS => by
    have e2 : l'.arr = (fr a l).arr := by rw [Fm.arr, Fm.arr, e]
    exact ⟨fun listed hp hs => by rw [e2]; exact (h1 a w hS).run listed hp hs⟩
/-- what a step leaves -/
def StepP (F : Nat → Prop) (w0 : World) (s : Rn) (rs : List Res) (r : Value) (w' : World) : Prop :=
  r = .bool true ∧ ∃ s', Good s' ∧ s'.m = s.m ∧ s'.cp = s.cp ∧ s'.rb = s.rb ∧ s'.sb = s.sb ∧ s'.mb = s.mb ∧ s'.R.length ≤ s.R.length + 1 ∧ St F w0 (runR s' rs) w'
theorem stepKeep {F : Nat → Prop} {w0 w : World} {s : Rn} {rs : List Res} (hG : Good s) {A : Option Addr} {c : Nat} {Am : Option Addr} {cm : Nat} (hS : St F w0 (runR { s with A := A, c := c, Am := Am, cm := cm } rs) w) : StepP F w0 s rs (.bool true) w :=
  ⟨rfl, _, hG.mem A c Am cm, rfl, rfl, rfl, rfl, rfl, Nat.le_succ _, hS⟩
section
variable {F : Nat → Prop} {w0 w : World} {rs : List Res}
set_option maxHeartbeats 8000000 in
set_option maxRecDepth 100000 in
theorem stepTailE {e f : Int} {R : Value → World → Prop} {rs : List Res} (y : Nat → Value) (he : e = f) (hf : f ≠ 0) (hS : St F w0 rs w) (hR : ∀ w', St F w0 rs w' → R (.bool true) w') :
    Wc Try.prog stepC (bodyPost Try.prog (Try.f12) fun e w' => ∃ v, e = .returned v ∧ R v w') (Fm.base (mask (ov [(7, .int .i64 e), (8, .int .i64 f)] y) 0 (runs false [0, 254]) (List.replicate 254 undef))) [] w := by
  subst he
  show Wc Try.prog (Code.seq _ _) _ _ _ _
  refine C_fs ?_
  repeat (first | (refine S_w ?_; first | (refine S_d hS ?_) | (refine S_y hS ?_) | ((first | refine M_bA hS ?_ | refine M_b1 hS ?_ | refine M_aA hS ?_ | refine M_a1 hS ?_ | refine M_sl hS ?_ | refine M_s1 hS ?_ | refine M_mm hS ?_); clear hS; intro b w hS) | ((first | refine M_st hS ?_ | refine M_sA hS ?_ | refine M_in hS ?_ | refine M_sR hS ?_); clear hS; intro w hS; (try simp only [List.set_cons_zero, List.set_cons_succ, Nat.zero_add] at hS)) | (refine M_ap hS ?_; clear hS; intro g cap w hS) | refine M_pn ?_ | ((first | refine M_im hS ?_ | refine M_ii hS ?_ | refine M_dl hS ?_); clear hS; intro w hS)) | refine X_k (by (try simp only [Fm.toList, List.set_cons_succ, List.set_cons_zero]); exact rfl) ?_ | refine S_u ?_ | refine S_v ?_ | refine C_sq ?_ | refine C_rg ?_ | refine L_nil ?_ | refine C_bk ?_ | refine C_ct ?_ | refine C_cf ?_ | refine C_sk ?_ | refine C_ex ?_ | refine C_rt ?_ | refine X_e ?_ | refine X_r ?_ | refine X_bh ?_ | refine X_be ?_ | refine X_br ?_ | refine X_bn ?_ | refine X_p ?_ | refine X_bp ?_)
  refine V_1 (hR _ hS)
set_option maxHeartbeats 16000000 in
set_option maxRecDepth 100000 in
theorem stepTailA {s : Rn} {t : Tb} {a e : Int} {N2 : List Dg.Nd} {kn2 : List Nat} {A2 : Option Addr} {c2 b3 n : Nat} {bx : Obj} (y : Nat → Value) (hG : Good s) (hRl : s.R.length ≤ 200) (hn : t.xs.length = n) (ht : t.xs.length = two s.m) (D : StepD s t e a N2 kn2)
    (hS : St F w0 (t.res :: stR s.sb s.m s.cp N2 kn2 s.bi s.bk A2 c2 (Res.obj b3 bx :: rfR s.mb s.m s.cp s.MT s.Am s.cm (s.T ++ rnT s.rb s.sb s.mb s.R s.Ar s.cr s.TT s.At s.ct rs))) w) :
    Wc Try.prog stepC (bodyPost Try.prog (Try.f12) fun e w' => ∃ v, e = .returned v ∧ StepP F w0 s rs v w') (Fm.base (mask (ov [(0, .pointer (some ⟨s.rb, 0, none⟩)), (5, .int .i64 a), (6, .slice t.A n t.c), (7, .int .i64 e), (8, .int .i64 0)] y) 0 (runs false [0, 254]) (List.replicate 254 undef))) [] w := by
  have hml := hG.ml
  have hrl := hG.rl
  have hm6 := hG.m6
  obtain ⟨herr, hok, hbad⟩ := D
  show Wc Try.prog (Code.seq _ _) _ _ _ _
  refine C_fs ?_
  repeat (first | (refine S_w ?_; first | (refine S_d hS ?_) | (refine S_y hS ?_) | ((first | refine M_bA hS ?_ | refine M_b1 hS ?_ | refine M_aA hS ?_ | refine M_a1 hS ?_ | refine M_sl hS ?_ | refine M_s1 hS ?_ | refine M_mm hS ?_); clear hS; intro b w hS) | ((first | refine M_st hS ?_ | refine M_sA hS ?_ | refine M_in hS ?_ | refine M_sR hS ?_); clear hS; intro w hS; (try simp only [List.set_cons_zero, List.set_cons_succ, Nat.zero_add] at hS)) | (refine M_ap hS ?_; clear hS; intro g cap w hS) | refine M_pn ?_ | ((first | refine M_im hS ?_ | refine M_ii hS ?_ | refine M_dl hS ?_); clear hS; intro w hS)) | refine X_k (by (try simp only [Fm.toList, List.set_cons_succ, List.set_cons_zero]); exact rfl) ?_ | refine S_u ?_ | refine S_v ?_ | refine C_sq ?_ | refine C_rg ?_ | refine L_nil ?_ | refine C_bk ?_ | refine C_ct ?_ | refine C_cf ?_ | refine C_sk ?_ | refine C_ex ?_ | refine C_rt ?_ | refine X_e ?_ | refine X_r ?_ | refine X_bh ?_ | refine X_be ?_ | refine X_br ?_ | refine X_bn ?_ | refine X_p ?_ | refine X_bp ?_)
  have hS := hS.mw6
  refine S_w ?_
  refine M_c (raddV hn (by omega) (by omega) (fun u hu => hG.tl u (hG.mt u hu)) ht (fun u hu => .tail _ (.tail _ (.tail _ (.tail _ (.tail _ (.tail _ (List.mem_append_left _ (hG.tm u (hG.mt u hu)))))))) ) (.head _) hS) ?_
  rintro _ w6 ⟨rfl, A3, c3, hS⟩
  rw [← herr]
  by_cases he : e = 0
  · subst he
    obtain ⟨i, rfl, hgood⟩ := hok rfl
    have hTl : (s.TT ++ [t]).length = s.TT.length + 1 := by simp
    have hRl2 : (s.R ++ [i]).length = s.R.length + 1 := by simp
    have hqv : qv s.R ++ [.int .i64 (i : Nat)] = qv (s.R ++ [i]) := by simp [qv]
    have htv : s.TT.map Tb.val ++ [.slice t.A n t.c] = (s.TT ++ [t]).map Tb.val := by subst hn; simp [Tb.val]
    repeat (first | (refine S_w ?_; first | (refine S_d hS ?_) | (refine S_y hS ?_) | ((first | refine M_bA hS ?_ | refine M_b1 hS ?_ | refine M_aA hS ?_ | refine M_a1 hS ?_ | refine M_sl hS ?_ | refine M_s1 hS ?_ | refine M_mm hS ?_); clear hS; intro b w hS) | ((first | refine M_st hS ?_ | refine M_sA hS ?_ | refine M_in hS ?_ | refine M_sR hS ?_); clear hS; intro w hS; (try simp only [List.set_cons_zero, List.set_cons_succ, Nat.zero_add] at hS)) | (refine M_ap hS ?_; clear hS; intro g cap w hS) | refine M_pn ?_ | ((first | refine M_im hS ?_ | refine M_ii hS ?_ | refine M_dl hS ?_); clear hS; intro w hS)) | refine X_k (by (try simp only [Fm.toList, List.set_cons_succ, List.set_cons_zero]); exact rfl) ?_ | refine S_u ?_ | refine S_v ?_ | refine C_sq ?_ | refine C_rg ?_ | refine L_nil ?_ | refine C_bk ?_ | refine C_ct ?_ | refine C_cf ?_ | refine C_sk ?_ | refine C_ex ?_ | refine C_rt ?_ | refine X_e ?_ | refine X_r ?_ | refine X_bh ?_ | refine X_be ?_ | refine X_br ?_ | refine X_bn ?_ | refine X_p ?_ | refine X_bp ?_)
    refine C_N (.take 0 (.take 1 (.take 2 (.take 3 (.take 4 (.take 6 (.take 9 (.take 10 (.take 11 (.take 13 (.four 5 7 12 14 (.three 7 12 14 (.three 8 12 14 (.two 12 14 (.one 14 (.one 15 (.one 16 (.one 17 (.one 18 (.one 19 (.one 20 (.one 21 .done)))))))) (.one 12 (.one 15 (.one 16 (.one 17 (.one 18 (.one 19 (.one 20 (.one 21 .done))))))))) (.two 8 14 (.one 14 (.one 15 (.one 16 (.one 17 (.one 18 (.one 19 (.one 20 (.one 21 .done)))))))) (.one 8 (.one 15 (.one 16 (.one 17 (.one 18 (.one 19 (.one 20 (.one 21 .done))))))))) (.two 8 12 (.one 12 (.one 15 (.one 16 (.one 17 (.one 18 (.one 19 (.one 20 (.one 21 .done)))))))) (.one 8 (.one 15 (.one 16 (.one 17 (.one 18 (.one 19 (.one 20 (.one 21 .done)))))))))) (.two 7 14 (.two 8 14 (.one 14 (.one 15 (.one 16 (.one 17 (.one 18 (.one 19 (.one 20 (.one 21 .done)))))))) (.one 8 (.one 15 (.one 16 (.one 17 (.one 18 (.one 19 (.one 20 (.one 21 .done))))))))) (.one 7 (.one 8 (.one 15 (.one 16 (.one 17 (.one 18 (.one 19 (.one 20 (.one 21 .done)))))))))) (.two 7 12 (.two 8 12 (.one 12 (.one 15 (.one 16 (.one 17 (.one 18 (.one 19 (.one 20 (.one 21 .done)))))))) (.one 8 (.one 15 (.one 16 (.one 17 (.one 18 (.one 19 (.one 20 (.one 21 .done))))))))) (.one 7 (.one 8 (.one 15 (.one 16 (.one 17 (.one 18 (.one 19 (.one 20 (.one 21 .done))))))))))) (.three 5 12 14 (.three 8 12 14 (.two 12 14 (.one 14 (.one 15 (.one 16 (.one 17 (.one 18 (.one 19 (.one 20 (.one 21 .done)))))))) (.one 12 (.one 15 (.one 16 (.one 17 (.one 18 (.one 19 (.one 20 (.one 21 .done))))))))) (.two 8 14 (.one 14 (.one 15 (.one 16 (.one 17 (.one 18 (.one 19 (.one 20 (.one 21 .done)))))))) (.one 8 (.one 15 (.one 16 (.one 17 (.one 18 (.one 19 (.one 20 (.one 21 .done))))))))) (.two 8 12 (.one 12 (.one 15 (.one 16 (.one 17 (.one 18 (.one 19 (.one 20 (.one 21 .done)))))))) (.one 8 (.one 15 (.one 16 (.one 17 (.one 18 (.one 19 (.one 20 (.one 21 .done)))))))))) (.two 5 14 (.two 8 14 (.one 14 (.one 15 (.one 16 (.one 17 (.one 18 (.one 19 (.one 20 (.one 21 .done)))))))) (.one 8 (.one 15 (.one 16 (.one 17 (.one 18 (.one 19 (.one 20 (.one 21 .done))))))))) (.one 5 (.one 8 (.one 15 (.one 16 (.one 17 (.one 18 (.one 19 (.one 20 (.one 21 .done)))))))))) (.two 5 12 (.two 8 12 (.one 12 (.one 15 (.one 16 (.one 17 (.one 18 (.one 19 (.one 20 (.one 21 .done)))))))) (.one 8 (.one 15 (.one 16 (.one 17 (.one 18 (.one 19 (.one 20 (.one 21 .done))))))))) (.one 5 (.one 8 (.one 15 (.one 16 (.one 17 (.one 18 (.one 19 (.one 20 (.one 21 .done))))))))))) (.three 5 7 14 (.two 7 14 (.two 8 14 (.one 14 (.one 15 (.one 16 (.one 17 (.one 18 (.one 19 (.one 20 (.one 21 .done)))))))) (.one 8 (.one 15 (.one 16 (.one 17 (.one 18 (.one 19 (.one 20 (.one 21 .done))))))))) (.one 7 (.one 8 (.one 15 (.one 16 (.one 17 (.one 18 (.one 19 (.one 20 (.one 21 .done)))))))))) (.two 5 14 (.two 8 14 (.one 14 (.one 15 (.one 16 (.one 17 (.one 18 (.one 19 (.one 20 (.one 21 .done)))))))) (.one 8 (.one 15 (.one 16 (.one 17 (.one 18 (.one 19 (.one 20 (.one 21 .done))))))))) (.one 5 (.one 8 (.one 15 (.one 16 (.one 17 (.one 18 (.one 19 (.one 20 (.one 21 .done)))))))))) (.two 5 7 (.one 7 (.one 8 (.one 15 (.one 16 (.one 17 (.one 18 (.one 19 (.one 20 (.one 21 .done))))))))) (.one 5 (.one 8 (.one 15 (.one 16 (.one 17 (.one 18 (.one 19 (.one 20 (.one 21 .done))))))))))) (.three 5 7 12 (.two 7 12 (.two 8 12 (.one 12 (.one 15 (.one 16 (.one 17 (.one 18 (.one 19 (.one 20 (.one 21 .done)))))))) (.one 8 (.one 15 (.one 16 (.one 17 (.one 18 (.one 19 (.one 20 (.one 21 .done))))))))) (.one 7 (.one 8 (.one 15 (.one 16 (.one 17 (.one 18 (.one 19 (.one 20 (.one 21 .done)))))))))) (.two 5 12 (.two 8 12 (.one 12 (.one 15 (.one 16 (.one 17 (.one 18 (.one 19 (.one 20 (.one 21 .done)))))))) (.one 8 (.one 15 (.one 16 (.one 17 (.one 18 (.one 19 (.one 20 (.one 21 .done))))))))) (.one 5 (.one 8 (.one 15 (.one 16 (.one 17 (.one 18 (.one 19 (.one 20 (.one 21 .done)))))))))) (.two 5 7 (.one 7 (.one 8 (.one 15 (.one 16 (.one 17 (.one 18 (.one 19 (.one 20 (.one 21 .done))))))))) (.one 5 (.one 8 (.one 15 (.one 16 (.one 17 (.one 18 (.one 19 (.one 20 (.one 21 .done)))))))))))))))))))))) (fun (z : Nat × Nat × Nat × Nat × Nat × Nat) f => ((((((((((((((((((((f.upd 234 (.pointer (some ⟨s.rb, 0, none⟩))).upd 235 (.pointer (some ⟨s.rb, 0, none⟩))).upd 236 (.pointer (some ⟨s.rb, 0, none⟩))).upd 237 (.pointer (some ⟨s.rb, 0, none⟩))).upd 238 (.pointer (some ⟨s.rb, 2, none⟩))).upd 240 (.int .i64 (i : Nat))).upd 243 (.pointer (some ⟨s.rb, 0, none⟩))).upd 244 (.pointer (some ⟨s.rb, 0, none⟩))).upd 245 (.pointer (some ⟨s.rb, 3, none⟩))).upd 247 (.slice t.A n t.c)).upd 239 (.slice s.Ar s.R.length s.cr)).upd 241 (.slice (some ⟨z.1, 0, none⟩) 1 1)).upd 242 (.slice (some ⟨z.2.1, 0, none⟩) (s.R.length + 1) z.2.2.1)).upd 246 (.slice s.At s.TT.length s.ct)).upd 248 (.slice (some ⟨z.2.2.2.1, 0, none⟩) 1 1)).upd 249 (.slice (some ⟨z.2.2.2.2.1, 0, none⟩) (s.TT.length + 1) z.2.2.2.2.2)).upd 250 (.pointer (some ⟨s.rb, 0, none⟩))).upd 251 (.pointer (some ⟨s.rb, 2, none⟩))).upd 252 (.pointer (some ⟨s.rb, 0, none⟩))).upd 253 (.pointer (some ⟨s.rb, 3, none⟩))))
      (fun z => rfR s.mb s.m s.cp (addT s.m s.cp s.MT t) A3 c3 (t.res :: stR s.sb s.m s.cp N2 kn2 s.bi s.bk A2 c2 (Res.obj b3 bx :: (s.T ++ (Res.obj s.rb (rnO s.sb s.mb (s.R.length + 1) (some ⟨z.2.1, 0, none⟩) z.2.2.1 (s.TT.length + 1) (some ⟨z.2.2.2.2.1, 0, none⟩) z.2.2.2.2.2) :: Res.row 45 1 (.slice (some ⟨z.2.1, 0, none⟩) (s.R.length + 1) z.2.2.1) (s.R.length + 1) (qv s.R ++ [.int .i64 (i : Nat)]) :: Res.row 29 1 (.slice (some ⟨z.2.2.2.2.1, 0, none⟩) (s.TT.length + 1) z.2.2.2.2.2) (s.TT.length + 1) (s.TT.map Tb.val ++ [.slice t.A n t.c]) :: rs))))) hS ?_ ?_
    · clear hS
      intro w hS
      repeat ((with_reducible apply N_t); rfl; refine N_a (by first | exact Yp | exact Yfc) ?_)
      -- TREE
      refine W_lem (p := (.one 15 (.one 16 (.one 17 (.one 18 (.one 19 (.one 20 (.one 21 .done)))))))) (fun (z : Nat × Nat × Nat × Nat) f => (((((f.upd 239 (.slice s.Ar s.R.length s.cr)).upd 241 (.slice (some ⟨z.1, 0, none⟩) 1 1)).upd 242 (.slice (some ⟨z.2.1, 0, none⟩) (s.R.length + 1) z.2.2.1)).upd 246 (.slice s.At s.TT.length s.ct)).upd 248 (.slice (some ⟨z.2.2.2, 0, none⟩) 1 1))) (fun z => Res.obj z.2.2.2 (.cells [.slice t.A n t.c].toArray 29 (0, 0)) :: rfR s.mb s.m s.cp (addT s.m s.cp s.MT t) A3 c3 (t.res :: stR s.sb s.m s.cp N2 kn2 s.bi s.bk A2 c2 (Res.obj b3 bx :: (s.T ++ (Res.obj s.rb (rnO s.sb s.mb s.R.length s.Ar s.cr s.TT.length s.At s.ct) :: Res.row 45 1 (.slice (some ⟨z.2.1, 0, none⟩) (s.R.length + 1) z.2.2.1) (s.R.length + 1) (qv s.R ++ [.int .i64 (i : Nat)]) :: Res.row 29 1 (.slice s.At s.TT.length s.ct) s.TT.length (s.TT.map Tb.val) :: rs))))) (F := F) (w0 := w0) ?_ ?_
      · rintro ⟨b1, g1, c1, b2⟩ w hS
        (with_reducible apply N_1); rfl
        refine N_f ?_
        intro Q' hQ' hE'
        refine S_w ?_
        refine M_ap hS ?_
        clear hS
        intro g2 c2' w hS
        refine L_nil ?_
        refine hQ' _ _ ?_
        clear hQ' hE'
        (with_reducible apply N_1); rfl
        refine N_f ?_
        intro Q' hQ' hE'
        refine S_w ?_
        refine S_q hS Yp ?_
        refine L_nil ?_
        refine hQ' _ _ ?_
        clear hQ' hE'
        (with_reducible apply N_1); rfl
        refine N_f ?_
        intro Q' hQ' hE'
        refine S_w ?_
        refine S_q hS Yfc ?_
        refine L_nil ?_
        refine hQ' _ _ ?_
        clear hQ' hE'
        (with_reducible apply N_1); rfl
        refine N_f ?_
        intro Q' hQ' hE'
        refine S_w ?_
        refine M_st hS ?_
        clear hS
        intro w hS
        refine L_nil ?_
        refine hQ' _ _ ?_
        clear hQ' hE'
        (with_reducible apply N_1); rfl
        refine N_f ?_
        intro Q' hQ' hE'
        refine S_w ?_
        refine S_q hS Yp ?_
        refine L_nil ?_
        refine hQ' _ _ ?_
        clear hQ' hE'
        (with_reducible apply N_1); rfl
        refine N_f ?_
        intro Q' hQ' hE'
        refine S_w ?_
        refine S_q hS Yfc ?_
        refine L_nil ?_
        refine hQ' _ _ ?_
        clear hQ' hE'
        (with_reducible apply N_1); rfl
        refine N_f ?_
        intro Q' hQ' hE'
        refine S_w ?_
        refine M_st hS ?_
        clear hS
        intro w hS
        refine L_nil ?_
        refine hQ' _ _ ?_
        clear hQ' hE'
        exact N_d (b1, g1, c1, b2, g2, c2') hS.sb
      intro h5_7_8_12_14
      refine W_lem (p := (.one 14 (.one 15 (.one 16 (.one 17 (.one 18 (.one 19 (.one 20 (.one 21 .done))))))))) (fun (z : Nat × Nat × Nat × Nat) f => ((((f.upd 239 (.slice s.Ar s.R.length s.cr)).upd 241 (.slice (some ⟨z.1, 0, none⟩) 1 1)).upd 242 (.slice (some ⟨z.2.1, 0, none⟩) (s.R.length + 1) z.2.2.1)).upd 246 (.slice s.At s.TT.length s.ct))) (fun z => rfR s.mb s.m s.cp (addT s.m s.cp s.MT t) A3 c3 (t.res :: stR s.sb s.m s.cp N2 kn2 s.bi s.bk A2 c2 (Res.obj b3 bx :: (s.T ++ (Res.obj s.rb (rnO s.sb s.mb s.R.length s.Ar s.cr s.TT.length s.At s.ct) :: Res.row 45 1 (.slice (some ⟨z.2.1, 0, none⟩) (s.R.length + 1) z.2.2.1) (s.R.length + 1) (qv s.R ++ [.int .i64 (i : Nat)]) :: Res.row 29 1 (.slice s.At s.TT.length s.ct) s.TT.length (s.TT.map Tb.val) :: rs))))) (F := F) (w0 := w0) ?_ ?_
      · rintro ⟨b1, g1, c1, b2⟩ w hS
        (with_reducible apply N_1); rfl
        · refine N_f ?_
          intro Q' hQ' hE'
          refine S_w ?_
          refine M_sl hS ?_
          clear hS
          intro b2 w hS
          refine L_nil ?_
          refine hQ' _ _ ?_
          clear hQ' hE'
          exact h5_7_8_12_14 (b1, g1, c1, b2) _ _ rfl hS.sb
      intro h5_7_8_12
      refine W_lem (p := (.one 12 (.one 15 (.one 16 (.one 17 (.one 18 (.one 19 (.one 20 (.one 21 .done))))))))) (fun (z : Nat × Nat × Nat × Nat) f => ((((f.upd 239 (.slice s.Ar s.R.length s.cr)).upd 241 (.slice (some ⟨z.1, 0, none⟩) 1 1)).upd 242 (.slice (some ⟨z.2.1, 0, none⟩) (s.R.length + 1) z.2.2.1)).upd 248 (.slice (some ⟨z.2.2.2, 0, none⟩) 1 1))) (fun z => Res.obj z.2.2.2 (.cells [.slice t.A n t.c].toArray 29 (0, 0)) :: rfR s.mb s.m s.cp (addT s.m s.cp s.MT t) A3 c3 (t.res :: stR s.sb s.m s.cp N2 kn2 s.bi s.bk A2 c2 (Res.obj b3 bx :: (s.T ++ (Res.obj s.rb (rnO s.sb s.mb s.R.length s.Ar s.cr s.TT.length s.At s.ct) :: Res.row 45 1 (.slice (some ⟨z.2.1, 0, none⟩) (s.R.length + 1) z.2.2.1) (s.R.length + 1) (qv s.R ++ [.int .i64 (i : Nat)]) :: Res.row 29 1 (.slice s.At s.TT.length s.ct) s.TT.length (s.TT.map Tb.val) :: rs))))) (F := F) (w0 := w0) ?_ ?_
      · rintro ⟨b1, g1, c1, b2⟩ w hS
        (with_reducible apply N_1); rfl
        · refine N_f ?_
          intro Q' hQ' hE'
          refine S_w ?_
          refine S_q hS Yld ?_
          refine L_nil ?_
          refine hQ' _ _ ?_
          clear hQ' hE'
          exact h5_7_8_12_14 (b1, g1, c1, b2) _ _ ((upd_sw (by decide)).trans (upd_cg rfl)) hS.sb
      intro h5_7_8_14
      refine W_lem (p := (.one 8 (.one 15 (.one 16 (.one 17 (.one 18 (.one 19 (.one 20 (.one 21 .done))))))))) (fun (z : Nat × Nat × Nat × Nat) f => ((((f.upd 239 (.slice s.Ar s.R.length s.cr)).upd 241 (.slice (some ⟨z.1, 0, none⟩) 1 1)).upd 246 (.slice s.At s.TT.length s.ct)).upd 248 (.slice (some ⟨z.2.2.2, 0, none⟩) 1 1))) (fun z => Res.obj z.2.2.2 (.cells [.slice t.A n t.c].toArray 29 (0, 0)) :: Res.obj z.1 (.cells [.int .i64 (i : Nat)].toArray 45 (0, 0)) :: rfR s.mb s.m s.cp (addT s.m s.cp s.MT t) A3 c3 (t.res :: stR s.sb s.m s.cp N2 kn2 s.bi s.bk A2 c2 (Res.obj b3 bx :: (s.T ++ (Res.obj s.rb (rnO s.sb s.mb s.R.length s.Ar s.cr s.TT.length s.At s.ct) :: Res.row 45 1 (.slice s.Ar s.R.length s.cr) s.R.length (qv s.R) :: Res.row 29 1 (.slice s.At s.TT.length s.ct) s.TT.length (s.TT.map Tb.val) :: rs))))) (F := F) (w0 := w0) ?_ ?_
      · rintro ⟨b1, g1, c1, b2⟩ w hS
        (with_reducible apply N_1); rfl
        · refine N_f ?_
          intro Q' hQ' hE'
          refine S_w ?_
          refine M_ap hS ?_
          clear hS
          intro g1 c1 w hS
          refine L_nil ?_
          refine hQ' _ _ ?_
          clear hQ' hE'
          exact h5_7_8_12_14 (b1, g1, c1, b2) _ _ ((upd_sw (by decide)).trans (upd_cg ((upd_sw (by decide)).trans (upd_cg rfl)))) hS.sb
      intro h5_7_12_14
      refine W_lem (p := (.two 12 14 (.one 14 (.one 15 (.one 16 (.one 17 (.one 18 (.one 19 (.one 20 (.one 21 .done)))))))) (.one 12 (.one 15 (.one 16 (.one 17 (.one 18 (.one 19 (.one 20 (.one 21 .done)))))))))) (fun (z : Nat × Nat × Nat × Nat) f => (((f.upd 239 (.slice s.Ar s.R.length s.cr)).upd 241 (.slice (some ⟨z.1, 0, none⟩) 1 1)).upd 242 (.slice (some ⟨z.2.1, 0, none⟩) (s.R.length + 1) z.2.2.1))) (fun z => rfR s.mb s.m s.cp (addT s.m s.cp s.MT t) A3 c3 (t.res :: stR s.sb s.m s.cp N2 kn2 s.bi s.bk A2 c2 (Res.obj b3 bx :: (s.T ++ (Res.obj s.rb (rnO s.sb s.mb s.R.length s.Ar s.cr s.TT.length s.At s.ct) :: Res.row 45 1 (.slice (some ⟨z.2.1, 0, none⟩) (s.R.length + 1) z.2.2.1) (s.R.length + 1) (qv s.R ++ [.int .i64 (i : Nat)]) :: Res.row 29 1 (.slice s.At s.TT.length s.ct) s.TT.length (s.TT.map Tb.val) :: rs))))) (F := F) (w0 := w0) ?_ ?_
      · rintro ⟨b1, g1, c1, b2⟩ w hS
        (with_reducible apply N_2); rfl; rfl
        · refine N_f ?_
          intro Q' hQ' hE'
          refine S_w ?_
          refine S_q hS Yld ?_
          refine L_nil ?_
          refine hQ' _ _ ?_
          clear hQ' hE'
          exact h5_7_8_12 (b1, g1, c1, b2) _ _ rfl hS.sb
        · refine N_f ?_
          intro Q' hQ' hE'
          refine S_w ?_
          refine M_sl hS ?_
          clear hS
          intro b2 w hS
          refine L_nil ?_
          refine hQ' _ _ ?_
          clear hQ' hE'
          exact h5_7_8_14 (b1, g1, c1, b2) _ _ rfl hS.sb
      intro h5_7_8
      refine W_lem (p := (.two 8 14 (.one 14 (.one 15 (.one 16 (.one 17 (.one 18 (.one 19 (.one 20 (.one 21 .done)))))))) (.one 8 (.one 15 (.one 16 (.one 17 (.one 18 (.one 19 (.one 20 (.one 21 .done)))))))))) (fun (z : Nat × Nat × Nat × Nat) f => (((f.upd 239 (.slice s.Ar s.R.length s.cr)).upd 241 (.slice (some ⟨z.1, 0, none⟩) 1 1)).upd 246 (.slice s.At s.TT.length s.ct))) (fun z => Res.obj z.1 (.cells [.int .i64 (i : Nat)].toArray 45 (0, 0)) :: rfR s.mb s.m s.cp (addT s.m s.cp s.MT t) A3 c3 (t.res :: stR s.sb s.m s.cp N2 kn2 s.bi s.bk A2 c2 (Res.obj b3 bx :: (s.T ++ (Res.obj s.rb (rnO s.sb s.mb s.R.length s.Ar s.cr s.TT.length s.At s.ct) :: Res.row 45 1 (.slice s.Ar s.R.length s.cr) s.R.length (qv s.R) :: Res.row 29 1 (.slice s.At s.TT.length s.ct) s.TT.length (s.TT.map Tb.val) :: rs))))) (F := F) (w0 := w0) ?_ ?_
      · rintro ⟨b1, g1, c1, b2⟩ w hS
        (with_reducible apply N_2); rfl; rfl
        · refine N_f ?_
          intro Q' hQ' hE'
          refine S_w ?_
          refine M_ap hS ?_
          clear hS
          intro g1 c1 w hS
          refine L_nil ?_
          refine hQ' _ _ ?_
          clear hQ' hE'
          exact h5_7_8_12 (b1, g1, c1, b2) _ _ ((upd_sw (by decide)).trans (upd_cg rfl)) hS.sb
        · refine N_f ?_
          intro Q' hQ' hE'
          refine S_w ?_
          refine M_sl hS ?_
          clear hS
          intro b2 w hS
          refine L_nil ?_
          refine hQ' _ _ ?_
          clear hQ' hE'
          exact h5_7_12_14 (b1, g1, c1, b2) _ _ rfl hS.sb
      intro h5_7_12
      refine W_lem (p := (.two 8 12 (.one 12 (.one 15 (.one 16 (.one 17 (.one 18 (.one 19 (.one 20 (.one 21 .done)))))))) (.one 8 (.one 15 (.one 16 (.one 17 (.one 18 (.one 19 (.one 20 (.one 21 .done)))))))))) (fun (z : Nat × Nat × Nat × Nat) f => (((f.upd 239 (.slice s.Ar s.R.length s.cr)).upd 241 (.slice (some ⟨z.1, 0, none⟩) 1 1)).upd 248 (.slice (some ⟨z.2.2.2, 0, none⟩) 1 1))) (fun z => Res.obj z.2.2.2 (.cells [.slice t.A n t.c].toArray 29 (0, 0)) :: Res.obj z.1 (.cells [.int .i64 (i : Nat)].toArray 45 (0, 0)) :: rfR s.mb s.m s.cp (addT s.m s.cp s.MT t) A3 c3 (t.res :: stR s.sb s.m s.cp N2 kn2 s.bi s.bk A2 c2 (Res.obj b3 bx :: (s.T ++ (Res.obj s.rb (rnO s.sb s.mb s.R.length s.Ar s.cr s.TT.length s.At s.ct) :: Res.row 45 1 (.slice s.Ar s.R.length s.cr) s.R.length (qv s.R) :: Res.row 29 1 (.slice s.At s.TT.length s.ct) s.TT.length (s.TT.map Tb.val) :: rs))))) (F := F) (w0 := w0) ?_ ?_
      · rintro ⟨b1, g1, c1, b2⟩ w hS
        (with_reducible apply N_2); rfl; rfl
        · refine N_f ?_
          intro Q' hQ' hE'
          refine S_w ?_
          refine M_ap hS ?_
          clear hS
          intro g1 c1 w hS
          refine L_nil ?_
          refine hQ' _ _ ?_
          clear hQ' hE'
          exact h5_7_8_14 (b1, g1, c1, b2) _ _ ((upd_sw (by decide)).trans (upd_cg rfl)) hS.sb
        · refine N_f ?_
          intro Q' hQ' hE'
          refine S_w ?_
          refine S_q hS Yld ?_
          refine L_nil ?_
          refine hQ' _ _ ?_
          clear hQ' hE'
          exact h5_7_12_14 (b1, g1, c1, b2) _ _ ((upd_sw (by decide)).trans (upd_cg rfl)) hS.sb
      intro h5_7_14
      refine W_lem (p := (.one 7 (.one 8 (.one 15 (.one 16 (.one 17 (.one 18 (.one 19 (.one 20 (.one 21 .done)))))))))) (fun (z : Nat × Nat × Nat × Nat) f => (((f.upd 239 (.slice s.Ar s.R.length s.cr)).upd 246 (.slice s.At s.TT.length s.ct)).upd 248 (.slice (some ⟨z.2.2.2, 0, none⟩) 1 1))) (fun z => Res.obj z.2.2.2 (.cells [.slice t.A n t.c].toArray 29 (0, 0)) :: rfR s.mb s.m s.cp (addT s.m s.cp s.MT t) A3 c3 (t.res :: stR s.sb s.m s.cp N2 kn2 s.bi s.bk A2 c2 (Res.obj b3 bx :: (s.T ++ (Res.obj s.rb (rnO s.sb s.mb s.R.length s.Ar s.cr s.TT.length s.At s.ct) :: Res.row 45 1 (.slice s.Ar s.R.length s.cr) s.R.length (qv s.R) :: Res.row 29 1 (.slice s.At s.TT.length s.ct) s.TT.length (s.TT.map Tb.val) :: rs))))) (F := F) (w0 := w0) ?_ ?_
      · rintro ⟨b1, g1, c1, b2⟩ w hS
        (with_reducible apply N_1); rfl
        · refine N_f ?_
          intro Q' hQ' hE'
          refine S_w ?_
          refine M_sl hS ?_
          clear hS
          intro b1 w hS
          have hS := hS.prm (List.Perm.swap _ _ _)
          refine L_nil ?_
          refine hQ' _ _ ?_
          clear hQ' hE'
          exact h5_7_12_14 (b1, g1, c1, b2) _ _ ((upd_sw (by decide)).trans (upd_cg ((upd_sw (by decide)).trans (upd_cg rfl)))) hS.sb
      intro h5_12_14
      refine W_lem (p := (.one 5 (.one 8 (.one 15 (.one 16 (.one 17 (.one 18 (.one 19 (.one 20 (.one 21 .done)))))))))) (fun (z : Nat × Nat × Nat × Nat) f => (((f.upd 241 (.slice (some ⟨z.1, 0, none⟩) 1 1)).upd 246 (.slice s.At s.TT.length s.ct)).upd 248 (.slice (some ⟨z.2.2.2, 0, none⟩) 1 1))) (fun z => Res.obj z.2.2.2 (.cells [.slice t.A n t.c].toArray 29 (0, 0)) :: Res.obj z.1 (.cells [.int .i64 (i : Nat)].toArray 45 (0, 0)) :: rfR s.mb s.m s.cp (addT s.m s.cp s.MT t) A3 c3 (t.res :: stR s.sb s.m s.cp N2 kn2 s.bi s.bk A2 c2 (Res.obj b3 bx :: (s.T ++ (Res.obj s.rb (rnO s.sb s.mb s.R.length s.Ar s.cr s.TT.length s.At s.ct) :: Res.row 45 1 (.slice s.Ar s.R.length s.cr) s.R.length (qv s.R) :: Res.row 29 1 (.slice s.At s.TT.length s.ct) s.TT.length (s.TT.map Tb.val) :: rs))))) (F := F) (w0 := w0) ?_ ?_
      · rintro ⟨b1, g1, c1, b2⟩ w hS
        (with_reducible apply N_1); rfl
        · refine N_f ?_
          intro Q' hQ' hE'
          refine S_w ?_
          refine S_q hS Yld ?_
          refine L_nil ?_
          refine hQ' _ _ ?_
          clear hQ' hE'
          exact h5_7_12_14 (b1, g1, c1, b2) _ _ ((upd_sw (by decide)).trans (upd_cg ((upd_sw (by decide)).trans (upd_cg ((upd_sw (by decide)).trans (upd_cg rfl)))))) hS.sb
      intro h7_12_14
      refine W_lem (p := (.three 8 12 14 (.two 12 14 (.one 14 (.one 15 (.one 16 (.one 17 (.one 18 (.one 19 (.one 20 (.one 21 .done)))))))) (.one 12 (.one 15 (.one 16 (.one 17 (.one 18 (.one 19 (.one 20 (.one 21 .done))))))))) (.two 8 14 (.one 14 (.one 15 (.one 16 (.one 17 (.one 18 (.one 19 (.one 20 (.one 21 .done)))))))) (.one 8 (.one 15 (.one 16 (.one 17 (.one 18 (.one 19 (.one 20 (.one 21 .done))))))))) (.two 8 12 (.one 12 (.one 15 (.one 16 (.one 17 (.one 18 (.one 19 (.one 20 (.one 21 .done)))))))) (.one 8 (.one 15 (.one 16 (.one 17 (.one 18 (.one 19 (.one 20 (.one 21 .done))))))))))) (fun (z : Nat × Nat × Nat × Nat) f => ((f.upd 239 (.slice s.Ar s.R.length s.cr)).upd 241 (.slice (some ⟨z.1, 0, none⟩) 1 1))) (fun z => Res.obj z.1 (.cells [.int .i64 (i : Nat)].toArray 45 (0, 0)) :: rfR s.mb s.m s.cp (addT s.m s.cp s.MT t) A3 c3 (t.res :: stR s.sb s.m s.cp N2 kn2 s.bi s.bk A2 c2 (Res.obj b3 bx :: (s.T ++ (Res.obj s.rb (rnO s.sb s.mb s.R.length s.Ar s.cr s.TT.length s.At s.ct) :: Res.row 45 1 (.slice s.Ar s.R.length s.cr) s.R.length (qv s.R) :: Res.row 29 1 (.slice s.At s.TT.length s.ct) s.TT.length (s.TT.map Tb.val) :: rs))))) (F := F) (w0 := w0) ?_ ?_
      · rintro ⟨b1, g1, c1, b2⟩ w hS
        (with_reducible apply N_3); rfl; rfl; rfl
        · refine N_f ?_
          intro Q' hQ' hE'
          refine S_w ?_
          refine M_ap hS ?_
          clear hS
          intro g1 c1 w hS
          refine L_nil ?_
          refine hQ' _ _ ?_
          clear hQ' hE'
          exact h5_7_8 (b1, g1, c1, b2) _ _ rfl hS.sb
        · refine N_f ?_
          intro Q' hQ' hE'
          refine S_w ?_
          refine S_q hS Yld ?_
          refine L_nil ?_
          refine hQ' _ _ ?_
          clear hQ' hE'
          exact h5_7_12 (b1, g1, c1, b2) _ _ rfl hS.sb
        · refine N_f ?_
          intro Q' hQ' hE'
          refine S_w ?_
          refine M_sl hS ?_
          clear hS
          intro b2 w hS
          refine L_nil ?_
          refine hQ' _ _ ?_
          clear hQ' hE'
          exact h5_7_14 (b1, g1, c1, b2) _ _ rfl hS.sb
      intro h5_7
      refine W_lem (p := (.two 7 14 (.two 8 14 (.one 14 (.one 15 (.one 16 (.one 17 (.one 18 (.one 19 (.one 20 (.one 21 .done)))))))) (.one 8 (.one 15 (.one 16 (.one 17 (.one 18 (.one 19 (.one 20 (.one 21 .done))))))))) (.one 7 (.one 8 (.one 15 (.one 16 (.one 17 (.one 18 (.one 19 (.one 20 (.one 21 .done))))))))))) (fun (z : Nat × Nat × Nat × Nat) f => ((f.upd 239 (.slice s.Ar s.R.length s.cr)).upd 246 (.slice s.At s.TT.length s.ct))) (fun z => rfR s.mb s.m s.cp (addT s.m s.cp s.MT t) A3 c3 (t.res :: stR s.sb s.m s.cp N2 kn2 s.bi s.bk A2 c2 (Res.obj b3 bx :: (s.T ++ (Res.obj s.rb (rnO s.sb s.mb s.R.length s.Ar s.cr s.TT.length s.At s.ct) :: Res.row 45 1 (.slice s.Ar s.R.length s.cr) s.R.length (qv s.R) :: Res.row 29 1 (.slice s.At s.TT.length s.ct) s.TT.length (s.TT.map Tb.val) :: rs))))) (F := F) (w0 := w0) ?_ ?_
      · rintro ⟨b1, g1, c1, b2⟩ w hS
        (with_reducible apply N_2); rfl; rfl
        · refine N_f ?_
          intro Q' hQ' hE'
          refine S_w ?_
          refine M_sl hS ?_
          clear hS
          intro b1 w hS
          refine L_nil ?_
          refine hQ' _ _ ?_
          clear hQ' hE'
          exact h5_7_12 (b1, g1, c1, b2) _ _ ((upd_sw (by decide)).trans (upd_cg rfl)) hS.sb
        · refine N_f ?_
          intro Q' hQ' hE'
          refine S_w ?_
          refine M_sl hS ?_
          clear hS
          intro b2 w hS
          refine L_nil ?_
          refine hQ' _ _ ?_
          clear hQ' hE'
          exact h5_12_14 (b1, g1, c1, b2) _ _ rfl hS.sb
      intro h5_12
      refine W_lem (p := (.two 7 12 (.two 8 12 (.one 12 (.one 15 (.one 16 (.one 17 (.one 18 (.one 19 (.one 20 (.one 21 .done)))))))) (.one 8 (.one 15 (.one 16 (.one 17 (.one 18 (.one 19 (.one 20 (.one 21 .done))))))))) (.one 7 (.one 8 (.one 15 (.one 16 (.one 17 (.one 18 (.one 19 (.one 20 (.one 21 .done))))))))))) (fun (z : Nat × Nat × Nat × Nat) f => ((f.upd 239 (.slice s.Ar s.R.length s.cr)).upd 248 (.slice (some ⟨z.2.2.2, 0, none⟩) 1 1))) (fun z => Res.obj z.2.2.2 (.cells [.slice t.A n t.c].toArray 29 (0, 0)) :: rfR s.mb s.m s.cp (addT s.m s.cp s.MT t) A3 c3 (t.res :: stR s.sb s.m s.cp N2 kn2 s.bi s.bk A2 c2 (Res.obj b3 bx :: (s.T ++ (Res.obj s.rb (rnO s.sb s.mb s.R.length s.Ar s.cr s.TT.length s.At s.ct) :: Res.row 45 1 (.slice s.Ar s.R.length s.cr) s.R.length (qv s.R) :: Res.row 29 1 (.slice s.At s.TT.length s.ct) s.TT.length (s.TT.map Tb.val) :: rs))))) (F := F) (w0 := w0) ?_ ?_
      · rintro ⟨b1, g1, c1, b2⟩ w hS
        (with_reducible apply N_2); rfl; rfl
        · refine N_f ?_
          intro Q' hQ' hE'
          refine S_w ?_
          refine M_sl hS ?_
          clear hS
          intro b1 w hS
          have hS := hS.prm (List.Perm.swap _ _ _)
          refine L_nil ?_
          refine hQ' _ _ ?_
          clear hQ' hE'
          exact h5_7_14 (b1, g1, c1, b2) _ _ ((upd_sw (by decide)).trans (upd_cg rfl)) hS.sb
        · refine N_f ?_
          intro Q' hQ' hE'
          refine S_w ?_
          refine S_q hS Yld ?_
          refine L_nil ?_
          refine hQ' _ _ ?_
          clear hQ' hE'
          exact h5_12_14 (b1, g1, c1, b2) _ _ ((upd_sw (by decide)).trans (upd_cg rfl)) hS.sb
      intro h5_14
      refine W_lem (p := (.two 5 14 (.two 8 14 (.one 14 (.one 15 (.one 16 (.one 17 (.one 18 (.one 19 (.one 20 (.one 21 .done)))))))) (.one 8 (.one 15 (.one 16 (.one 17 (.one 18 (.one 19 (.one 20 (.one 21 .done))))))))) (.one 5 (.one 8 (.one 15 (.one 16 (.one 17 (.one 18 (.one 19 (.one 20 (.one 21 .done))))))))))) (fun (z : Nat × Nat × Nat × Nat) f => ((f.upd 241 (.slice (some ⟨z.1, 0, none⟩) 1 1)).upd 246 (.slice s.At s.TT.length s.ct))) (fun z => Res.obj z.1 (.cells [.int .i64 (i : Nat)].toArray 45 (0, 0)) :: rfR s.mb s.m s.cp (addT s.m s.cp s.MT t) A3 c3 (t.res :: stR s.sb s.m s.cp N2 kn2 s.bi s.bk A2 c2 (Res.obj b3 bx :: (s.T ++ (Res.obj s.rb (rnO s.sb s.mb s.R.length s.Ar s.cr s.TT.length s.At s.ct) :: Res.row 45 1 (.slice s.Ar s.R.length s.cr) s.R.length (qv s.R) :: Res.row 29 1 (.slice s.At s.TT.length s.ct) s.TT.length (s.TT.map Tb.val) :: rs))))) (F := F) (w0 := w0) ?_ ?_
      · rintro ⟨b1, g1, c1, b2⟩ w hS
        (with_reducible apply N_2); rfl; rfl
        · refine N_f ?_
          intro Q' hQ' hE'
          refine S_w ?_
          refine S_q hS Yld ?_
          refine L_nil ?_
          refine hQ' _ _ ?_
          clear hQ' hE'
          exact h5_7_12 (b1, g1, c1, b2) _ _ ((upd_sw (by decide)).trans (upd_cg ((upd_sw (by decide)).trans (upd_cg rfl)))) hS.sb
        · refine N_f ?_
          intro Q' hQ' hE'
          refine S_w ?_
          refine M_sl hS ?_
          clear hS
          intro b2 w hS
          refine L_nil ?_
          refine hQ' _ _ ?_
          clear hQ' hE'
          exact h7_12_14 (b1, g1, c1, b2) _ _ rfl hS.sb
      intro h7_12
      refine W_lem (p := (.two 5 12 (.two 8 12 (.one 12 (.one 15 (.one 16 (.one 17 (.one 18 (.one 19 (.one 20 (.one 21 .done)))))))) (.one 8 (.one 15 (.one 16 (.one 17 (.one 18 (.one 19 (.one 20 (.one 21 .done))))))))) (.one 5 (.one 8 (.one 15 (.one 16 (.one 17 (.one 18 (.one 19 (.one 20 (.one 21 .done))))))))))) (fun (z : Nat × Nat × Nat × Nat) f => ((f.upd 241 (.slice (some ⟨z.1, 0, none⟩) 1 1)).upd 248 (.slice (some ⟨z.2.2.2, 0, none⟩) 1 1))) (fun z => Res.obj z.2.2.2 (.cells [.slice t.A n t.c].toArray 29 (0, 0)) :: Res.obj z.1 (.cells [.int .i64 (i : Nat)].toArray 45 (0, 0)) :: rfR s.mb s.m s.cp (addT s.m s.cp s.MT t) A3 c3 (t.res :: stR s.sb s.m s.cp N2 kn2 s.bi s.bk A2 c2 (Res.obj b3 bx :: (s.T ++ (Res.obj s.rb (rnO s.sb s.mb s.R.length s.Ar s.cr s.TT.length s.At s.ct) :: Res.row 45 1 (.slice s.Ar s.R.length s.cr) s.R.length (qv s.R) :: Res.row 29 1 (.slice s.At s.TT.length s.ct) s.TT.length (s.TT.map Tb.val) :: rs))))) (F := F) (w0 := w0) ?_ ?_
      · rintro ⟨b1, g1, c1, b2⟩ w hS
        (with_reducible apply N_2); rfl; rfl
        · refine N_f ?_
          intro Q' hQ' hE'
          refine S_w ?_
          refine S_q hS Yld ?_
          refine L_nil ?_
          refine hQ' _ _ ?_
          clear hQ' hE'
          exact h5_7_14 (b1, g1, c1, b2) _ _ ((upd_sw (by decide)).trans (upd_cg ((upd_sw (by decide)).trans (upd_cg rfl)))) hS.sb
        · refine N_f ?_
          intro Q' hQ' hE'
          refine S_w ?_
          refine S_q hS Yld ?_
          refine L_nil ?_
          refine hQ' _ _ ?_
          clear hQ' hE'
          exact h7_12_14 (b1, g1, c1, b2) _ _ ((upd_sw (by decide)).trans (upd_cg rfl)) hS.sb
      intro h7_14
      refine W_lem (p := (.two 5 7 (.one 7 (.one 8 (.one 15 (.one 16 (.one 17 (.one 18 (.one 19 (.one 20 (.one 21 .done))))))))) (.one 5 (.one 8 (.one 15 (.one 16 (.one 17 (.one 18 (.one 19 (.one 20 (.one 21 .done))))))))))) (fun (z : Nat × Nat × Nat × Nat) f => ((f.upd 246 (.slice s.At s.TT.length s.ct)).upd 248 (.slice (some ⟨z.2.2.2, 0, none⟩) 1 1))) (fun z => Res.obj z.2.2.2 (.cells [.slice t.A n t.c].toArray 29 (0, 0)) :: rfR s.mb s.m s.cp (addT s.m s.cp s.MT t) A3 c3 (t.res :: stR s.sb s.m s.cp N2 kn2 s.bi s.bk A2 c2 (Res.obj b3 bx :: (s.T ++ (Res.obj s.rb (rnO s.sb s.mb s.R.length s.Ar s.cr s.TT.length s.At s.ct) :: Res.row 45 1 (.slice s.Ar s.R.length s.cr) s.R.length (qv s.R) :: Res.row 29 1 (.slice s.At s.TT.length s.ct) s.TT.length (s.TT.map Tb.val) :: rs))))) (F := F) (w0 := w0) ?_ ?_
      · rintro ⟨b1, g1, c1, b2⟩ w hS
        (with_reducible apply N_2); rfl; rfl
        · refine N_f ?_
          intro Q' hQ' hE'
          refine S_w ?_
          refine S_q hS Yld ?_
          refine L_nil ?_
          refine hQ' _ _ ?_
          clear hQ' hE'
          exact h5_12_14 (b1, g1, c1, b2) _ _ ((upd_sw (by decide)).trans (upd_cg ((upd_sw (by decide)).trans (upd_cg rfl)))) hS.sb
        · refine N_f ?_
          intro Q' hQ' hE'
          refine S_w ?_
          refine M_sl hS ?_
          clear hS
          intro b1 w hS
          have hS := hS.prm (List.Perm.swap _ _ _)
          refine L_nil ?_
          refine hQ' _ _ ?_
          clear hQ' hE'
          exact h7_12_14 (b1, g1, c1, b2) _ _ ((upd_sw (by decide)).trans (upd_cg ((upd_sw (by decide)).trans (upd_cg rfl)))) hS.sb
      intro h12_14
      refine W_lem (p := (.three 7 12 14 (.three 8 12 14 (.two 12 14 (.one 14 (.one 15 (.one 16 (.one 17 (.one 18 (.one 19 (.one 20 (.one 21 .done)))))))) (.one 12 (.one 15 (.one 16 (.one 17 (.one 18 (.one 19 (.one 20 (.one 21 .done))))))))) (.two 8 14 (.one 14 (.one 15 (.one 16 (.one 17 (.one 18 (.one 19 (.one 20 (.one 21 .done)))))))) (.one 8 (.one 15 (.one 16 (.one 17 (.one 18 (.one 19 (.one 20 (.one 21 .done))))))))) (.two 8 12 (.one 12 (.one 15 (.one 16 (.one 17 (.one 18 (.one 19 (.one 20 (.one 21 .done)))))))) (.one 8 (.one 15 (.one 16 (.one 17 (.one 18 (.one 19 (.one 20 (.one 21 .done)))))))))) (.two 7 14 (.two 8 14 (.one 14 (.one 15 (.one 16 (.one 17 (.one 18 (.one 19 (.one 20 (.one 21 .done)))))))) (.one 8 (.one 15 (.one 16 (.one 17 (.one 18 (.one 19 (.one 20 (.one 21 .done))))))))) (.one 7 (.one 8 (.one 15 (.one 16 (.one 17 (.one 18 (.one 19 (.one 20 (.one 21 .done)))))))))) (.two 7 12 (.two 8 12 (.one 12 (.one 15 (.one 16 (.one 17 (.one 18 (.one 19 (.one 20 (.one 21 .done)))))))) (.one 8 (.one 15 (.one 16 (.one 17 (.one 18 (.one 19 (.one 20 (.one 21 .done))))))))) (.one 7 (.one 8 (.one 15 (.one 16 (.one 17 (.one 18 (.one 19 (.one 20 (.one 21 .done)))))))))))) (fun (z : Nat × Nat × Nat × Nat) f => (f.upd 239 (.slice s.Ar s.R.length s.cr))) (fun z => rfR s.mb s.m s.cp (addT s.m s.cp s.MT t) A3 c3 (t.res :: stR s.sb s.m s.cp N2 kn2 s.bi s.bk A2 c2 (Res.obj b3 bx :: (s.T ++ (Res.obj s.rb (rnO s.sb s.mb s.R.length s.Ar s.cr s.TT.length s.At s.ct) :: Res.row 45 1 (.slice s.Ar s.R.length s.cr) s.R.length (qv s.R) :: Res.row 29 1 (.slice s.At s.TT.length s.ct) s.TT.length (s.TT.map Tb.val) :: rs))))) (F := F) (w0 := w0) ?_ ?_
      · rintro ⟨b1, g1, c1, b2⟩ w hS
        (with_reducible apply N_3); rfl; rfl; rfl
        · refine N_f ?_
          intro Q' hQ' hE'
          refine S_w ?_
          refine M_sl hS ?_
          clear hS
          intro b1 w hS
          refine L_nil ?_
          refine hQ' _ _ ?_
          clear hQ' hE'
          exact h5_7 (b1, g1, c1, b2) _ _ rfl hS.sb
        · refine N_f ?_
          intro Q' hQ' hE'
          refine S_w ?_
          refine S_q hS Yld ?_
          refine L_nil ?_
          refine hQ' _ _ ?_
          clear hQ' hE'
          exact h5_12 (b1, g1, c1, b2) _ _ rfl hS.sb
        · refine N_f ?_
          intro Q' hQ' hE'
          refine S_w ?_
          refine M_sl hS ?_
          clear hS
          intro b2 w hS
          refine L_nil ?_
          refine hQ' _ _ ?_
          clear hQ' hE'
          exact h5_14 (b1, g1, c1, b2) _ _ rfl hS.sb
      intro h5
      refine W_lem (p := (.three 5 12 14 (.three 8 12 14 (.two 12 14 (.one 14 (.one 15 (.one 16 (.one 17 (.one 18 (.one 19 (.one 20 (.one 21 .done)))))))) (.one 12 (.one 15 (.one 16 (.one 17 (.one 18 (.one 19 (.one 20 (.one 21 .done))))))))) (.two 8 14 (.one 14 (.one 15 (.one 16 (.one 17 (.one 18 (.one 19 (.one 20 (.one 21 .done)))))))) (.one 8 (.one 15 (.one 16 (.one 17 (.one 18 (.one 19 (.one 20 (.one 21 .done))))))))) (.two 8 12 (.one 12 (.one 15 (.one 16 (.one 17 (.one 18 (.one 19 (.one 20 (.one 21 .done)))))))) (.one 8 (.one 15 (.one 16 (.one 17 (.one 18 (.one 19 (.one 20 (.one 21 .done)))))))))) (.two 5 14 (.two 8 14 (.one 14 (.one 15 (.one 16 (.one 17 (.one 18 (.one 19 (.one 20 (.one 21 .done)))))))) (.one 8 (.one 15 (.one 16 (.one 17 (.one 18 (.one 19 (.one 20 (.one 21 .done))))))))) (.one 5 (.one 8 (.one 15 (.one 16 (.one 17 (.one 18 (.one 19 (.one 20 (.one 21 .done)))))))))) (.two 5 12 (.two 8 12 (.one 12 (.one 15 (.one 16 (.one 17 (.one 18 (.one 19 (.one 20 (.one 21 .done)))))))) (.one 8 (.one 15 (.one 16 (.one 17 (.one 18 (.one 19 (.one 20 (.one 21 .done))))))))) (.one 5 (.one 8 (.one 15 (.one 16 (.one 17 (.one 18 (.one 19 (.one 20 (.one 21 .done)))))))))))) (fun (z : Nat × Nat × Nat × Nat) f => (f.upd 241 (.slice (some ⟨z.1, 0, none⟩) 1 1))) (fun z => Res.obj z.1 (.cells [.int .i64 (i : Nat)].toArray 45 (0, 0)) :: rfR s.mb s.m s.cp (addT s.m s.cp s.MT t) A3 c3 (t.res :: stR s.sb s.m s.cp N2 kn2 s.bi s.bk A2 c2 (Res.obj b3 bx :: (s.T ++ (Res.obj s.rb (rnO s.sb s.mb s.R.length s.Ar s.cr s.TT.length s.At s.ct) :: Res.row 45 1 (.slice s.Ar s.R.length s.cr) s.R.length (qv s.R) :: Res.row 29 1 (.slice s.At s.TT.length s.ct) s.TT.length (s.TT.map Tb.val) :: rs))))) (F := F) (w0 := w0) ?_ ?_
      · rintro ⟨b1, g1, c1, b2⟩ w hS
        (with_reducible apply N_3); rfl; rfl; rfl
        · refine N_f ?_
          intro Q' hQ' hE'
          refine S_w ?_
          refine S_q hS Yld ?_
          refine L_nil ?_
          refine hQ' _ _ ?_
          clear hQ' hE'
          exact h5_7 (b1, g1, c1, b2) _ _ ((upd_sw (by decide)).trans (upd_cg rfl)) hS.sb
        · refine N_f ?_
          intro Q' hQ' hE'
          refine S_w ?_
          refine S_q hS Yld ?_
          refine L_nil ?_
          refine hQ' _ _ ?_
          clear hQ' hE'
          exact h7_12 (b1, g1, c1, b2) _ _ rfl hS.sb
        · refine N_f ?_
          intro Q' hQ' hE'
          refine S_w ?_
          refine M_sl hS ?_
          clear hS
          intro b2 w hS
          refine L_nil ?_
          refine hQ' _ _ ?_
          clear hQ' hE'
          exact h7_14 (b1, g1, c1, b2) _ _ rfl hS.sb
      intro h7
      refine W_lem (p := (.three 5 7 14 (.two 7 14 (.two 8 14 (.one 14 (.one 15 (.one 16 (.one 17 (.one 18 (.one 19 (.one 20 (.one 21 .done)))))))) (.one 8 (.one 15 (.one 16 (.one 17 (.one 18 (.one 19 (.one 20 (.one 21 .done))))))))) (.one 7 (.one 8 (.one 15 (.one 16 (.one 17 (.one 18 (.one 19 (.one 20 (.one 21 .done)))))))))) (.two 5 14 (.two 8 14 (.one 14 (.one 15 (.one 16 (.one 17 (.one 18 (.one 19 (.one 20 (.one 21 .done)))))))) (.one 8 (.one 15 (.one 16 (.one 17 (.one 18 (.one 19 (.one 20 (.one 21 .done))))))))) (.one 5 (.one 8 (.one 15 (.one 16 (.one 17 (.one 18 (.one 19 (.one 20 (.one 21 .done)))))))))) (.two 5 7 (.one 7 (.one 8 (.one 15 (.one 16 (.one 17 (.one 18 (.one 19 (.one 20 (.one 21 .done))))))))) (.one 5 (.one 8 (.one 15 (.one 16 (.one 17 (.one 18 (.one 19 (.one 20 (.one 21 .done)))))))))))) (fun (z : Nat × Nat × Nat × Nat) f => (f.upd 246 (.slice s.At s.TT.length s.ct))) (fun z => rfR s.mb s.m s.cp (addT s.m s.cp s.MT t) A3 c3 (t.res :: stR s.sb s.m s.cp N2 kn2 s.bi s.bk A2 c2 (Res.obj b3 bx :: (s.T ++ (Res.obj s.rb (rnO s.sb s.mb s.R.length s.Ar s.cr s.TT.length s.At s.ct) :: Res.row 45 1 (.slice s.Ar s.R.length s.cr) s.R.length (qv s.R) :: Res.row 29 1 (.slice s.At s.TT.length s.ct) s.TT.length (s.TT.map Tb.val) :: rs))))) (F := F) (w0 := w0) ?_ ?_
      · rintro ⟨b1, g1, c1, b2⟩ w hS
        (with_reducible apply N_3); rfl; rfl; rfl
        · refine N_f ?_
          intro Q' hQ' hE'
          refine S_w ?_
          refine S_q hS Yld ?_
          refine L_nil ?_
          refine hQ' _ _ ?_
          clear hQ' hE'
          exact h5_12 (b1, g1, c1, b2) _ _ ((upd_sw (by decide)).trans (upd_cg rfl)) hS.sb
        · refine N_f ?_
          intro Q' hQ' hE'
          refine S_w ?_
          refine M_sl hS ?_
          clear hS
          intro b1 w hS
          refine L_nil ?_
          refine hQ' _ _ ?_
          clear hQ' hE'
          exact h7_12 (b1, g1, c1, b2) _ _ ((upd_sw (by decide)).trans (upd_cg rfl)) hS.sb
        · refine N_f ?_
          intro Q' hQ' hE'
          refine S_w ?_
          refine M_sl hS ?_
          clear hS
          intro b2 w hS
          refine L_nil ?_
          refine hQ' _ _ ?_
          clear hQ' hE'
          exact h12_14 (b1, g1, c1, b2) _ _ rfl hS.sb
      intro h12
      refine W_lem (p := (.three 5 7 12 (.two 7 12 (.two 8 12 (.one 12 (.one 15 (.one 16 (.one 17 (.one 18 (.one 19 (.one 20 (.one 21 .done)))))))) (.one 8 (.one 15 (.one 16 (.one 17 (.one 18 (.one 19 (.one 20 (.one 21 .done))))))))) (.one 7 (.one 8 (.one 15 (.one 16 (.one 17 (.one 18 (.one 19 (.one 20 (.one 21 .done)))))))))) (.two 5 12 (.two 8 12 (.one 12 (.one 15 (.one 16 (.one 17 (.one 18 (.one 19 (.one 20 (.one 21 .done)))))))) (.one 8 (.one 15 (.one 16 (.one 17 (.one 18 (.one 19 (.one 20 (.one 21 .done))))))))) (.one 5 (.one 8 (.one 15 (.one 16 (.one 17 (.one 18 (.one 19 (.one 20 (.one 21 .done)))))))))) (.two 5 7 (.one 7 (.one 8 (.one 15 (.one 16 (.one 17 (.one 18 (.one 19 (.one 20 (.one 21 .done))))))))) (.one 5 (.one 8 (.one 15 (.one 16 (.one 17 (.one 18 (.one 19 (.one 20 (.one 21 .done)))))))))))) (fun (z : Nat × Nat × Nat × Nat) f => (f.upd 248 (.slice (some ⟨z.2.2.2, 0, none⟩) 1 1))) (fun z => Res.obj z.2.2.2 (.cells [.slice t.A n t.c].toArray 29 (0, 0)) :: rfR s.mb s.m s.cp (addT s.m s.cp s.MT t) A3 c3 (t.res :: stR s.sb s.m s.cp N2 kn2 s.bi s.bk A2 c2 (Res.obj b3 bx :: (s.T ++ (Res.obj s.rb (rnO s.sb s.mb s.R.length s.Ar s.cr s.TT.length s.At s.ct) :: Res.row 45 1 (.slice s.Ar s.R.length s.cr) s.R.length (qv s.R) :: Res.row 29 1 (.slice s.At s.TT.length s.ct) s.TT.length (s.TT.map Tb.val) :: rs))))) (F := F) (w0 := w0) ?_ ?_
      · rintro ⟨b1, g1, c1, b2⟩ w hS
        (with_reducible apply N_3); rfl; rfl; rfl
        · refine N_f ?_
          intro Q' hQ' hE'
          refine S_w ?_
          refine S_q hS Yld ?_
          refine L_nil ?_
          refine hQ' _ _ ?_
          clear hQ' hE'
          exact h5_14 (b1, g1, c1, b2) _ _ ((upd_sw (by decide)).trans (upd_cg rfl)) hS.sb
        · refine N_f ?_
          intro Q' hQ' hE'
          refine S_w ?_
          refine M_sl hS ?_
          clear hS
          intro b1 w hS
          have hS := hS.prm (List.Perm.swap _ _ _)
          refine L_nil ?_
          refine hQ' _ _ ?_
          clear hQ' hE'
          exact h7_14 (b1, g1, c1, b2) _ _ ((upd_sw (by decide)).trans (upd_cg rfl)) hS.sb
        · refine N_f ?_
          intro Q' hQ' hE'
          refine S_w ?_
          refine S_q hS Yld ?_
          refine L_nil ?_
          refine hQ' _ _ ?_
          clear hQ' hE'
          exact h12_14 (b1, g1, c1, b2) _ _ ((upd_sw (by decide)).trans (upd_cg rfl)) hS.sb
      intro h14
      (with_reducible apply N_4); rfl; rfl; rfl; rfl
      · refine N_f ?_
        intro Q' hQ' hE'
        refine S_w ?_
        refine S_q hS Yld ?_
        refine L_nil ?_
        refine hQ' _ _ ?_
        clear hQ' hE'
        exact h5 (0, 0, 0, 0) _ _ rfl hS.sb
      · refine N_f ?_
        intro Q' hQ' hE'
        refine S_w ?_
        refine M_sl hS ?_
        clear hS
        intro b1 w hS
        refine L_nil ?_
        refine hQ' _ _ ?_
        clear hQ' hE'
        exact h7 (b1, 0, 0, 0) _ _ rfl hS.sb
      · refine N_f ?_
        intro Q' hQ' hE'
        refine S_w ?_
        refine S_q hS Yld ?_
        refine L_nil ?_
        refine hQ' _ _ ?_
        clear hQ' hE'
        exact h12 (0, 0, 0, 0) _ _ rfl hS.sb
      · refine N_f ?_
        intro Q' hQ' hE'
        refine S_w ?_
        refine M_sl hS ?_
        clear hS
        intro b2 w hS
        refine L_nil ?_
        refine hQ' _ _ ?_
        clear hQ' hE'
        exact h14 (0, 0, 0, b2) _ _ rfl hS.sb
    rintro ⟨z1, z2, z3, z4, z5, z6⟩ w hS
    simp only at hS
    repeat (first | (refine S_w ?_; first | (refine S_d hS ?_) | (refine S_y hS ?_) | ((first | refine M_bA hS ?_ | refine M_b1 hS ?_ | refine M_aA hS ?_ | refine M_a1 hS ?_ | refine M_sl hS ?_ | refine M_s1 hS ?_ | refine M_mm hS ?_); clear hS; intro b w hS) | ((first | refine M_st hS ?_ | refine M_sA hS ?_ | refine M_in hS ?_ | refine M_sR hS ?_); clear hS; intro w hS; (try simp only [List.set_cons_zero, List.set_cons_succ, Nat.zero_add] at hS)) | (refine M_ap hS ?_; clear hS; intro g cap w hS) | refine M_pn ?_ | ((first | refine M_im hS ?_ | refine M_ii hS ?_ | refine M_dl hS ?_); clear hS; intro w hS)) | refine X_k (by (try simp only [Fm.toList, List.set_cons_succ, List.set_cons_zero]); exact rfl) ?_ | refine S_u ?_ | refine S_v ?_ | refine C_sq ?_ | refine C_rg ?_ | refine L_nil ?_ | refine C_bk ?_ | refine C_ct ?_ | refine C_cf ?_ | refine C_sk ?_ | refine C_ex ?_ | refine C_rt ?_ | refine X_e ?_ | refine X_r ?_ | refine X_bh ?_ | refine X_be ?_ | refine X_br ?_ | refine X_bn ?_ | refine X_p ?_ | refine X_bp ?_)
    refine V_1 ⟨rfl, _, hgood A2 c2 A3 c3 (some ⟨z2, 0, none⟩) z3 (some ⟨z5, 0, none⟩) z6, rfl, rfl, rfl, rfl, rfl, by simp, ?_⟩
    rw [hqv, htv, ← hRl2, ← hTl] at hS
    have hS := hS.mu3
    exact hS.sb
  · obtain ⟨h1, h2, h3⟩ := hbad he
    subst h1 h2
    rw [h3] at hS
    repeat (first | (refine S_w ?_; first | (refine S_d hS ?_) | (refine S_y hS ?_) | ((first | refine M_bA hS ?_ | refine M_b1 hS ?_ | refine M_aA hS ?_ | refine M_a1 hS ?_ | refine M_sl hS ?_ | refine M_s1 hS ?_ | refine M_mm hS ?_); clear hS; intro b w hS) | ((first | refine M_st hS ?_ | refine M_sA hS ?_ | refine M_in hS ?_ | refine M_sR hS ?_); clear hS; intro w hS; (try simp only [List.set_cons_zero, List.set_cons_succ, Nat.zero_add] at hS)) | (refine M_ap hS ?_; clear hS; intro g cap w hS) | refine M_pn ?_ | ((first | refine M_im hS ?_ | refine M_ii hS ?_ | refine M_dl hS ?_); clear hS; intro w hS)) | refine X_k (by (try simp only [Fm.toList, List.set_cons_succ, List.set_cons_zero]); exact rfl) ?_ | refine S_u ?_ | refine S_v ?_ | refine C_sq ?_ | refine C_rg ?_ | refine L_nil ?_ | refine C_bk ?_ | refine C_ct ?_ | refine C_cf ?_ | refine C_sk ?_ | refine C_ex ?_ | refine C_rt ?_ | refine X_e ?_ | refine X_r ?_ | refine X_bh ?_ | refine X_be ?_ | refine X_br ?_ | refine X_bn ?_ | refine X_p ?_ | refine X_bp ?_)
    have hS := hS.mu3
    refine V_1 (stepKeep hG (A := A2) (c := c2) (Am := A3) (cm := c3) hS.sb)
end
end Go.Proofs.Ytijmggoikieelaa
