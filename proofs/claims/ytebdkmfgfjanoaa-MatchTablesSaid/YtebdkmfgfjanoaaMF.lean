/-
  Ranges over a function: a round's code, the range itself, the marks that it leaves. Nothing here names a function of the program.
-/
import Derived.Test.YtebdkmfgfjanoaaEE
import Derived.RangeFuncNested
import Derived.RangeFuncBound
import Derived.RangeFuncLeaves
import Derived.OrdersIn
namespace Go.Proofs.Ytebdkmfgfjanoaa
open Go.RowKit

section
variable {P : Program} {ops : Array Oper} {Q : Exit → Act → World → Prop} {lp n : Nat} {o : Oper} {a : Act} {w : World}
/-- no operation is a defer statement -/
def plainOps (ops : Array Oper) : Bool := ops.all fun o => match o.op with
  | .defer _ => false
  | _ => true
theorem plainOps_at {i : Nat} (h : plainOps ops = true) (hi : ops[i]? = some o) : ∀ c, o.op ≠ .defer c := by
  intro c hc
  obtain ⟨hlt, he⟩ := Array.getElem?_eq_some_iff.1 hi
  have := Array.all_eq_true.1 h i hlt
  rw [he, hc] at this
  cases this
theorem upon_in {K : Act → World → Prop} {r : Result Next} (h : o.upon P a K Q r) : o.uponIn (Fence.wide.inRound lp) n P a K Q r := by
  cases r with
  | ok x w' =>
    cases x with
    | value v => exact h
    | skip => exact h
    | defer d => exact h
    | enter f args =>
      refine ⟨fun hd => (by cases hd), CallsIn.inRound lp (callsIn_wide.2 ?_)⟩
      refine Calls.mono (show Calls P f args w' _ from h) fun e w'' he => ?_
      cases e <;> exact he
    | row r args => exact ⟨fun hd => (by cases hd), fun c cs _ => let ⟨v, w'', hr, hs⟩ := (show Rows P r args w' _ from h) c cs; ⟨v, w'', hr, stepsIn_wide.2 hs⟩⟩
    | _ => exact h.elim
  | halt x w' => cases x <;> first | exact h | exact h.elim
theorem oper_in {K : Act → World → Prop} (hnd : ∀ c, o.op ≠ .defer c) (h : o.wp P a w K Q) : o.wpIn (Fence.wide.inRound lp) n P a w K Q := by
  refine ⟨fun _ _ => trivial, ?_⟩
  rw [Oper.semAt_eq _ _ _ hnd]
  exact upon_in h
theorem wpOp_in (hout : ¬ LetsOut Q) (hp : plainOps ops = true) {i : Nat} {K K' : Act → World → Prop} (hK : ∀ a w, K a w → K' a w) (h : wpOp P ops Q i K a w) : wpOpIn (Fence.wide.inRound lp) n P ops Q i K' a w := by
  unfold wpOp at h
  unfold wpOpIn
  cases ho : ops[i]? with
  | none => rw [ho] at h; exact hK _ _ h
  | some o =>
    rw [ho] at h
    simp only at h ⊢
    split
    · rename_i hw
      rw [if_pos hw] at h
      rcases h with h | ⟨_, h⟩
      · exact Oper.wpIn_mono hK (oper_in (plainOps_at hp ho) h)
      · exact (hout h).elim
    · rename_i hw
      rw [if_neg hw] at h
      exact ⟨fun _ _ => trivial, hK _ _ h⟩
theorem wpAny_in (hout : ¬ LetsOut Q) (hp : plainOps ops = true) {md : Region.Mode} : ∀ (fuel : Nat) (listed : Array Bool) (a : Act) (w : World), wpAny P md ops Q fuel listed a w → wpAnyIn (Fence.wide.inRound lp) n P md ops Q fuel listed a w
  | 0, _, _, _, h => h
  | fuel + 1, listed, a, w, h => ⟨h.1, fun i hi => wpOp_in hout hp (fun a w h => wpAny_in hout hp fuel _ a w h) (h.2 i hi)⟩
theorem wpList_in (hout : ¬ LetsOut Q) : ∀ (rest : List Oper) (a : Act) (w : World), (∀ o ∈ rest, ∀ c, o.op ≠ .defer c) → wpList P ops Q rest a w → wpListIn (Fence.wide.inRound lp) n P ops Q rest a w
  | [], _, _, _, h => h
  | o :: rest, a, w, hp, h => by
    unfold wpList at h
    unfold wpListIn
    split
    · rename_i hw
      rw [if_pos hw] at h
      rcases h with h | ⟨_, h⟩
      · exact Oper.wpIn_mono (fun a w h => wpList_in hout rest a w (fun x hx => hp x (List.mem_cons_of_mem _ hx)) h) (oper_in (hp o (List.mem_cons_self ..)) h)
      · exact (hout h).elim
    · rename_i hw
      rw [if_neg hw] at h
      exact ⟨fun _ _ => trivial, wpList_in hout rest _ w (fun x hx => hp x (List.mem_cons_of_mem _ hx)) h⟩
end
/-- code within a round of loop lp -/
structure WI (lp : Nat) (P : Program) (c : Code) (Q : Exit → Act → World → Prop) (l : Fm) (w : World) : Prop where
  out : c.wpIn (Fence.wide.inRound lp) 1 P Q ⟨l.arr, []⟩ w
structure KonI (lp : Nat) (P : Program) (c : Code) (Q : Exit → Act → World → Prop) (a : Act) (w : World) : Prop where
  out : c.wpIn (Fence.wide.inRound lp) 1 P Q a w
class NoOut (Q : Exit → Act → World → Prop) : Prop where
  no : ¬ LetsOut Q
instance noOutThen {K : Act → World → Prop} {Q : Exit → Act → World → Prop} [h : NoOut Q] : NoOut (Exit.then K Q) := ⟨fun ⟨a, w, hq⟩ => h.no ⟨a, w, hq⟩⟩
instance noOutBlock {id : Nat} {Q : Exit → Act → World → Prop} [h : NoOut Q] : NoOut (Exit.inBlock id Q) := ⟨fun ⟨a, w, hq⟩ => h.no ⟨a, w, hq⟩⟩
instance noOutFalse : NoOut (fun _ _ _ => False) := ⟨fun ⟨_, _, hq⟩ => hq⟩
section
variable {P : Program} {Q : Exit → Act → World → Prop} {lp : Nat} {l : Fm} {w : World} {F : Nat → Prop} {w0 : World} {rs : List Res}
theorem I_sq {c c' : Code} (h : WI lp P c (Exit.then (KonI lp P c' Q) Q) l w) : WI lp P (.seq c c') Q l w :=
  ⟨wpIn_seq (wpIn_mono h.out fun e a w hq => match e, hq with
    | .normal, hq => hq.out
    | .exit _, hq => hq
    | .goto _, hq => hq
    | .ret, hq => hq
    | .panic _, hq => hq
    | .outgrown, hq => hq)⟩
theorem I_k {c : Code} {Q' : Exit → Act → World → Prop} (h : WI lp P c Q l w) : Wx (Exit.then (KonI lp P c Q) Q') .normal l [] w := ⟨⟨h.out⟩⟩
theorem I_rg {id : Nat} {l' : List Oper} (h : WL P l'.toArray Q l' l [] w) (ho : NoOut Q := by infer_instance) (hp : plainOps l'.toArray = true := by kernel_rfl) : WI lp P (.region id l'.toArray false) Q l w :=
  ⟨wpIn_region_lit (wpList_in ho.no _ _ _ (fun o hm => by
    obtain ⟨i, hi⟩ := List.getElem?_of_mem hm
    exact plainOps_at hp (i := i) (by simpa using hi)) h.out)⟩
theorem I_bk {id : Nat} {c : Code} (h : WI lp P c (Exit.inBlock id Q) l w) : WI lp P (.block id c) Q l w := ⟨wpIn_block h.out⟩
/-- a drawn region, by a plan -/
theorem I_pl {id : Nat} {l' : List Oper} (p : Plan) (hS : St F w0 rs w) (k : ∀ w, St F w0 rs w → WP P l'.toArray Q (St F w0 rs) p l [] w) (ho : NoOut Q := by infer_instance) (hm : P.follows .mixedOrders = true := by kernel_rfl)
    (hd : plainOps l'.toArray = true := by kernel_rfl) (hp : (planT l'.toArray p (Array.replicate l'.toArray.size false) && Region.noSelect l'.toArray && p.len == l'.toArray.size) = true := by kernel_rfl) : WI lp P (.region id l'.toArray true) Q l w := ⟨by
  simp only [Bool.and_eq_true, beq_iff_eq] at hp
  refine wpIn_region_any hm (wpAny_in ho.no hd _ _ _ _ (wpAny_of_held (S := St F w0 rs) _ _ _ _ ?_))
  have := (k _ (hS.call (Fr.of ((Below.refl _ _).drew)))).run _ hp.1.1 hp.1.2
  rw [hp.2] at this
  exact this⟩
end
/-! the range -/
section
variable {P : Program} {Q : Exit → Act → World → Prop} {lp : Nat} {l : Fm} {w : World} {F : Nat → Prop} {w0 : World} {rs : List Res} {ds : List Deferred}
/-- what a round may write: memory of the loop's beginning that is one's own, but for the iterator's box -/
def Gr (F : Nat → Prop) (w0 w : World) (box : Nat) : Nat → Prop := fun b => b < w.heap.size ∧ (F b ∨ w0.heap.size ≤ b) ∧ b ≠ box
def BPost (G : Nat → Prop) (W : World) (rs : List Res) : Exit → Act → World → Prop := fun e _ W' => e = .normal ∧ St G W rs W'
instance noOutB {G : Nat → Prop} {W : World} {rs : List Res} : NoOut (BPost G W rs) := ⟨fun ⟨_, _, hq⟩ => (by have h1 := hq.1; cases h1)⟩
theorem I_end {G : Nat → Prop} {W W' : World} (hS : St G W rs W') : Wx (BPost G W rs) .normal l [] W' := ⟨⟨rfl, hS⟩⟩
theorem I_endb {id : Nat} {G : Nat → Prop} {W W' : World} (hS : St G W rs W') : Wx (Exit.inBlock id (BPost G W rs)) .normal l [] W' := ⟨⟨rfl, hS⟩⟩
/-- another beginning -/
theorem St.from {G : Nat → Prop} {W : World} (hS : St F w0 rs W) (h : ∀ r ∈ rs, r.ro = false → ∀ b, r.fp = some b → G b) : St G W rs W :=
  ⟨Fr.refl _ _, hS.all, hS.apart, fun r hr ho b hb => .inl (h r hr ho b hb)⟩
theorem St.back {G : Nat → Prop} {W W' : World} {rs' : List Res} (hS : St F w0 rs W) (h : St G W rs' W') (hG : ∀ b, G b → F b ∨ w0.heap.size ≤ b) : St F w0 rs' W' := by
  have hsz := hS.fr.size
  refine ⟨⟨h.fr.os.trans hS.fr.os, h.fr.tape.trans hS.fr.tape, h.fr.output.trans hS.fr.output, Nat.le_trans hsz h.fr.size, fun b hb hF => ?_⟩, h.all, h.apart, fun r hr ho b hb => ?_⟩
  · refine (h.fr.keep b (Nat.lt_of_lt_of_le hb hsz) fun hg => ?_).trans (hS.fr.keep b hb hF)
    rcases hG b hg with h1 | h1
    · exact hF h1
    · omega
  · rcases h.own r hr ho b hb with h1 | h1
    · exact hG b h1
    · exact .inr (Nat.le_trans hsz h1)
theorem not_cells_row {o : Obj} {b : Nat} {row : Option Nat} {X : World} (hr : ∀ r, row = some r → w.heap.size ≤ r ∧ ∃ o : Obj, X.heap[r]? = some o ∧ o.isCells = false) (hb : b < w.heap.size) : row ≠ some b := fun e => by
  have := (hr b e).1; omega
/-- the state abides what the range itself does to memory -/
theorem St.grown {X Y : World} {row : Option Nat} (hS : St F w0 rs X) (hw : w0.heap.size ≤ w.heap.size) (hlt : ∀ r ∈ rs, ∀ b, r.fp = some b → b < w.heap.size) (hg : X.grownBy Y row) (hr : ∀ r, row = some r → w.heap.size ≤ r ∧ ∃ o : Obj, X.heap[r]? = some o ∧ o.isCells = false) : St F w0 rs Y := by
  have hfr := hS.fr
  refine ⟨⟨hg.os.trans hfr.os, hg.tape.trans hfr.tape, hg.output.trans hfr.output, Nat.le_trans hfr.size hg.size, fun b hb hF => ?_⟩, fun r hm => ?_, hS.apart, hS.own⟩
  · refine (hg.block b (Nat.lt_of_lt_of_le hb hfr.size) fun e => ?_).trans (hfr.keep b hb hF)
    have := (hr b e.symm).1; omega
  · refine r.loc (hS.all r hm) fun b hb => hg.block b (r.lt (hS.all r hm) b hb) fun e => ?_
    have h1 := (hr b e.symm).1
    have h2 := hlt r hm b hb
    omega
theorem C_rf {α : Type} {g : Operand} {ps : Array Tmp} {assign body : Code} {gf : Nat} {lb : Array Value} {encs : α → Array Value} {S Sp : List α → Prop} {N box : Nat} {wb : World}
    (inv : List α → List Res) (l0 l1 : α → Fm → Fm) (hSb : St F w0 (inv []) wb) (hwb : Fr Nof wb w) (hbb : wb.heap.size ≤ box) (hbox : box < w.heap.size) (hseq : SeqStopsK Fence.wide 2 P gf lb encs (fun W W' => W'.heap[box]? = W.heap[box]?) S Sp N w)
    (hsame : ∀ pre, (inv pre).map (fun r => (r.fp, r.ro)) = (inv []).map (fun r => (r.fp, r.ro)))
    (hassign : ∀ lp x W (K : Act → World → Prop), K ⟨(l1 x l).arr, []⟩ W → WI lp P assign (Exit.then K (fun _ _ _ => False)) (l0 x l) W)
    (hbody : ∀ lp pre x W, St (Gr F w0 w box) W (inv pre) W → WI lp P body (BPost (Gr F w0 w box) W (inv (pre ++ [x]))) (l1 x l) W)
    (hdone : ∀ D xs W, S xs → St F w0 (Res.obj D (.deferred (some [])) :: inv xs) W → Wx Q .normal l ({ target := .collected D, args := #[] } :: ds) W)
    (hl0 : ∀ x, (ps.zip (encs x)).foldl (fun t (p, v) => t.setIfInBounds p v) l.arr = (l0 x l).arr) (hps : ∀ x, (encs x).size = ps.size)
    (hg : lk l g = some (.func (.func gf) #[] lb) := by rfl) (eg : enterB P gf = true := by rfl) : Wc P (.rangeFunc g ps assign body) Q l ds w := ⟨by
  have hS : St F w0 (inv []) w := hSb.call hwb
  have hw : w0.heap.size ≤ w.heap.size := hS.fr.size
  have hfp : ∀ pre, ∀ r ∈ inv pre, ∃ s ∈ inv [], r.fp = s.fp ∧ r.ro = s.ro := fun pre r hr => by
    have h1 : (r.fp, r.ro) ∈ (inv pre).map (fun r => (r.fp, r.ro)) := List.mem_map.2 ⟨r, hr, rfl⟩
    rw [hsame] at h1
    obtain ⟨s, hs, he⟩ := List.mem_map.1 h1
    exact ⟨s, hs, (congrArg Prod.fst he).symm, (congrArg Prod.snd he).symm⟩
  have hltb : ∀ pre, ∀ r ∈ inv pre, ∀ b, r.fp = some b → b < wb.heap.size := fun pre r hr b hb => by
    obtain ⟨s, hs, h1, _⟩ := hfp pre r hr
    exact s.lt (hSb.all s hs) b (h1 ▸ hb)
  have hlt : ∀ pre, ∀ r ∈ inv pre, ∀ b, r.fp = some b → b < w.heap.size := fun pre r hr b hb => Nat.lt_of_lt_of_le (hltb pre r hr b hb) hwb.size
  have hnb : ∀ pre, ∀ r ∈ inv pre, r.ro = false → ∀ b, r.fp = some b → b ≠ box := fun pre r hr _ b hb => by
    have := hltb pre r hr b hb
    omega
  refine wpIn_wide.1 (wpIn_rangeFunc_ownG (n := 3) rfl (by omega) (gf := gf) (lb := lb) (lk_eval hg) trivial (fun args w => callFunc_run eg) hseq (fun h1 h2 => h2.trans h1) ?_ (Below.refl _ _) hps
    (fun pre W => St F w0 (inv pre) W ∧ w.heap.size ≤ W.heap.size) (fun _ _ _ => False) ?_ ?_ ⟨hS, Nat.le_refl _⟩ (fun x => ⟨(l1 x l).arr, []⟩) ?_ ?_ ?_ ?_)
  · intro W b o o' hb ho _ _
    exact World.putObj_heap_other (by omega)
  · rintro pre X Y row ⟨hs, hz⟩ hg hr
    exact ⟨hs.grown hw (hlt pre) hg hr, Nat.le_trans hz hg.size⟩
  · intro c pre X Y row hs
    exact hs.elim
  · intro lp x W K hK
    have := (hassign lp x W K hK).out
    rw [← hl0] at this
    exact this
  · rintro lp pre x W ⟨hs, hz⟩ _
    have hfrom : St (Gr F w0 w box) W (inv pre) W := hs.from fun r hr ho b hb => ⟨hlt pre r hr b hb, hs.own r hr ho b hb, hnb pre r hr ho b hb⟩
    refine wpIn_mono (hbody lp pre x W hfrom).out ?_
    rintro e a W' ⟨rfl, hS'⟩
    refine ⟨⟨hS'.fr.size, fun k o hk ho hc => ?_⟩, ?_, hs.back hS' fun b hb => hb.2.1, Nat.le_trans hz hS'.fr.size⟩
    · rw [hS'.fr.keep k (Array.getElem?_eq_some_iff.1 ho).1 (fun hG => by have := hG.1; omega)]; exact ho
    · exact hS'.fr.keep box (Nat.lt_of_lt_of_le hbox hz) (fun hG => hG.2.2 rfl)
  · rintro D xs W hD hxs ⟨hs, _⟩ hK
    refine (hdone D xs W hxs ?_).out
    refine ⟨hs.fr, fun r hr => ?_, List.pairwise_cons.2 ⟨fun s hm => .inr fun b h1 h2 => ?_, hs.apart⟩, fun r hr ho b hb => ?_⟩
    · rcases List.mem_cons.1 hr with rfl | hr
      · exact hK
      · exact hs.all r hr
    · cases h1
      have := hlt xs s hm D h2
      omega
    · rcases List.mem_cons.1 hr with rfl | hr
      · cases hb; exact .inr (Nat.le_trans hw hD)
      · exact hs.own r hr ho b hb
  · intro D c pre W _ _ h
    exact h.elim⟩
/-! marks -/
def markR (D : Nat) : Res := Res.obj D (.deferred (some []))
def markD (D : Nat) : Deferred := { target := .collected D, args := #[] }
theorem St.unmark {D : Nat} {o' : Obj} {ob : Obj} (hS : St Nof w0 (Res.obj D ob :: rs) w) : St Nof w0 rs (w.putObj D o') := by
  have hD : w0.heap.size ≤ D := (hS.own _ (List.mem_cons_self ..) rfl D rfl).elim (fun h => h.elim) id
  obtain ⟨h1, h2⟩ := List.pairwise_cons.1 hS.apart
  refine ⟨⟨hS.fr.os, hS.fr.tape, hS.fr.output, ?_, fun b hb hF => ?_⟩, fun r hr => ?_, h2, fun r hr => hS.own r (List.mem_cons_of_mem _ hr)⟩
  · have := hS.fr.size; simpa [World.putObj] using this
  · rw [World.putObj_heap_other (by omega)]; exact hS.fr.keep b hb hF
  · refine r.loc (hS.all r (List.mem_cons_of_mem _ hr)) fun b hb => World.putObj_heap_other fun e => ?_
    rcases h1 r hr with ⟨h, _⟩ | h
    · cases h
    · exact h D rfl (by rw [hb, e])
theorem leaves1 {n : Nat} {fn : Func} {R : Value → World → Prop} {t : Nat} {v : Value} (hr : fn.results = #[.tmp t]) (h1 : fnth l t = some v) : ∀ (Ds : List Nat) (w : World), St Nof w0 (Ds.map markR ++ rs) w → (∀ w', St Nof w0 rs w' → R v w') →
    LeavesInM Fence.wide n P fn l.arr (fun e w' => ∃ v, e = .returned v ∧ R v w') (Ds.map markD) .returning w
  | [], w, hS, k => by
    refine ⟨v, ?_, _, rfl, k w hS⟩
    have h := Rv.tmp (P := P) (w := w) h1
    unfold Rv at h
    rw [results_eq, hr]
    simp [h, go_sem]
  | D :: Ds, w, hS, k => by
    have hD : w.heap[D]? = some (.deferred (some [])) := hS.all (markR D) (List.mem_cons_self ..)
    exact ⟨by simp, .inl ⟨D, _, rfl, run_takeDeferred hD, leaves1 hr h1 Ds _ (St.unmark hS) k⟩⟩
theorem V_m1 {n : Nat} {fn : Func} {R : Value → World → Prop} {t : Nat} {v : Value} (Ds : List Nat) (hS : St Nof w0 (Ds.map markR ++ rs) w) (k : ∀ w', St Nof w0 rs w' → R v w') (hr : fn.results = #[.tmp t] := by rfl) (h1 : fnth l t = some v := by rfl) :
    Wx (bodyPostM Fence.wide n P fn fun e w' => ∃ v, e = .returned v ∧ R v w') .ret l (Ds.map markD) w := ⟨leaves1 hr h1 Ds w hS k⟩
theorem E_m {f n m : Nat} {fn : Func} {c : Code} {args : List Value} {R : Value → World → Prop} (h : Wc P c (bodyPostM Fence.wide 3 P fn fun e w' => ∃ v, e = .returned v ∧ R v w') (Fm.base (args ++ List.replicate m undef)) [] w)
    (hf : P.funcs[f]? = some fn) (hb : fn.body = some c) (hn : fn.ntmps = n) (hl : n - args.length = m) : CallsR P f args.toArray w R := by
  refine (callsIn_wide (n := 3)).1 (callsIn_of_wp_marks hf hb trivial (wpIn_wide.2 ?_) rfl)
  have : args.toArray ++ Array.replicate (fn.ntmps - args.toArray.size) undef = (Fm.base (args ++ List.replicate m undef)).arr := by
    rw [hn]; simp [Fm.arr, Fm.toList, hl]
  rw [this]
  exact h.out
/-! a loop whose rounds leave marks -/
def AgainM {α : Type} (bs : List Bool) (vals : α → List (Nat × Value)) (I : α → World → Prop) (μ : α → Nat) (l : List Value) (dsf : α → List Deferred) (s : α) (a' : Act) (w' : World) : Prop :=
  ∃ s' y', a' = ⟨(Fm.base (mask (ov (vals s') y') 0 bs l)).arr, dsf s'⟩ ∧ I s' w' ∧ μ s' < μ s
theorem C_lm {c : Code} {α : Type} {l0 : List Value} (bs : List Nat) (dsf : α → List Deferred) (vals : α → List (Nat × Value)) (I : α → World → Prop) (μ : α → Nat) (s0 : α) (h0 : I s0 w)
    (round : ∀ s y w, I s w → Wc P c (Exit.then (AgainM (runs false bs) vals I μ l0 dsf s) Q) (Fm.base (mask (ov (vals s) y) 0 (runs false bs) l0)) (dsf s) w)
    (hl : mask (ov (vals s0) (fun i => (nth l0 i).getD undef)) 0 (runs false bs) l0 = l0 := by rfl) (hds : dsf s0 = ds := by rfl) : Wc P (.loop c) Q (Fm.base l0) ds w := ⟨by
  refine wp_loop_ghost (fun n a w => ∃ s y, a = ⟨(Fm.base (mask (ov (vals s) y) 0 (runs false bs) l0)).arr, dsf s⟩ ∧ I s w ∧ μ s = n) (μ s0) ⟨s0, fun i => (nth l0 i).getD undef, by rw [hl, hds], h0, rfl⟩ ?_
  rintro n a w ⟨s, y, rfl, hI, rfl⟩
  refine wp_mono (round s y w hI).out ?_
  intro e a' w' hq
  cases e with
  | normal =>
    obtain ⟨s', y', ha, hI', hlt⟩ := hq
    exact ⟨μ s', hlt, s', y', ha, hI', rfl⟩
  | exit id => exact hq
  | goto l => exact hq
  | ret => exact hq
  | panic c => exact hq
  | outgrown => exact hq⟩
theorem R_m {l0 : List Value} {α : Type} {dsf : α → List Deferred} {bs : List Bool} {vals : α → List (Nat × Value)} {I : α → World → Prop} {μ : α → Nat} {s : α} (s' : α)
    (hI : I s' w) (hμ : μ s' < μ s) (hds : dsf s' = ds) (hl : mask (ov (vals s') (fun i => (fnth l i).getD undef)) 0 bs l0 = l.toList := by rfl) : Wx (Exit.then (AgainM bs vals I μ l0 dsf s) Q) .normal l ds w := ⟨⟨s', fun i => (fnth l i).getD undef, by rw [hl, hds]; rfl, hI, hμ⟩⟩
/-! the iterator's side: the region that calls yield -/
structure WJ (P : Program) (ops : Array Oper) (Q : Exit → Act → World → Prop) (rest : List Oper) (l : Fm) (ds : List Deferred) (w : World) : Prop where
  out : wpListIn Fence.wide 2 P ops Q rest ⟨l.arr, ds⟩ w
section
variable {ops : Array Oper} {rest : List Oper} {o : Oper} {d : Nat}
theorem J_in {id : Nat} {l' : List Oper} (h : WJ P l'.toArray Q l' l ds w) : Wc P (.region id l'.toArray false) Q l ds w := ⟨wpIn_wide.1 (wpIn_region_lit h.out)⟩
theorem J_nil (h : Wx Q .normal l ds w) : WJ P ops Q [] l ds w := ⟨h.out⟩
theorem J_x {v : Value} (he : Ex P l ds o w v) (k : WJ P ops Q rest (l.upd d v) ds w) (hw : wantF ops l o = true := by rfl) (hd : o.dst = some d := by rfl) : WJ P ops Q (o :: rest) l ds w := ⟨by
  unfold wpListIn
  rw [wantF_eq.trans hw]
  simp only [if_true]
  refine ⟨fun _ _ => trivial, ?_⟩
  show o.uponIn _ _ _ _ _ _ ((o.semAt none _).run P w)
  rw [Oper.semAt_none, he]
  show wpListIn _ _ _ _ _ _ _ _
  rw [hd, put_mk]
  exact k.out⟩
theorem J_y {lp : Nat} {f : Operand} {ar : Array Operand} {ts : Array TypeId} {args : Array Value} {R : Ending → World → Prop} (hy : YieldAt Fence.wide 1 P lp args w R) (hR : ∀ e w', R e w' → ∃ v, e = .returned v)
    (k : ∀ v w', R (.returned v) w' → WJ P ops Q rest (l.upd d v) ds w')
    (ho : o.op = .call { callee := .value f, args := ar, argTypes := ts } := by rfl) (hf : lk l f = some (.func (.yield lp) #[] #[]) := by rfl) (ha : (lks l ar.toList).toArray = args := by rfl) (hw : wantF ops l o = true := by rfl) (hd : o.dst = some d := by rfl) : WJ P ops Q (o :: rest) l ds w := ⟨by
  obtain ⟨fn, tmps, assign, body, hy, hr⟩ := hy
  unfold wpListIn
  rw [wantF_eq.trans hw]
  simp only [if_true]
  refine ⟨fun _ _ => trivial, ?_⟩
  show o.uponIn _ _ _ _ _ _ ((o.semAt none _).run P w)
  have he : (execOp (Act.mk l.arr ds).eval o).run P w = .ok (.round lp fn tmps assign body) w := by
    unfold execOp; rw [ho]
    simp only [resolve, lk_eval hf, Deferred.ofValue, lks_eval, ha]
    simpa [go_sem, invoke] using hy
  rw [Oper.semAt_none, he]
  refine ⟨fun hd => (by cases hd), RoundIn.mono hr fun e w' h => ?_⟩
  obtain ⟨v, rfl⟩ := hR e w' h
  show wpListIn _ _ _ _ _ _ _ _
  rw [hd, put_mk]
  exact (k v w' h).out⟩
end
/-- a box that is read -/
theorem boxSt {box : Nat} {v : Value} {t : TypeId} {fz : Nat × Nat} (h : w.heap[box]? = some (.cells #[v] t fz)) : St (fun b => b = box) w [Res.obj box (.cells #[v] t fz)] w := by
  refine ⟨Fr.refl _ _, fun r hr => ?_, List.pairwise_cons.2 ⟨fun s hs => (by cases hs), List.Pairwise.nil⟩, fun r hr _ b hb => ?_⟩
  · obtain rfl := List.mem_singleton.1 hr
    exact h
  · obtain rfl := List.mem_singleton.1 hr
    cases hb
    exact .inl rfl
/-! lists of resources -/
theorem St.prm {rs' : List Res} (h : St F w0 rs w) (hp : rs.Perm rs') : St F w0 rs' w :=
  ⟨h.fr, fun r hr => h.all r (hp.mem_iff.2 hr), (hp.pairwise_iff Res.apart_symm).1 h.apart, fun r hr => h.own r (hp.mem_iff.2 hr)⟩
/-- what lies ahead goes behind the known ones -/
theorem St.mv {l cs t : List Res} (h : St F w0 (l ++ (cs ++ t)) w) : St F w0 (cs ++ (l ++ t)) w := by
  refine h.prm ?_
  rw [← List.append_assoc, ← List.append_assoc]
  exact List.perm_append_comm.append_right _
/-- what a call has made -/
theorem St.join {w' : World} {rs' : List Res} (h : St F w0 rs w) (h' : St Nof w rs' w') (hro : ∀ r ∈ rs', r.ro = false) : St F w0 (rs' ++ rs) w' := by
  have hc := h.call h'.fr
  have hown : ∀ r ∈ rs', ∀ b, r.fp = some b → w.heap.size ≤ b := fun r hr b hb => (h'.own r hr (hro r hr) b hb).elim (fun h => h.elim) id
  refine ⟨hc.fr, fun r hr => ?_, List.pairwise_append.2 ⟨h'.apart, hc.apart, fun r hr s hs => .inr fun b h1 h2 => ?_⟩, fun r hr ho b hb => ?_⟩
  · rcases List.mem_append.1 hr with hr | hr
    · exact h'.all r hr
    · exact hc.all r hr
  · have := hown r hr b h1
    have := s.lt (h.all s hs) b h2
    omega
  · rcases List.mem_append.1 hr with hr | hr
    · exact .inr (Nat.le_trans h.fr.size (hown r hr b hb))
    · exact hc.own r hr ho b hb
theorem Upd.app {r r' : Res} {l rs rs' : List Res} (h : Upd r r' rs rs') : Upd r r' (l ++ rs) (l ++ rs') := by
  induction l with
  | nil => exact h
  | cons s l ih => exact .there ih
theorem Upd.appl {r r' : Res} {l l' rs : List Res} (h : Upd r r' l l') : Upd r r' (l ++ rs) (l' ++ rs) := by
  induction h with
  | here => exact .here
  | there _ ih => exact .there ih
/-- a store into a row, wherever it lies -/
theorem M_sX {ops : Array Oper} {rest : List Oper} {o : Oper} {n c j : Nat} {A : Option Addr} {x y : Operand} {t e : TypeId} {u v : Value} {xs : List Value} {rs' : List Res} (hS : St F w0 rs w) (hu : Upd (Res.row e 1 (.slice A n c) n xs) (Res.row e 1 (.slice A n c) n (xs.set j v)) rs rs') (k : ∀ w', St F w0 rs' w' → WL P ops Q rest l ds w')
    (ho : o.op = .store t x y := by rfl) (hd : o.dst = none := by rfl) (hx : lk l x = some u := by rfl) (hc : IsEl u A j := by infer_instance) (hy : lk l y = some v := by rfl) (h1 : v.oneCell' = true := by rfl)
    (ht : sizeT P t 1 = true := by rfl) (hi : j < n := by omega) : SStep P ops Q rest o l ds w := by
  rw [hc.eq] at hx; exact S_storeRow1 hS hd ho hx hy h1 hu ht hi k
instance hasObjApp {b : Nat} {ob : Obj} {l rs : List Res} [h : HasObj rs b ob] : HasObj (l ++ rs) b ob := ⟨List.mem_append_right _ h.mem⟩
/-- a drawn region within a round whose memory turns as it goes -/
theorem I_ps {β : Type} {id : Nat} {l' : List Oper} (rsf : β → List Res) (s : β) (p : Plan) (hS : St F w0 (rsf s) w) (k : ∀ w, St F w0 (rsf s) w → WP P l'.toArray Q (fun w => ∃ s, St F w0 (rsf s) w) p l [] w) (ho : NoOut Q := by infer_instance) (hm : P.follows .mixedOrders = true := by kernel_rfl)
    (hd : plainOps l'.toArray = true := by kernel_rfl) (hp : (planT l'.toArray p (Array.replicate l'.toArray.size false) && Region.noSelect l'.toArray && p.len == l'.toArray.size) = true := by kernel_rfl) : WI lp P (.region id l'.toArray true) Q l w := ⟨by
  simp only [Bool.and_eq_true, beq_iff_eq] at hp
  refine wpIn_region_any hm (wpAny_in ho.no hd _ _ _ _ (wpAny_of_held (S := fun w => ∃ s, St F w0 (rsf s) w) _ _ _ _ ?_))
  have := (k _ (hS.call (Fr.of ((Below.refl _ _).drew)))).run _ hp.1.1 hp.1.2
  rw [hp.2] at this
  exact this⟩
theorem P_ys {β : Type} {ops : Array Oper} {rsf : β → List Res} {s : β} {p : Plan} {i d : Nat} {o : Oper} {v : Value} (hS : St F w0 (rsf s) w) (h : ∀ s, Yl P (rsf s) l o v) (k : WP P ops Q (fun w => ∃ s, St F w0 (rsf s) w) p (l.upd d v) ds w) (hw : wantF ops l o = true := by rfl) (hd : o.dst = some d := by rfl)
    (hb : Blind Q := by infer_instance) : PT P ops Q (fun w => ∃ s, St F w0 (rsf s) w) p i o l ds w :=
  PT_yes hw hd ⟨s, hS⟩ (fun c a w => hb.out c a _ _ w) (fun _ ⟨s, hS⟩ => (h s).run hS) k
instance blindB {G : Nat → Prop} {W : World} {rs : List Res} : Blind (BPost G W rs) := ⟨fun _ _ _ _ _ hq => (by have h1 := hq.1; cases h1)⟩
/-- the same outside a round -/
theorem C_ps {β : Type} {id : Nat} {l' : List Oper} (rsf : β → List Res) (s : β) (p : Plan) (hS : St F w0 (rsf s) w) (k : ∀ w, St F w0 (rsf s) w → WP P l'.toArray Q (fun w => ∃ s, St F w0 (rsf s) w) p l ds w) (hm : P.follows .mixedOrders = true := by kernel_rfl)
    (hp : (planT l'.toArray p (Array.replicate l'.toArray.size false) && Region.noSelect l'.toArray && p.len == l'.toArray.size) = true := by kernel_rfl) : Wc P (.region id l'.toArray true) Q l ds w := ⟨by
  simp only [Bool.and_eq_true, beq_iff_eq] at hp
  refine wp_region_held (S := fun w => ∃ s, St F w0 (rsf s) w) hm ?_
  have := (k _ (hS.call (Fr.of ((Below.refl _ _).drew)))).run _ hp.1.1 hp.1.2
  rw [hp.2] at this
  exact this⟩
end
end Go.Proofs.Ytebdkmfgfjanoaa
/-
  Pairs of numbers held against each other. Nothing here names a function of the program.
-/
namespace Go.Proofs.Ytebdkmfgfjanoaa
open Go.RowKit

section
variable {P : Program} {t e : TypeId} {a b c d : Int}
theorem eq_pair (hu : P.underlying t = some (.array 2 e)) (hs : sizeT P e 1 = true) (he : P.underlying e = some (.int .i64)) (hf : flatT P e = true) (w : World) :
    (Op.equal t (.agg #[.int .i64 a, .int .i64 b]) (.agg #[.int .i64 c, .int .i64 d])).run P w = .ok (a == c && b == d) w := by
  have key : ∀ m : Nat, (Op.equalIn (m + 2) t (.agg #[.int .i64 a, .int .i64 b]) (.agg #[.int .i64 c, .int .i64 d])).run P w = .ok (a == c && b == d) w := fun m => by
    have hp : ∀ (x y : Int) (i : Nat) (v : Value), (nth [.int .i64 x, .int .i64 y] i = some v) → (part e #[.int .i64 x, .int .i64 y] i).run P w = .ok v w := fun x y i v h => run_part (cs := [.int .i64 x, .int .i64 y]) hf h
    have hi : ∀ x y : Int, (Op.equalIn (m + 1) e (.int .i64 x) (.int .i64 y)).run P w = .ok (x == y) w := fun x y => by
      unfold Op.equalIn
      simp [Sem.run_bind, run_underlying he, Sem.run_pure]
    have ho : (sizeOf e).run P w = .ok 1 w := sizeOf_run hs
    unfold Op.equalIn
    simp only [Sem.run_bind, run_underlying hu, Result.andThen_ok, ho]
    rw [Std.Legacy.Range.forIn_eq_forIn_range']
    simp only [Std.Legacy.Range.size, Nat.sub_zero, Nat.add_sub_cancel, Nat.div_one, List.range'_succ, List.range'_zero, List.forIn_cons, List.forIn_nil, Sem.run_bind, Nat.zero_mul, Nat.one_mul, Nat.zero_add]
    rw [hp a b 0 _ rfl, Result.andThen_ok, hp c d 0 _ rfl, Result.andThen_ok, hi, Result.andThen_ok]
    cases h1 : a == c with
    | false => simp [Sem.run_pure]
    | true =>
      simp only [Bool.not_true, Bool.false_eq_true, if_false, Sem.run_pure, Result.andThen_ok, Sem.run_bind]
      rw [hp a b 1 _ rfl, Result.andThen_ok, hp c d 1 _ rfl, Result.andThen_ok, hi, Result.andThen_ok]
      cases h2 : b == d <;> simp [Sem.run_pure]
  exact key 9998
theorem YeP {rs : List Res} {o : Oper} {l : Fm} {x y : Operand} {t' : TypeId} (ho : o.op = .binOp .eql t x y t' := by rfl) (hx : lk l x = some (.agg #[.int .i64 a, .int .i64 b]) := by rfl) (hy : lk l y = some (.agg #[.int .i64 c, .int .i64 d]) := by rfl)
    (hg : eqOk P t = true := by rfl) (hu : P.underlying t = some (.array 2 e) := by rfl) (hs : sizeT P e 1 = true := by rfl) (he : P.underlying e = some (.int .i64) := by rfl) (hf : flatT P e = true := by rfl) (h : a = c ∧ b = d := by omega) : Yl P rs l o (.bool true) := ⟨fun {_ _ w ds} _ => by
  have h1 := eq_pair (a := a) (b := b) (c := c) (d := d) hu hs he hf w
  rw [h.1, h.2] at h1
  refine x_bin ho hx hy (run_eqG hg) ?_
  rw [h.1, h.2]
  simp [binOp, Sem.run_bind, h1, Result.andThen_ok, Sem.run_pure]⟩
theorem YnP {rs : List Res} {o : Oper} {l : Fm} {x y : Operand} {t' : TypeId} (ho : o.op = .binOp .neq t x y t' := by rfl) (hx : lk l x = some (.agg #[.int .i64 a, .int .i64 b]) := by rfl) (hy : lk l y = some (.agg #[.int .i64 c, .int .i64 d]) := by rfl)
    (hg : eqOk P t = true := by rfl) (hu : P.underlying t = some (.array 2 e) := by rfl) (hs : sizeT P e 1 = true := by rfl) (he : P.underlying e = some (.int .i64) := by rfl) (hf : flatT P e = true := by rfl) (h : a = c ∧ b = d := by omega) : Yl P rs l o (.bool false) := ⟨fun {_ _ w ds} _ => by
  have h1 := eq_pair (a := a) (b := b) (c := c) (d := d) hu hs he hf w
  rw [h.1, h.2] at h1
  refine x_bin ho hx hy (run_eqG hg) ?_
  rw [h.1, h.2]
  simp [binOp, Sem.run_bind, h1, Result.andThen_ok, Sem.run_pure]⟩
end
end Go.Proofs.Ytebdkmfgfjanoaa
