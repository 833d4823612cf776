/-
  Ranges over a function: a round's code, the range itself, the marks that it leaves. Nothing here names a function of the program.
-/
import Derived.Test.YtijmggoikieelaaEE
import Derived.RangeFuncNested
import Derived.RangeFuncBound
import Derived.RangeFuncLeaves
import Derived.OrdersIn
namespace Go.Proofs.Ytijmggoikieelaa
open Go.RowKit

section
variable {P : Program} {ops : Array Oper} {Q : Exit → Act → World → Prop} {lp n : Nat} {o : Oper} {a : Act} {w : World}
/-- no operation is a defer statement -/
def plainOps (ops : Array Oper) : Bool := ops.all fun o => match o.op with
  | .defer _ => false
  | _ => true
theorem plainOps_at {i : Nat} (h : plainOps ops = true) (hi : ops[i]? = some o) : ∀ c, o.op ≠ .defer c := by
  intro c hc
  obtain ⟨hlt, he⟩ := Array.getElem?_eq_some_iff.1 hi
  have := Array.all_eq_true.1 h i hlt
  rw [he, hc] at this
  cases this
theorem upon_in {K : Act → World → Prop} {r : Result Next} (h : o.upon P a K Q r) : o.uponIn (Fence.wide.inRound lp) n P a K Q r := by
  cases r with
  | ok x w' =>
    cases x with
    | value v => exact h
    | skip => exact h
    | defer d => exact h
    | enter f args =>
      refine ⟨fun hd => (by cases hd), CallsIn.inRound lp (callsIn_wide.2 ?_)⟩
      refine Calls.mono (show Calls P f args w' _ from h) fun e w'' he => ?_
      cases e <;> exact he
    | row r args => exact ⟨fun hd => (by cases hd), fun c cs _ => let ⟨v, w'', hr, hs⟩ := (show Rows P r args w' _ from h) c cs; ⟨v, w'', hr, stepsIn_wide.2 hs⟩⟩
    | _ => exact h.elim
  | halt x w' => cases x <;> first | exact h | exact h.elim
theorem oper_in {K : Act → World → Prop} (hnd : ∀ c, o.op ≠ .defer c) (h : o.wp P a w K Q) : o.wpIn (Fence.wide.inRound lp) n P a w K Q := by
  refine ⟨fun _ _ => trivial, ?_⟩
  rw [Oper.semAt_eq _ _ _ hnd]
  exact upon_in h
theorem wpOp_in (hout : ¬ LetsOut Q) (hp : plainOps ops = true) {i : Nat} {K K' : Act → World → Prop} (hK : ∀ a w, K a w → K' a w) (h : wpOp P ops Q i K a w) : wpOpIn (Fence.wide.inRound lp) n P ops Q i K' a w := by
  unfold wpOp at h
  unfold wpOpIn
  cases ho : ops[i]? with
  | none => rw [ho] at h; exact hK _ _ h
  | some o =>
    rw [ho] at h
    simp only at h ⊢
    split
    · rename_i hw
      rw [if_pos hw] at h
      rcases h with h | ⟨_, h⟩
      · exact Oper.wpIn_mono hK (oper_in (plainOps_at hp ho) h)
      · exact (hout h).elim
    · rename_i hw
      rw [if_neg hw] at h
      exact ⟨fun _ _ => trivial, hK _ _ h⟩
theorem wpAny_in (hout : ¬ LetsOut Q) (hp : plainOps ops = true) {md : Region.Mode} : ∀ (fuel : Nat) (listed : Array Bool) (a : Act) (w : World), wpAny P md ops Q fuel listed a w → wpAnyIn (Fence.wide.inRound lp) n P md ops Q fuel listed a w
  | 0, _, _, _, h => h
  | fuel + 1, listed, a, w, h => ⟨h.1, fun i hi => wpOp_in hout hp (fun a w h => wpAny_in hout hp fuel _ a w h) (h.2 i hi)⟩
theorem wpList_in (hout : ¬ LetsOut Q) : ∀ (rest : List Oper) (a : Act) (w : World), (∀ o ∈ rest, ∀ c, o.op ≠ .defer c) → wpList P ops Q rest a w → wpListIn (Fence.wide.inRound lp) n P ops Q rest a w
  | [], _, _, _, h => h
  | o :: rest, a, w, hp, h => by
    unfold wpList at h
    unfold wpListIn
    split
    · rename_i hw
      rw [if_pos hw] at h
      rcases h with h | ⟨_, h⟩
      · exact Oper.wpIn_mono (fun a w h => wpList_in hout rest a w (fun x hx => hp x (List.mem_cons_of_mem _ hx)) h) (oper_in (hp o (List.mem_cons_self ..)) h)
      · exact (hout h).elim
    · rename_i hw
      rw [if_neg hw] at h
      exact ⟨fun _ _ => trivial, wpList_in hout rest _ w (fun x hx => hp x (List.mem_cons_of_mem _ hx)) h⟩
end
/-- code within a round of loop lp -/
structure WI (lp : Nat) (P : Program) (c : Code) (Q : Exit → Act → World → Prop) (l : Fm) (w : World) : Prop where
  out : c.wpIn (Fence.wide.inRound lp) 1 P Q ⟨l.arr, []⟩ w
structure KonI (lp : Nat) (P : Program) (c : Code) (Q : Exit → Act → World → Prop) (a : Act) (w : World) : Prop where
  out : c.wpIn (Fence.wide.inRound lp) 1 P Q a w
class NoOut (Q : Exit → Act → World → Prop) : Prop where
  no : ¬ LetsOut Q
instance noOutThen {K : Act → World → Prop} {Q : Exit → Act → World → Prop} [h : NoOut Q] : NoOut (Exit.then K Q) := ⟨fun ⟨a, w, hq⟩ => h.no ⟨a, w, hq⟩⟩
instance noOutBlock {id : Nat} {Q : Exit → Act → World → Prop} [h : NoOut Q] : NoOut (Exit.inBlock id Q) := ⟨fun ⟨a, w, hq⟩ => h.no ⟨a, w, hq⟩⟩
instance noOutFalse : NoOut (fun _ _ _ => False) := ⟨fun ⟨_, _, hq⟩ => hq⟩
section
variable {P : Program} {Q : Exit → Act → World → Prop} {lp : Nat} {l : Fm} {w : World} {F : Nat → Prop} {w0 : World} {rs : List Res}
theorem I_sq {c c' : Code} (h : WI lp P c (Exit.then (KonI lp P c' Q) Q) l w) : WI lp P (.seq c c') Q l w :=
  ⟨wpIn_seq (wpIn_mono h.out fun e a w hq => match e, hq with
    | .normal, hq => hq.out
    | .exit _, hq => hq
    | .goto _, hq => hq
    | .ret, hq => hq
    | .panic _, hq => hq
    | .outgrown, hq => hq)⟩
theorem I_k {c : Code} {Q' : Exit → Act → World → Prop} (h : WI lp P c Q l w) : Wx (Exit.then (KonI lp P c Q) Q') .normal l [] w := ⟨⟨h.out⟩⟩
theorem I_rg {id : Nat} {l' : List Oper} (h : WL P l'.toArray Q l' l [] w) (ho : NoOut Q := by infer_instance) (hp : plainOps l'.toArray = true := by kernel_rfl) : WI lp P (.region id l'.toArray false) Q l w :=
  ⟨wpIn_region_lit (wpList_in ho.no _ _ _ (fun o hm => by
    obtain ⟨i, hi⟩ := List.getElem?_of_mem hm
    exact plainOps_at hp (i := i) (by simpa using hi)) h.out)⟩
theorem I_bk {id : Nat} {c : Code} (h : WI lp P c (Exit.inBlock id Q) l w) : WI lp P (.block id c) Q l w := ⟨wpIn_block h.out⟩
/-- a drawn region, by a plan -/
theorem I_pl {id : Nat} {l' : List Oper} (p : Plan) (hS : St F w0 rs w) (k : ∀ w, St F w0 rs w → WP P l'.toArray Q (St F w0 rs) p l [] w) (ho : NoOut Q := by infer_instance) (hm : P.follows .mixedOrders = true := by kernel_rfl)
    (hd : plainOps l'.toArray = true := by kernel_rfl) (hp : (planT l'.toArray p (Array.replicate l'.toArray.size false) && Region.noSelect l'.toArray && p.len == l'.toArray.size) = true := by kernel_rfl) : WI lp P (.region id l'.toArray true) Q l w := ⟨by
  simp only [Bool.and_eq_true, beq_iff_eq] at hp
  refine wpIn_region_any hm (wpAny_in ho.no hd _ _ _ _ (wpAny_of_held (S := St F w0 rs) _ _ _ _ ?_))
  have := (k _ (hS.call (Fr.of ((Below.refl _ _).drew)))).run _ hp.1.1 hp.1.2
  rw [hp.2] at this
  exact this⟩
end
/-! the range -/
section
variable {P : Program} {Q : Exit → Act → World → Prop} {lp : Nat} {l : Fm} {w : World} {F : Nat → Prop} {w0 : World} {rs : List Res} {ds : List Deferred}
/-- what a round may write: memory of the loop's beginning that is one's own, but for the iterator's box -/
def Gr (F : Nat → Prop) (w0 w : World) (box : Nat) : Nat → Prop := fun b => b < w.heap.size ∧ (F b ∨ w0.heap.size ≤ b) ∧ b ≠ box
def BPost (G : Nat → Prop) (W : World) (rs : List Res) : Exit → Act → World → Prop := fun e _ W' => e = .normal ∧ St G W rs W'
instance noOutB {G : Nat → Prop} {W : World} {rs : List Res} : NoOut (BPost G W rs) := ⟨fun ⟨_, _, hq⟩ => (by have h1 := hq.1; cases h1)⟩
theorem I_end {G : Nat → Prop} {W W' : World} (hS : St G W rs W') : Wx (BPost G W rs) .normal l [] W' := ⟨⟨rfl, hS⟩⟩
theorem I_endb {id : Nat} {G : Nat → Prop} {W W' : World} (hS : St G W rs W') : Wx (Exit.inBlock id (BPost G W rs)) .normal l [] W' := ⟨⟨rfl, hS⟩⟩
/-- another beginning -/
theorem St.from {G : Nat → Prop} {W : World} (hS : St F w0 rs W) (h : ∀ r ∈ rs, r.ro = false → ∀ b, r.fp = some b → G b) : St G W rs W :=
  ⟨Fr.refl _ _, hS.all, hS.apart, fun r hr ho b hb => .inl (h r hr ho b hb)⟩
theorem St.back {G : Nat → Prop} {W W' : World} {rs' : List Res} (hS : St F w0 rs W) (h : St G W rs' W') (hG : ∀ b, G b → F b ∨ w0.heap.size ≤ b) : St F w0 rs' W' := by
  have hsz := hS.fr.size
  refine ⟨⟨h.fr.os.trans hS.fr.os, h.fr.tape.trans hS.fr.tape, h.fr.output.trans hS.fr.output, Nat.le_trans hsz h.fr.size, fun b hb hF => ?_⟩, h.all, h.apart, fun r hr ho b hb => ?_⟩
  · refine (h.fr.keep b (Nat.lt_of_lt_of_le hb hsz) fun hg => ?_).trans (hS.fr.keep b hb hF)
    rcases hG b hg with h1 | h1
    · exact hF h1
    · omega
  · rcases h.own r hr ho b hb with h1 | h1
    · exact hG b h1
    · exact .inr (Nat.le_trans hsz h1)
theorem not_cells_row {o : Obj} {b : Nat} {row : Option Nat} {X : World} (hr : ∀ r, row = some r → w.heap.size ≤ r ∧ ∃ o : Obj, X.heap[r]? = some o ∧ o.isCells = false) (hb : b < w.heap.size) : row ≠ some b := fun e => by
  have := (hr b e).1; omega
/-- the state abides what the range itself does to memory -/
theorem St.grown {X Y : World} {row : Option Nat} (hS : St F w0 rs X) (hw : w0.heap.size ≤ w.heap.size) (hlt : ∀ r ∈ rs, ∀ b, r.fp = some b → b < w.heap.size) (hg : X.grownBy Y row) (hr : ∀ r, row = some r → w.heap.size ≤ r ∧ ∃ o : Obj, X.heap[r]? = some o ∧ o.isCells = false) : St F w0 rs Y := by
  have hfr := hS.fr
  refine ⟨⟨hg.os.trans hfr.os, hg.tape.trans hfr.tape, hg.output.trans hfr.output, Nat.le_trans hfr.size hg.size, fun b hb hF => ?_⟩, fun r hm => ?_, hS.apart, hS.own⟩
  · refine (hg.block b (Nat.lt_of_lt_of_le hb hfr.size) fun e => ?_).trans (hfr.keep b hb hF)
    have := (hr b e.symm).1; omega
  · refine r.loc (hS.all r hm) fun b hb => hg.block b (r.lt (hS.all r hm) b hb) fun e => ?_
    have h1 := (hr b e.symm).1
    have h2 := hlt r hm b hb
    omega
theorem C_rf {α : Type} {g : Operand} {ps : Array Tmp} {assign body : Code} {gf : Nat} {lb : Array Value} {encs : α → Array Value} {S Sp : List α → Prop} {N box : Nat} {wb : World}
    (inv : List α → List Res) (l0 l1 : α → Fm → Fm) (hSb : St F w0 (inv []) wb) (hwb : Fr Nof wb w) (hbb : wb.heap.size ≤ box) (hbox : box < w.heap.size) (hseq : SeqStopsK Fence.wide 2 P gf lb encs (fun W W' => W'.heap[box]? = W.heap[box]?) S Sp N w)
    (hsame : ∀ pre, (inv pre).map (fun r => (r.fp, r.ro)) = (inv []).map (fun r => (r.fp, r.ro)))
    (hassign : ∀ lp x W (K : Act → World → Prop), K ⟨(l1 x l).arr, []⟩ W → WI lp P assign (Exit.then K (fun _ _ _ => False)) (l0 x l) W)
    (hbody : ∀ lp pre x W, St (Gr F w0 w box) W (inv pre) W → WI lp P body (BPost (Gr F w0 w box) W (inv (pre ++ [x]))) (l1 x l) W)
    (hdone : ∀ D xs W, S xs → St F w0 (Res.obj D (.deferred (some [])) :: inv xs) W → Wx Q .normal l ({ target := .collected D, args := #[] } :: ds) W)
    (hl0 : ∀ x, (ps.zip (encs x)).foldl (fun t (p, v) => t.setIfInBounds p v) l.arr = (l0 x l).arr) (hps : ∀ x, (encs x).size = ps.size)
    (hg : lk l g = some (.func (.func gf) #[] lb) := by rfl) (eg : enterB P gf = true := by rfl) : Wc P (.rangeFunc g ps assign body) Q l ds w := ⟨by
  have hS : St F w0 (inv []) w := hSb.call hwb
  have hw : w0.heap.size ≤ w.heap.size := hS.fr.size
  have hfp : ∀ pre, ∀ r ∈ inv pre, ∃ s ∈ inv [], r.fp = s.fp ∧ r.ro = s.ro := fun pre r hr => by
    have h1 : (r.fp, r.ro) ∈ (inv pre).map (fun r => (r.fp, r.ro)) := List.mem_map.2 ⟨r, hr, rfl⟩
    rw [hsame] at h1
    obtain ⟨s, hs, he⟩ := List.mem_map.1 h1
    exact ⟨s, hs, (congrArg Prod.fst he).symm, (congrArg Prod.snd he).symm⟩
  have hltb : ∀ pre, ∀ r ∈ inv pre, ∀ b, r.fp = some b → b < wb.heap.size := fun pre r hr b hb => by
    obtain ⟨s, hs, h1, _⟩ := hfp pre r hr
    exact s.lt (hSb.all s hs) b (h1 ▸ hb)
  have hlt : ∀ pre, ∀ r ∈ inv pre, ∀ b, r.fp = some b → b < w.heap.size := fun pre r hr b hb => Nat.lt_of_lt_of_le (hltb pre r hr b hb) hwb.size
  have hnb : ∀ pre, ∀ r ∈ inv pre, r.ro = false → ∀ b, r.fp = some b → b ≠ box := fun pre r hr _ b hb => by
    have := hltb pre r hr b hb
    omega
  refine wpIn_wide.1 (wpIn_rangeFunc_ownG (n := 3) rfl (by omega) (gf := gf) (lb := lb) (lk_eval hg) trivial (fun args w => callFunc_run eg) hseq (fun h1 h2 => h2.trans h1) ?_ (Below.refl _ _) hps
    (fun pre W => St F w0 (inv pre) W ∧ w.heap.size ≤ W.heap.size) (fun _ _ _ => False) ?_ ?_ ⟨hS, Nat.le_refl _⟩ (fun x => ⟨(l1 x l).arr, []⟩) ?_ ?_ ?_ ?_)
  · intro W b o o' hb ho _ _
    exact World.putObj_heap_other (by omega)
  · rintro pre X Y row ⟨hs, hz⟩ hg hr
    exact ⟨hs.grown hw (hlt pre) hg hr, Nat.le_trans hz hg.size⟩
  · intro c pre X Y row hs
    exact hs.elim
  · intro lp x W K hK
    have := (hassign lp x W K hK).out
    rw [← hl0] at this
    exact this
  · rintro lp pre x W ⟨hs, hz⟩ _
    have hfrom : St (Gr F w0 w box) W (inv pre) W := hs.from fun r hr ho b hb => ⟨hlt pre r hr b hb, hs.own r hr ho b hb, hnb pre r hr ho b hb⟩
    refine wpIn_mono (hbody lp pre x W hfrom).out ?_
    rintro e a W' ⟨rfl, hS'⟩
    refine ⟨⟨hS'.fr.size, fun k o hk ho hc => ?_⟩, ?_, hs.back hS' fun b hb => hb.2.1, Nat.le_trans hz hS'.fr.size⟩
    · rw [hS'.fr.keep k (Array.getElem?_eq_some_iff.1 ho).1 (fun hG => by have := hG.1; omega)]; exact ho
    · exact hS'.fr.keep box (Nat.lt_of_lt_of_le hbox hz) (fun hG => hG.2.2 rfl)
  · rintro D xs W hD hxs ⟨hs, _⟩ hK
    refine (hdone D xs W hxs ?_).out
    refine ⟨hs.fr, fun r hr => ?_, List.pairwise_cons.2 ⟨fun s hm => .inr fun b h1 h2 => ?_, hs.apart⟩, fun r hr ho b hb => ?_⟩
    · rcases List.mem_cons.1 hr with rfl | hr
      · exact hK
      · exact hs.all r hr
    · cases h1
      have := hlt xs s hm D h2
      omega
    · rcases List.mem_cons.1 hr with rfl | hr
      · cases hb; exact .inr (Nat.le_trans hw hD)
      · exact hs.own r hr ho b hb
  · intro D c pre W _ _ h
    exact h.elim⟩
/-! marks -/
def markR (D : Nat) : Res := Res.obj D (.deferred (some []))
def markD (D : Nat) : Deferred := { target := .collected D, args := #[] }
theorem St.unmark {D : Nat} {o' : Obj} {ob : Obj} (hS : St Nof w0 (Res.obj D ob :: rs) w) : St Nof w0 rs (w.putObj D o') := by
  have hD : w0.heap.size ≤ D := (hS.own _ (List.mem_cons_self ..) rfl D rfl).elim (fun h => h.elim) id
  obtain ⟨h1, h2⟩ := List.pairwise_cons.1 hS.apart
  refine ⟨⟨hS.fr.os, hS.fr.tape, hS.fr.output, ?_, fun b hb hF => ?_⟩, fun r hr => ?_, h2, fun r hr => hS.own r (List.mem_cons_of_mem _ hr)⟩
  · have := hS.fr.size; simpa [World.putObj] using this
  · rw [World.putObj_heap_other (by omega)]; exact hS.fr.keep b hb hF
  · refine r.loc (hS.all r (List.mem_cons_of_mem _ hr)) fun b hb => World.putObj_heap_other fun e => ?_
    rcases h1 r hr with ⟨h, _⟩ | h
    · cases h
    · exact h D rfl (by rw [hb, e])
theorem leaves1 {n : Nat} {fn : Func} {R : Value → World → Prop} {t : Nat} {v : Value} (hr : fn.results = #[.tmp t]) (h1 : fnth l t = some v) : ∀ (Ds : List Nat) (w : World), St Nof w0 (Ds.map markR ++ rs) w → (∀ w', St Nof w0 rs w' → R v w') →
    LeavesInM Fence.wide n P fn l.arr (fun e w' => ∃ v, e = .returned v ∧ R v w') (Ds.map markD) .returning w
  | [], w, hS, k => by
    refine ⟨v, ?_, _, rfl, k w hS⟩
    have h := Rv.tmp (P := P) (w := w) h1
    unfold Rv at h
    rw [results_eq, hr]
    simp [h, go_sem]
  | D :: Ds, w, hS, k => by
    have hD : w.heap[D]? = some (.deferred (some [])) := hS.all (markR D) (List.mem_cons_self ..)
    exact ⟨by simp, .inl ⟨D, _, rfl, run_takeDeferred hD, leaves1 hr h1 Ds _ (St.unmark hS) k⟩⟩
theorem V_m1 {n : Nat} {fn : Func} {R : Value → World → Prop} {t : Nat} {v : Value} (Ds : List Nat) (hS : St Nof w0 (Ds.map markR ++ rs) w) (k : ∀ w', St Nof w0 rs w' → R v w') (hr : fn.results = #[.tmp t] := by rfl) (h1 : fnth l t = some v := by rfl) :
    Wx (bodyPostM Fence.wide n P fn fun e w' => ∃ v, e = .returned v ∧ R v w') .ret l (Ds.map markD) w := ⟨leaves1 hr h1 Ds w hS k⟩
theorem E_m {f n m : Nat} {fn : Func} {c : Code} {args : List Value} {R : Value → World → Prop} (h : Wc P c (bodyPostM Fence.wide 3 P fn fun e w' => ∃ v, e = .returned v ∧ R v w') (Fm.base (args ++ List.replicate m undef)) [] w)
    (hf : P.funcs[f]? = some fn) (hb : fn.body = some c) (hn : fn.ntmps = n) (hl : n - args.length = m) : CallsR P f args.toArray w R := by
  refine (callsIn_wide (n := 3)).1 (callsIn_of_wp_marks hf hb trivial (wpIn_wide.2 ?_) rfl)
  have : args.toArray ++ Array.replicate (fn.ntmps - args.toArray.size) undef = (Fm.base (args ++ List.replicate m undef)).arr := by
    rw [hn]; simp [Fm.arr, Fm.toList, hl]
  rw [this]
  exact h.out
/-! a loop whose rounds leave marks -/
def AgainM {α : Type} (bs : List Bool) (vals : α → List (Nat × Value)) (I : α → World → Prop) (μ : α → Nat) (l : List Value) (dsf : α → List Deferred) (s : α) (a' : Act) (w' : World) : Prop :=
  ∃ s' y', a' = ⟨(Fm.base (mask (ov (vals s') y') 0 bs l)).arr, dsf s'⟩ ∧ I s' w' ∧ μ s' < μ s
theorem C_lm {c : Code} {α : Type} {l0 : List Value} (bs : List Nat) (dsf : α → List Deferred) (vals : α → List (Nat × Value)) (I : α → World → Prop) (μ : α → Nat) (s0 : α) (h0 : I s0 w)
    (round : ∀ s y w, I s w → Wc P c (Exit.then (AgainM (runs false bs) vals I μ l0 dsf s) Q) (Fm.base (mask (ov (vals s) y) 0 (runs false bs) l0)) (dsf s) w)
    (hl : mask (ov (vals s0) (fun i => (nth l0 i).getD undef)) 0 (runs false bs) l0 = l0 := by rfl) (hds : dsf s0 = ds := by rfl) : Wc P (.loop c) Q (Fm.base l0) ds w := ⟨by
  refine wp_loop_ghost (fun n a w => ∃ s y, a = ⟨(Fm.base (mask (ov (vals s) y) 0 (runs false bs) l0)).arr, dsf s⟩ ∧ I s w ∧ μ s = n) (μ s0) ⟨s0, fun i => (nth l0 i).getD undef, by rw [hl, hds], h0, rfl⟩ ?_
  rintro n a w ⟨s, y, rfl, hI, rfl⟩
  refine wp_mono (round s y w hI).out ?_
  intro e a' w' hq
  cases e with
  | normal =>
    obtain ⟨s', y', ha, hI', hlt⟩ := hq
    exact ⟨μ s', hlt, s', y', ha, hI', rfl⟩
  | exit id => exact hq
  | goto l => exact hq
  | ret => exact hq
  | panic c => exact hq
  | outgrown => exact hq⟩
theorem R_m {l0 : List Value} {α : Type} {dsf : α → List Deferred} {bs : List Bool} {vals : α → List (Nat × Value)} {I : α → World → Prop} {μ : α → Nat} {s : α} (s' : α)
    (hI : I s' w) (hμ : μ s' < μ s) (hds : dsf s' = ds) (hl : mask (ov (vals s') (fun i => (fnth l i).getD undef)) 0 bs l0 = l.toList := by rfl) : Wx (Exit.then (AgainM bs vals I μ l0 dsf s) Q) .normal l ds w := ⟨⟨s', fun i => (fnth l i).getD undef, by rw [hl, hds]; rfl, hI, hμ⟩⟩
/-! the iterator's side: the region that calls yield -/
structure WJ (P : Program) (ops : Array Oper) (Q : Exit → Act → World → Prop) (rest : List Oper) (l : Fm) (ds : List Deferred) (w : World) : Prop where
  out : wpListIn Fence.wide 2 P ops Q rest ⟨l.arr, ds⟩ w
section
variable {ops : Array Oper} {rest : List Oper} {o : Oper} {d : Nat}
theorem J_in {id : Nat} {l' : List Oper} (h : WJ P l'.toArray Q l' l ds w) : Wc P (.region id l'.toArray false) Q l ds w := ⟨wpIn_wide.1 (wpIn_region_lit h.out)⟩
theorem J_nil (h : Wx Q .normal l ds w) : WJ P ops Q [] l ds w := ⟨h.out⟩
theorem J_x {v : Value} (he : Ex P l ds o w v) (k : WJ P ops Q rest (l.upd d v) ds w) (hw : wantF ops l o = true := by rfl) (hd : o.dst = some d := by rfl) : WJ P ops Q (o :: rest) l ds w := ⟨by
  unfold wpListIn
  rw [wantF_eq.trans hw]
  simp only [if_true]
  refine ⟨fun _ _ => trivial, ?_⟩
  show o.uponIn _ _ _ _ _ _ ((o.semAt none _).run P w)
  rw [Oper.semAt_none, he]
  show wpListIn _ _ _ _ _ _ _ _
  rw [hd, put_mk]
  exact k.out⟩
theorem J_y {lp : Nat} {f : Operand} {ar : Array Operand} {ts : Array TypeId} {args : Array Value} {R : Ending → World → Prop} (hy : YieldAt Fence.wide 1 P lp args w R) (hR : ∀ e w', R e w' → ∃ v, e = .returned v)
    (k : ∀ v w', R (.returned v) w' → WJ P ops Q rest (l.upd d v) ds w')
    (ho : o.op = .call { callee := .value f, args := ar, argTypes := ts } := by rfl) (hf : lk l f = some (.func (.yield lp) #[] #[]) := by rfl) (ha : (lks l ar.toList).toArray = args := by rfl) (hw : wantF ops l o = true := by rfl) (hd : o.dst = some d := by rfl) : WJ P ops Q (o :: rest) l ds w := ⟨by
  obtain ⟨fn, tmps, assign, body, hy, hr⟩ := hy
  unfold wpListIn
  rw [wantF_eq.trans hw]
  simp only [if_true]
  refine ⟨fun _ _ => trivial, ?_⟩
  show o.uponIn _ _ _ _ _ _ ((o.semAt none _).run P w)
  have he : (execOp (Act.mk l.arr ds).eval o).run P w = .ok (.round lp fn tmps assign body) w := by
    unfold execOp; rw [ho]
    simp only [resolve, lk_eval hf, Deferred.ofValue, lks_eval, ha]
    simpa [go_sem, invoke] using hy
  rw [Oper.semAt_none, he]
  refine ⟨fun hd => (by cases hd), RoundIn.mono hr fun e w' h => ?_⟩
  obtain ⟨v, rfl⟩ := hR e w' h
  show wpListIn _ _ _ _ _ _ _ _
  rw [hd, put_mk]
  exact (k v w' h).out⟩
end
/-- a box that is read -/
theorem boxSt {box : Nat} {v : Value} {t : TypeId} {fz : Nat × Nat} (h : w.heap[box]? = some (.cells #[v] t fz)) : St (fun b => b = box) w [Res.obj box (.cells #[v] t fz)] w := by
  refine ⟨Fr.refl _ _, fun r hr => ?_, List.pairwise_cons.2 ⟨fun s hs => (by cases hs), List.Pairwise.nil⟩, fun r hr _ b hb => ?_⟩
  · obtain rfl := List.mem_singleton.1 hr
    exact h
  · obtain rfl := List.mem_singleton.1 hr
    cases hb
    exact .inl rfl
/-! lists of resources -/
theorem St.prm {rs' : List Res} (h : St F w0 rs w) (hp : rs.Perm rs') : St F w0 rs' w :=
  ⟨h.fr, fun r hr => h.all r (hp.mem_iff.2 hr), (hp.pairwise_iff Res.apart_symm).1 h.apart, fun r hr => h.own r (hp.mem_iff.2 hr)⟩
/-- what lies ahead goes behind the known ones -/
theorem St.mv {l cs t : List Res} (h : St F w0 (l ++ (cs ++ t)) w) : St F w0 (cs ++ (l ++ t)) w := by
  refine h.prm ?_
  rw [← List.append_assoc, ← List.append_assoc]
  exact List.perm_append_comm.append_right _
/-- what a call has made -/
theorem St.join {w' : World} {rs' : List Res} (h : St F w0 rs w) (h' : St Nof w rs' w') (hro : ∀ r ∈ rs', r.ro = false) : St F w0 (rs' ++ rs) w' := by
  have hc := h.call h'.fr
  have hown : ∀ r ∈ rs', ∀ b, r.fp = some b → w.heap.size ≤ b := fun r hr b hb => (h'.own r hr (hro r hr) b hb).elim (fun h => h.elim) id
  refine ⟨hc.fr, fun r hr => ?_, List.pairwise_append.2 ⟨h'.apart, hc.apart, fun r hr s hs => .inr fun b h1 h2 => ?_⟩, fun r hr ho b hb => ?_⟩
  · rcases List.mem_append.1 hr with hr | hr
    · exact h'.all r hr
    · exact hc.all r hr
  · have := hown r hr b h1
    have := s.lt (h.all s hs) b h2
    omega
  · rcases List.mem_append.1 hr with hr | hr
    · exact .inr (Nat.le_trans h.fr.size (hown r hr b hb))
    · exact hc.own r hr ho b hb
theorem Upd.app {r r' : Res} {l rs rs' : List Res} (h : Upd r r' rs rs') : Upd r r' (l ++ rs) (l ++ rs') := by
  induction l with
  | nil => exact h
  | cons s l ih => exact .there ih
theorem Upd.appl {r r' : Res} {l l' rs : List Res} (h : Upd r r' l l') : Upd r r' (l ++ rs) (l' ++ rs) := by
  induction h with
  | here => exact .here
  | there _ ih => exact .there ih
/-- a store into a row, wherever it lies -/
theorem M_sX {ops : Array Oper} {rest : List Oper} {o : Oper} {n c j : Nat} {A : Option Addr} {x y : Operand} {t e : TypeId} {u v : Value} {xs : List Value} {rs' : List Res} (hS : St F w0 rs w) (hu : Upd (Res.row e 1 (.slice A n c) n xs) (Res.row e 1 (.slice A n c) n (xs.set j v)) rs rs') (k : ∀ w', St F w0 rs' w' → WL P ops Q rest l ds w')
    (ho : o.op = .store t x y := by rfl) (hd : o.dst = none := by rfl) (hx : lk l x = some u := by rfl) (hc : IsEl u A j := by infer_instance) (hy : lk l y = some v := by rfl) (h1 : v.oneCell' = true := by rfl)
    (ht : sizeT P t 1 = true := by rfl) (hi : j < n := by omega) : SStep P ops Q rest o l ds w := by
  rw [hc.eq] at hx; exact S_storeRow1 hS hd ho hx hy h1 hu ht hi k
instance hasObjApp {b : Nat} {ob : Obj} {l rs : List Res} [h : HasObj rs b ob] : HasObj (l ++ rs) b ob := ⟨List.mem_append_right _ h.mem⟩
/-- a drawn region within a round whose memory turns as it goes -/
theorem I_ps {β : Type} {id : Nat} {l' : List Oper} (rsf : β → List Res) (s : β) (p : Plan) (hS : St F w0 (rsf s) w) (k : ∀ w, St F w0 (rsf s) w → WP P l'.toArray Q (fun w => ∃ s, St F w0 (rsf s) w) p l [] w) (ho : NoOut Q := by infer_instance) (hm : P.follows .mixedOrders = true := by kernel_rfl)
    (hd : plainOps l'.toArray = true := by kernel_rfl) (hp : (planT l'.toArray p (Array.replicate l'.toArray.size false) && Region.noSelect l'.toArray && p.len == l'.toArray.size) = true := by kernel_rfl) : WI lp P (.region id l'.toArray true) Q l w := ⟨by
  simp only [Bool.and_eq_true, beq_iff_eq] at hp
  refine wpIn_region_any hm (wpAny_in ho.no hd _ _ _ _ (wpAny_of_held (S := fun w => ∃ s, St F w0 (rsf s) w) _ _ _ _ ?_))
  have := (k _ (hS.call (Fr.of ((Below.refl _ _).drew)))).run _ hp.1.1 hp.1.2
  rw [hp.2] at this
  exact this⟩
theorem P_ys {β : Type} {ops : Array Oper} {rsf : β → List Res} {s : β} {p : Plan} {i d : Nat} {o : Oper} {v : Value} (hS : St F w0 (rsf s) w) (h : ∀ s, Yl P (rsf s) l o v) (k : WP P ops Q (fun w => ∃ s, St F w0 (rsf s) w) p (l.upd d v) ds w) (hw : wantF ops l o = true := by rfl) (hd : o.dst = some d := by rfl)
    (hb : Blind Q := by infer_instance) : PT P ops Q (fun w => ∃ s, St F w0 (rsf s) w) p i o l ds w :=
  PT_yes hw hd ⟨s, hS⟩ (fun c a w => hb.out c a _ _ w) (fun _ ⟨s, hS⟩ => (h s).run hS) k
instance blindB {G : Nat → Prop} {W : World} {rs : List Res} : Blind (BPost G W rs) := ⟨fun _ _ _ _ _ hq => (by have h1 := hq.1; cases h1)⟩
/-- the same outside a round -/
theorem C_ps {β : Type} {id : Nat} {l' : List Oper} (rsf : β → List Res) (s : β) (p : Plan) (hS : St F w0 (rsf s) w) (k : ∀ w, St F w0 (rsf s) w → WP P l'.toArray Q (fun w => ∃ s, St F w0 (rsf s) w) p l ds w) (hm : P.follows .mixedOrders = true := by kernel_rfl)
    (hp : (planT l'.toArray p (Array.replicate l'.toArray.size false) && Region.noSelect l'.toArray && p.len == l'.toArray.size) = true := by kernel_rfl) : Wc P (.region id l'.toArray true) Q l ds w := ⟨by
  simp only [Bool.and_eq_true, beq_iff_eq] at hp
  refine wp_region_held (S := fun w => ∃ s, St F w0 (rsf s) w) hm ?_
  have := (k _ (hS.call (Fr.of ((Below.refl _ _).drew)))).run _ hp.1.1 hp.1.2
  rw [hp.2] at this
  exact this⟩
end
end Go.Proofs.Ytijmggoikieelaa
/-
  Maps that grow and shrink: a block known by its list of keys and values. Nothing here names a function of the program.
-/
namespace Go.Proofs.Ytijmggoikieelaa
open Go.RowKit

/-- where a key stands in a list, and what stands by it -/
def fdI {α β : Type} [DecidableEq α] (a : α) : List (α × β) → Nat → Option (Nat × β)
  | [], _ => none
  | (k, v) :: L, i => if a = k then some (i, v) else fdI a L (i + 1)
def fd {α β : Type} [DecidableEq α] (a : α) (L : List (α × β)) : Option β := (fdI a L 0).map (·.2)
def putL {α β : Type} [DecidableEq α] (a : α) (v : β) : List (α × β) → List (α × β)
  | [] => [(a, v)]
  | (k, u) :: L => if a = k then (k, v) :: L else (k, u) :: putL a v L
def delL {α β : Type} [DecidableEq α] (a : α) : List (α × β) → List (α × β)
  | [] => []
  | (k, u) :: L => if a = k then L else (k, u) :: delL a L
theorem fdI_add {α β : Type} [DecidableEq α] (a : α) : ∀ (L : List (α × β)) (i : Nat), fdI a L i = (fdI a L 0).map fun p => (i + p.1, p.2)
  | [], i => rfl
  | (k, v) :: L, i => by
    unfold fdI
    split
    · simp
    · rw [fdI_add a L (i + 1), fdI_add a L (0 + 1)]
      cases fdI a L 0 <;> simp <;> omega
theorem fdI_some {α β : Type} [DecidableEq α] {a : α} : ∀ {L : List (α × β)} {i : Nat} {v : β}, fdI a L 0 = some (i, v) → L[i]? = some (a, v) ∧ (∀ u, putL a u L = L.set i (a, u)) ∧ delL a L = L.eraseIdx i
  | [], i, v, h => by cases h
  | (k, u) :: L, i, v, h => by
    unfold fdI at h
    split at h
    · rename_i e
      subst e
      cases h
      exact ⟨rfl, fun u => by simp [putL], by simp [delL]⟩
    · rename_i e
      rw [fdI_add] at h
      cases hq : fdI a L 0 with
      | none => rw [hq] at h; cases h
      | some q =>
        obtain ⟨j, v'⟩ := q
        rw [hq] at h
        simp only [Option.map_some, Option.some.injEq, Prod.mk.injEq] at h
        obtain ⟨rfl, rfl⟩ := h
        obtain ⟨h1, h2, h3⟩ := fdI_some hq
        rw [show 0 + 1 + j = j + 1 by omega]
        exact ⟨by simpa using h1, fun u => by simp [putL, e, h2], by simp [delL, e, h3]⟩
theorem fdI_none {α β : Type} [DecidableEq α] {a : α} : ∀ {L : List (α × β)}, fdI a L 0 = none → (∀ u, putL a u L = L ++ [(a, u)]) ∧ delL a L = L
  | [], _ => ⟨fun u => rfl, rfl⟩
  | (k, u) :: L, h => by
    unfold fdI at h
    split at h
    · cases h
    · rename_i e
      rw [fdI_add] at h
      cases hq : fdI a L 0 with
      | some q => rw [hq] at h; cases h
      | none =>
        obtain ⟨h2, h3⟩ := fdI_none hq
        exact ⟨fun u => by simp [putL, e, h2], by simp [delL, e, h3]⟩

/-- keys: they may be keys, and are told apart -/
structure Kc (P : Program) (kt : TypeId) (α : Type) [DecidableEq α] (kv : α → Value) : Prop where
  check : ∀ em w a, (Instr.checkKey em 10000 kt (kv a)).run P w = .ok () w
  find : ∀ w a (es : List MapEntry) (L : List (α × Value)), es.map (fun e => (e.key, e.val)) = L.map (fun p => (kv p.1, p.2)) → (Instr.findKey kt (kv a) es).run P w = .ok (fdI a L 0) w
  stays : ∀ w a, (Instr.keyThatStays (kv a) (kv a)).run P w = .ok (kv a) w
/-- integers as keys -/
def iv (z : Int) : Value := .int .i64 z
theorem find_int {d : TypeDesc} (hd : d = .int .i64) (a : Int) : ∀ (es : List MapEntry) (L : List (Int × Value)) (i : Nat), es.map (fun e => (e.key, e.val)) = L.map (fun p => (iv p.1, p.2)) → Instr.findNow d (iv a) es i = some (fdI a L i)
  | [], [], i, _ => rfl
  | [], _ :: _, _, h => by cases h
  | _ :: _, [], _, h => by cases h
  | e :: es, (k, v) :: L, i, h => by
    simp only [List.map_cons, List.cons.injEq, Prod.mk.injEq] at h
    obtain ⟨⟨h1, h2⟩, h3⟩ := h
    have ih := find_int hd a es L (i + 1) h3
    subst hd
    unfold Instr.findNow fdI
    rw [h1, h2]
    simp only [iv, Instr.sameNow, if_true]
    by_cases e : a = k
    · subst e; simp
    · simp only [e, if_false]
      rw [show (a == k) = false by simpa using e]
      exact ih
theorem kc_int {P : Program} {kt : TypeId} (h : P.underlying kt = some (.int .i64)) : Kc P kt Int iv where
  check em w a := checkKey_plain h rfl
  find w a es L hL := by
    simp only [Instr.findKey, Sem.run_bind, run_underlying h, Result.andThen_ok, find_int rfl a es L 0 hL]
    rfl
  stays w a := by
    unfold Instr.keyThatStays
    rw [if_pos (by simp [iv, Instr.sameBits])]
    rfl
/-- bytes as keys -/
def uv (z : Int) : Value := .int .u8 z
theorem find_u8 {d : TypeDesc} (hd : d = .int .u8) (a : Int) : ∀ (es : List MapEntry) (L : List (Int × Value)) (i : Nat), es.map (fun e => (e.key, e.val)) = L.map (fun p => (uv p.1, p.2)) → Instr.findNow d (uv a) es i = some (fdI a L i)
  | [], [], i, _ => rfl
  | [], _ :: _, _, h => by cases h
  | _ :: _, [], _, h => by cases h
  | e :: es, (k, v) :: L, i, h => by
    simp only [List.map_cons, List.cons.injEq, Prod.mk.injEq] at h
    obtain ⟨⟨h1, h2⟩, h3⟩ := h
    have ih := find_u8 hd a es L (i + 1) h3
    subst hd
    unfold Instr.findNow fdI
    rw [h1, h2]
    simp only [uv, Instr.sameNow, if_true]
    by_cases e : a = k
    · subst e; simp
    · simp only [e, if_false]
      rw [show (a == k) = false by simpa using e]
      exact ih
theorem kc_u8 {P : Program} {kt : TypeId} (h : P.underlying kt = some (.int .u8)) : Kc P kt Int uv where
  check em w a := checkKey_plain h rfl
  find w a es L hL := by
    simp only [Instr.findKey, Sem.run_bind, run_underlying h, Result.andThen_ok, find_u8 rfl a es L 0 hL]
    rfl
  stays w a := by
    unfold Instr.keyThatStays
    rw [if_pos (by simp [uv, Instr.sameBits])]
    rfl
/-- the fields of a struct of integers -/
def intVs (vs : List Value) : Bool := vs.all fun v => match v with
  | .int .i64 _ => true
  | _ => false
theorem intVs_at {vs : List Value} (h : intVs vs = true) {i : Nat} (hi : i < vs.length) : ∃ z, nth vs i = some (.int .i64 z) := by
  have := List.all_eq_true.1 h vs[i] (List.getElem_mem hi)
  rw [nth_eq, List.getElem?_eq_getElem hi]
  split at this
  · rename_i z e; exact ⟨z, by rw [e]⟩
  · cases this
/-- a struct type whose fields are integers, one after the other -/
def intStruct (P : Program) (kt : TypeId) (n : Nat) : Bool := match P.underlying kt with
  | some (.struct fs) => fs.toList.map (·.offset) == List.range n && fs.toList.all fun f => f.name != "_" && flatT P f.type && (match P.underlying f.type with
    | some (.int .i64) => true
    | _ => false)
  | _ => false
theorem check_ints {P : Program} {kt : TypeId} {n : Nat} (h : intStruct P kt n = true) {em : Bool} {w : World} {vs : List Value} (hv : intVs vs = true) (hl : vs.length = n) : (Instr.checkKey em 10000 kt (.agg vs.toArray)).run P w = .ok () w := by
  show (Instr.checkKey em (9998 + 2) kt (.agg vs.toArray)).run P w = _
  unfold intStruct at h
  split at h
  · rename_i fs hu
    simp only [Bool.and_eq_true, beq_iff_eq] at h
    obtain ⟨h1, h2⟩ := h
    unfold Instr.checkKey
    rw [Sem.run_bind, run_underlying hu]
    simp only [Result.andThen_ok]
    have key : ∀ L : List Field, (∀ f ∈ L, f ∈ fs.toList) → (forIn L PUnit.unit fun f (_ : PUnit) => (do
        if f.name ≠ "_" then Instr.checkKey em (9998 + 1) f.type (← part f.type vs.toArray f.offset)
        pure (ForInStep.yield PUnit.unit) : Sem (ForInStep PUnit))).run P w = .ok PUnit.unit w := by
      intro L
      induction L with
      | nil => intro _; rfl
      | cons f L ih =>
        intro hL
        have hf := hL f (List.mem_cons_self ..)
        have h3 := List.all_eq_true.1 h2 f hf
        simp only [Bool.and_eq_true, bne_iff_ne, ne_eq] at h3
        obtain ⟨⟨h4, h5⟩, h6⟩ := h3
        have h7 : f.offset < vs.length := by
          have : f.offset ∈ fs.toList.map (·.offset) := List.mem_map.2 ⟨f, hf, rfl⟩
          rw [h1, List.mem_range] at this
          omega
        obtain ⟨z, hz⟩ := intVs_at hv h7
        have h8 : (Instr.checkKey em (9998 + 1) f.type (.int .i64 z)).run P w = .ok () w := by
          split at h6
          · rename_i hk
            unfold Instr.checkKey
            rw [Sem.run_bind, run_underlying hk]
            rfl
          · cases h6
        rw [List.forIn_cons, Sem.run_bind]
        simp only [h4, ne_eq, not_false_iff, if_true, Sem.run_bind, run_part h5 hz, Result.andThen_ok, h8, Sem.run_pure]
        exact ih fun g hg => hL g (List.mem_cons_of_mem _ hg)
    have := key fs.toList (fun f h => h)
    cases fs with
    | mk fl => simpa using this
  · cases h
theorem intFs_of {P : Program} {kt : TypeId} {n : Nat} {fs : Array Field} (hu : P.underlying kt = some (.struct fs)) (h : intStruct P kt n = true) {xs ys : List Value} (hx : intVs xs = true) (hy : intVs ys = true) (hlx : xs.length = n) (hly : ys.length = n) :
    intFs P fs.toList xs ys = true ∧ ((fs.toList.all fun f => valEq (nth xs f.offset) (nth ys f.offset)) = true ↔ xs = ys) := by
  unfold intStruct at h
  rw [hu] at h
  simp only [Bool.and_eq_true, beq_iff_eq] at h
  obtain ⟨h1, h2⟩ := h
  have hoff : ∀ f ∈ fs.toList, f.offset < n := fun f hf => by
    have : f.offset ∈ fs.toList.map (·.offset) := List.mem_map.2 ⟨f, hf, rfl⟩
    rwa [h1, List.mem_range] at this
  refine ⟨List.all_eq_true.2 fun f hf => ?_, fun hall => ?_, fun e => List.all_eq_true.2 fun f hf => ?_⟩
  · have h3 := List.all_eq_true.1 h2 f hf
    simp only [Bool.and_eq_true] at h3
    obtain ⟨⟨h4, h5⟩, h6⟩ := h3
    obtain ⟨z, hz⟩ := intVs_at hx (by have := hoff f hf; omega : f.offset < xs.length)
    obtain ⟨z', hz'⟩ := intVs_at hy (by have := hoff f hf; omega : f.offset < ys.length)
    split at h6
    · rename_i hk
      simp [h4, h5, hk, hz, hz']
    · cases h6
  · apply List.ext_getElem?
    intro i
    by_cases hi : i < n
    · have hm : i ∈ fs.toList.map (·.offset) := by rw [h1, List.mem_range]; exact hi
      obtain ⟨f, hf, rfl⟩ := List.mem_map.1 hm
      have h3 := List.all_eq_true.1 hall f hf
      obtain ⟨z, hz⟩ := intVs_at hx (by omega : f.offset < xs.length)
      obtain ⟨z', hz'⟩ := intVs_at hy (by omega : f.offset < ys.length)
      rw [hz, hz'] at h3
      simp only [valEq, beq_iff_eq] at h3
      rw [← nth_eq, ← nth_eq, hz, hz', h3]
    · rw [List.getElem?_eq_none (by omega), List.getElem?_eq_none (by omega)]
  · subst e
    obtain ⟨z, hz⟩ := intVs_at hx (by have := hoff f hf; omega : f.offset < xs.length)
    rw [hz]; simp [valEq]
theorem find_ask {P : Program} {kt : TypeId} {α : Type} [DecidableEq α] {kv : α → Value} (w : World) (a : α) (heq : ∀ b, (Op.equal kt (kv a) (kv b)).run P w = .ok (decide (a = b)) w) : ∀ (es : List MapEntry) (L : List (α × Value)) (i : Nat), es.map (fun e => (e.key, e.val)) = L.map (fun p => (kv p.1, p.2)) →
    (Instr.findAsking kt (kv a) es i).run P w = .ok (fdI a L i) w
  | [], [], i, _ => rfl
  | [], _ :: _, _, h => by cases h
  | _ :: _, [], _, h => by cases h
  | e :: es, (k, v) :: L, i, h => by
    simp only [List.map_cons, List.cons.injEq, Prod.mk.injEq] at h
    obtain ⟨⟨h1, h2⟩, h3⟩ := h
    have ih := find_ask w a heq es L (i + 1) h3
    unfold Instr.findAsking fdI
    rw [h1, h2, Sem.run_bind, heq k]
    simp only [Result.andThen_ok]
    by_cases e : a = k
    · simp [e, Sem.run_pure]
    · simp only [e, decide_false, Bool.false_eq_true, if_false]
      exact ih
theorem kc_ints {P : Program} {kt : TypeId} {n : Nat} {α : Type} [DecidableEq α] {kv : α → Value} (ls : α → List Value) (hkv : ∀ a, kv a = .agg (ls a).toArray) (hi : ∀ a, intVs (ls a) = true) (hl : ∀ a, (ls a).length = n) (hinj : ∀ a b, ls a = ls b → a = b)
    (h : intStruct P kt n = true) (hs : P.stoodInHeld kt = false) : Kc P kt α kv where
  check em w a := by rw [hkv]; exact check_ints h (hi a) (hl a)
  find w a es L hL := by
    obtain ⟨fs, hu⟩ : ∃ fs, P.underlying kt = some (.struct fs) := by
      unfold intStruct at h
      split at h
      · rename_i fs hu; exact ⟨fs, hu⟩
      · cases h
    have heq : ∀ b, (Op.equal kt (kv a) (kv b)).run P w = .ok (decide (a = b)) w := fun b => by
      obtain ⟨h1, h2⟩ := intFs_of hu h (hi a) (hi b) (hl a) (hl b)
      rw [hkv, hkv, eq_ints hu hs h1]
      congr 1
      by_cases e : a = b
      · rw [decide_eq_true e]; exact h2.2 (by rw [e])
      · rw [decide_eq_false e]
        cases hq : fs.toList.all fun f => valEq (nth (ls a) f.offset) (nth (ls b) f.offset) with
        | false => rfl
        | true => exact absurd (hinj _ _ (h2.1 hq)) e
    simp only [Instr.findKey, Sem.run_bind, run_underlying hu, Result.andThen_ok]
    cases es with
    | nil =>
      cases L with
      | nil => rfl
      | cons p L => cases hL
    | cons e es =>
      have : Instr.findNow (.struct fs) (kv a) (e :: es) 0 = none := by
        rw [hkv]; rfl
      rw [this]
      exact find_ask w a heq (e :: es) L 0 hL
  stays w a := by
    unfold Instr.keyThatStays
    rw [if_pos]
    · rfl
    · rw [hkv]
      show Instr.sameBits (9999 + 1) _ _ = true
      unfold Instr.sameBits
      simp only [beq_self_eq_true, Bool.true_and]
      have key : ∀ vs : List Value, intVs vs = true → ((vs.zip vs).all fun x => Instr.sameBits 9999 x.1 x.2) = true := by
        intro vs
        induction vs with
        | nil => intro _; rfl
        | cons v vs ih =>
          intro hv
          simp only [intVs, List.all_cons, Bool.and_eq_true] at hv
          simp only [List.zip_cons_cons, List.all_cons, Bool.and_eq_true]
          refine ⟨?_, ih hv.2⟩
          have := hv.1
          split at this
          · simp [Instr.sameBits]
          · cases this
      exact key _ (hi a)

/-- a map known by its keys and values, in the order of their coming -/
def Res.dm {α : Type} (kv : α → Value) (b : Nat) (L : List (α × Value)) : Res where
  fp := some b
  ro := false
  holds w := ∃ es c, w.heap[b]? = some (.map es c) ∧ es.toList.map (fun e => (e.key, e.val)) = L.map (fun p => (kv p.1, p.2))
  loc := fun ⟨es, c, h, hL⟩ hk => ⟨es, c, (hk b rfl).trans h, hL⟩
  lt := fun ⟨_, _, h, _⟩ b' hb' => by cases hb'; exact (Array.getElem?_eq_some_iff.1 h).1
class HasDm (rs : List Res) (b : Nat) {α : outParam Type} (kv : outParam (α → Value)) (L : outParam (List (α × Value))) : Prop where
  mem : Res.dm kv b L ∈ rs
instance (priority := high) hasDmH {α : Type} {kv : α → Value} {b : Nat} {L : List (α × Value)} {rs : List Res} : HasDm (Res.dm kv b L :: rs) b kv L := ⟨List.mem_cons_self ..⟩
instance hasDmT {α : Type} {kv : α → Value} {b : Nat} {L : List (α × Value)} {r : Res} {rs : List Res} [h : HasDm rs b kv L] : HasDm (r :: rs) b kv L := ⟨List.mem_cons_of_mem _ h.mem⟩
instance hasDmA {α : Type} {kv : α → Value} {b : Nat} {L : List (α × Value)} {l rs : List Res} [h : HasDm rs b kv L] : HasDm (l ++ rs) b kv L := ⟨List.mem_append_right _ h.mem⟩
class PutDm (rs : List Res) (b : Nat) {α : Type} (kv : α → Value) (L L' : List (α × Value)) (rs' : outParam (List Res)) : Prop where
  upd : Upd (Res.dm kv b L) (Res.dm kv b L') rs rs'
instance (priority := high) putDmH {α : Type} {kv : α → Value} {b : Nat} {L L' : List (α × Value)} {rs : List Res} : PutDm (Res.dm kv b L :: rs) b kv L L' (Res.dm kv b L' :: rs) := ⟨.here⟩
instance putDmT {α : Type} {kv : α → Value} {b : Nat} {L L' : List (α × Value)} {r : Res} {rs rs' : List Res} [h : PutDm rs b kv L L' rs'] : PutDm (r :: rs) b kv L L' (r :: rs') := ⟨.there h.upd⟩
class IsKc (P : Program) (kt : TypeId) {α : Type} [DecidableEq α] (kv : α → Value) : Prop where
  kc : Kc P kt α kv
class IsKv {α : Type} (kv : α → Value) (v : Value) (a : outParam α) : Prop where
  eq : v = kv a
instance isKvI {z : Int} : IsKv iv (.int .i64 z) z := ⟨rfl⟩
instance isKvU {z : Int} : IsKv uv (.int .u8 z) z := ⟨rfl⟩
def mapT (P : Program) (t : TypeId) : Option (TypeId × TypeId) := match P.underlying t with
  | some (.map kt et) => some (kt, et)
  | _ => none
theorem mapT_ok {P : Program} {t kt et : TypeId} (h : mapT P t = some (kt, et)) : P.underlying t = some (.map kt et) := by
  unfold mapT at h
  split at h
  · rename_i hu; rw [hu]; cases h; rfl
  · cases h
def zeroOf (P : Program) (t : TypeId) : Option Value := match P.info? t with
  | some i => i.zero
  | none => none
theorem zeroOf_run {P : Program} {t : TypeId} {z : Value} {w : World} (h : zeroOf P t = some z) : (zeroValue t).run P w = .ok z w := by
  unfold zeroOf at h
  cases hi : P.info? t with
  | none => rw [hi] at h; cases h
  | some j => rw [hi] at h; simp [zeroValue, typeInfo, go_sem, hi, h]
section
variable {P : Program} {ops : Array Oper} {Q : Exit → Act → World → Prop} {rest : List Oper} {o : Oper} {l : Fm} {ds : List Deferred} {w : World}
variable {F : Nat → Prop} {w0 : World} {rs rs' : List Res} {x y z : Operand} {t kt et : TypeId} {d b : Nat} {v u zv : Value} {α : Type} [DecidableEq α] {kv : α → Value} {L : List (α × Value)} {a : α}
omit [DecidableEq α] in
theorem dm_get (hS : St F w0 rs w) (hm : Res.dm kv b L ∈ rs) : ∃ es c, (getObj b).run P w = .ok (.map es c) w ∧ w.heap[b]? = some (.map es c) ∧ es.toList.map (fun e => (e.key, e.val)) = L.map (fun p => (kv p.1, p.2)) := by
  obtain ⟨es, c, h, hL⟩ := hS.get hm
  exact ⟨es, c, by simp [getObj, Sem.run, h], h, hL⟩
theorem dm_look (hS : St F w0 rs w) (hm : Res.dm kv b L ∈ rs) (hk : Kc P kt α kv) (ht : mapT P t = some (kt, et)) (hz : zeroOf P et = some zv) (ok : Bool) :
    (Instr.lookup t (.map (some b)) (kv a) ok).run P w = .ok (bif ok then .tuple #[(fd a L).getD zv, .bool (fd a L).isSome] else (fd a L).getD zv) w := by
  obtain ⟨es, c, hg, _, hL⟩ := dm_get (P := P) hS hm
  have hf := hk.find w a es.toList L hL
  cases hq : fdI a L 0 with
  | none =>
    rw [hq] at hf
    simp only [Instr.lookup, Sem.run_bind, run_underlying (mapT_ok ht), Result.andThen_ok, hg, Sem.run_pure, hk.check, hf, zeroOf_run hz, fd, hq]
    cases ok <;> rfl
  | some q =>
    rw [hq] at hf
    obtain ⟨i, u⟩ := q
    simp only [Instr.lookup, Sem.run_bind, run_underlying (mapT_ok ht), Result.andThen_ok, hg, Sem.run_pure, hk.check, hf, fd, hq]
    cases ok <;> rfl
theorem Ymo {q : Option Value} (ho : o.op = .lookup t x y true := by rfl) (hx : lk l x = some (.map (some b)) := by rfl) (hy : lk l y = some u := by rfl) (hm : HasDm rs b kv L := by infer_instance) (hu : IsKv kv u a := by infer_instance) (ht : mapT P t = some (kt, et) := by rfl) (hk : IsKc P kt kv := by infer_instance)
    (hz : zeroOf P et = some zv := by rfl) (hq : fd a L = q := by first | assumption | rfl) : Yl P rs l o (.tuple #[q.getD zv, .bool q.isSome]) := ⟨fun {_ _ w ds} hS => by
  rw [hu.eq] at hy
  unfold Ex execOp; rw [ho]; simp only [lk_eval hx, lk_eval hy]
  refine run_v ?_
  rw [dm_look hS hm.mem hk.kc ht hz, hq]; rfl⟩
theorem Ymn {q : Option Value} (ho : o.op = .lookup t x y false := by rfl) (hx : lk l x = some (.map (some b)) := by rfl) (hy : lk l y = some u := by rfl) (hm : HasDm rs b kv L := by infer_instance) (hu : IsKv kv u a := by infer_instance) (ht : mapT P t = some (kt, et) := by rfl) (hk : IsKc P kt kv := by infer_instance)
    (hz : zeroOf P et = some zv := by rfl) (hq : fd a L = q := by first | assumption | rfl) : Yl P rs l o (q.getD zv) := ⟨fun {_ _ w ds} hS => by
  rw [hu.eq] at hy
  unfold Ex execOp; rw [ho]; simp only [lk_eval hx, lk_eval hy]
  refine run_v ?_
  rw [dm_look hS hm.mem hk.kc ht hz, hq]; rfl⟩
omit [DecidableEq α] in
theorem Yml {ar : Array Operand} {ts : Array TypeId} (ho : o.op = .call { callee := .builtin .len, args := ar, argTypes := ts } := by rfl) (ha : ar.toList = [x] := by rfl) (hts : ts.toList = [t] := by rfl) (ht : mapT P t = some (kt, et) := by rfl) (hx : lk l x = some (.map (some b)) := by rfl) (hm : HasDm rs b kv L := by infer_instance) : Yl P rs l o (.int .i64 L.length) := ⟨fun {_ _ w ds} hS => by
  obtain ⟨es, c, hg, _, hL⟩ := dm_get (P := P) hS hm.mem
  have hl : es.size = L.length := by have := congrArg List.length hL; simpa using this
  obtain rfl : ar = #[x] := by cases ar; simp_all
  obtain rfl : ts = #[t] := by cases ts; simp_all
  have e1 := lk_eval (ds := ds) hx
  unfold Ex
  generalize (Act.mk l.arr ds).eval = ρ at e1 ⊢
  unfold execOp
  simp [ho, resolve, invoke, builtin, Sem.run_bind, Sem.run_pure, Result.andThen_ok, e1, Builtin.len_, run_underlying (mapT_ok ht), hg, hl, goInt]⟩
omit [DecidableEq α] in
theorem dm_set {es : Array MapEntry} {c : Nat} {L' : List (α × Value)} {b' : Nat} (hb : b' = b) (hS : St F w0 rs w) (hu : Upd (Res.dm kv b L) (Res.dm kv b L') rs rs') (hL : es.toList.map (fun e => (e.key, e.val)) = L'.map (fun p => (kv p.1, p.2))) :
    (setObj b (.map es c)).run P w = .ok () { w with heap := w.heap.setIfInBounds b (.map es c) } ∧ St F w0 rs' { w with heap := w.heap.setIfInBounds b (.map es c) } := by
  obtain ⟨es0, c0, hh, _⟩ := hS.get hu.mem
  have hlt := (Array.getElem?_eq_some_iff.1 hh).1
  refine ⟨by simp only [setObj, Sem.run, hh], hS.upd hu rfl ⟨rfl, rfl, rfl, by simp, fun i hi hne => ?_⟩ ⟨es, c, ?_, hL⟩ fun _ h => .inl h⟩
  · show (w.heap.setIfInBounds b _)[i]? = _
    rw [Array.getElem?_setIfInBounds_ne fun h => hne (by rw [h]; rfl)]
  · show (w.heap.setIfInBounds b _)[b]? = _
    rw [Array.getElem?_setIfInBounds_self_of_lt hlt]
theorem dm_put (hS : St F w0 rs w) (hu : Upd (Res.dm kv b L) (Res.dm kv b (putL a v L)) rs rs') (hk : Kc P kt α kv) (ht : mapT P t = some (kt, et)) : ∃ w', (Instr.mapUpdate t (.map (some b)) (kv a) v).run P w = .ok () w' ∧ St F w0 rs' w' := by
  obtain ⟨es, c, hg, _, hL⟩ := dm_get (P := P) hS hu.mem
  have hf := hk.find w a es.toList L hL
  cases hq : fdI a L 0 with
  | none =>
    rw [hq] at hf
    obtain ⟨h1, _⟩ := fdI_none hq
    obtain ⟨h2, h3⟩ := dm_set (P := P) (es := es.push { key := kv a, val := v, born := c }) (c := c + 1) rfl hS hu (by rw [h1]; simp [hL])
    refine ⟨_, ?_, h3⟩
    simp only [Instr.mapUpdate, Sem.run_bind, run_underlying (mapT_ok ht), Result.andThen_ok, hg, hk.check, hf, h2]
  | some q =>
    rw [hq] at hf
    obtain ⟨i, u⟩ := q
    obtain ⟨h1, h4, _⟩ := fdI_some hq
    have h5 : (es.toList.map (fun e => (e.key, e.val)))[i]? = some (kv a, u) := by rw [hL, List.getElem?_map, h1]; rfl
    rw [List.getElem?_map] at h5
    cases he : es.toList[i]? with
    | none => rw [he] at h5; cases h5
    | some e =>
      rw [he] at h5
      simp only [Option.map_some, Option.some.injEq, Prod.mk.injEq] at h5
      have hi : i < es.toList.length := (List.getElem?_eq_some_iff.1 he).1
      obtain ⟨h2, h3⟩ := dm_set (P := P) (es := es.modify i fun e => { e with key := kv a, val := v }) (c := c) rfl hS hu (by
        rw [h4, Array.toList_modify, List.map_set]
        rw [← hL]
        apply List.ext_getElem?
        intro j
        by_cases hj : i = j
        · subst hj
          have hi2 : i < (es.toList.map fun e => (e.key, e.val)).length := by simpa using hi
          rw [List.getElem?_map, List.getElem?_modify, he, List.getElem?_set_self hi2]
          simp
        · simp [List.getElem?_modify, hj, List.getElem?_set_ne hj]
          )
      refine ⟨_, ?_, h3⟩
      have he' : es[i]? = some e := by simpa using he
      simp only [Instr.mapUpdate, Sem.run_bind, run_underlying (mapT_ok ht), Result.andThen_ok, hg, hk.check, hf, he', Option.map_some, Option.getD_some, h5.1, hk.stays, h2]
theorem M_im (hS : St F w0 rs w) (k : ∀ w', St F w0 rs' w' → WL P ops Q rest l ds w') (ho : o.op = .mapUpdate t x y z := by rfl) (hd : o.dst = none := by rfl) (hx : lk l x = some (.map (some b)) := by rfl) (hy : lk l y = some u := by rfl) (hz : lk l z = some v := by rfl)
    (hm : HasDm rs b kv L := by infer_instance) (hu : IsKv kv u a := by infer_instance) (hp : PutDm rs b kv L (putL a v L) rs' := by infer_instance) (ht : mapT P t = some (kt, et) := by rfl) (hk : IsKc P kt kv := by infer_instance) : SStep P ops Q rest o l ds w := by
  rw [hu.eq] at hy
  obtain ⟨w', h1, h2⟩ := dm_put (v := v) (a := a) hS hp.upd hk.kc ht
  refine S_sk hd (w' := w') ?_ (k w' h2)
  unfold execOp; rw [ho]; simp only [lk_eval hx, lk_eval hy, lk_eval hz]
  exact run_u h1
theorem M_ii (hS : St F w0 rs w) (k : ∀ w', St F w0 rs' w' → WL P ops Q rest l ds w') (ho : o.op = .insert t x y z := by rfl) (hd : o.dst = none := by rfl) (hx : lk l x = some (.map (some b)) := by rfl) (hy : lk l y = some u := by rfl) (hz : lk l z = some v := by rfl)
    (hm : HasDm rs b kv L := by infer_instance) (hu : IsKv kv u a := by infer_instance) (hp : PutDm rs b kv L (putL a v L) rs' := by infer_instance) (ht : mapT P t = some (kt, et) := by rfl) (hk : IsKc P kt kv := by infer_instance) : SStep P ops Q rest o l ds w := by
  rw [hu.eq] at hy
  obtain ⟨w', h1, h2⟩ := dm_put (v := v) (a := a) hS hp.upd hk.kc ht
  refine S_sk hd (w' := w') ?_ (k w' h2)
  unfold execOp; rw [ho]; simp only [lk_eval hx, lk_eval hy, lk_eval hz]
  exact run_u h1
theorem map_erase {β γ : Type} (f : β → γ) : ∀ (l : List β) (i : Nat), (l.eraseIdx i).map f = (l.map f).eraseIdx i
  | [], _ => rfl
  | _ :: _, 0 => rfl
  | a :: l, i + 1 => by simp [map_erase f l i]
theorem dm_del (hS : St F w0 rs w) (hu : Upd (Res.dm kv b L) (Res.dm kv b (delL a L)) rs rs') (hk : Kc P kt α kv) (ht : mapT P t = some (kt, et)) {ty : TypeId} {t2 : TypeId} : ∃ w', (Builtin.delete_ #[t, t2] ty #[.map (some b), kv a]).run P w = .ok (.tuple #[]) w' ∧ St F w0 rs' w' := by
  obtain ⟨es, c, hg, _, hL⟩ := dm_get (P := P) hS hu.mem
  have hf := hk.find w a es.toList L hL
  cases hq : fdI a L 0 with
  | none =>
    rw [hq] at hf
    obtain ⟨_, h1⟩ := fdI_none hq
    obtain ⟨h2, h3⟩ := dm_set (P := P) (es := es) (c := c) rfl hS hu (by rw [h1]; exact hL)
    refine ⟨_, ?_, h3⟩
    simp [Builtin.delete_, Sem.run_bind, run_underlying (mapT_ok ht), Result.andThen_ok, hg, hk.check, hf, h2, Sem.run_pure]
  | some q =>
    rw [hq] at hf
    obtain ⟨i, u⟩ := q
    obtain ⟨h1, _, h4⟩ := fdI_some hq
    have hi : i < es.size := by
      have := (List.getElem?_eq_some_iff.1 h1).1
      have h5 := congrArg List.length hL
      simp at h5; omega
    obtain ⟨h2, h3⟩ := dm_set (P := P) (es := es.eraseIdxIfInBounds i) (c := c) rfl hS hu (by
      rw [h4]
      unfold Array.eraseIdxIfInBounds
      rw [dif_pos hi, Array.toList_eraseIdx]
      rw [map_erase, hL, ← map_erase])
    refine ⟨_, ?_, h3⟩
    simp [Builtin.delete_, Sem.run_bind, run_underlying (mapT_ok ht), Result.andThen_ok, hg, hk.check, hf, h2, Sem.run_pure]
theorem M_dl {t2 : TypeId} {ar : Array Operand} {ts : Array TypeId} (hS : St F w0 rs w) (k : ∀ w', St F w0 rs' w' → WL P ops Q rest l ds w') (ho : o.op = .call { callee := .builtin .delete, args := ar, argTypes := ts } := by rfl) (hd : o.dst = none := by rfl) (har : ar.toList = [x, y] := by rfl) (hts : ts.toList = [t, t2] := by rfl)
    (hx : lk l x = some (.map (some b)) := by rfl) (hy : lk l y = some u := by rfl)
    (hm : HasDm rs b kv L := by infer_instance) (hu : IsKv kv u a := by infer_instance) (hp : PutDm rs b kv L (delL a L) rs' := by infer_instance) (ht : mapT P t = some (kt, et) := by rfl) (hk : IsKc P kt kv := by infer_instance) : SStep P ops Q rest o l ds w := by
  rw [hu.eq] at hy
  obtain ⟨w', h1, h2⟩ := dm_del (ty := o.type) (t2 := t2) hS hp.upd hk.kc ht
  obtain rfl : ar = #[x, y] := by cases ar; simp_all
  obtain rfl : ts = #[t, t2] := by cases ts; simp_all
  refine S_ok0 hd (w' := w') (v := .tuple #[]) ?_ (k w' h2)
  have e1 := lk_eval (ds := ds) hx
  have e2 := lk_eval (ds := ds) hy
  generalize (Act.mk l.arr ds).eval = ρ at e1 e2 ⊢
  unfold execOp
  simp only [ho, resolve, invoke, builtin, Sem.run_bind, Sem.run_pure, Result.andThen_ok, List.map_toArray, List.map_cons, List.map_nil, e1, e2, h1]
omit [DecidableEq α] in
/-- a map written out -/
theorem St.objDm {es : List MapEntry} {c : Nat} (h : St F w0 (Res.obj b (.map es.toArray c) :: rs) w) (e : es.map (fun e => (e.key, e.val)) = L.map (fun p => (kv p.1, p.2))) : St F w0 (Res.dm kv b L :: rs) w := by
  have hb := h.all _ (List.mem_cons_self ..)
  obtain ⟨h1, h2⟩ := List.pairwise_cons.1 h.apart
  refine ⟨h.fr, fun r hr => ?_, List.pairwise_cons.2 ⟨fun r hr => ?_, h2⟩, fun r hr ho i hi => ?_⟩
  · rcases List.mem_cons.1 hr with rfl | hr
    · exact ⟨_, _, hb, e⟩
    · exact h.all r (List.mem_cons_of_mem _ hr)
  · rcases h1 r hr with ⟨h3, _⟩ | h3
    · cases h3
    · exact .inr h3
  · rcases List.mem_cons.1 hr with rfl | hr
    · exact h.own _ (List.mem_cons_self ..) rfl i hi
    · exact h.own r (List.mem_cons_of_mem _ hr) ho i hi
omit [DecidableEq α] in
/-- a new map -/
theorem St.toDm (h : St F w0 (Res.obj b (.map #[] 0) :: rs) w) : St F w0 (Res.dm kv b [] :: rs) w := St.objDm (es := []) h rfl
end
end Go.Proofs.Ytijmggoikieelaa
/-
  Maximum, minimum, exclusive or and bit clear of 64-bit integers. Nothing here names a function of the program.
-/
namespace Go.Proofs.Ytijmggoikieelaa
open Go.RowKit

def maxI (a b : Int) : Int := if b > a then b else a
def minI (a b : Int) : Int := if b < a then b else a
def xorI (a b : Int) : Int := IntKind.i64.wrap ((BitVec.ofInt 64 a ^^^ BitVec.ofInt 64 b).toNat : Nat)
def inI (a : Int) : Prop := -9223372036854775808 ≤ a ∧ a ≤ 9223372036854775807
theorem maxI_in {a b : Int} (ha : inI a) (hb : inI b) : inI (maxI a b) := by unfold maxI; split <;> assumption
theorem minI_in {a b : Int} (ha : inI a) (hb : inI b) : inI (minI a b) := by unfold minI; split <;> assumption
theorem wrap_bv (z : Int) : IntKind.i64.wrap z = (BitVec.ofInt 64 z).toInt := by
  rw [BitVec.toInt_ofInt]
  simp only [IntKind.wrap, IntKind.bits, IntKind.signed, Int.bmod]
  simp
  split <;> split <;> omega
theorem bv_wrap (x : BitVec 64) : BitVec.ofInt 64 (IntKind.i64.wrap (x.toNat : Nat)) = x := by
  rw [wrap_bv, BitVec.ofInt_toInt, BitVec.ofInt_natCast]
  simp
theorem wrap_inI (z : Int) : inI (IntKind.i64.wrap z) := by
  simp only [inI, IntKind.wrap, IntKind.bits, IntKind.signed]
  simp
  split <;> omega
theorem xorI_in {a b : Int} : inI (xorI a b) := wrap_inI _
theorem xorI_xorI {a b : Int} (ha : inI a) : xorI (xorI a b) b = a := by
  unfold xorI
  rw [bv_wrap, BitVec.xor_assoc, BitVec.xor_self, BitVec.xor_zero, wrap_bv, BitVec.ofInt_natCast]
  simp only [BitVec.ofNat_toNat, BitVec.setWidth_eq]
  rw [← wrap_bv]
  exact r_i64 ha
/-- the bits of a that are not in b -/
def andN (a b : Nat) : Nat := a &&& (18446744073709551615 - b)
theorem andN_bit {a b j : Nat} (ha : a < 18446744073709551616) (hb : b < 18446744073709551616) : (andN a b).testBit j = (a.testBit j && !b.testBit j) := by
  unfold andN
  have h := Nat.testBit_two_pow_sub_succ (n := 64) (x := b) hb j
  have e : 2 ^ 64 - (b + 1) = 18446744073709551615 - b := by omega
  rw [e] at h
  rw [Nat.testBit_and, h]
  by_cases hj : j < 64
  · simp [hj]
  · rw [Nat.testBit_lt_two_pow (x := a) (i := j) (Nat.lt_of_lt_of_le (m := 2 ^ 64) ha (Nat.pow_le_pow_right (by decide) (by omega)))]
    simp
section
variable {P : Program} {rs : List Res} {o : Oper} {l : Fm} {x y : Operand} {t t' : TypeId} {a b : Int} {ar : Array Operand} {ts : Array TypeId} {k k' : IntKind}
theorem B_xor64 : BinS P .xor .i64 a b (.int .i64 (xorI a b)) := BinS.mk fun t w => rfl
theorem B_andN64 {a b : Nat} (ha : a < 4611686018427387904) (hb : b < 4611686018427387904) : BinS P .andNot .i64 a b (.int .i64 (andN a b : Nat)) := BinS.mk fun t w => (by
  show Result.ok (Value.int .i64 (IntKind.i64.wrap ((BitVec.ofInt 64 (a : Int) &&& ~~~ BitVec.ofInt 64 (b : Int)).toNat : Int))) w = _
  have h : andN a b < 4611686018427387904 := Nat.lt_of_le_of_lt Nat.and_le_left ha
  rw [BitVec.toNat_and, BitVec.toNat_not, ofInt_64 a ha, ofInt_64 b hb]
  show Result.ok (Value.int .i64 (IntKind.i64.wrap ((andN a b : Nat) : Int))) w = _
  rw [r_i64 (by omega)])
theorem B_remI (hb : b ≠ 0) : BinS P .rem k a b (.int k (a.tmod b)) := BinS.mk fun t w => (by simp only [binOp]; simp only [Op.intDiv, if_neg hb, ne_eq, not_true, if_false]; rfl)
theorem Yrm (ho : o.op = .binOp .rem t x y t' := by rfl) (hx : lk l x = some (.int k a) := by rfl) (hy : lk l y = some (.int k b) := by rfl) (hb : b ≠ 0 := by omega) : Yl P rs l o (.int k (a.tmod b)) := ⟨fun _ => x_bins ho hx hy (B_remI hb)⟩
theorem Yxr (ho : o.op = .binOp .xor t x y t' := by rfl) (hx : lk l x = some (.int .i64 a) := by rfl) (hy : lk l y = some (.int .i64 b) := by rfl) : Yl P rs l o (.int .i64 (xorI a b)) := ⟨fun _ => x_bins ho hx hy B_xor64⟩
theorem Yan {a b : Nat} (ho : o.op = .binOp .andNot t x y t' := by rfl) (hx : lk l x = some (.int .i64 (a : Nat)) := by rfl) (hy : lk l y = some (.int .i64 (b : Nat)) := by rfl) (ha : a < 4611686018427387904 := by omega) (hb : b < 4611686018427387904 := by omega) : Yl P rs l o (.int .i64 (andN a b : Nat)) := ⟨fun _ => x_bins ho hx hy (B_andN64 ha hb)⟩
theorem Yb1 {a : Nat} (ho : o.op = .binOp .and t x y t' := by rfl) (hx : lk l x = some (.int .i64 (a : Nat)) := by rfl) (hy : lk l y = some (.int .i64 1) := by rfl) (ha : a < 4611686018427387904 := by omega) : Yl P rs l o (.int .i64 (a &&& 1 : Nat)) := ⟨fun _ => x_bins ho hx hy (B_and64 (b := 1) ha (by decide))⟩
theorem Yor {a b : Nat} (ho : o.op = .binOp .or t x y t' := by rfl) (hx : lk l x = some (.int .i64 (a : Nat)) := by rfl) (hy : lk l y = some (.int .i64 (b : Nat)) := by rfl) (ha : a < 4611686018427387904 := by omega) (hb : b < 4611686018427387904 := by omega) : Yl P rs l o (.int .i64 (a ||| b : Nat)) := ⟨fun _ => x_bins ho hx hy (B_or64 ha hb)⟩
theorem Ymx (ho : o.op = .call { callee := .builtin .max, args := ar, argTypes := ts } := by rfl) (har : ar.toList = [x, y] := by rfl) (hx : lk l x = some (.int k a) := by rfl) (hy : lk l y = some (.int k' b) := by rfl) : Yl P rs l o (.int k (maxI a b)) := ⟨fun {_ _ w ds} _ => by
  obtain rfl : ar = #[x, y] := by cases ar; simp_all
  have e1 := lk_eval (ds := ds) hx
  have e2 := lk_eval (ds := ds) hy
  unfold Ex
  generalize (Act.mk l.arr ds).eval = ρ at e1 e2 ⊢
  unfold execOp
  simp [ho, resolve, invoke, builtin, Sem.run_bind, Sem.run_pure, Result.andThen_ok, e1, e2, Builtin.max_, Builtin.max2, maxI]⟩
theorem Ymi (ho : o.op = .call { callee := .builtin .min, args := ar, argTypes := ts } := by rfl) (har : ar.toList = [x, y] := by rfl) (hx : lk l x = some (.int k a) := by rfl) (hy : lk l y = some (.int k' b) := by rfl) : Yl P rs l o (.int k (minI a b)) := ⟨fun {_ _ w ds} _ => by
  obtain rfl : ar = #[x, y] := by cases ar; simp_all
  have e1 := lk_eval (ds := ds) hx
  have e2 := lk_eval (ds := ds) hy
  unfold Ex
  generalize (Act.mk l.arr ds).eval = ρ at e1 e2 ⊢
  unfold execOp
  simp [ho, resolve, invoke, builtin, Sem.run_bind, Sem.run_pure, Result.andThen_ok, e1, e2, Builtin.min_, Builtin.min2, minI]⟩
/-! nil -/
def ptrTy (P : Program) (t : TypeId) : Bool := match P.underlying t with
  | some (.pointer _) => true
  | _ => false
def mapTy (P : Program) (t : TypeId) : Bool := match P.underlying t with
  | some (.map _ _) => true
  | _ => false
theorem run_ptrNil {w : World} {a : Option Addr} (ht : ptrTy P t = true) : (Op.equal t (.pointer a) (.pointer none)).run P w = .ok a.isNone w := by
  unfold ptrTy at ht
  split at ht
  · rename_i e hu
    show (Op.equalIn (9999 + 1) t (.pointer a) (.pointer none)).run P w = _
    unfold Op.equalIn
    rw [Sem.run_bind, run_underlying hu]
    cases a <;> rfl
  · cases ht
theorem run_mapNil {w : World} {a : Option Nat} (ht : mapTy P t = true) : (Op.equal t (.map a) (.map none)).run P w = .ok a.isNone w := by
  unfold mapTy at ht
  split at ht
  · rename_i k e hu
    show (Op.equalIn (9999 + 1) t (.map a) (.map none)).run P w = _
    unfold Op.equalIn
    rw [Sem.run_bind, run_underlying hu]
    cases a <;> rfl
  · cases ht
theorem Ypn1 {ad : Addr} (ho : o.op = .binOp .neq t x y t' := by rfl) (hx : lk l x = some (.pointer (some ad)) := by rfl) (hy : lk l y = some (.pointer none) := by rfl) (ht : ptrTy P t = true := by rfl) : Yl P rs l o (.bool true) := ⟨fun {_ _ w ds} _ => x_bin ho hx hy rfl (by
  show ((Op.equal t (.pointer (some ad)) (.pointer none)) >>= fun x => (pure (Value.bool (!x)) : Sem Value)).run P w = _
  rw [Sem.run_bind, run_ptrNil ht]; rfl)⟩
theorem Ypn0 (ho : o.op = .binOp .neq t x y t' := by rfl) (hx : lk l x = some (.pointer none) := by rfl) (hy : lk l y = some (.pointer none) := by rfl) (ht : ptrTy P t = true := by rfl) : Yl P rs l o (.bool false) := ⟨fun {_ _ w ds} _ => x_bin ho hx hy rfl (by
  show ((Op.equal t (.pointer none) (.pointer none)) >>= fun x => (pure (Value.bool (!x)) : Sem Value)).run P w = _
  rw [Sem.run_bind, run_ptrNil ht]; rfl)⟩
theorem Ype1 {ad : Addr} (ho : o.op = .binOp .eql t x y t' := by rfl) (hx : lk l x = some (.pointer (some ad)) := by rfl) (hy : lk l y = some (.pointer none) := by rfl) (ht : ptrTy P t = true := by rfl) : Yl P rs l o (.bool false) := ⟨fun {_ _ w ds} _ => x_bin ho hx hy rfl (by
  show ((Op.equal t (.pointer (some ad)) (.pointer none)) >>= fun x => (pure (Value.bool x) : Sem Value)).run P w = _
  rw [Sem.run_bind, run_ptrNil ht]; rfl)⟩
theorem Ype0 (ho : o.op = .binOp .eql t x y t' := by rfl) (hx : lk l x = some (.pointer none) := by rfl) (hy : lk l y = some (.pointer none) := by rfl) (ht : ptrTy P t = true := by rfl) : Yl P rs l o (.bool true) := ⟨fun {_ _ w ds} _ => x_bin ho hx hy rfl (by
  show ((Op.equal t (.pointer none) (.pointer none)) >>= fun x => (pure (Value.bool x) : Sem Value)).run P w = _
  rw [Sem.run_bind, run_ptrNil ht]; rfl)⟩
theorem Ymz1 {ad : Nat} (ho : o.op = .binOp .neq t x y t' := by rfl) (hx : lk l x = some (.map (some ad)) := by rfl) (hy : lk l y = some (.map none) := by rfl) (ht : mapTy P t = true := by rfl) : Yl P rs l o (.bool true) := ⟨fun {_ _ w ds} _ => x_bin ho hx hy rfl (by
  show ((Op.equal t (.map (some ad)) (.map none)) >>= fun x => (pure (Value.bool (!x)) : Sem Value)).run P w = _
  rw [Sem.run_bind, run_mapNil ht]; rfl)⟩
theorem Ymz0 (ho : o.op = .binOp .neq t x y t' := by rfl) (hx : lk l x = some (.map none) := by rfl) (hy : lk l y = some (.map none) := by rfl) (ht : mapTy P t = true := by rfl) : Yl P rs l o (.bool false) := ⟨fun {_ _ w ds} _ => x_bin ho hx hy rfl (by
  show ((Op.equal t (.map none) (.map none)) >>= fun x => (pure (Value.bool (!x)) : Sem Value)).run P w = _
  rw [Sem.run_bind, run_mapNil ht]; rfl)⟩
end
end Go.Proofs.Ytijmggoikieelaa
/-
  The steps of a walk over maps that grow, and the integer operations; lists of resources. Nothing here names a function of the program.
-/
namespace Go.Proofs.Ytijmggoikieelaa
open Go.RowKit

section
variable {P : Program} {rs : List Res} {o : Oper} {l : Fm} {x y : Operand} {t kt et : TypeId} {b : Nat} {v u zv : Value} {α : Type} [DecidableEq α] {kv : α → Value} {L : List (α × Value)} {a : α}
theorem Ymo1 (ho : o.op = .lookup t x y true := by rfl) (hx : lk l x = some (.map (some b)) := by rfl) (hy : lk l y = some u := by rfl) (hm : HasDm rs b kv L := by infer_instance) (hu : IsKv kv u a := by infer_instance) (hq : fd a L = some v := by assumption) (ht : mapT P t = some (kt, et) := by rfl) (hk : IsKc P kt kv := by infer_instance)
    (hz : zeroOf P et = some zv := by rfl) : Yl P rs l o (.tuple #[v, .bool true]) := Ymo ho hx hy hm hu ht hk hz hq
theorem Ymo0 (ho : o.op = .lookup t x y true := by rfl) (hx : lk l x = some (.map (some b)) := by rfl) (hy : lk l y = some u := by rfl) (hm : HasDm rs b kv L := by infer_instance) (hu : IsKv kv u a := by infer_instance) (hq : fd a L = none := by assumption) (ht : mapT P t = some (kt, et) := by rfl) (hk : IsKc P kt kv := by infer_instance)
    (hz : zeroOf P et = some zv := by rfl) : Yl P rs l o (.tuple #[zv, .bool false]) := Ymo ho hx hy hm hu ht hk hz hq
theorem Ymn1 (ho : o.op = .lookup t x y false := by rfl) (hx : lk l x = some (.map (some b)) := by rfl) (hy : lk l y = some u := by rfl) (hm : HasDm rs b kv L := by infer_instance) (hu : IsKv kv u a := by infer_instance) (hq : fd a L = some v := by assumption) (ht : mapT P t = some (kt, et) := by rfl) (hk : IsKc P kt kv := by infer_instance)
    (hz : zeroOf P et = some zv := by rfl) : Yl P rs l o v := Ymn ho hx hy hm hu ht hk hz hq
theorem Ymn0 (ho : o.op = .lookup t x y false := by rfl) (hx : lk l x = some (.map (some b)) := by rfl) (hy : lk l y = some u := by rfl) (hm : HasDm rs b kv L := by infer_instance) (hu : IsKv kv u a := by infer_instance) (hq : fd a L = none := by assumption) (ht : mapT P t = some (kt, et) := by rfl) (hk : IsKc P kt kv := by infer_instance)
    (hz : zeroOf P et = some zv := by rfl) : Yl P rs l o zv := Ymn ho hx hy hm hu ht hk hz hq
end
section
variable {P : Program} {ops : Array Oper} {Q : Exit → Act → World → Prop} {rest : List Oper} {o : Oper} {l : Fm} {ds : List Deferred} {w w0 : World} {F : Nat → Prop} {rs rs' : List Res} {d i : Nat} {v : Value}
theorem S_d (hS : St F w0 rs w) (k : WL P ops Q rest (l.upd d v) ds w) (h : Yl P rs l o v := by first | exact Ymo1 | exact Ymo0 | exact Ymn1 | exact Ymn0 | exact Yml | exact Yb1 | exact Ypn1 | exact Ypn0 | exact Ype1 | exact Ype0 | exact Ymz1 | exact Ymz0 | exact Yxr | exact Yan | exact Ymx | exact Ymi) (hd : o.dst = some d := by rfl) : SStep P ops Q rest o l ds w := S_q hS h k hd
theorem Q_d {K : Act → Prop} (k : WQ P ops (St F w0 rs) K rest (l.upd d v) ds) (h : Yl P rs l o v := by first | exact Ymo1 | exact Ymo0 | exact Ymn1 | exact Ymn0 | exact Yml | exact Yb1 | exact Ypn1 | exact Ypn0 | exact Ype1 | exact Ype0 | exact Ymz1 | exact Ymz0 | exact Yxr | exact Yan | exact Ymx | exact Ymi) (hd : o.dst = some d := by rfl) : QStep P ops (St F w0 rs) K rest o l ds := Q_q h k hd
theorem P_yd {β : Type} {rsf : β → List Res} {s : β} {p : Plan} (hS : St F w0 (rsf s) w) (k : WP P ops Q (fun w => ∃ s, St F w0 (rsf s) w) p (l.upd d v) ds w)
    (h : ∀ s, Yl P (rsf s) l o v := by intro s; first | exact Yp | exact Yfc | exact Yld | exact Yq | exact Ya | exact Yan | exact Yh1 | exact YlA | exact Yt | exact Yf | exact Yq | exact YlE | exact YiN | exact Yi1 | exact YsH | exact YsL) (hw : wantF ops l o = true := by rfl) (hd : o.dst = some d := by rfl) (hb : Blind Q := by infer_instance) : PT P ops Q (fun w => ∃ s, St F w0 (rsf s) w) p i o l ds w :=
  P_ys hS h k hw hd hb
theorem P_zd {β : Type} {rsf : β → List Res} {s : β} {p : Plan} (hS : St F w0 (rsf s) w) (k : WP P ops Q (fun w => ∃ s, St F w0 (rsf s) w) p (l.upd d undef) ds w) (hw : wantF ops l o = false := by rfl) (hd : o.dst = some d := by rfl) (hb : Blind Q := by infer_instance) : PT P ops Q (fun w => ∃ s, St F w0 (rsf s) w) p i o l ds w :=
  PT_no hw hd ⟨s, hS⟩ (fun c a w => hb.out c a _ _ w) k
end
section
variable {P : Program} {Q : Exit → Act → World → Prop} {l : Fm} {ds : List Deferred} {w w0 : World} {F : Nat → Prop} {rs : List Res}
/-- by a plan, of which only a part of memory is known throughout -/
theorem C_pg (rs1 : List Res) {id : Nat} {l' : List Oper} (p : Plan) (hS : St F w0 rs w) (k : ∀ w, St F w0 rs w → WP P l'.toArray Q (St F w0 rs1) p l ds w) (hm : P.follows .mixedOrders = true := by kernel_rfl)
    (hp : (planT l'.toArray p (Array.replicate l'.toArray.size false) && Region.noSelect l'.toArray && p.len == l'.toArray.size) = true := by kernel_rfl) : Wc P (.region id l'.toArray true) Q l ds w := ⟨by
  simp only [Bool.and_eq_true, beq_iff_eq] at hp
  refine wp_region_held (S := St F w0 rs1) hm ?_
  have := (k _ (hS.call (Fr.of ((Below.refl _ _).drew)))).run _ hp.1.1 hp.1.2
  rw [hp.2] at this
  exact this⟩
end
instance (priority := low) hasSlApp {A : Option Addr} {n size : Nat} {xs : List Value} {l rs : List Res} [h : HasSl rs A n size xs] : HasSl (l ++ rs) A n size xs := ⟨fun hS => h.rd (hS.sub (List.sublist_append_right _ _))⟩
section
variable {P : Program} {Q : Exit → Act → World → Prop} {l : Fm} {ds : List Deferred} {w : World}
/-- what follows is walked apart -/
theorem C_cut {c c' : Code} [Blind Q] (h : ∀ K, Blind K → (∀ l' w', Wc P c' Q l' ds w' → Wx K .normal l' ds w') → (∀ l' w', Wx Q .ret l' ds w' → Wx K .ret l' ds w') → Wc P c K l ds w) : Wc P (.seq c c') Q l ds w :=
  C_sq (h _ inferInstance (fun _ _ h => ⟨⟨h.out⟩⟩) (fun _ _ h => X_r h))
end
def sndC : Code → Code
  | .seq _ b => b
  | c => c
/-- what stands behind the first n statements of a body -/
def tailC : Nat → Code → Code
  | 0, c => c
  | n + 1, c => tailC n (sndC c)
instance putObjA {b : Nat} {ob ob' : Obj} {l rs rs' : List Res} [h : PutObj rs b ob ob' rs'] : PutObj (l ++ rs) b ob ob' (l ++ rs') := ⟨Upd.app h.upd⟩
instance hasRowA {e : TypeId} {v : Value} {size n : Nat} {xs : List Value} {l rs : List Res} [h : HasRow rs e v size n xs] : HasRow (l ++ rs) e v size n xs := ⟨List.mem_append_right _ h.mem⟩
instance putRowA {e : TypeId} {v : Value} {size n : Nat} {xs : List Value} {l rs : List Res} {mk : Value → Nat → List Value → List Res} [h : PutRow rs e v size n xs mk] : PutRow (l ++ rs) e v size n xs (fun v' n' xs' => l ++ mk v' n' xs') := ⟨fun _ _ _ => Upd.app (h.upd _ _ _)⟩
section
variable {F : Nat → Prop} {w0 w : World} {rs : List Res}
/-- four that are known go ahead -/
theorem St.mv1 {a p q r s : Res} {t : List Res} (h : St F w0 (a :: p :: q :: r :: s :: t) w) : St F w0 (p :: q :: r :: s :: a :: t) w := St.mv (l := [a]) (cs := [p, q, r, s]) h
theorem St.mv2 {a b p q r s : Res} {t : List Res} (h : St F w0 (a :: b :: p :: q :: r :: s :: t) w) : St F w0 (p :: q :: r :: s :: a :: b :: t) w := St.mv (l := [a, b]) (cs := [p, q, r, s]) h
theorem St.mv3 {a b c p q r s : Res} {t : List Res} (h : St F w0 (a :: b :: c :: p :: q :: r :: s :: t) w) : St F w0 (p :: q :: r :: s :: a :: b :: c :: t) w := St.mv (l := [a, b, c]) (cs := [p, q, r, s]) h
theorem St.mv4 {a b c d p q r s : Res} {t : List Res} (h : St F w0 (a :: b :: c :: d :: p :: q :: r :: s :: t) w) : St F w0 (p :: q :: r :: s :: a :: b :: c :: d :: t) w := St.mv (l := [a, b, c, d]) (cs := [p, q, r, s]) h
theorem St.mv5 {a b c d e p q r s : Res} {t : List Res} (h : St F w0 (a :: b :: c :: d :: e :: p :: q :: r :: s :: t) w) : St F w0 (p :: q :: r :: s :: a :: b :: c :: d :: e :: t) w := St.mv (l := [a, b, c, d, e]) (cs := [p, q, r, s]) h
theorem St.mv6 {a b c d e f p q r s : Res} {t : List Res} (h : St F w0 (a :: b :: c :: d :: e :: f :: p :: q :: r :: s :: t) w) : St F w0 (p :: q :: r :: s :: a :: b :: c :: d :: e :: f :: t) w := St.mv (l := [a, b, c, d, e, f]) (cs := [p, q, r, s]) h
theorem St.mw6 {a b c d e f p q : Res} {t : List Res} (h : St F w0 (a :: b :: c :: d :: e :: f :: p :: q :: t) w) : St F w0 (p :: q :: a :: b :: c :: d :: e :: f :: t) w := St.mv (l := [a, b, c, d, e, f]) (cs := [p, q]) h
theorem St.mu3 {a b c p q r s : Res} {t : List Res} (h : St F w0 (a :: b :: c :: p :: q :: r :: s :: t) w) : St F w0 (p :: q :: r :: s :: a :: b :: c :: t) w := St.mv (l := [a, b, c]) (cs := [p, q, r, s]) h
/-- a row cut short -/
theorem St.cut {e : TypeId} {size n c k : Nat} {A : Option Addr} {xs : List Value} (h : St F w0 (Res.row e size (.slice A n c) n xs :: rs) w) (hk : k ≤ n) (hn : 0 < n) : St F w0 (Res.row e size (.slice A k c) k (xs.take (k * size)) :: rs) w := by
  have hr : w.ownsRow 0 e size (.slice A n c) n xs := h.all _ (List.mem_cons_self ..)
  obtain ⟨h1, h2⟩ := List.pairwise_cons.1 h.apart
  have hfp : (Res.row e size (.slice A k c) k (xs.take (k * size))).fp = (Res.row e size (.slice A n c) n xs).fp := by
    cases A <;> rfl
  refine ⟨h.fr, fun r hr' => ?_, List.pairwise_cons.2 ⟨fun r hr' => ?_, h2⟩, fun r hr' ho i hi => ?_⟩
  · rcases List.mem_cons.1 hr' with rfl | hr'
    · have hkn : k * size ≤ n * size := Nat.mul_le_mul_right _ hk
      refine ⟨by rw [List.length_take, hr.1]; omega, ?_⟩
      rcases hr.2 with ⟨_, h3⟩ | ⟨g, cap, cur, hv, hg, hh, hnc, hcm, hcs, htk⟩
      · omega
      · injection hv with e1 e2 e3
        subst e1 e3
        refine .inr ⟨g, c, cur, rfl, hg, hh, by omega, hcm, hcs, ?_⟩
        rw [← htk, List.take_take, Nat.min_eq_left hkn]
    · exact h.all r (List.mem_cons_of_mem _ hr')
  · rcases h1 r hr' with ⟨h3, _⟩ | h3
    · cases h3
    · exact .inr fun b hb1 hb2 => h3 b (by rw [← hfp]; exact hb1) hb2
  · rcases List.mem_cons.1 hr' with rfl | hr'
    · exact h.own _ (List.mem_cons_self ..) rfl i (by rw [← hfp]; exact hi)
    · exact h.own r (List.mem_cons_of_mem _ hr') ho i hi
/-- a row that will only be read from now on -/
theorem St.rowRd {e : TypeId} {size n c : Nat} {A : Option Addr} {xs : List Value} (h : St F w0 (Res.row e size (.slice A n c) n xs :: rs) w) : St F w0 (Res.rd size A n xs :: rs) w := by
  have hr : Rd w size A n xs := h.rowAt (List.mem_cons_self ..)
  obtain ⟨h1, h2⟩ := List.pairwise_cons.1 h.apart
  have hfp : ∀ b, (Res.rd size A n xs).fp = some b → (Res.row e size (.slice A n c) n xs).fp = some b := fun b hb => by
    simp only [Res.rd] at hb
    split at hb
    · cases hb
    · cases A with
      | none => cases hb
      | some a => exact hb
  refine ⟨h.fr, fun r hr' => ?_, List.pairwise_cons.2 ⟨fun r hr' => ?_, h2⟩, fun r hr' ho i hi => ?_⟩
  · rcases List.mem_cons.1 hr' with rfl | hr'
    · exact hr
    · exact h.all r (List.mem_cons_of_mem _ hr')
  · rcases h1 r hr' with ⟨h3, _⟩ | h3
    · cases h3
    · exact .inr fun b hb1 hb2 => h3 b (hfp b hb1) hb2
  · rcases List.mem_cons.1 hr' with rfl | hr'
    · cases ho
    · exact h.own r (List.mem_cons_of_mem _ hr') ho i hi
/-- read-only memory, a list of it -/
theorem St.addRos : ∀ (l : List Res), (∀ r ∈ l, r.ro = true ∧ r.holds w) → (∀ s ∈ rs, s.ro = false → ∀ r ∈ l, ∀ b, r.fp = some b → s.fp = some b → False) → St F w0 rs w → St F w0 (l ++ rs) w
  | [], _, _, h => h
  | r :: l, h1, h2, h => by
    have ih := St.addRos l (fun r hr => h1 r (List.mem_cons_of_mem _ hr)) (fun s hs ho r hr => h2 s hs ho r (List.mem_cons_of_mem _ hr)) h
    refine ih.addRo (h1 r (List.mem_cons_self ..)).2 (h1 r (List.mem_cons_self ..)).1 fun s hs ho b hb1 hb2 => ?_
    rcases List.mem_append.1 hs with hs | hs
    · rw [(h1 s (List.mem_cons_of_mem _ hs)).1] at ho; cases ho
    · exact h2 s hs ho r (List.mem_cons_self ..) b hb1 hb2
theorem St.ros {W : World} {l : List Res} (h : ∀ r ∈ l, r.ro = true ∧ r.holds W) : St Nof W l W := by
  have := St.addRos (F := Nof) (w0 := W) (rs := []) l h (fun s hs => by cases hs) (St.start Nof W)
  rwa [List.append_nil] at this
end
end Go.Proofs.Ytijmggoikieelaa
