/-
  Regions that draw their order and write: a plan in which only what reads no memory is taken first. Nothing here names a function of the program.
-/
import Derived.Test.YtfdfnamkkepbiaaY3
namespace Go.Proofs.Ytfdfnamkkepbiaa
open Go.RowKit
section
variable {P : Program} {ops : Array Oper} {Q : Exit → Act → World → Prop} {o : Oper} {l : Fm} {ds : List Deferred} {w : World} {F : Nat → Prop} {w0 : World} {rs : List Res} {d : Nat} {v : Value} {p : Plan} {i : Nat}
def Any : World → Prop := fun _ => True
/-- what the branches come to: a state s, a frame, what is known of memory -/
def MeetA {α : Type} (F : Nat → Prop) (w0 : World) (post : α → Fm → Fm) (rs2 : α → List Res) (l : Fm) (ds : List Deferred) : Exit → Act → World → Prop := Meet F w0 post rs2 l ds
theorem C_p0 {α : Type} {id : Nat} {l' : List Oper} (p : Plan) (post : α → Fm → Fm) (rs2 : α → List Res) (hS : St F w0 rs w)
    (k1 : ∀ w, St F w0 rs w → WP P l'.toArray (Meet F w0 post rs2 l ds) Any p l ds w) (k2 : ∀ s w, St F w0 (rs2 s) w → Wx Q .normal (post s l) ds w) (hm : P.follows .mixedOrders = true := by kernel_rfl)
    (hp : (planT l'.toArray p (Array.replicate l'.toArray.size false) && Region.noSelect l'.toArray && p.len == l'.toArray.size) = true := by kernel_rfl) : Wc P (.region id l'.toArray true) Q l ds w := ⟨by
  simp only [Bool.and_eq_true, beq_iff_eq] at hp
  refine wp_mono (Q := Meet F w0 post rs2 l ds) ?_ ?_
  · refine wp_region_held (S := Any) hm ?_
    have := (k1 _ (hS.call (Fr.of ((Below.refl _ _).drew)))).run _ hp.1.1 hp.1.2
    rw [hp.2] at this
    exact this
  · rintro e a w' ⟨rfl, s, rfl, hs⟩
    exact (k2 s w' hs).out⟩
theorem P_a (h : Yl P [] l o v) (k : WP P ops Q Any p (l.upd d v) ds w) (hw : wantF ops l o = true := by rfl) (hd : o.dst = some d := by rfl) (hb : Blind Q := by infer_instance) : PT P ops Q Any p i o l ds w :=
  PT_yes hw hd trivial (fun c a w => hb.out c a _ _ w) (fun w _ => h.run (St.start Nof w)) k
theorem P_b (k : WP P ops Q Any p (l.upd d undef) ds w) (hw : wantF ops l o = false := by rfl) (hd : o.dst = some d := by rfl) (hb : Blind Q := by infer_instance) : PT P ops Q Any p i o l ds w :=
  PT_no hw hd trivial (fun c a w => hb.out c a _ _ w) k
theorem P_e {α : Type} {post : α → Fm → Fm} {rs2 : α → List Res} {l0 : Fm} (s : α) (hS : St F w0 (rs2 s) w) (hl : l.toList = (post s l0).toList := by rfl) : WP P ops (Meet F w0 post rs2 l0 ds) Any .done l ds w := P_done (P_meet s hl hS)
end
/-! a call that returns or panics -/
section
variable {P : Program} {f n m : Nat} {fn : Func} {c : Code} {args : List Value} {w : World} {l : Fm} {Φ : Ending → World → Prop}
theorem E_g (h : Wc P c (bodyPost P fn Φ) (Fm.base (args ++ List.replicate m undef)) [] w) (hf : P.funcs[f]? = some fn) (hb : fn.body = some c) (hn : fn.ntmps = n) (hl : n - args.length = m) : Calls P f args.toArray w Φ := by
  refine calls_of_wp hf hb ?_
  have : args.toArray ++ Array.replicate (fn.ntmps - args.toArray.size) undef = (Fm.base (args ++ List.replicate m undef)).arr := by
    rw [hn]; simp [Fm.arr, Fm.toList, hl]
  rw [this]
  exact h.out
theorem G_1 {t : Nat} {v : Value} (h : Φ (.returned v) w) (hr : fn.results = #[.tmp t] := by rfl) (h1 : fnth l t = some v := by rfl) : Wx (bodyPost P fn Φ) .ret l [] w :=
  ⟨bodyPost_ret (v := v) (by have h1 := Rv.tmp (P := P) (w := w) h1; unfold Rv at h1; rw [results_eq, hr]; simp [h1, go_sem]) rfl h⟩
theorem G_p {ch : List PanicEntry} (h : Φ (.panicked ch) w) : Wx (bodyPost P fn Φ) (.panic ch) l [] w := ⟨⟨rfl, h⟩⟩
end
/-- a byte as a string -/
theorem Ycs {P : Program} {rs : List Res} {o : Oper} {l : Fm} {x : Operand} {t t' : TypeId} {k k' : IntKind} {c : UInt8} (ho : o.op = .convert t t' x := by rfl) (ht : intTy P t = some k := by rfl) (ht' : P.underlying t' = some .string := by rfl) (hx : lk l x = some (.int k' (c.toNat : Int)) := by rfl) (hc : c.toNat < 128 := by omega) : Yl P rs l o (.string ⟨[c].toArray⟩) := ⟨fun {_ _ w ds} _ => by
  unfold Ex execOp; rw [ho]; simp only [lk_eval hx]
  refine run_v ?_
  have h1 : Utf8.valid (c.toNat : Int) = true := by simp [Utf8.valid]; omega
  have h2 : Utf8.encode (c.toNat : Int) = ⟨[c].toArray⟩ := by
    unfold Utf8.encode
    simp only [h1, if_true, Int.toNat_natCast]
    rw [if_pos hc]
    simp
  simp only [convert, Sem.run_bind, run_underlying (intTy_ok ht), run_underlying ht', Result.andThen_ok, Conv.intToString, h2]
  rfl⟩
end Go.Proofs.Ytfdfnamkkepbiaa
