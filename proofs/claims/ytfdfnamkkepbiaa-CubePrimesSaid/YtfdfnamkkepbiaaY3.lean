/-
  The walk by short laws: steps, control, regions that draw their order. Nothing here names a function of the program.
-/
import Derived.Test.YtfdfnamkkepbiaaY2
namespace Go.Proofs.Ytfdfnamkkepbiaa
open Go.RowKit

/-- code to be walked, from a frame -/
structure Wc (P : Program) (c : Code) (Q : Exit → Act → World → Prop) (l : Fm) (ds : List Deferred) (w : World) : Prop where
  out : c.wp P Q ⟨l.arr, ds⟩ w
/-- how code ended -/
structure Wx (Q : Exit → Act → World → Prop) (e : Exit) (l : Fm) (ds : List Deferred) (w : World) : Prop where
  out : Q e ⟨l.arr, ds⟩ w
/-- the code that follows -/
structure Kon (P : Program) (c : Code) (Q : Exit → Act → World → Prop) (a : Act) (w : World) : Prop where
  out : c.wp P Q a w
section
variable {P : Program} {ops : Array Oper} {Q Q' : Exit → Act → World → Prop} {rest : List Oper} {o : Oper} {l : Fm} {ds : List Deferred} {w : World}
variable {F : Nat → Prop} {w0 : World} {rs rs' : List Res} {x y z : Operand} {t t' e : TypeId} {d : Nat} {v u : Value} {b off j : Nat} {A : Option Addr}
/-! control -/
theorem C_sq {c c' : Code} (h : Wc P c (Exit.then (Kon P c' Q) Q) l ds w) : Wc P (.seq c c') Q l ds w :=
  ⟨wp_seq (wp_mono h.out fun e a w hq => match e, hq with
    | .normal, hq => hq.out
    | .exit _, hq => hq
    | .goto _, hq => hq
    | .ret, hq => hq
    | .panic _, hq => hq
    | .outgrown, hq => hq)⟩
theorem C_rg {id : Nat} {l' : List Oper} (h : WL P l'.toArray Q l' l ds w) : Wc P (.region id l'.toArray false) Q l ds w := ⟨W_region h⟩
theorem C_bk {id : Nat} {c : Code} (h : Wc P c (Exit.inBlock id Q) l ds w) : Wc P (.block id c) Q l ds w := ⟨wp_block h.out⟩
theorem C_ct {c : Operand} {thn els : Code} (k : Wc P thn Q l ds w) (hc : lk l c = some (.bool true) := by rfl) : Wc P (.cond c thn els) Q l ds w := ⟨W_cond_t hc k.out⟩
theorem C_cf {c : Operand} {thn els : Code} (k : Wc P els Q l ds w) (hc : lk l c = some (.bool false) := by rfl) : Wc P (.cond c thn els) Q l ds w := ⟨W_cond_f hc k.out⟩
theorem C_sk (h : Wx Q .normal l ds w) : Wc P .skip Q l ds w := ⟨wp_skip h.out⟩
theorem C_ex {id : Nat} (h : Wx Q (.exit id) l ds w) : Wc P (.exit id) Q l ds w := ⟨wp_exit h.out⟩
theorem C_rt (h : Wx Q .ret l ds w) : Wc P .ret Q l ds w := ⟨wp_ret h.out⟩
theorem L_nil (h : Wx Q .normal l ds w) : WL P ops Q [] l ds w := ⟨h.out⟩
theorem X_r {K : Act → World → Prop} (h : Wx Q .ret l ds w) : Wx (Exit.then K Q) .ret l ds w := ⟨h.out⟩
theorem X_e {K : Act → World → Prop} {id : Nat} (h : Wx Q (.exit id) l ds w) : Wx (Exit.then K Q) (.exit id) l ds w := ⟨h.out⟩
theorem X_p {K : Act → World → Prop} {c : List PanicEntry} (h : Wx Q (.panic c) l ds w) : Wx (Exit.then K Q) (.panic c) l ds w := ⟨h.out⟩
theorem X_bn {id : Nat} (h : Wx Q .normal l ds w) : Wx (Exit.inBlock id Q) .normal l ds w := ⟨h.out⟩
theorem X_br {id : Nat} (h : Wx Q .ret l ds w) : Wx (Exit.inBlock id Q) .ret l ds w := ⟨h.out⟩
theorem X_bp {id : Nat} {c : List PanicEntry} (h : Wx Q (.panic c) l ds w) : Wx (Exit.inBlock id Q) (.panic c) l ds w := ⟨h.out⟩
theorem X_bh {id : Nat} (h : Wx Q .normal l ds w) : Wx (Exit.inBlock id Q) (.exit id) l ds w := ⟨by
  show (if id = id then Q .normal _ _ else _); rw [if_pos rfl]; exact h.out⟩
theorem X_be {id id' : Nat} (h : Wx Q (.exit id') l ds w) (hne : id' ≠ id := by decide) : Wx (Exit.inBlock id Q) (.exit id') l ds w := ⟨by
  show (if id' = id then Q .normal _ _ else Q (.exit id') _ _); rw [if_neg hne]; exact h.out⟩

theorem C_fr {c : Code} {l' : List Value} (e : l.toList = l') (h : Wc P c Q (Fm.base l') ds w) : Wc P c Q l ds w := ⟨by
  have : l.arr = (Fm.base l').arr := by rw [Fm.arr, e]; rfl
  rw [this]; exact h.out⟩
theorem X_k {c : Code} {l' : List Value} (e : l.toList = l') (h : Wc P c Q (Fm.base l') ds w) : Wx (Exit.then (Kon P c Q) Q') .normal l ds w := ⟨⟨(C_fr e h).out⟩⟩
/-! steps -/
theorem S_w (h : SStep P ops Q rest o l ds w) (hw : wantF ops l o = true := by rfl) : WL P ops Q (o :: rest) l ds w := h.run hw
theorem S_u (k : WL P ops Q rest (l.upd d undef) ds w) (hw : wantF ops l o = false := by rfl) (hd : o.dst = some d := by rfl) : WL P ops Q (o :: rest) l ds w := S_nay hw (S_no hd k)
theorem S_v (k : WL P ops Q rest l ds w) (hw : wantF ops l o = false := by rfl) (hd : o.dst = none := by rfl) : WL P ops Q (o :: rest) l ds w := S_nay hw (S_no0 hd k)
theorem S_q (hS : St F w0 rs w) (h : Yl P rs l o v) (k : WL P ops Q rest (l.upd d v) ds w) (hd : o.dst = some d := by rfl) : SStep P ops Q rest o l ds w := S_ex hd (h.run hS) k
/-! calls -/
theorem M_c {g : FuncId} {args : Array Value} {fs cs : Array Value} {f : Operand} {ar : Array Operand} {ts : Array TypeId} {R : Value → World → Prop} (hc : CallsR P g args w R) (k : ∀ v w', R v w' → WL P ops Q rest (l.upd d v) ds w')
    (ho : o.op = .call { callee := .value f, args := ar, argTypes := ts } := by rfl) (hd : o.dst = some d := by rfl) (hf : lk l f = some (.func (.func g) fs cs) := by rfl) (ha : (fs.toList ++ lks l ar.toList ++ cs.toList).toArray = args := by rfl) (hb : enterB P g = true := by rfl) : SStep P ops Q rest o l ds w :=
  S_call hd ho hf hb (ha ▸ hc) k
theorem M_c0 {g : FuncId} {args : Array Value} {fs cs : Array Value} {f : Operand} {ar : Array Operand} {ts : Array TypeId} {R : Value → World → Prop} (hc : CallsR P g args w R) (k : ∀ v w', R v w' → WL P ops Q rest l ds w')
    (ho : o.op = .call { callee := .value f, args := ar, argTypes := ts } := by rfl) (hd : o.dst = none := by rfl) (hf : lk l f = some (.func (.func g) fs cs) := by rfl) (ha : (fs.toList ++ lks l ar.toList ++ cs.toList).toArray = args := by rfl) (hb : enterB P g = true := by rfl) : SStep P ops Q rest o l ds w :=
  S_call0 hd ho hf hb (ha ▸ hc) k
theorem M_p {g : FuncId} {args : Array Value} {fs cs : Array Value} {f : Operand} {ar : Array Operand} {ts : Array TypeId} {E : List PanicEntry → World → Prop} (hc : CallsP P g args w E) (k : ∀ c w', E c w' → Wx Q (.panic c) l ds w')
    (ho : o.op = .call { callee := .value f, args := ar, argTypes := ts } := by rfl) (hf : lk l f = some (.func (.func g) fs cs) := by rfl) (ha : (fs.toList ++ lks l ar.toList ++ cs.toList).toArray = args := by rfl) (hb : enterB P g = true := by rfl) : SStep P ops Q rest o l ds w :=
  (SP_ hf hb (ha ▸ hc) fun c w' h => (k c w' h).out).run ⟨ts, ho⟩
theorem M_pn (k : Wx Q (.panic [{ v := .iface t v, recovered := false }]) l ds w) (ho : o.op = .panic x := by rfl) (hx : lk l x = some (.iface t v) := by rfl) : SStep P ops Q rest o l ds w := S_panic ho hx k.out
/-! new memory -/
theorem M_bA {c : List Value} (hS : St F w0 rs w) (k : ∀ b w', St F w0 (Res.obj b (.cells c.toArray t (0, 0)) :: rs) w' → WL P ops Q rest (l.upd d (.pointer (some ⟨b, 0, none⟩))) ds w')
    (ho : o.op = .box t x := by rfl) (hd : o.dst = some d := by rfl) (hx : lk l x = some (.agg c.toArray) := by rfl) : SStep P ops Q rest o l ds w := S_boxA hS hd ho hx k
theorem M_b1 (hS : St F w0 rs w) (k : ∀ b w', St F w0 (Res.obj b (.cells #[v] t (0, 0)) :: rs) w' → WL P ops Q rest (l.upd d (.pointer (some ⟨b, 0, none⟩))) ds w')
    (ho : o.op = .box t x := by rfl) (hd : o.dst = some d := by rfl) (hx : lk l x = some v := by rfl) (h1 : v.oneCell' = true := by rfl) : SStep P ops Q rest o l ds w := S_box1 hS hd ho hx h1 k
theorem M_aA {i : TypeInfo} {c : List Value} (hS : St F w0 rs w) (k : ∀ b w', St F w0 (Res.obj b (.cells c.toArray t (0, 0)) :: rs) w' → WL P ops Q rest (l.upd d (.pointer (some ⟨b, 0, none⟩))) ds w')
    (ho : o.op = .alloc t := by rfl) (hd : o.dst = some d := by rfl) (hi : P.info? t = some i := by rfl) (hz : i.zero = some (.agg c.toArray) := by rfl) : SStep P ops Q rest o l ds w := S_allocA hS hd ho hi hz k
theorem M_a1 {i : TypeInfo} (hS : St F w0 rs w) (k : ∀ b w', St F w0 (Res.obj b (.cells #[v] t (0, 0)) :: rs) w' → WL P ops Q rest (l.upd d (.pointer (some ⟨b, 0, none⟩))) ds w')
    (ho : o.op = .alloc t := by rfl) (hd : o.dst = some d := by rfl) (hi : P.info? t = some i := by rfl) (hz : i.zero = some v := by rfl) (h1 : v.oneCell' = true := by rfl) : SStep P ops Q rest o l ds w := S_alloc1 hS hd ho hi hz h1 k
theorem lkp_map2 {l : Fm} : ∀ ps : List (Nat × Operand), (lkp l ps).map (·.2) = lks l (ps.map (·.2))
  | [] => rfl
  | p :: ps => by simp [lkp, lks, lkp_map2 ps]
theorem M_sl {n : Nat} {parts : Array (Nat × Operand)} {vs : List Value} (hS : St F w0 rs w) (k : ∀ b w', St F w0 (Res.obj b (.cells vs.toArray e (0, 0)) :: rs) w' → WL P ops Q rest (l.upd d (.slice (some ⟨b, 0, none⟩) n n)) ds w')
    (ho : o.op = .buildSlice t n parts := by rfl) (hd : o.dst = some d := by rfl) (ht : elemT P t = some e := by rfl) (he : zerosT P e 1 = true := by rfl) (hp : parts.toList.map (·.1) = List.range' 0 n := by rfl) (hv : lksO l (parts.toList.map (·.2)) = some vs := by rfl) (h1 : one' vs = true := by rfl) (hn : 0 < n ∧ n ≤ 1000 := by omega) : SStep P ops Q rest o l ds w := by
  have h2 : (lkp l parts.toList).map (·.2) = vs := by rw [lkp_map2, lksO_eq hv]
  exact S_slice hS hd ho (elemT_ok ht) he hp (by rw [h2]; exact h1) hn (by rw [h2]; exact k)
theorem M_s1 {c : List Value} {parts : Array (Nat × Operand)} (hS : St F w0 rs w) (k : ∀ b w', St F w0 (Res.obj b (.cells c.toArray e (0, 0)) :: rs) w' → WL P ops Q rest (l.upd d (.slice (some ⟨b, 0, none⟩) 1 1)) ds w')
    (ho : o.op = .buildSlice t 1 parts := by rfl) (hd : o.dst = some d := by rfl) (hp : parts.toList = [(0, x)] := by rfl) (ht : elemT P t = some e := by rfl) (hx : lk l x = some (.agg c.toArray) := by rfl) (he : zerosT P e c.length = true := by rfl) (hn : 0 < c.length ∧ c.length ≤ 1000 := by simp) : SStep P ops Q rest o l ds w := S_slice1 hS hd ho hp (elemT_ok ht) hx he hn k
theorem M_mm (hS : St F w0 rs w) (k : ∀ b w', St F w0 (Res.obj b (.map #[] 0) :: rs) w' → WL P ops Q rest (l.upd d (.map (some b))) ds w') (ho : o.op = .makeMap t none := by rfl) (hd : o.dst = some d := by rfl) : SStep P ops Q rest o l ds w := S_makeMap hS hd ho k
/-! stores -/
theorem M_st {c : List Value} {ty : TypeId} {i : TypeInfo} (hS : St F w0 rs w) (k : ∀ w', St F w0 rs' w' → WL P ops Q rest l ds w')
    (ho : o.op = .store t x y := by rfl) (hd : o.dst = none := by rfl) (hx : lk l x = some u := by rfl) (hc : IsCell u b off := by infer_instance) (hy : lk l y = some v := by rfl) (h1 : v.oneCell' = true := by rfl) (hi : P.info? t = some i := by rfl) (hsz : i.size = 1 := by rfl)
    (hm : HasObj rs b (.cells c.toArray ty (0, 0)) := by infer_instance) (hu : PutObj rs b (.cells c.toArray ty (0, 0)) (.cells (c.set off v).toArray ty (0, 0)) rs' := by infer_instance) (hoff : off < c.length := by decide) : SStep P ops Q rest o l ds w := by
  rw [hc.eq] at hx; exact S_store hS hd ho hx hy h1 hi hsz hu.upd hoff k
theorem M_sA {c c' : List Value} {ty : TypeId} (hS : St F w0 rs w) (k : ∀ w', St F w0 rs' w' → WL P ops Q rest l ds w')
    (ho : o.op = .store t x y := by rfl) (hd : o.dst = none := by rfl) (hx : lk l x = some u := by rfl) (hc : IsCell u b 0 := by infer_instance) (hy : lk l y = some (.agg c'.toArray) := by rfl) (h1 : one' c' = true := by rfl)
    (hm : HasObj rs b (.cells c.toArray ty (0, 0)) := by infer_instance) (hu : PutObj rs b (.cells c.toArray ty (0, 0)) (.cells c'.toArray ty (0, 0)) rs' := by infer_instance) (hl : c'.length = c.length := by rfl) (ht : sizeT P t c'.length = true := by rfl) : SStep P ops Q rest o l ds w := by
  rw [hc.eq] at hx; exact S_storeBox hS hd ho hx hy h1 hu.upd hl ht k
theorem M_in {c : Nat} {es : List MapEntry} {kv : Value} (hS : St F w0 rs w) (kk : ∀ w', St F w0 rs' w' → WL P ops Q rest l ds w')
    (ho : o.op = .insert t x y z := by rfl) (hd : o.dst = none := by rfl) (hx : lk l x = some (.map (some b)) := by rfl) (hy : lk l y = some kv := by rfl) (hz : lk l z = some v := by rfl) (hm : HasObj rs b (.map es.toArray c) := by infer_instance)
    (hu : PutObj rs b (.map es.toArray c) (.map (es ++ [MapEntry.mk kv v c]).toArray (c + 1)) rs' := by infer_instance) (hk : newKeyT P t kv es = true := by rfl) : SStep P ops Q rest o l ds w := S_insert hS hd ho hx hy hz hu.upd hk kk
theorem M_ap {ar : Array Operand} {ts : Array TypeId} {size n m c : Nat} {xs news : List Value} {ty : TypeId} {fz : Nat × Nat} {mk : Value → Nat → List Value → List Res} (hS : St F w0 rs w)
    (k : ∀ g cap w', St F w0 (mk (.slice (some ⟨g, 0, none⟩) (n + m) cap) (n + m) (xs ++ news)) w' → WL P ops Q rest (l.upd d (.slice (some ⟨g, 0, none⟩) (n + m) cap)) ds w')
    (ho : o.op = .call { callee := .builtin .append, args := ar, argTypes := ts } := by rfl) (hd : o.dst = some d := by rfl) (har : ar.toList = [x, y] := by rfl) (hts : ts.toList = [t, t] := by rfl) (ht : elemT P t = some e := by rfl)
    (hx : lk l x = some v := by rfl) (hy : lk l y = some (.slice (some ⟨b, 0, none⟩) m c) := by rfl) (hm : HasObj rs b (.cells news.toArray ty fz) := by infer_instance) (hr : HasRow rs e v size n xs := by infer_instance)
    (hu : PutRow rs e v size n xs mk := by infer_instance) (hi : infoT P e size = true := by rfl) (hl : news.length = m * size := by rfl) (h1 : one' news = true := by rfl) (hpos : 0 < m ∧ 0 < size := by omega) (hn : n + m ≤ 4294967296 := by omega) : SStep P ops Q rest o l ds w :=
  S_append hS hd ho har hts (elemT_ok ht) hx hy hm.mem (fun v' => hu.upd v' _ _) hi hl h1 hpos hn k

/-- the row that begins at A -/
class RowAt (rs : List Res) (A : Option Addr) (e : outParam TypeId) (size n c : outParam Nat) (xs : outParam (List Value)) : Prop where
  mem : Res.row e size (.slice A n c) n xs ∈ rs
instance (priority := high) rowAtH {A : Option Addr} {e : TypeId} {size n c : Nat} {xs : List Value} {rs : List Res} : RowAt (Res.row e size (.slice A n c) n xs :: rs) A e size n c xs := ⟨List.mem_cons_self ..⟩
instance rowAtT {A : Option Addr} {e : TypeId} {size n c : Nat} {xs : List Value} {r : Res} {rs : List Res} [h : RowAt rs A e size n c xs] : RowAt (r :: rs) A e size n c xs := ⟨List.mem_cons_of_mem _ h.mem⟩
theorem M_sR {n c : Nat} {xs : List Value} {mk : Value → Nat → List Value → List Res} (hS : St F w0 rs w) (k : ∀ w', St F w0 (mk (.slice A n c) n (xs.set j v)) w' → WL P ops Q rest l ds w')
    (ho : o.op = .store t x y := by rfl) (hd : o.dst = none := by rfl) (hx : lk l x = some u := by rfl) (hc : IsEl u A j := by infer_instance) (hy : lk l y = some v := by rfl) (h1 : v.oneCell' = true := by rfl)
    (hr : RowAt rs A e 1 n c xs := by infer_instance) (hu : PutRow rs e (.slice A n c) 1 n xs mk := by infer_instance) (ht : sizeT P t 1 = true := by rfl) (hi : j < n := by omega) : SStep P ops Q rest o l ds w := by
  rw [hc.eq] at hx; exact S_storeRow1 hS hd ho hx hy h1 (hu.upd _ _ _) ht hi k
theorem M_mk (m : Nat) {i : TypeInfo} (hS : St F w0 rs w) (k : ∀ g w', St F w0 (Res.row e 1 (.slice (some ⟨g, 0, none⟩) m m) m (List.replicate m v) :: rs) w' → WL P ops Q rest (l.upd d (.slice (some ⟨g, 0, none⟩) m m)) ds w')
    (ho : o.op = .makeSlice t x y := by rfl) (hd : o.dst = some d := by rfl) (ht : elemT P t = some e := by rfl) (hx : lk l x = some (.int .i64 (m : Int)) := by rfl) (hy : lk l y = some (.int .i64 (m : Int)) := by rfl)
    (hi : P.info? e = some i := by rfl) (hz : i.zero = some v := by rfl) (h1 : v.oneCell' = true := by rfl) (hsz : i.size = 1 := by rfl) (hb : i.bytes ≤ 4096 := by decide) (hm : m ≤ 4294967296 := by omega) : SStep P ops Q rest o l ds w :=
  S_make1 hS hd ho (elemT_ok ht) hx hy hi hz h1 hsz hb hm k
/-! regions that draw their order -/
theorem C_qt {id : Nat} {l' : List Oper} (hS : St F w0 rs w) (k : WQ P l'.toArray (St F w0 rs) (fun a' => ∀ w', St F w0 rs w' → Q .normal a' w') l' l ds) (hm : P.follows .mixedOrders = true := by kernel_rfl) (hB : Region.lexB .any l'.toArray = true := by kernel_rfl) : Wc P (.region id l'.toArray true) Q l ds w := ⟨W_quiet hS hm hB k⟩
variable {K : Act → Prop}
theorem Q_w (h : QStep P ops (St F w0 rs) K rest o l ds) (hw : wantF ops l o = true := by rfl) : WQ P ops (St F w0 rs) K (o :: rest) l ds := h.run hw
theorem Q_u (k : WQ P ops (St F w0 rs) K rest (l.upd d undef) ds) (hw : wantF ops l o = false := by rfl) (hd : o.dst = some d := by rfl) : WQ P ops (St F w0 rs) K (o :: rest) l ds := Q_nay hw (Q_no hd k)
theorem Q_q (h : Yl P rs l o v) (k : WQ P ops (St F w0 rs) K rest (l.upd d v) ds) (hd : o.dst = some d := by rfl) : QStep P ops (St F w0 rs) K rest o l ds := Q_ex hd (fun _ hS => h.run hS) k
theorem Q_c {g : FuncId} {args : Array Value} {fs cs : Array Value} {f : Operand} {ar : Array Operand} {ts : Array TypeId} (hc : ∀ w, St F w0 rs w → CallsR P g args w fun v' w' => v' = v ∧ St F w0 rs w') (k : WQ P ops (St F w0 rs) K rest (l.upd d v) ds)
    (ho : o.op = .call { callee := .value f, args := ar, argTypes := ts } := by rfl) (hd : o.dst = some d := by rfl) (hf : lk l f = some (.func (.func g) fs cs) := by rfl) (ha : (fs.toList ++ lks l ar.toList ++ cs.toList).toArray = args := by rfl) (hb : enterB P g = true := by rfl) : QStep P ops (St F w0 rs) K rest o l ds :=
  Q_call hd ho hf hb (ha ▸ hc) k
theorem Q_n (k : ∀ w', St F w0 rs w' → Wx Q .normal l ds w') : WQ P ops (St F w0 rs) (fun a' => ∀ w', St F w0 rs w' → Q .normal a' w') [] l ds := WQ_nil fun w' hS => (k w' hS).out
/-- by a plan -/
theorem C_pl {id : Nat} {l' : List Oper} (p : Plan) (hS : St F w0 rs w) (k : ∀ w, St F w0 rs w → WP P l'.toArray Q (St F w0 rs) p l ds w) (hm : P.follows .mixedOrders = true := by kernel_rfl)
    (hp : (planT l'.toArray p (Array.replicate l'.toArray.size false) && Region.noSelect l'.toArray && p.len == l'.toArray.size) = true := by kernel_rfl) : Wc P (.region id l'.toArray true) Q l ds w := ⟨W_plan1 p hS hm hp k⟩
theorem C_pm {α : Type} {id : Nat} {l' : List Oper} (p : Plan) (post : α → Fm → Fm) (rs2 : α → List Res) (hS : St F w0 rs w)
    (k1 : ∀ w, St F w0 rs w → WP P l'.toArray (Meet F w0 post rs2 l ds) (St F w0 rs) p l ds w) (k2 : ∀ s w, St F w0 (rs2 s) w → Wx Q .normal (post s l) ds w) (hm : P.follows .mixedOrders = true := by kernel_rfl)
    (hp : (planT l'.toArray p (Array.replicate l'.toArray.size false) && Region.noSelect l'.toArray && p.len == l'.toArray.size) = true := by kernel_rfl) : Wc P (.region id l'.toArray true) Q l ds w := ⟨W_plan p post rs2 hS hm hp k1 fun s w h => (k2 s w h).out⟩
section
variable {p q : Plan} {i : Nat}
/-- panics do not depend on the frame's temporaries -/
class Blind (Q : Exit → Act → World → Prop) : Prop where
  out : ∀ c (a : Act) d v w, Q (.panic c) (a.put d v) w → Q (.panic c) a w
instance blindThen {K : Act → World → Prop} [h : Blind Q] : Blind (Exit.then K Q) := ⟨fun c a d v w hq => h.out c a d v w hq⟩
instance blindBlock {id : Nat} [h : Blind Q] : Blind (Exit.inBlock id Q) := ⟨fun c a d v w hq => h.out c a d v w hq⟩
instance blindBody {fn : Func} {R : Ending → World → Prop} : Blind (bodyPost P fn R) := ⟨fun _ a d v w hq => by
  cases d <;> exact hq⟩
instance blindMeet {α : Type} {post : α → Fm → Fm} {rs2 : α → List Res} {l0 : Fm} : Blind (Meet F w0 post rs2 l0 ds) := ⟨fun _ _ _ _ _ h => (by have h1 := h.1; cases h1)⟩
theorem P_y (hS : St F w0 rs w) (h : Yl P rs l o v) (k : WP P ops Q (St F w0 rs) p (l.upd d v) ds w) (hw : wantF ops l o = true := by rfl) (hd : o.dst = some d := by rfl) (hb : Blind Q := by infer_instance) : PT P ops Q (St F w0 rs) p i o l ds w :=
  PT_yes hw hd hS (fun c a w => hb.out c a _ _ w) (fun _ hS => h.run hS) k
theorem P_z (hS : St F w0 rs w) (k : WP P ops Q (St F w0 rs) p (l.upd d undef) ds w) (hw : wantF ops l o = false := by rfl) (hd : o.dst = some d := by rfl) (hb : Blind Q := by infer_instance) : PT P ops Q (St F w0 rs) p i o l ds w :=
  PT_no hw hd hS (fun c a w => hb.out c a _ _ w) k
theorem P_f {S : World → Prop} (h : ∀ Q', (∀ l' w', S w' → WP P ops Q S p l' ds w' → Wx Q' .normal l' ds w') → (∀ c w', Wx Q (.panic c) l ds w' → Wx Q' (.panic c) l ds w') → WL P ops Q' [o] l ds w) : PF P ops Q S p o l ds w :=
  PF_mk fun Q' h1 h2 => h Q' (fun l' w' hS hk => ⟨h1 l' w' hS hk⟩) (fun c w' hq => ⟨h2 c _ w' hq.out⟩)
theorem P_d {S : World → Prop} (h : Wx Q .normal l ds w) : WP P ops Q S .done l ds w := P_done h.out
theorem P_m {α : Type} {post : α → Fm → Fm} {rs2 : α → List Res} {l0 : Fm} {S : World → Prop} (s : α) (hS : St F w0 (rs2 s) w) (hl : l.toList = (post s l0).toList := by rfl) : WP P ops (Meet F w0 post rs2 l0 ds) S .done l ds w := P_done (P_meet s hl hS)
end
end

/-! heads, ends, loops -/
theorem E_r {P : Program} {f n m : Nat} {fn : Func} {c : Code} {args : List Value} {w : World} {R : Value → World → Prop}
    (h : Wc P c (bodyPost P fn fun e w' => ∃ v, e = .returned v ∧ R v w') (Fm.base (args ++ List.replicate m undef)) [] w) (hf : P.funcs[f]? = some fn) (hb : fn.body = some c) (hn : fn.ntmps = n) (hl : n - args.length = m) : CallsR P f args.toArray w R :=
  enterR hf hb hn (by rw [hl]) h.out
theorem E_p {P : Program} {f n m : Nat} {fn : Func} {c : Code} {args : List Value} {w : World} {E : List PanicEntry → World → Prop}
    (h : Wc P c (bodyPost P fn fun e w' => ∃ c, e = .panicked c ∧ E c w') (Fm.base (args ++ List.replicate m undef)) [] w) (hf : P.funcs[f]? = some fn) (hb : fn.body = some c) (hn : fn.ntmps = n) (hl : n - args.length = m) : CallsP P f args.toArray w E :=
  enterP hf hb hn (by rw [hl]) h.out
section
variable {P : Program} {l : Fm} {w w0 : World} {fn : Func} {R : Value → World → Prop} {E : List PanicEntry → World → Prop}
theorem V_0 (h : R (.tuple #[]) w) (hr : fn.results = #[] := by rfl) : Wx (bodyPost P fn fun e w' => ∃ v, e = .returned v ∧ R v w') .ret l [] w := ⟨W_ret0 hr h⟩
theorem V_e (h : R (.tuple #[]) w) (hr : fn.results = #[] := by rfl) : Wx (bodyPost P fn fun e w' => ∃ v, e = .returned v ∧ R v w') .normal l [] w := ⟨W_end0 hr h⟩
theorem V_1 {t : Nat} {v : Value} (h : R v w) (hr : fn.results = #[.tmp t] := by rfl) (h1 : fnth l t = some v := by rfl) : Wx (bodyPost P fn fun e w' => ∃ v, e = .returned v ∧ R v w') .ret l [] w := ⟨W_ret1 hr (Rv.tmp h1) h⟩
theorem V_2 {t t' : Nat} {v v' : Value} (h : R (.tuple #[v, v']) w) (hr : fn.results = #[.tmp t, .tmp t'] := by rfl) (h1 : fnth l t = some v := by rfl) (h2 : fnth l t' = some v' := by rfl) : Wx (bodyPost P fn fun e w' => ∃ v, e = .returned v ∧ R v w') .ret l [] w := ⟨W_ret2 hr (Rv.tmp h1) (Rv.tmp h2) h⟩
theorem V_p {c : List PanicEntry} (h : E c w) : Wx (bodyPost P fn fun e w' => ∃ c, e = .panicked c ∧ E c w') (.panic c) l [] w := ⟨W_panic h⟩
/-- slots that a loop writes, as lengths of runs: kept, written, kept .. -/
def runs : Bool → List Nat → List Bool
  | _, [] => []
  | b, n :: ns => List.replicate n b ++ runs (!b) ns
theorem C_lp {Q : Exit → Act → World → Prop} {ds : List Deferred} {c : Code} {α : Type} {l0 : List Value} (bs : List Nat) (vals : α → List (Nat × Value)) (I : α → World → Prop) (μ : α → Nat) (s0 : α) (h0 : I s0 w)
    (round : ∀ s y w, I s w → Wc P c (Exit.then (Again (runs false bs) vals I μ l0 ds s) Q) (Fm.base (mask (ov (vals s) y) 0 (runs false bs) l0)) ds w)
    (hl : mask (ov (vals s0) (fun i => (nth l0 i).getD undef)) 0 (runs false bs) l0 = l0 := by rfl) : Wc P (.loop c) Q (Fm.base l0) ds w :=
  ⟨W_loop (l := l0) (runs false bs) vals I μ s0 hl h0 fun s y w hI => (round s y w hI).out⟩
theorem R_e {Q : Exit → Act → World → Prop} {l0 : List Value} {ds : List Deferred} {α : Type} {bs : List Bool} {vals : α → List (Nat × Value)} {I : α → World → Prop} {μ : α → Nat} {s : α} (s' : α)
    (hI : I s' w) (hμ : μ s' < μ s) (hl : mask (ov (vals s') (fun i => (fnth l i).getD undef)) 0 bs l0 = l.toList := by rfl) : Wx (Exit.then (Again bs vals I μ l0 ds s) Q) .normal l ds w := ⟨round_end s' hl hI hμ⟩
end
end Go.Proofs.Ytfdfnamkkepbiaa
