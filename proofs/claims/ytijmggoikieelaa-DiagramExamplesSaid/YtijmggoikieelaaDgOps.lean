/-
  The laws' operations: a store with room, its functions.
-/
import Derived.Test.YtijmggoikieelaaDgLaw
namespace Go.Proofs.Ytijmggoikieelaa
open Go.RowKit

theorem Yb4 {P : Program} {rs : List Res} {o : Oper} {l : Fm} {x y : Operand} {t t' : TypeId} {k : IntKind} {a : Nat} (ho : o.op = .binOp .rem t x y t' := by rfl) (hx : lk l x = some (.int k (a : Nat)) := by rfl) (hy : lk l y = some (.int k 4) := by rfl) : Yl P rs l o (.int k (a % 4 : Nat)) := ⟨fun _ => x_bins ho hx hy (B_rem (a := a) (b := 4) (by decide))⟩
theorem tabF_iv (f : Nat → Int) {n z : Nat} (hz : z < n) : ((tabF f n).map iv)[z]? = some (.int .i64 (f z)) := by
  rw [List.getElem?_map, getD_get (by rw [tabF_len]; exact hz), tabF_getD hz]; rfl
/-- a store of capacity 4096 that holds at most k functions -/
structure Sto (m : Nat) (N : List Dg.Nd) (kn : List Nat) (k : Nat) : Prop where
  m4 : m ≤ 4
  si : ∃ G, Dg.SI m N G kn ∧ G.length ≤ k
  nc : N.length ≤ 4096
/-- one function more -/
structure Nxt (m : Nat) (N : List Dg.Nd) (kn : List Nat) (k : Nat) (N' : List Dg.Nd) (kn' : List Nat) (r : Nat) (f : Nat → Int) : Prop where
  sto : Sto m N' kn' (k + 1)
  new : Fun m N' kn' r f
  old : ∀ (s : Nat) (g : Nat → Int), Fun m N kn s g → Fun m N' kn' s g
theorem Sto.ok {m : Nat} {N : List Dg.Nd} {kn : List Nat} {k : Nat} (h : Sto m N kn k) : Dg.Ok m N := by
  obtain ⟨G, h1, _⟩ := h.si
  exact h1.inv.ok
theorem Sto.eq {m : Nat} {N : List Dg.Nd} {kn : List Nat} {k r s : Nat} {f g : Nat → Int} (h : Sto m N kn k) (hr : Fun m N kn r f) (hs : Fun m N kn s g) : r = s ↔ ∀ y, y < 2 ^ m → f y = g y := by
  obtain ⟨G, h1, _⟩ := h.si
  exact hr.eq h1 hs
theorem Good.sto {s : Rn} (hG : Good s) (hc : s.cp = 4096) {k : Nat} (hk : s.R.length ≤ k) : Sto s.m s.N s.kn k :=
  ⟨hG.m6, ⟨_, hG.si, by rw [List.length_map]; exact Nat.le_trans hG.ml hk⟩, by rw [← hc]; exact hG.nc⟩
theorem ins_room {m : Nat} {N : List Dg.Nd} {kn : List Nat} {k : Nat} (h : Sto m N kn k) (hk : k ≤ 100) {f : Nat → Int} (g : Nat → Int) (hf : ∀ y, y < 2 ^ m → f y = g y) :
    ∃ (r : Nat) (N' : List Dg.Nd) (kn' : List Nat), insD f m 4096 N kn = ((r : Int), 0, N', kn') ∧ Nxt m N kn k N' kn' r g := by
  obtain ⟨G, h1, h2⟩ := h.si
  have hp : 2 ^ (m + 1) ≤ 2 ^ 5 := Nat.pow_le_pow_right (by decide) (by have := h.m4; omega)
  have hb : (G.length + 1) * 2 ^ (m + 1) ≤ 101 * 2 ^ 5 := Nat.mul_le_mul (by omega) hp
  obtain ⟨r, N', kn', e, g1, g2, g3, g4⟩ := ins_new h1 g hf (cp := 4096) (Nat.le_trans hb (by decide))
  exact ⟨r, N', kn', e, ⟨h.m4, ⟨_, g1, by simp only [List.length_append, List.length_singleton]; omega⟩, g4⟩, g2, g3⟩
def resF (f : Nat → Int) (v : Nat) (b : Bool) (x : Nat) : Int := f (if b = true then x ||| two v else andN x (two v))
def exiF (f : Nat → Int) (v : Nat) (x : Nat) : Int := maxI (f (x ||| two v)) (f (andN x (two v)))
def appF (op : Nat) (f g : Nat → Int) (x : Nat) : Int := valO op (f x) (g x)
section
variable {F : Nat → Prop} {w0 w : World} {rs : List Res} {sb m bi bk c k : Nat} {A : Option Addr} {N : List Dg.Nd} {kn : List Nat}
theorem lcst (v : Int) (hst : Sto m N kn k) (hk : k ≤ 100) (hS : St F w0 (stR sb m 4096 N kn bi bk A c rs) w) :
    CallsR Try.prog 22 #[.pointer (some ⟨sb, 0, none⟩), .int .i64 v] w fun r w' => ∃ q N' kn' A' c', r = .tuple #[.int .i64 (q : Nat), .int .i64 0] ∧ Nxt m N kn k N' kn' q (fun _ => v) ∧ St F w0 (stR sb m 4096 N' kn' bi bk A' c' rs) w' := by
  have hm6 : m ≤ 6 := Nat.le_trans hst.m4 (by decide)
  have h := dcstR v hm6 hst.ok hst.nc (Nat.le_refl _) hS
  obtain ⟨q, N', kn', e, hx⟩ := ins_room hst hk (f := fun _ => v) (fun _ => v) (fun _ _ => rfl)
  rw [e] at h
  exact CallsR.mono h fun r w' ⟨h1, A', c', h2⟩ => ⟨q, N', kn', A', c', h1, hx, h2⟩
theorem lapp {a b : Nat} {f g : Nat → Int} (op : Nat) (hop : 1 ≤ op ∧ op ≤ 4) (ha : Fun m N kn a f) (hb : Fun m N kn b g) (hst : Sto m N kn k) (hk : k ≤ 100) (hS : St F w0 (stR sb m 4096 N kn bi bk A c rs) w) :
    CallsR Try.prog 20 #[.pointer (some ⟨sb, 0, none⟩), .int .u8 (op : Nat), .int .i64 (a : Nat), .int .i64 (b : Nat)] w fun r w' => ∃ q N' kn' A' c', r = .tuple #[.int .i64 (q : Nat), .int .i64 0] ∧ Nxt m N kn k N' kn' q (appF op f g) ∧ St F w0 (stR sb m 4096 N' kn' bi bk A' c' rs) w' := by
  have hm6 : m ≤ 6 := Nat.le_trans hst.m4 (by decide)
  have h := dappT (show op < 256 by omega) hop ha.mem hb.mem ha.lt hb.lt hm6 hst.ok hst.nc (Nat.le_refl _) hS
  obtain ⟨q, N', kn', e, hx⟩ := ins_room hst hk (f := fun x => valO op (Dg.ev N a x) (Dg.ev N b x)) (appF op f g) (fun y hy => by rw [ha.ev y hy, hb.ev y hy]; rfl)
  rw [e] at h
  exact CallsR.mono h fun r w' ⟨h1, A', c', h2⟩ => ⟨q, N', kn', A', c', h1, hx, h2⟩
theorem lappZ {a b : Nat} {f g : Nat → Int} (z : Int) (op : Nat) (hz : z = op) (hop : 1 ≤ op ∧ op ≤ 4) (ha : Fun m N kn a f) (hb : Fun m N kn b g) (hst : Sto m N kn k) (hk : k ≤ 100) (hS : St F w0 (stR sb m 4096 N kn bi bk A c rs) w) :
    CallsR Try.prog 20 #[.pointer (some ⟨sb, 0, none⟩), .int .u8 z, .int .i64 (a : Nat), .int .i64 (b : Nat)] w fun r w' => ∃ q N' kn' A' c', r = .tuple #[.int .i64 (q : Nat), .int .i64 0] ∧ Nxt m N kn k N' kn' q (appF op f g) ∧ St F w0 (stR sb m 4096 N' kn' bi bk A' c' rs) w' := by
  subst hz
  exact lapp op hop ha hb hst hk hS
theorem lres {a v : Nat} {f : Nat → Int} (val : Bool) (hv : v < m) (ha : Fun m N kn a f) (hst : Sto m N kn k) (hk : k ≤ 100) (hS : St F w0 (stR sb m 4096 N kn bi bk A c rs) w) :
    CallsR Try.prog 19 #[.pointer (some ⟨sb, 0, none⟩), .int .i64 (a : Nat), .int .i64 (v : Nat), .bool val] w fun r w' => ∃ q N' kn' A' c', r = .tuple #[.int .i64 (q : Nat), .int .i64 0] ∧ Nxt m N kn k N' kn' q (resF f v val) ∧ St F w0 (stR sb m 4096 N' kn' bi bk A' c' rs) w' := by
  have hm6 : m ≤ 6 := Nat.le_trans hst.m4 (by decide)
  have h := dresT (val := val) hv ha.mem ha.lt hm6 hst.ok hst.nc (Nat.le_refl _) hS
  obtain ⟨q, N', kn', e, hx⟩ := ins_room hst hk (f := fun x => Dg.ev N a (if val = true then x ||| two v else andN x (two v))) (resF f v val) (fun y hy => by rw [ha.ev _ (resIdx hv hy)]; rfl)
  rw [e] at h
  exact CallsR.mono h fun r w' ⟨h1, A', c', h2⟩ => ⟨q, N', kn', A', c', h1, hx, h2⟩
theorem lexi {a v : Nat} {f : Nat → Int} (hv : v < m) (ha : Fun m N kn a f) (hst : Sto m N kn k) (hk : k ≤ 100) (hS : St F w0 (stR sb m 4096 N kn bi bk A c rs) w) :
    CallsR Try.prog 21 #[.pointer (some ⟨sb, 0, none⟩), .int .i64 (a : Nat), .int .i64 (v : Nat)] w fun r w' => ∃ q N' kn' A' c', r = .tuple #[.int .i64 (q : Nat), .int .i64 0] ∧ Nxt m N kn k N' kn' q (exiF f v) ∧ St F w0 (stR sb m 4096 N' kn' bi bk A' c' rs) w' := by
  have hm6 : m ≤ 6 := Nat.le_trans hst.m4 (by decide)
  have h := dexiT hv ha.mem ha.lt hm6 hst.ok hst.nc (Nat.le_refl _) hS
  obtain ⟨q, N', kn', e, hx⟩ := ins_room hst hk (f := fun x => maxI (Dg.ev N a (x ||| two v)) (Dg.ev N a (andN x (two v)))) (exiF f v) (fun y hy => by rw [ha.ev _ (orLt hv hy), ha.ev _ (anLt hy)]; rfl)
  rw [e] at h
  exact CallsR.mono h fun r w' ⟨h1, A', c', h2⟩ => ⟨q, N', kn', A', c', h1, hx, h2⟩
theorem ltab {a : Nat} {f : Nat → Int} (ha : Fun m N kn a f) (hst : Sto m N kn k) (hS : St F w0 (stR sb m 4096 N kn bi bk A c rs) w) :
    CallsR Try.prog 14 #[.pointer (some ⟨sb, 0, none⟩), .int .i64 (a : Nat)] w fun r w' => ∃ A' c', r = .tuple #[.slice A' (two m) c', .int .i64 0] ∧ St F w0 (stR sb m 4096 N kn bi bk A c (Res.row 3 1 (.slice A' (two m) c') (two m) ((tabF f (two m)).map iv) :: rs)) w' := by
  have hm6 : m ≤ 6 := Nat.le_trans hst.m4 (by decide)
  have h := dtabT (sb := sb) (cp := 4096) (A := A) (c := c) (bi := bi) (bk := bk) a hm6 hst.ok ha.lt ha.mem inferInstance inferInstance inferInstance hS
  rw [ha.tab] at h
  exact CallsR.mono h fun r w' ⟨A', c', h1, h2⟩ => ⟨A', c', h1, h2.mv1⟩
/-! pick -/
theorem pick0 {s : Rn} (z : Int) (hz : inI z) (hG : Good s) (hR : s.R = []) (hS : St F w0 (runR s rs) w) :
    CallsR Try.prog 18 #[.pointer (some ⟨s.rb, 0, none⟩), .int .i64 z] w fun r w' => r = .tuple #[.int .i64 0, .slice none 0 0, .bool false] ∧ St F w0 (runR s rs) w' :=
  CallsR.mono (pickR (R := s.R) (TT := s.TT) z hz hG.rl (by rw [hR]; decide) inferInstance inferInstance inferInstance hS) fun r w' ⟨h, hS⟩ => by
    rcases h with ⟨_, h⟩ | ⟨i, a, t, h, _⟩
    · exact ⟨h, hS⟩
    · rw [hR] at h; cases h
theorem pick1 {s : Rn} (z : Int) (hz : inI z) (hG : Good s) (hR : s.R ≠ []) (hl : s.R.length ≤ 100000) (hS : St F w0 (runR s rs) w) :
    CallsR Try.prog 18 #[.pointer (some ⟨s.rb, 0, none⟩), .int .i64 z] w fun r w' => ∃ (a : Nat) (u : Value) (f : Nat → Int), r = .tuple #[.int .i64 (a : Nat), u, .bool true] ∧ Fun s.m s.N s.kn a f ∧ (∀ y, inI (f y)) ∧ St F w0 (runR s rs) w' :=
  CallsR.mono (pickR (R := s.R) (TT := s.TT) z hz hG.rl hl inferInstance inferInstance inferInstance hS) fun r w' ⟨h, hS⟩ => by
    rcases h with ⟨h, _⟩ | ⟨i, a, t, h1, h2, h3⟩
    · exact absurd h hR
    · exact ⟨a, t.val, fun y => t.xs.getD y 0, h3, hG.fun h1 h2, fun y => getD_in (hG.ii t (List.mem_of_getElem? h2)) y, hS⟩
end
end Go.Proofs.Ytijmggoikieelaa
