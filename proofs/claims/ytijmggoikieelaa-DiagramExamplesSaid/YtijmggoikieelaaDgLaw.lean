/-
  The laws' kit: what an insertion does to the functions; the laws' start.
-/
import Derived.Test.YtijmggoikieelaaDgStep
import Derived.Test.YtijmggoikieelaaDgAwk
namespace Go.Proofs.Ytijmggoikieelaa
open Go.RowKit

/-- a reference and its function -/
structure Fun (m : Nat) (N : List Dg.Nd) (kn : List Nat) (r : Nat) (f : Nat → Int) : Prop where
  mem : r ∈ kn
  lt : r < N.length
  ev : ∀ y, y < 2 ^ m → Dg.ev N r y = f y
theorem Fun.eq {m : Nat} {N : List Dg.Nd} {G : List (List Int)} {kn : List Nat} {r s : Nat} {f g : Nat → Int} (h : Dg.SI m N G kn) (hr : Fun m N kn r f) (hs : Fun m N kn s g) : r = s ↔ ∀ y, y < 2 ^ m → f y = g y := by
  constructor
  · rintro rfl y hy
    rw [← hr.ev y hy, hs.ev y hy]
  · intro he
    refine Dg.canon' h.inv.ok hr.lt hs.lt fun y hy => ?_
    rw [hr.ev y hy, hs.ev y hy, he y hy]
theorem Fun.tab {m : Nat} {N : List Dg.Nd} {kn : List Nat} {r : Nat} {f : Nat → Int} (h : Fun m N kn r f) : Dg.tabOf m N r = tabF f (two m) := by
  unfold Dg.tabOf tabF
  exact List.map_congr_left fun y hy => h.ev y (List.mem_range.1 hy)
theorem ins_same {m cp : Nat} {N : List Dg.Nd} {G : List (List Int)} {kn : List Nat} {r : Nat} (h : Dg.SI m N G kn) (hc : N.length ≤ cp) (hr : r ∈ kn) {f : Nat → Int} (hf : ∀ y, y < 2 ^ m → f y = Dg.ev N r y) : insD f m cp N kn = ((r : Int), 0, N, kn) := by
  obtain ⟨h1, h2, h3, h4, h5, h6, h7⟩ := h.put (Dg.tabOf_len (N := N) (i := r)) (f := f) (fun y hy => by rw [hf y hy, Dg.tabOf_get hy]) (r := (Dg.bld f m 0 0 N).1) (N' := (Dg.bld f m 0 0 N).2) rfl
  have h5 := h5 (h.ref r hr).2
  unfold insD
  generalize Dg.bld f m 0 0 N = q at h1 h2 h3 h4 h5 h6 h7 ⊢
  obtain ⟨r', N'⟩ := q
  simp only at h1 h2 h3 h4 h5 h6 h7 ⊢
  subst h5
  have e : r' = r := Dg.tabOf_inj h.inv.ok h2 (h.ref r hr).1 h3
  subst e
  rw [if_neg (by omega)]
  simp only [Dg.kadd, if_pos hr]
/-- an insertion that the store has room for -/
theorem ins_new {m cp : Nat} {N : List Dg.Nd} {G : List (List Int)} {kn : List Nat} (h : Dg.SI m N G kn) {f : Nat → Int} (g : Nat → Int) (hf : ∀ y, y < 2 ^ m → f y = g y) (hc : (G.length + 1) * 2 ^ (m + 1) ≤ cp) :
    ∃ (r : Nat) (N' : List Dg.Nd) (kn' : List Nat), insD f m cp N kn = ((r : Int), 0, N', kn') ∧ Dg.SI m N' (G ++ [tabF g (two m)]) kn' ∧ Fun m N' kn' r g ∧ (∀ (s : Nat) (f' : Nat → Int), Fun m N kn s f' → Fun m N' kn' s f') ∧ N'.length ≤ cp := by
  have hg : ∀ y, y < 2 ^ m → (tabF g (two m)).getD y 0 = g y := fun y hy => tabF_getD (show y < two m from hy)
  obtain ⟨h1, h2, h3, h4, h5, h6, h7⟩ := h.put (t := tabF g (two m)) (tabF_len _ _) (f := f) (fun y hy => by rw [hf y hy, hg y hy]) (r := (Dg.bld f m 0 0 N).1) (N' := (Dg.bld f m 0 0 N).2) rfl
  have hl := h1.inv.len
  unfold insD
  generalize Dg.bld f m 0 0 N = q at h1 h2 h3 h4 h5 h6 h7 hl ⊢
  obtain ⟨r', N'⟩ := q
  simp only at h1 h2 h3 h4 h5 h6 h7 hl ⊢
  rw [List.length_append, List.length_singleton] at hl
  have hle : N'.length ≤ cp := Nat.le_trans hl hc
  rw [if_neg (by omega)]
  refine ⟨r', N', Dg.kadd kn r', rfl, h1, ⟨Dg.kadd_mem.2 (.inr rfl), h2, fun y hy => ?_⟩, fun s f' hs => ⟨Dg.kadd_mem.2 (.inl hs.mem), ?_, fun y hy => ?_⟩, hle⟩
  · rw [← hg y hy, ← h3, Dg.tabOf_get hy]
  · obtain ⟨M, rfl⟩ := h4
    have := hs.lt
    rw [List.length_append]; omega
  · rw [← hs.ev y hy, ← Dg.tabOf_get hy, h7 s hs.lt, Dg.tabOf_get hy]
theorem Good.fun {s : Rn} (hG : Good s) {i r : Nat} {t : Tb} (hr : s.R[i]? = some r) (ht : s.TT[i]? = some t) : Fun s.m s.N s.kn r fun y => t.xs.getD y 0 := by
  obtain ⟨h1, h2, h3⟩ := hG.rt i r t hr ht
  exact ⟨h1, (hG.si.ref r h1).1, fun y hy => by rw [← h2, Dg.tabOf_get hy]⟩
theorem long_no {v : Int} {L : List Stp} (h : longB v L = false) : ¬ (4 < v ∧ v ≤ 6) ∧ L.length ≤ 10 ∧ ∀ s ∈ L, s.T.xs.length ≤ 70 := by
  unfold longB at h
  simp only [Bool.or_eq_false_iff, decide_eq_false_iff_not, List.any_eq_false, decide_eq_true_eq] at h
  exact ⟨h.1.1, by have := h.1.2; omega, fun s hs => by have := h.2 s hs; omega⟩
/-- the run with which the laws begin -/
abbrev rn0 (rb sb mb m cp bi bk : Nat) : Rn := ⟨rb, sb, mb, m, cp, bi, bk, [], [], none, 0, [], none, 0, [], none, 0, [], none, 0, []⟩
theorem good0 {rb sb mb m cp bi bk : Nat} (hm : m ≤ 4) (h1 : 1 ≤ cp) (h2 : cp ≤ 4096) : Good (rn0 rb sb mb m cp bi bk) :=
  ⟨hm, h1, h2, SI0 m, Nat.zero_le _, rfl, fun i r t h => (by simp at h), fun i h => (by cases h), fun t h => (by cases h), fun t h => (by cases h), fun t h => (by cases h), fun t h => (by cases h), Nat.le_refl _⟩
/-- the resources of a law's steps -/
abbrev lawRs (A : Option Addr) (n : Nat) (L : List Stp) : List Res := Res.rd 9 A n (stC L) :: L.map fun s => s.T.res
theorem lawStart {A : Option Addr} {n : Nat} {L : List Stp} {W : World} (hr : Rd W 9 A n (stC L)) (hb : ∀ s ∈ L, s.ok ∧ Rd W 1 s.T.A s.T.xs.length (s.T.xs.map iv) ∧ s.T.xs.length ≤ 9223372036854775807) : St Nof W (lawRs A n L) W := by
  refine St.ros fun r h => ?_
  rcases List.mem_cons.1 h with rfl | h
  · exact ⟨rfl, hr⟩
  · obtain ⟨s, hs, rfl⟩ := List.mem_map.1 h
    exact ⟨rfl, (hb s hs).2.1⟩
theorem lawTb {A : Option Addr} {n : Nat} {L : List Stp} {x : Stp} (hx : x ∈ L) : HasSl (lawRs A n L) x.T.A x.T.xs.length 1 (x.T.xs.map iv) :=
  ⟨fun h => h.get (r := x.T.res) (List.mem_cons_of_mem _ (List.mem_map.2 ⟨x, hx, rfl⟩))⟩
/-- what the steps so far have left -/
structure Ran (rb sb mb m cp : Nat) (s : Rn) (i : Nat) : Prop where
  good : Good s
  m : s.m = m
  cp : s.cp = cp
  rb : s.rb = rb
  sb : s.sb = sb
  mb : s.mb = mb
  len : s.R.length ≤ i
section
variable {F : Nat → Prop} {w0 w : World} {rs : List Res} {sb m cp bi bk c : Nat} {A : Option Addr} {N : List Dg.Nd} {kn : List Nat}
theorem dfrtS {n ct : Nat} {At : Option Addr} {G : List (List Int)} (r : Nat) (hi : Dg.SI m N G kn) (hr : r ∈ kn) (hn : n = two m) (hm : m ≤ 6) (hN : N.length ≤ cp) (hcp : cp ≤ 4096) (h2 : HasSl rs At n 1 ((Dg.tabOf m N r).map iv)) (hS : St F w0 (stR sb m cp N kn bi bk A c rs) w) :
    CallsR Try.prog 15 #[.pointer (some ⟨sb, 0, none⟩), .slice At n ct] w fun v w' => v = .tuple #[.int .i64 (r : Nat), .int .i64 0] ∧ ∃ A' c', St F w0 (stR sb m cp N kn bi bk A' c' rs) w' := by
  have h := dfrtT (ct := ct) (Dg.tabOf m N r) hn hm hi.inv.ok hN hcp h2 hS
  rw [ins_same hi hN hr fun y hy => Dg.tabOf_get hy] at h
  exact h
end
end Go.Proofs.Ytijmggoikieelaa
