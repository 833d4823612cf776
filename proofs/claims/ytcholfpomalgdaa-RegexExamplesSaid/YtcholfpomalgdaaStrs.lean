/-
  Strings: pieces of them, a byte sought in them, cut at a byte.
-/
import Derived.Test.YtcholfpomalgdaaEE
import Derived.Test.YtcholfpomalgdaaShelf
namespace Go.Proofs.Ytcholfpomalgdaa
open Go.RowKit

section
variable {P : Program} {rs : List Res} {o : Oper} {l : Fm} {x y z : Operand} {t : TypeId} {k k' : IntKind} {a : List UInt8} {i j : Int}
theorem take_drop_ba (a : List UInt8) (i j : Nat) : (ByteArray.mk a.toArray).extract i j = ⟨((a.take j).drop i).toArray⟩ := by
  apply ByteArray.ext
  simp [List.drop_take]
theorem Ysh (ho : o.op = .slice t x none (some z) none := by rfl) (hx : lk l x = some (.string ⟨a.toArray⟩) := by rfl) (hz : lk l z = some (.int k' j) := by rfl) (ht : P.underlying t = some .string := by rfl) (hj : 0 ≤ j ∧ j ≤ a.length := by first | omega | (simp <;> omega)) : Yl P rs l o (.string ⟨(a.take j.toNat).toArray⟩) := ⟨fun {_ _ w ds} _ => by
  unfold Ex execOp; rw [ho]; simp only [lk_eval hx, lk_eval hz, Option.map_some, Option.map_none]
  refine run_v ?_
  have hle : j ≤ ((ByteArray.mk a.toArray).size : Int) := by simpa [ByteArray.size] using hj.2
  have hb : (Instr.sliceBound (.int k' j) (ByteArray.mk a.toArray).size .sliceAlen).run P w = .ok j.toNat w := by
    simp only [Instr.sliceBound, asIntOf, Sem.run_bind, Sem.run_pure, Result.andThen_ok, if_pos (And.intro hj.1 hle)]
  have he := take_drop_ba a 0 j.toNat
  rw [List.drop_zero] at he
  simp only [Instr.sliceAt, Instr.slice, Instr.sliceBounds, Sem.run_bind, run_underlying ht, Result.andThen_ok, Sem.run_pure, Option.isSome_none, Bool.false_eq_true, if_false, hb, he]⟩
theorem Ysm (ho : o.op = .slice t x (some y) (some z) none := by rfl) (hx : lk l x = some (.string ⟨a.toArray⟩) := by rfl) (hy : lk l y = some (.int k i) := by rfl) (hz : lk l z = some (.int k' j) := by rfl) (ht : P.underlying t = some .string := by rfl) (hi : 0 ≤ i ∧ i ≤ j := by omega) (hj : j ≤ a.length := by first | omega | (simp <;> omega)) : Yl P rs l o (.string ⟨((a.take j.toNat).drop i.toNat).toArray⟩) := ⟨fun {_ _ w ds} _ => by
  unfold Ex execOp; rw [ho]; simp only [lk_eval hx, lk_eval hy, lk_eval hz, Option.map_some, Option.map_none]
  refine run_v ?_
  have hle : j ≤ ((ByteArray.mk a.toArray).size : Int) := by simpa [ByteArray.size] using hj
  have hb : (Instr.sliceBound (.int k' j) (ByteArray.mk a.toArray).size .sliceAlen).run P w = .ok j.toNat w := by
    simp only [Instr.sliceBound, asIntOf, Sem.run_bind, Sem.run_pure, Result.andThen_ok, if_pos (And.intro (show 0 ≤ j by omega) hle)]
  have hb2 : (Instr.sliceBound (.int k i) j.toNat .sliceB).run P w = .ok i.toNat w := by
    simp only [Instr.sliceBound, asIntOf, Sem.run_bind, Sem.run_pure, Result.andThen_ok, if_pos (show 0 ≤ i ∧ i ≤ (j.toNat : Int) by omega)]
  have he := take_drop_ba a i.toNat j.toNat
  simp only [Instr.sliceAt, Instr.slice, Instr.sliceBounds, Sem.run_bind, run_underlying ht, Result.andThen_ok, Sem.run_pure, Option.isSome_none, Bool.false_eq_true, if_false, hb, hb2, he]⟩
end
theorem indexR (a : List UInt8) (c : UInt8) (w : World) : CallsR Try.prog 71 #[.string ⟨a.toArray⟩, .int .u8 (c.toNat : Int)] w fun r w' => r = .int .i64 (Lib.indexByte a c) ∧ Fr Nof w w' :=
  Calls.mono (Try.strings_IndexByte ⟨a.toArray⟩ (c.toNat : Int) w) fun e w' ⟨he, hw⟩ => ⟨_, he, by simp, by rw [hw]; exact Fr.refl _ _⟩
set_option maxHeartbeats 1000000 in
set_option maxRecDepth 100000 in
theorem cutsR (a : List UInt8) (c : UInt8) (i : Nat) (w : World) (hi : Lib.indexByte a c = (i : Int)) (hl : i < a.length) (hb : a.length ≤ 4294967296) : CallsR Try.prog 76 #[.string ⟨a.toArray⟩, .string ⟨[c].toArray⟩] w fun r w' =>
    r = .tuple #[.string ⟨(a.take i).toArray⟩, .string ⟨(a.drop (i + 1)).toArray⟩, .bool true] ∧ Fr Nof w w' := by
  have hS := St.start Nof w
  have h1 : CallsR Try.prog 78 #[.string ⟨a.toArray⟩, .string ⟨[c].toArray⟩] w fun r w' => r = .int .i64 (i : Int) ∧ w' = w :=
    Calls.mono (Try.stringslite_Index_one ⟨a.toArray⟩ c w) fun e w' ⟨he, hw⟩ => ⟨_, he, by rw [← hi], hw⟩
  refine E_r (m := 21) ?_ Try.func76 rfl Try.ntmps76 rfl; refine C_ft ?_
  repeat (first | (refine S_w ?_; first | (refine M_c (h1) ?_) | (refine S_y hS ?_) | ((first | refine M_bA hS ?_ | refine M_b1 hS ?_ | refine M_aA hS ?_ | refine M_a1 hS ?_ | refine M_sl hS ?_ | refine M_s1 hS ?_ | refine M_mm hS ?_); clear hS; intro b w hS) | ((first | refine M_st hS ?_ | refine M_sA hS ?_ | refine M_in hS ?_ | refine M_sR hS ?_); clear hS; intro w hS; (try simp only [List.set_cons_zero, List.set_cons_succ, Nat.zero_add] at hS)) | (refine M_ap hS ?_; clear hS; intro g cap w hS) | refine M_pn ?_) | refine X_k (by (try simp only [Fm.toList, List.set_cons_succ, List.set_cons_zero]); exact rfl) ?_ | refine S_u ?_ | refine S_v ?_ | refine C_sq ?_ | refine C_rg ?_ | refine L_nil ?_ | refine C_bk ?_ | refine C_ct ?_ | refine C_cf ?_ | refine C_sk ?_ | refine C_ex ?_ | refine C_rt ?_ | refine X_e ?_ | refine X_r ?_ | refine X_bh ?_ | refine X_be ?_ | refine X_br ?_ | refine X_bn ?_ | refine X_p ?_ | refine X_bp ?_)
  rintro _ w1 ⟨rfl, rfl⟩
  have hlen : ([c] : List UInt8).length = 1 := rfl
  have hsum : (i : Int) + (([c] : List UInt8).length : Int) = ((i + 1 : Nat) : Int) := by simp
  repeat (first | (refine S_w ?_; first | (refine S_y hS ?_) | ((first | refine M_bA hS ?_ | refine M_b1 hS ?_ | refine M_aA hS ?_ | refine M_a1 hS ?_ | refine M_sl hS ?_ | refine M_s1 hS ?_ | refine M_mm hS ?_); clear hS; intro b w hS) | ((first | refine M_st hS ?_ | refine M_sA hS ?_ | refine M_in hS ?_ | refine M_sR hS ?_); clear hS; intro w hS; (try simp only [List.set_cons_zero, List.set_cons_succ, Nat.zero_add] at hS)) | (refine M_ap hS ?_; clear hS; intro g cap w hS) | refine M_pn ?_) | refine X_k (by (try simp only [Fm.toList, List.set_cons_succ, List.set_cons_zero]); exact rfl) ?_ | refine S_u ?_ | refine S_v ?_ | refine C_sq ?_ | refine C_rg ?_ | refine L_nil ?_ | refine C_bk ?_ | refine C_ct ?_ | refine C_cf ?_ | refine C_sk ?_ | refine C_ex ?_ | refine C_rt ?_ | refine X_e ?_ | refine X_r ?_ | refine X_bh ?_ | refine X_be ?_ | refine X_br ?_ | refine X_bn ?_ | refine X_p ?_ | refine X_bp ?_)
  refine C_qt hS ?_
  repeat (first | (refine Q_w ?_; first | (refine Q_q (by exact Ysh) ?_) | (refine Q_q (by first | exact Yp | exact Yq | exact Ya | exact Yln | exact Ysl) ?_)) | refine Q_u ?_)
  refine Q_n ?_; clear hS; intro w hS
  repeat (first | (refine S_w ?_; first | (refine S_y hS ?_) | ((first | refine M_bA hS ?_ | refine M_b1 hS ?_ | refine M_aA hS ?_ | refine M_a1 hS ?_ | refine M_sl hS ?_ | refine M_s1 hS ?_ | refine M_mm hS ?_); clear hS; intro b w hS) | ((first | refine M_st hS ?_ | refine M_sA hS ?_ | refine M_in hS ?_ | refine M_sR hS ?_); clear hS; intro w hS; (try simp only [List.set_cons_zero, List.set_cons_succ, Nat.zero_add] at hS)) | (refine M_ap hS ?_; clear hS; intro g cap w hS) | refine M_pn ?_) | refine X_k (by (try simp only [Fm.toList, List.set_cons_succ, List.set_cons_zero]); exact rfl) ?_ | refine S_u ?_ | refine S_v ?_ | refine C_sq ?_ | refine C_rg ?_ | refine L_nil ?_ | refine C_bk ?_ | refine C_ct ?_ | refine C_cf ?_ | refine C_sk ?_ | refine C_ex ?_ | refine C_rt ?_ | refine X_e ?_ | refine X_r ?_ | refine X_bh ?_ | refine X_be ?_ | refine X_br ?_ | refine X_bn ?_ | refine X_p ?_ | refine X_bp ?_)
  refine ⟨W_ret3 rfl (Rv.tmp rfl) (Rv.tmp rfl) (Rv.tmp rfl) ⟨rfl, hS.fr⟩⟩
set_option maxHeartbeats 1000000 in
set_option maxRecDepth 100000 in
theorem cutR (a : List UInt8) (c : UInt8) (i : Nat) (w : World) (hi : Lib.indexByte a c = (i : Int)) (hl : i < a.length) (hb : a.length ≤ 4294967296) : CallsR Try.prog 72 #[.string ⟨a.toArray⟩, .string ⟨[c].toArray⟩] w fun r w' =>
    r = .tuple #[.string ⟨(a.take i).toArray⟩, .string ⟨(a.drop (i + 1)).toArray⟩, .bool true] ∧ Fr Nof w w' := by
  have hS := St.start Nof w
  refine E_r (m := 11) ?_ Try.func72 rfl Try.ntmps72 rfl; refine C_ft ?_
  repeat (first | (refine S_w ?_; first | (refine M_c (cutsR a c i _ hi hl hb) ?_) | (refine S_y hS ?_) | ((first | refine M_bA hS ?_ | refine M_b1 hS ?_ | refine M_aA hS ?_ | refine M_a1 hS ?_ | refine M_sl hS ?_ | refine M_s1 hS ?_ | refine M_mm hS ?_); clear hS; intro b w hS) | ((first | refine M_st hS ?_ | refine M_sA hS ?_ | refine M_in hS ?_ | refine M_sR hS ?_); clear hS; intro w hS; (try simp only [List.set_cons_zero, List.set_cons_succ, Nat.zero_add] at hS)) | (refine M_ap hS ?_; clear hS; intro g cap w hS) | refine M_pn ?_) | refine X_k (by (try simp only [Fm.toList, List.set_cons_succ, List.set_cons_zero]); exact rfl) ?_ | refine S_u ?_ | refine S_v ?_ | refine C_sq ?_ | refine C_rg ?_ | refine L_nil ?_ | refine C_bk ?_ | refine C_ct ?_ | refine C_cf ?_ | refine C_sk ?_ | refine C_ex ?_ | refine C_rt ?_ | refine X_e ?_ | refine X_r ?_ | refine X_bh ?_ | refine X_be ?_ | refine X_br ?_ | refine X_bn ?_ | refine X_p ?_ | refine X_bp ?_)
  rintro _ w1 ⟨rfl, hb1⟩
  have hS := hS.call hb1
  repeat (first | (refine S_w ?_; first | (refine S_y hS ?_) | ((first | refine M_bA hS ?_ | refine M_b1 hS ?_ | refine M_aA hS ?_ | refine M_a1 hS ?_ | refine M_sl hS ?_ | refine M_s1 hS ?_ | refine M_mm hS ?_); clear hS; intro b w hS) | ((first | refine M_st hS ?_ | refine M_sA hS ?_ | refine M_in hS ?_ | refine M_sR hS ?_); clear hS; intro w hS; (try simp only [List.set_cons_zero, List.set_cons_succ, Nat.zero_add] at hS)) | (refine M_ap hS ?_; clear hS; intro g cap w hS) | refine M_pn ?_) | refine X_k (by (try simp only [Fm.toList, List.set_cons_succ, List.set_cons_zero]); exact rfl) ?_ | refine S_u ?_ | refine S_v ?_ | refine C_sq ?_ | refine C_rg ?_ | refine L_nil ?_ | refine C_bk ?_ | refine C_ct ?_ | refine C_cf ?_ | refine C_sk ?_ | refine C_ex ?_ | refine C_rt ?_ | refine X_e ?_ | refine X_r ?_ | refine X_bh ?_ | refine X_be ?_ | refine X_br ?_ | refine X_bn ?_ | refine X_p ?_ | refine X_bp ?_)
  refine ⟨W_ret3 rfl (Rv.tmp rfl) (Rv.tmp rfl) (Rv.tmp rfl) ⟨rfl, hS.fr⟩⟩
end Go.Proofs.Ytcholfpomalgdaa
