/- The walks of the laws HeaderReads, HeaderOnce and HeaderBack; no condition. -/
import Derived.Test.YtahkngplohnliaaW02
set_option linter.unusedVariables false
set_option linter.unusedSimpArgs false
namespace Go.Proofs.Ytahkngplohnliaa.Fw
open Go.RowKit

set_option maxRecDepth 20000 in
theorem c_ciceronelaw02_awake  : AC Try.prog 18 [] emp (Ret (tf true)) := by
  refine AC.intro te_ok (fn := Try.f18) ⟨Try.func18, rfl, rfl⟩ (Nat.le_of_ble_eq_true rfl) ?_
  refine AWp.seq ?_
  refine AWp.region ?_
  refine AOps.cons rfl rfl (q_assign) ?_
  refine AOps.nil ?_
  refine AWp.seq ?_
  refine AWp.region ?_
  refine AOps.cons rfl rfl (q_build [(_, _)]) ?_
  refine AOps.cons rfl rfl (q_buildA ic [1, 0, 0, 0] [(_, _), (_, _), (_, _), (_, _)]) ?_
  refine AOps.cons rfl rfl (q_call (0) (hc := (c_header_Encode ⟨1, false, 0, false, false, false, false, 0⟩ 1 0 0 0))) ?_
  refine AOps.cons rfl rfl (q_move) ?_
  refine AOps.cons rfl rfl (q_extract) ?_
  refine AOps.cons rfl rfl (q_extract) ?_
  refine AOps.cons rfl rfl (q_assign) ?_
  refine AOps.cons rfl rfl (q_assign) ?_
  refine AOps.nil ?_
  refine AWp.seq ?_
  refine AWp.region ?_
  rw [hB_yes (by decide), hE_yes (by decide)]
  refine AOps.cons rfl rfl (q_move) ?_
  refine AOps.dec rfl rfl (q_eql) (fun h2_1 => ?_) (fun h2_1 => ?_)
  · skip
    refine AOps.cons rfl rfl (q_move) ?_
    refine AOps.gcons rfl rfl rfl rfl rfl (q_move) ?_
    refine AOps.gcons rfl rfl rfl rfl rfl (q_bs 304 bc [0, 1, 0, 0, 0, 1, 0, 0, 0, 0, 0, 0] [(_, _), (_, _), (_, _), (_, _), (_, _), (_, _), (_, _), (_, _), (_, _), (_, _), (_, _), (_, _)]) ?_
    refine AOps.gcons rfl rfl rfl rfl rfl (q_call (0) (hc := c_bytes_Equal _ _ _ _)) ?_
    refine AOps.cons rfl rfl (q_pick) ?_
    refine AOps.cons rfl rfl (q_assign) ?_
    refine AOps.nil ?_
    refine AWp.ret ?_
    show Fin te Try.f18 _ _
    refine q_ret (0) [_] [_] ?_
    rfl
  · exfalso; first | exact h2_1 rfl | omega | (rw [eqV_same rfl] at h2_1; cases h2_1) | (simp at h2_1; done) | (simp_all; done)

set_option maxRecDepth 20000 in
theorem c_ciceronelaw02_HeaderReads (b : List UInt8) (hl : b.length ≤ 140737488351232) : AC Try.prog 11 [.fz 0 b.length (cl bc b)] emp (Ret (tf true)) := by
  refine AC.intro te_ok (fn := Try.f11) ⟨Try.func11, rfl, rfl⟩ (Nat.le_of_ble_eq_true rfl) ?_
  refine AWp.seq ?_
  refine AWp.region ?_
  refine AOps.cons rfl rfl (q_assign) ?_
  refine AOps.nil ?_
  refine AWp.seq ?_
  refine AWp.region ?_
  refine AOps.cons rfl rfl (q_move) ?_
  refine AOps.cons rfl rfl (q_call (0) (hc := c_bytes_Clone _ _ (by first | assumption | omega | decide | (simp; omega) | (simp [*]; done)))) ?_
  refine AOps.cons rfl rfl (q_assign) ?_
  refine AOps.nil ?_
  refine AWp.seq ?_
  refine AWp.region ?_
  refine AOps.cons rfl rfl (q_move) ?_
  refine AOps.cons rfl rfl (q_call (0) (hc := c_header_Decode _ _ (by first | assumption | omega | decide | (simp; omega) | (simp [*]; done)))) ?_
  refine AOps.cons rfl rfl (q_move) ?_
  refine AOps.cons rfl rfl (q_extract) ?_
  refine AOps.cons rfl rfl (q_extract) ?_
  refine AOps.cons rfl rfl (q_extract) ?_
  refine AOps.cons rfl rfl (q_alloc 306) ?_
  refine AOps.cons rfl rfl (q_alloc 307) ?_
  refine AOps.cons rfl rfl (q_store) ?_
  refine AOps.cons rfl rfl (q_store) ?_
  refine AOps.cons rfl rfl (q_assign) ?_
  refine AOps.nil ?_
  refine AWp.seq ?_
  refine AWp.region ?_
  refine AOps.cons rfl rfl (q_move) ?_
  refine AOps.cons rfl rfl (q_call (0) (hc := c_ciceroneref02_Decode _ _ (by first | assumption | omega | decide | (simp; omega) | (simp [*]; done)))) ?_
  refine AOps.cons rfl rfl (q_move) ?_
  refine AOps.cons rfl rfl (q_extract) ?_
  refine AOps.cons rfl rfl (q_extract) ?_
  refine AOps.cons rfl rfl (q_extract) ?_
  refine AOps.cons rfl rfl (q_alloc 406) ?_
  refine AOps.cons rfl rfl (q_alloc 407) ?_
  refine AOps.cons rfl rfl (q_store) ?_
  refine AOps.cons rfl rfl (q_store) ?_
  refine AOps.cons rfl rfl (q_assign) ?_
  refine AOps.nil ?_
  refine AWp.seq ?_
  refine AWp.region ?_
  refine AOps.cons rfl rfl (q_load) ?_
  refine AOps.cons rfl rfl (q_load) ?_
  refine AOps.bool rfl rfl (q_eqp) (fun h4_2 => ?_) (fun h4_2 => ?_)
  · skip
    refine AOps.cons rfl rfl (q_move) ?_
    refine AOps.gcons rfl rfl rfl rfl rfl (q_load) ?_
    refine AOps.gcons rfl rfl rfl rfl rfl (q_load) ?_
    refine AOps.gbool rfl rfl rfl rfl rfl (q_eqp) (fun h4_6 => ?_) (fun h4_6 => ?_)
    · skip
      refine AOps.cons rfl rfl (q_pick) ?_
      refine AOps.cons rfl rfl (q_move) ?_
      refine AOps.gcons rfl rfl rfl rfl rfl (q_move) ?_
      refine AOps.gcons rfl rfl rfl rfl rfl (q_move) ?_
      refine AOps.gdec rfl rfl rfl rfl rfl (q_eql) (fun h4_11 => ?_) (fun h4_11 => ?_)
      · skip
        refine AOps.cons rfl rfl (q_pick) ?_
        refine AOps.cons rfl rfl (q_move) ?_
        refine AOps.gcons rfl rfl rfl rfl rfl (q_move) ?_
        refine AOps.gcons rfl rfl rfl rfl rfl (q_move) ?_
        refine AOps.gbool rfl rfl rfl rfl rfl (q_call (0) (hc := c_bytes_Equal _ _ _ _)) (fun h4_16 => ?_) (fun h4_16 => ?_)
        · skip
          refine AOps.cons rfl rfl (q_pick) ?_
          refine AOps.cons rfl rfl (q_move) ?_
          refine AOps.gcons rfl rfl rfl rfl rfl (q_call (0) (hc := c_ciceronelaw02_awake)) ?_
          refine AOps.cons rfl rfl (q_pick) ?_
          refine AOps.cons rfl rfl (q_assign) ?_
          refine AOps.nil ?_
          refine AWp.ret ?_
          show Fin te Try.f11 _ _
          refine q_ret (0) [_] [_] ?_
          rfl
        · exfalso; first | exact h4_16 rfl | omega | (rw [eqV_same rfl] at h4_16; cases h4_16) | (simp at h4_16; done) | (simp_all; done)
      · exfalso; first | exact h4_11 rfl | omega | (rw [eqV_same rfl] at h4_11; cases h4_11) | (simp at h4_11; done) | (simp_all; done)
    · exfalso; first | exact h4_6 rfl | omega | (rw [eqV_same rfl] at h4_6; cases h4_6) | (simp at h4_6; done) | (simp_all; done)
  · exfalso; first | exact h4_2 rfl | omega | (rw [eqV_same rfl] at h4_2; cases h4_2) | (simp at h4_2; done) | (simp_all; done)


theorem off_bits {b : List UInt8} (h : ¬ dE b = 0) (hl : ¬ b.length < 12) : decide (¬ (((b.getD 3 default &&& 112).toNat : Nat) : Int) = 0) = true := by
  have e : ¬ num b 1 / 16 % 8 = 0 := fun e => h (dE_ok hl e)
  have e1 : num b 1 = ((b.getD 2 default).toNat * 256 + (b.getD 3 default).toNat : Nat) := rfl
  rw [e1] at e
  have h3 := (b.getD 3 default).toNat_lt
  have h4 := and_112 ((b.getD 3 default).toNat : Int) (by omega)
  have h5 : (b.getD 3 default &&& 112).toNat = (b.getD 3 default).toNat &&& 112 := UInt8.toNat_and _ _
  have h6 : (((b.getD 3 default).toNat : Int).toNat &&& (112 : Int).toNat) = (b.getD 3 default &&& 112).toNat := by rw [h5]; rfl
  rw [h6] at h4
  rw [h4]
  have : ¬ ((b.getD 3 default).toNat : Int) / 16 % 8 * 16 = 0 := by omega
  simp only [this, not_false_eq_true, decide_true]
theorem dH_can {b : List UInt8} (h : dE b = 0) : (dH b).can (dC b 2) (dC b 3) (dC b 4) (dC b 5) := by
  rw [dH_ok h, dC_ok h, dC_ok h, dC_ok h, dC_ok h]
  have h0 := num_lt b 0
  have h1 := num_lt b 1
  have h2 := num_lt b 2
  have h3 := num_lt b 3
  have h4 := num_lt b 4
  have h5 := num_lt b 5
  simp only [Hd.can]
  omega
theorem flN_bits (n f : Int) (h : 0 ≤ f ∧ f ≤ 65535) (hz : f / 16 % 8 = 0) : (Hd.flN ⟨n, bitAt f 15, f / 2048 % 16, bitAt f 10, bitAt f 9, bitAt f 8, bitAt f 7, f % 16⟩ 5) = f := by
  simp only [Hd.flN, bitAt, decide_eq_true_eq]
  have e : ∀ k : Nat, (if 0 < 5 ∧ f / 2 ^ 15 % 2 = 1 then (32768 : Int) else 0) = f / 32768 % 2 * 32768 := fun _ => by split <;> omega
  have e1 : (if 1 < 5 ∧ f / 2 ^ 10 % 2 = 1 then (1024 : Int) else 0) = f / 1024 % 2 * 1024 := by split <;> omega
  have e2 : (if 2 < 5 ∧ f / 2 ^ 9 % 2 = 1 then (512 : Int) else 0) = f / 512 % 2 * 512 := by split <;> omega
  have e3 : (if 3 < 5 ∧ f / 2 ^ 8 % 2 = 1 then (256 : Int) else 0) = f / 256 % 2 * 256 := by split <;> omega
  have e4 : (if 4 < 5 ∧ f / 2 ^ 7 % 2 = 1 then (128 : Int) else 0) = f / 128 % 2 * 128 := by split <;> omega
  rw [e 0, e1, e2, e3, e4]
  omega
theorem two_num (b : List UInt8) (j : Nat) : two (num b j) = [b.getD (2 * j) default, b.getD (2 * j + 1) default] := by
  have h1 := (b.getD (2 * j + 1) default).toNat_lt
  have h0 := (b.getD (2 * j) default).toNat_lt
  simp only [two, num]
  congr 1
  · rw [show (((b.getD (2 * j) default).toNat * 256 + (b.getD (2 * j + 1) default).toNat : Nat) : Int) / 2 ^ 8 = ((b.getD (2 * j) default).toNat : Int) by omega, byte_of_toNat]
  · congr 1
    rw [← byte_mod, show (((b.getD (2 * j) default).toNat * 256 + (b.getD (2 * j + 1) default).toNat : Nat) : Int) % 256 = ((b.getD (2 * j + 1) default).toNat : Int) by omega, byte_of_toNat]
theorem take_getD {b : List UInt8} {n : Nat} (h : n ≤ b.length) : b.take n = (List.range n).map fun k => b.getD k default := by
  apply List.ext_getElem
  · simp; omega
  · intro i h1 h2
    simp at h2
    simp [List.getD_eq_getElem?_getD, List.getElem?_eq_getElem (show i < b.length by omega)]
theorem dH_bytes {b : List UInt8} (h : dE b = 0) (hl : ¬ b.length < 12) (hz : num b 1 / 16 % 8 = 0) : (dH b).bytes (dC b 2) (dC b 3) (dC b 4) (dC b 5) = b.take 12 := by
  rw [dH_ok h, dC_ok h, dC_ok h, dC_ok h, dC_ok h]
  simp only [Hd.bytes, Hd.nums]
  rw [flN_bits _ _ (num_lt b 1) hz]
  simp only [List.flatMap_cons, List.flatMap_nil, two_num, List.append_nil]
  rw [take_getD (by omega : 12 ≤ b.length)]
  rfl
theorem dE_zero {b : List UInt8} (h : dE b = 0) : ¬ b.length < 12 ∧ num b 1 / 16 % 8 = 0 := by
  unfold dE at h
  split at h
  · omega
  · split at h
    · exact ⟨by assumption, by assumption⟩
    · omega

set_option maxRecDepth 20000 in
theorem c_ciceronelaw02_HeaderOnce (b : List UInt8) (hl : b.length ≤ 140737488351232) : AC Try.prog 8 [.fz 0 b.length (cl bc b)] emp (Ret (tf true)) := by
  refine AC.intro te_ok (fn := Try.f8) ⟨Try.func8, rfl, rfl⟩ (Nat.le_of_ble_eq_true rfl) ?_
  refine AWp.seq ?_
  refine AWp.region ?_
  refine AOps.cons rfl rfl (q_assign) ?_
  refine AOps.nil ?_
  refine AWp.seq ?_
  refine AWp.region ?_
  refine AOps.cons rfl rfl (q_move) ?_
  refine AOps.cons rfl rfl (q_call (0) (hc := c_header_Decode _ _ (by first | assumption | omega | decide | (simp; omega) | (simp [*]; done)))) ?_
  refine AOps.cons rfl rfl (q_move) ?_
  refine AOps.cons rfl rfl (q_extract) ?_
  refine AOps.cons rfl rfl (q_extract) ?_
  refine AOps.cons rfl rfl (q_extract) ?_
  refine AOps.cons rfl rfl (q_alloc 206) ?_
  refine AOps.cons rfl rfl (q_alloc 207) ?_
  refine AOps.cons rfl rfl (q_store) ?_
  refine AOps.cons rfl rfl (q_store) ?_
  refine AOps.cons rfl rfl (q_assign) ?_
  refine AOps.nil ?_
  refine AWp.seq ?_
  refine AWp.seq ?_
  refine AWp.region ?_
  refine AOps.cons rfl rfl (q_move) ?_
  refine AOps.dec rfl rfl (q_neq) (fun h2_1 => ?_) (fun h2_1 => ?_)
  · skip
    refine AOps.nil ?_
    refine AWp.cond_t rfl ?_
    refine AWp.seq ?_
    refine AWp.region ?_
    refine AOps.bool rfl rfl (q_call (0) (hc := c_ciceronelaw02_awake)) (fun h3_0 => ?_) (fun h3_0 => ?_)
    · skip
      refine AOps.cons rfl rfl (q_move) ?_
      refine AOps.gcons rfl rfl rfl rfl rfl (q_move) ?_
      refine AOps.gcons rfl rfl rfl rfl rfl (q_len) ?_
      refine AOps.gdec rfl rfl rfl rfl rfl (q_lss) (fun h3_4 => ?_) (fun h3_4 => ?_)
      · skip
        refine AOps.gcons rfl rfl rfl rfl rfl (q_move) ?_
        refine AOps.gskip rfl rfl rfl rfl rfl rfl rfl rfl ?_
        refine AOps.gskip rfl rfl rfl rfl rfl rfl rfl rfl ?_
        refine AOps.gskip rfl rfl rfl rfl rfl rfl rfl rfl ?_
        refine AOps.gskip rfl rfl rfl rfl rfl rfl rfl rfl ?_
        refine AOps.gskip rfl rfl rfl rfl rfl rfl rfl rfl ?_
        refine AOps.gcons rfl rfl rfl rfl rfl (q_pick) ?_
        refine AOps.cons rfl rfl (q_pick) ?_
        refine AOps.cons rfl rfl (q_assign) ?_
        refine AOps.nil ?_
        refine AWp.ret ?_
        show Fin te Try.f8 _ _
        refine q_ret (0) [_] [_] ?_
        first | rfl | exact congrArg tf (decide_eq_true rfl)
      · skip
        refine AOps.gcons rfl rfl rfl rfl rfl (q_move) ?_
        refine AOps.gcons rfl rfl rfl rfl rfl (q_move) ?_
        refine AOps.gcons rfl rfl rfl rfl rfl (q_ix) ?_
        refine AOps.gcons rfl rfl rfl rfl rfl (q_load) ?_
        refine AOps.gcons rfl rfl rfl rfl rfl (q_and8 _ 112) ?_
        refine AOps.gcons rfl rfl rfl rfl rfl (q_neq) ?_
        refine AOps.gcons rfl rfl rfl rfl rfl (q_pick) ?_
        refine AOps.cons rfl rfl (q_pick) ?_
        refine AOps.cons rfl rfl (q_assign) ?_
        refine AOps.nil ?_
        refine AWp.ret ?_
        show Fin te Try.f8 _ _
        refine q_ret (0) [_] [_] ?_
        exact congrArg tf (off_bits h2_1 (by omega))
    · exfalso; first | exact h3_0 rfl | omega | (rw [eqV_same rfl] at h3_0; cases h3_0) | (simp at h3_0; done) | (simp_all; done)
  · skip
    refine AOps.nil ?_
    refine AWp.cond_f rfl ?_
    refine AWp.skip ?_
    refine AWp.seq ?_
    refine AWp.region ?_
    have e0 : dE b = 0 := by omega
    obtain ⟨hlen, hz⟩ := dE_zero e0
    refine AOps.cons rfl rfl (q_load) ?_
    refine AOps.cons rfl rfl (q_load) ?_
    refine AOps.cons rfl rfl (q_call (0) (hc := (c_header_Encode (dH b) (dC b 2) (dC b 3) (dC b 4) (dC b 5)))) ?_
    refine AOps.cons rfl rfl (q_move) ?_
    refine AOps.cons rfl rfl (q_extract) ?_
    refine AOps.cons rfl rfl (q_extract) ?_
    refine AOps.cons rfl rfl (q_assign) ?_
    refine AOps.cons rfl rfl (q_assign) ?_
    refine AOps.nil ?_
    refine AWp.seq ?_
    refine AWp.region ?_
    rw [hB_yes (dH_can e0), hE_yes (dH_can e0), dH_bytes e0 hlen hz]
    refine AOps.cons rfl rfl (q_move) ?_
    refine AOps.dec rfl rfl (q_eql) (fun h5_1 => ?_) (fun h5_1 => ?_)
    · skip
      refine AOps.cons rfl rfl (q_move) ?_
      refine AOps.gcons rfl rfl rfl rfl rfl (q_move) ?_
      refine AOps.gcons rfl rfl rfl rfl rfl (q_len) ?_
      refine AOps.gdec rfl rfl rfl rfl rfl (q_geq) (fun h5_5 => ?_) (fun h5_5 => ?_)
      · skip
        refine AOps.cons rfl rfl (q_pick) ?_
        refine AOps.cons rfl rfl (q_move) ?_
        refine AOps.gcons rfl rfl rfl rfl rfl (q_move) ?_
        refine AOps.gcons rfl rfl rfl rfl rfl (q_move) ?_
        refine AOps.gcons rfl rfl rfl rfl rfl (q_sl) ?_
        refine AOps.gcons rfl rfl rfl rfl rfl (q_call (0) (hc := c_bytes_Equal _ _ _ _)) ?_
        refine AOps.cons rfl rfl (q_pick) ?_
        refine AOps.cons rfl rfl (q_assign) ?_
        refine AOps.nil ?_
        refine AWp.ret ?_
        show Fin te Try.f8 _ _
        refine q_ret (0) [_] [_] ?_
        first | rfl | exact congrArg tf (decide_eq_true rfl)
      · exfalso; first | exact h5_5 rfl | omega | (rw [eqV_same rfl] at h5_5; cases h5_5) | (simp at h5_5; done) | (simp_all; done)
    · exfalso; first | exact h5_1 rfl | omega | (rw [eqV_same rfl] at h5_1; cases h5_1) | (simp at h5_1; done) | (simp_all; done)

end Go.Proofs.Ytahkngplohnliaa.Fw
