/- The walk of the law HeaderBack; no condition. -/
import Derived.Test.YtahkngplohnliaaL02a
set_option linter.unusedVariables false
set_option linter.unusedSimpArgs false
namespace Go.Proofs.Ytahkngplohnliaa.Fw
open Go.RowKit


theorem num_two {n : Int} (h : 0 ≤ n ∧ n ≤ 65535) : (((byte (n / 2 ^ 8)).toNat * 256 + (byte n).toNat : Nat) : Int) = n := by
  have h1 := byte_toNat (n / 2 ^ 8)
  have h2 := byte_toNat n
  omega
section
variable {h : Hd} {c0 c1 c2 c3 : Int}
theorem back_num (k : h.can c0 c1 c2 c3) (r : List UInt8) : num (h.bytes c0 c1 c2 c3 ++ r) 0 = h.id ∧ num (h.bytes c0 c1 c2 c3 ++ r) 1 = h.flN 5 ∧ num (h.bytes c0 c1 c2 c3 ++ r) 2 = c0 ∧ num (h.bytes c0 c1 c2 c3 ++ r) 3 = c1 ∧ num (h.bytes c0 c1 c2 c3 ++ r) 4 = c2 ∧ num (h.bytes c0 c1 c2 c3 ++ r) 5 = c3 := by
  obtain ⟨hid, hop, hco, hc0, hc1, hc2, hc3⟩ := k
  exact ⟨num_two hid, num_two (Hd.fl_pos hop hco 5), num_two hc0, num_two hc1, num_two hc2, num_two hc3⟩
theorem fl_parts (hop : 0 ≤ h.op ∧ h.op ≤ 15) (hco : 0 ≤ h.code ∧ h.code ≤ 15) : h.flN 5 / 16 % 8 = 0 ∧ (⟨h.id, bitAt (h.flN 5) 15, h.flN 5 / 2048 % 16, bitAt (h.flN 5) 10, bitAt (h.flN 5) 9, bitAt (h.flN 5) 8, bitAt (h.flN 5) 7, h.flN 5 % 16⟩ : Hd) = h := by
  obtain ⟨id, resp, op, aa, tc, rd, ra, code⟩ := h
  dsimp only at hop hco
  have e : Hd.flN ⟨id, resp, op, aa, tc, rd, ra, code⟩ 5 = op * 2048 + code + (if resp = true then 32768 else 0) + (if aa = true then 1024 else 0) + (if tc = true then 512 else 0) + (if rd = true then 256 else 0) + (if ra = true then 128 else 0) := by simp [Hd.flN]
  rw [e]
  refine ⟨?_, ?_⟩
  · repeat' split
    all_goals omega
  · simp only [Hd.mk.injEq, true_and, bitAt]
    cases resp <;> cases aa <;> cases tc <;> cases rd <;> cases ra <;> simp <;> omega
theorem back_E (k : h.can c0 c1 c2 c3) (r : List UInt8) : dE (h.bytes c0 c1 c2 c3 ++ r) = 0 := by
  refine dE_ok ?_ ?_
  · rw [List.length_append, Hd.bytes_length]; omega
  · rw [(back_num k r).2.1]
    exact (fl_parts k.2.1 k.2.2.1).1
theorem back_H (k : h.can c0 c1 c2 c3) (r : List UInt8) : dH (h.bytes c0 c1 c2 c3 ++ r) = h := by
  rw [dH_ok (back_E k r), (back_num k r).1, (back_num k r).2.1]
  exact (fl_parts k.2.1 k.2.2.1).2
theorem back_C (k : h.can c0 c1 c2 c3) (r : List UInt8) : dC (h.bytes c0 c1 c2 c3 ++ r) 2 = c0 ∧ dC (h.bytes c0 c1 c2 c3 ++ r) 3 = c1 ∧ dC (h.bytes c0 c1 c2 c3 ++ r) 4 = c2 ∧ dC (h.bytes c0 c1 c2 c3 ++ r) 5 = c3 := by
  rw [dC_ok (back_E k r), dC_ok (back_E k r), dC_ok (back_E k r), dC_ok (back_E k r)]
  exact (back_num k r).2.2
end

set_option maxRecDepth 20000 in
theorem c_ciceronelaw02_HeaderBack (h : Hd) (c0 c1 c2 c3 : Int) (r : List UInt8) (hr : r.length ≤ 140737488351232) : AC Try.prog 12 [.agg [i64 h.id, tf h.resp, i64 h.op, tf h.aa, tf h.tc, tf h.rd, tf h.ra, i64 h.code], .agg [i64 c0, i64 c1, i64 c2, i64 c3], .fz 0 r.length (cl bc r)] emp (Ret (tf true)) := by
  refine AC.intro te_ok (fn := Try.f12) ⟨Try.func12, rfl, rfl⟩ (Nat.le_of_ble_eq_true rfl) ?_
  refine AWp.seq ?_
  refine AWp.region ?_
  refine AOps.cons rfl rfl (q_box 100) ?_
  refine AOps.cons rfl rfl (q_box 101) ?_
  refine AOps.cons rfl rfl (q_assign) ?_
  refine AOps.nil ?_
  refine AWp.seq ?_
  refine AWp.region ?_
  refine AOps.cons rfl rfl (q_load) ?_
  refine AOps.cons rfl rfl (q_load) ?_
  refine AOps.cons rfl rfl (q_call (0) (hc := (c_header_Encode h c0 c1 c2 c3))) ?_
  refine AOps.cons rfl rfl (q_move) ?_
  refine AOps.cons rfl rfl (q_extract) ?_
  refine AOps.cons rfl rfl (q_extract) ?_
  refine AOps.cons rfl rfl (q_assign) ?_
  refine AOps.cons rfl rfl (q_assign) ?_
  refine AOps.nil ?_
  refine AWp.seq ?_
  refine AWp.seq ?_
  refine AWp.region ?_
  refine AOps.cons rfl rfl (q_load) ?_
  refine AOps.cons rfl rfl (q_load) ?_
  refine AOps.dec rfl rfl (q_call (0) (hc := (c_ciceroneref02_Can h c0 c1 c2 c3))) (fun h2_2 => ?_) (fun h2_2 => ?_)
  · skip
    refine AOps.cons rfl rfl (q_not) ?_
    refine AOps.nil ?_
    refine AWp.cond_f rfl ?_
    refine AWp.skip ?_
    refine AWp.seq ?_
    refine AWp.region ?_
    rw [hB_yes h2_2, hE_yes h2_2]
    have hbl := Hd.bytes_length h c0 c1 c2 c3
    refine AOps.cons rfl rfl (q_move) ?_
    refine AOps.cons rfl rfl (q_callB (0) [] [(8, 5018)] [(_, _)] (hc := (co_Clone _ _ (by rw [Hd.bytes_length]; decide)))) ?_
    refine AOps.cons rfl rfl (q_move) ?_
    refine AOps.cons rfl rfl (q_app) ?_
    refine AOps.cons rfl rfl (q_call (0) (hc := c_header_Decode _ _ (by first | assumption | omega | decide | (simp; omega) | (simp [*]; done)))) ?_
    refine AOps.cons rfl rfl (q_move) ?_
    refine AOps.cons rfl rfl (q_extract) ?_
    refine AOps.cons rfl rfl (q_extract) ?_
    refine AOps.cons rfl rfl (q_extract) ?_
    refine AOps.cons rfl rfl (q_alloc 509) ?_
    refine AOps.cons rfl rfl (q_alloc 510) ?_
    refine AOps.cons rfl rfl (q_store) ?_
    refine AOps.cons rfl rfl (q_store) ?_
    refine AOps.cons rfl rfl (q_assign) ?_
    refine AOps.nil ?_
    refine AWp.seq ?_
    refine AWp.region ?_
    obtain ⟨e2, e3, e4, e5⟩ := back_C h2_2 r
    rw [back_E h2_2 r, back_H h2_2 r, e2, e3, e4, e5]
    refine AOps.cons rfl rfl (q_move) ?_
    refine AOps.dec rfl rfl (q_eql) (fun h5_1 => ?_) (fun h5_1 => ?_)
    · skip
      refine AOps.cons rfl rfl (q_move) ?_
      refine AOps.gcons rfl rfl rfl rfl rfl (q_move) ?_
      refine AOps.gdec rfl rfl rfl rfl rfl (q_eql) (fun h5_4 => ?_) (fun h5_4 => ?_)
      · skip
        refine AOps.cons rfl rfl (q_pick) ?_
        refine AOps.cons rfl rfl (q_move) ?_
        refine AOps.gcons rfl rfl rfl rfl rfl (q_load) ?_
        refine AOps.gcons rfl rfl rfl rfl rfl (q_load) ?_
        refine AOps.gbool rfl rfl rfl rfl rfl (q_eqp) (fun h5_9 => ?_) (fun h5_9 => ?_)
        · skip
          refine AOps.cons rfl rfl (q_pick) ?_
          refine AOps.cons rfl rfl (q_move) ?_
          refine AOps.gcons rfl rfl rfl rfl rfl (q_load) ?_
          refine AOps.gcons rfl rfl rfl rfl rfl (q_load) ?_
          refine AOps.gbool rfl rfl rfl rfl rfl (q_eqp) (fun h5_14 => ?_) (fun h5_14 => ?_)
          · skip
            refine AOps.cons rfl rfl (q_pick) ?_
            refine AOps.cons rfl rfl (q_move) ?_
            refine AOps.gcons rfl rfl rfl rfl rfl (q_move) ?_
            refine AOps.gcons rfl rfl rfl rfl rfl (q_len) ?_
            refine AOps.gcons rfl rfl rfl rfl rfl (q_eql) ?_
            refine AOps.cons rfl rfl (q_pick) ?_
            refine AOps.cons rfl rfl (q_assign) ?_
            refine AOps.nil ?_
            refine AWp.ret ?_
            show Fin te Try.f12 _ _
            refine q_ret (0) [_] [_] ?_
            rfl
          · exfalso; first | exact h5_14 rfl | omega | (rw [eqV_same rfl] at h5_14; cases h5_14) | (simp at h5_14; done) | (simp_all; done)
        · exfalso; first | exact h5_9 rfl | omega | (rw [eqV_same rfl] at h5_9; cases h5_9) | (simp at h5_9; done) | (simp_all; done)
      · exfalso; first | exact h5_4 rfl | omega | (rw [eqV_same rfl] at h5_4; cases h5_4) | (simp at h5_4; done) | (simp_all; done)
    · exfalso; first | exact h5_1 rfl | omega | (rw [eqV_same rfl] at h5_1; cases h5_1) | (simp at h5_1; done) | (simp_all; done)
  · skip
    refine AOps.cons rfl rfl (q_not) ?_
    refine AOps.nil ?_
    refine AWp.cond_t rfl ?_
    refine AWp.seq ?_
    refine AWp.region ?_
    rw [hB_no h2_2, hE_no h2_2]
    refine AOps.cons rfl rfl (q_move) ?_
    refine AOps.dec rfl rfl (q_eql) (fun h3_1 => ?_) (fun h3_1 => ?_)
    · skip
      refine AOps.cons rfl rfl (q_move) ?_
      refine AOps.gcons rfl rfl rfl rfl rfl (q_move) ?_
      refine AOps.gcons rfl rfl rfl rfl rfl (q_len) ?_
      refine AOps.gdec rfl rfl rfl rfl rfl (q_eql) (fun h3_5 => ?_) (fun h3_5 => ?_)
      · skip
        refine AOps.cons rfl rfl (q_pick) ?_
        refine AOps.cons rfl rfl (q_move) ?_
        refine AOps.gcons rfl rfl rfl rfl rfl (q_call (0) (hc := c_ciceronelaw02_awake)) ?_
        refine AOps.cons rfl rfl (q_pick) ?_
        refine AOps.cons rfl rfl (q_assign) ?_
        refine AOps.nil ?_
        refine AWp.ret ?_
        show Fin te Try.f12 _ _
        refine q_ret (0) [_] [_] ?_
        rfl
      · exfalso; first | exact h3_5 rfl | omega | (rw [eqV_same rfl] at h3_5; cases h3_5) | (simp at h3_5; done) | (simp_all; done)
    · exfalso; first | exact h3_1 rfl | omega | (rw [eqV_same rfl] at h3_1; cases h3_1) | (simp at h3_1; done) | (simp_all; done)

end Go.Proofs.Ytahkngplohnliaa.Fw
