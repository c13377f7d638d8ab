/- The walk of the law PrefixWaits; no condition. -/
import Derived.Test.YtahkngplohnliaaW11
set_option linter.unusedVariables false
set_option linter.unusedSimpArgs false
namespace Go.Proofs.Ytahkngplohnliaa.Fw
open Go.RowKit


theorem encB_small {l : List UInt8} (h : l.length ≤ 65535) : encB l = frame l := by rw [encB, if_neg (by omega)]
theorem encE_small {l : List UInt8} (h : l.length ≤ 65535) : encE l = 0 := by rw [encE, if_neg (by omega)]
theorem frame_length (l : List UInt8) : (frame l).length = l.length + 2 := by simp [frame]
theorem szN_frame {x r : List UInt8} (h : x.length ≤ 65535) (k : Nat) (hk : 2 ≤ k) : szN ((frame x ++ r).take k) = x.length + 2 := by
  obtain ⟨k, rfl⟩ : ∃ j, k = j + 2 := ⟨k - 2, by omega⟩
  have e : (frame x ++ r).take (k + 2) = byte ((x.length : Int) / 256) :: byte (x.length : Int) :: (x ++ r).take k := rfl
  have h0 := byte_toNat ((x.length : Int) / 256)
  have h1 := byte_toNat (x.length : Int)
  rw [e, szN, if_neg (by simp only [List.length_cons]; omega)]
  simp only [List.getD_cons_zero, List.getD_cons_succ]
  omega
theorem feed_frame {x : List UInt8} (h : x.length ≤ 65535) (r : List UInt8) : feed (frame x ++ r) = (x :: (feed r).1, (feed r).2) := by
  have hl : (frame x ++ r).length = x.length + 2 + r.length := by simp [frame]; omega
  have e := szN_frame (r := r) h (frame x ++ r).length (by omega)
  rw [List.take_length] at e
  have hB : szB (frame x ++ r) = true := szB_iff.2 ⟨by omega, by rw [e]; omega⟩
  have e2 : ((x.length : Int) + 2).toNat = (frame x).length := by simp [frame]; omega
  rw [feed_yes hB, e, e2, List.take_left, List.drop_left]
  rfl
theorem feed_nil : feed [] = ([], []) := feed_no rfl
theorem feed_part {x : List UInt8} (h : x.length ≤ 65535) {k : Nat} (hk : k < x.length + 2) : feed ((frame x).take k) = ([], (frame x).take k) := by
  refine feed_no ?_
  have hl : ((frame x).take k).length = k := by simp [frame]; omega
  rcases Nat.lt_or_ge k 2 with h2 | h2
  · simp [szB, hl]; omega
  · have e := szN_frame (r := []) h k h2
    rw [List.append_nil] at e
    simp [szB, hl, e]; omega

set_option maxRecDepth 20000 in
theorem c_ciceronelaw11_PrefixWaits (l : List UInt8) (n : Int) (hl : l.length ≤ 140737488351232) : AC Try.prog 6 [.fz 0 l.length (cl bc l), i64 n] emp (Ret (tf true)) := by
  refine AC.intro te_ok (fn := Try.f6) ⟨Try.func6, rfl, rfl⟩ (Nat.le_of_ble_eq_true rfl) ?_
  refine AWp.seq ?_
  refine AWp.region ?_
  refine AOps.cons rfl rfl (q_assign) ?_
  refine AOps.nil ?_
  refine AWp.seq ?_
  refine AWp.region ?_
  refine AOps.cons rfl rfl (q_move) ?_
  refine AOps.cons rfl rfl (q_move) ?_
  refine AOps.cons rfl rfl (q_len) ?_
  refine AOps.cons rfl rfl (q_min) ?_
  refine AOps.cons rfl rfl (q_sl) ?_
  refine AOps.cons rfl rfl (q_assign) ?_
  refine AOps.nil ?_
  refine AWp.seq ?_
  refine AWp.region ?_
  generalize hx : l.take (min (l.length : Int) 500).toNat = x
  have hxl : x.length ≤ 500 := by rw [← hx]; simp only [List.length_take]; omega
  refine AOps.cons rfl rfl (q_move) ?_
  refine AOps.cons rfl rfl (q_call (0) (hc := c_prefix_Encode _ _ (by first | assumption | omega | decide | (simp; omega) | (simp [*]; done)))) ?_
  refine AOps.cons rfl rfl (q_move) ?_
  refine AOps.cons rfl rfl (q_extract) ?_
  refine AOps.cons rfl rfl (q_extract) ?_
  refine AOps.cons rfl rfl (q_assign) ?_
  refine AOps.cons rfl rfl (q_assign) ?_
  refine AOps.nil ?_
  refine AWp.seq ?_
  refine AWp.seq ?_
  refine AWp.region ?_
  rw [encB_small (by omega), encE_small (by omega)]
  have hfl := frame_length x
  refine AOps.cons rfl rfl (q_move) ?_
  refine AOps.dec rfl rfl (q_neq) (fun h3_1 => ?_) (fun h3_1 => ?_)
  · exfalso; first | exact h3_1 rfl | omega | (rw [eqV_same rfl] at h3_1; cases h3_1) | (simp at h3_1; done) | (simp_all; done)
  · skip
    refine AOps.cons rfl rfl (q_move) ?_
    refine AOps.gcons rfl rfl rfl rfl rfl (q_move) ?_
    refine AOps.gcons rfl rfl rfl rfl rfl (q_len) ?_
    refine AOps.gdec rfl rfl rfl rfl rfl (q_lss) (fun h3_5 => ?_) (fun h3_5 => ?_)
    · exfalso; simp only [hfl] at h3_5; omega
    · skip
      refine AOps.cons rfl rfl (q_pick) ?_
      refine AOps.nil ?_
      refine AWp.cond_f rfl ?_
      refine AWp.skip ?_
      refine AWp.seq ?_
      refine AWp.region ?_
      refine AOps.cons rfl rfl (q_callB (0) [] [(8, 6008), (9, 6009)] [(_, _), (_, _)] (hc := c_prefix_New)) ?_
      refine AOps.cons rfl rfl (q_assign) ?_
      refine AOps.nil ?_
      refine AWp.seq ?_
      refine AWp.region ?_
      refine AOps.cons rfl rfl (q_move) ?_
      refine AOps.cons rfl rfl (q_conv_u64) ?_
      refine AOps.cons rfl rfl (q_move) ?_
      refine AOps.cons rfl rfl (q_len) ?_
      refine AOps.cons rfl rfl (q_conv_u64) ?_
      refine AOps.cons rfl rfl (q_rem) ?_
      generalize hk : n % 18446744073709551616 % (((frame x).length : Int) % 18446744073709551616) = k
      have hk0 : 0 ≤ k ∧ k < (frame x).length := by
        have h1 := Int.emod_nonneg (n % 18446744073709551616) (show ((frame x).length : Int) % 18446744073709551616 ≠ 0 by omega)
        have h2 := Int.emod_lt_of_pos (n % 18446744073709551616) (show 0 < ((frame x).length : Int) % 18446744073709551616 by omega)
        omega
      refine AOps.cons rfl rfl (q_conv_i64) ?_
      refine AOps.cons rfl rfl (q_assign) ?_
      refine AOps.nil ?_
      refine AWp.seq ?_
      refine AWp.seq ?_
      refine AWp.region ?_
      have hpart : feed ((frame x).take k.toNat) = ([], (frame x).take k.toNat) := feed_part (by omega) (by omega)
      have hwhole : feed ((frame x).take k.toNat ++ (frame x).drop k.toNat) = ([x], []) := by rw [List.take_append_drop]; have := feed_frame (x := x) (by omega) []; rwa [List.append_nil, feed_nil] at this
      have hkl : ((frame x).take k.toNat).length = k.toNat := by rw [List.length_take]; omega
      refine AOps.cons rfl rfl (q_move) ?_
      refine AOps.cons rfl rfl (q_move) ?_
      refine AOps.cons rfl rfl (q_move) ?_
      refine AOps.cons rfl rfl (q_sl) ?_
      refine AOps.cons rfl rfl (q_callB (0) [(0, 6008), (1, 6009)] [] [(_, _), (_, _)] (hc := c_Feed _ _ _ _ _ _ (by first | assumption | omega | decide | (simp; omega) | (simp [*]; done)) (by first | assumption | omega | decide | (simp; omega) | (simp [*]; done)))) ?_
      simp only [List.drop_zero, List.nil_append, hpart, Nat.sub_self]
      refine AOps.cons rfl rfl (q_len) ?_
      refine AOps.dec rfl rfl (q_gtr) (fun h7_6 => ?_) (fun h7_6 => ?_)
      · exfalso; first | exact h7_6 rfl | omega | (rw [eqV_same rfl] at h7_6; cases h7_6) | (simp at h7_6; done) | (simp_all; done)
      · skip
        refine AOps.cons rfl rfl (q_move) ?_
        refine AOps.gcons rfl rfl rfl rfl rfl (q_move) ?_
        refine AOps.gcons rfl rfl rfl rfl rfl (q_callB (0) [(0, 6008), (1, 6009)] [] [(_, _), (_, _)] (hc := c_Left _ _ _ _ _)) ?_
        refine AOps.gcons rfl rfl rfl rfl rfl (q_move) ?_
        refine AOps.gdec rfl rfl rfl rfl rfl (q_neq) (fun h7_11 => ?_) (fun h7_11 => ?_)
        · exfalso; first | exact h7_11 rfl | omega | (rw [eqV_same rfl] at h7_11; cases h7_11) | (simp at h7_11; done) | (simp_all; done)
        · skip
          refine AOps.cons rfl rfl (q_pick) ?_
          refine AOps.nil ?_
          refine AWp.cond_f rfl ?_
          refine AWp.skip ?_
          refine AWp.seq ?_
          refine AWp.region ?_
          refine AOps.cons rfl rfl (q_move) ?_
          refine AOps.cons rfl rfl (q_move) ?_
          refine AOps.cons rfl rfl (q_move) ?_
          refine AOps.cons rfl rfl (q_sl) ?_
          refine AOps.cons rfl rfl (q_callB (0) [(0, 6008), (1, 6009)] [] [(_, _), (_, _)] (hc := c_Feed _ _ _ _ _ _ (by first | assumption | omega | decide | (simp; omega) | (simp [*]; done)) (by first | assumption | omega | decide | (simp; omega) | (simp [*]; done)))) ?_
          refine AOps.cons rfl rfl (q_assign) ?_
          refine AOps.nil ?_
          refine AWp.seq ?_
          refine AWp.region ?_
          simp only [List.drop_zero, hwhole]
          refine AOps.cons rfl rfl (q_move) ?_
          refine AOps.cons rfl rfl (q_len) ?_
          refine AOps.dec rfl rfl (q_eql) (fun h10_2 => ?_) (fun h10_2 => ?_)
          · skip
            refine AOps.cons rfl rfl (q_move) ?_
            refine AOps.gcons rfl rfl rfl rfl rfl (q_move) ?_
            refine AOps.gcons rfl rfl rfl rfl rfl (q_ix) ?_
            refine AOps.gcons rfl rfl rfl rfl rfl (q_load) ?_
            refine AOps.gcons rfl rfl rfl rfl rfl (q_move) ?_
            refine AOps.gbool rfl rfl rfl rfl rfl (q_call (0) (hc := c_bytes_Equal _ _ _ _)) (fun h10_8 => ?_) (fun h10_8 => ?_)
            · skip
              refine AOps.cons rfl rfl (q_pick) ?_
              refine AOps.cons rfl rfl (q_move) ?_
              refine AOps.gcons rfl rfl rfl rfl rfl (q_move) ?_
              refine AOps.gcons rfl rfl rfl rfl rfl (q_callB (0) [(0, 6008), (1, 6009)] [] [(_, _), (_, _)] (hc := c_Left _ _ _ _ _)) ?_
              refine AOps.gcons rfl rfl rfl rfl rfl (q_eql) ?_
              refine AOps.cons rfl rfl (q_pick) ?_
              refine AOps.cons rfl rfl (q_assign) ?_
              refine AOps.nil ?_
              refine AWp.ret ?_
              show Fin te Try.f6 _ _
              refine q_ret (0) [_] [_] ?_
              rfl
            · exfalso; first | exact h10_8 rfl | omega | (rw [eqV_same rfl] at h10_8; cases h10_8) | (simp at h10_8; done) | (simp_all; done)
          · exfalso; first | exact h10_2 rfl | omega | (rw [eqV_same rfl] at h10_2; cases h10_2) | (simp at h10_2; done) | (simp_all; done)

end Go.Proofs.Ytahkngplohnliaa.Fw
