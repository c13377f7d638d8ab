/- The walk of a law of layer 11; no condition. -/
import Derived.Test.YtahkngplohnliaaWkPrefix
set_option linter.unusedVariables false
set_option linter.unusedSimpArgs false
namespace Go.Proofs.Ytahkngplohnliaa.Fw
open Go.RowKit

set_option maxRecDepth 20000 in
theorem c_ciceronelaw11_PrefixWrites (l : List UInt8) : AC Try.prog 3 [.fz 0 l.length (bs l)] emp (Ret (tf true)) := by
  refine AC.intro te_ok (fn := Try.f3) ⟨Try.func3, rfl, rfl⟩ (Nat.le_of_ble_eq_true rfl) ?_
  refine AWp.seq ?_
  refine AWp.region ?_
  refine AOps.cons rfl rfl (ok_assign rfl (by conv => lhs; whnf) rfl rfl) ?_
  refine AOps.nil ?_
  refine AWp.seq ?_
  refine AWp.region ?_
  rcases Nat.lt_or_ge 65535 l.length with hl | hl
  · skip
    refine AOps.cons rfl rfl (ok_move rfl (by conv => lhs; whnf) rfl rfl) ?_
    refine AOps.cons rfl rfl (ok_call 0 rfl rfl (enc_big l 0 hl) ⟨(by first | exact fv_ok rfl | (refine fv_ok ?_; simp [AV.ok, AV.oks]; done) | exact fv_nil | (refine fv_up ?_ ?_ <;> omega) | exact fv_row rfl rfl (by first | rfl | (simp [AV.oks_append, AV.oks_cons, AV.oks_nil, AV.ok_v, AV.ok_fz, AV.ok_fp, bs_oks]; done)) (by first | omega | (simp; omega) | decide | (simp [*]; done)) (by decide) (by first | rfl | (simp; done) | (simp; rfl) | (simp [bs]; done)) | exact fv_ptr rfl rfl (by first | rfl | (simp [AV.oks_append, AV.oks_cons, AV.oks_nil, AV.ok_v, AV.ok_fz, AV.ok_fp, bs_oks]; done)) (by first | omega | (simp; omega) | decide | (simp [*]; done)) rfl), trivial⟩ (by first | rfl | (simp [AV.ok, AV.oks]; done)) rfl rfl) ?_
    refine AOps.cons rfl rfl (ok_move rfl (by conv => lhs; whnf) rfl rfl) ?_
    refine AOps.cons rfl rfl (ok_extract rfl rfl rfl rfl rfl) ?_
    refine AOps.cons rfl rfl (ok_extract rfl rfl rfl rfl rfl) ?_
    refine AOps.cons rfl rfl (ok_assign rfl (by conv => lhs; whnf) rfl rfl) ?_
    refine AOps.cons rfl rfl (ok_assign rfl (by conv => lhs; whnf) rfl rfl) ?_
    refine AOps.nil ?_
    refine AWp.seq ?_
    refine AWp.region ?_
    refine AOps.cons rfl rfl (ok_move rfl (by conv => lhs; whnf) rfl rfl) ?_
    refine AOps.cons rfl rfl (ok_call 0 rfl rfl (renc_big l 0 hl) ⟨(by first | exact fv_ok rfl | (refine fv_ok ?_; simp [AV.ok, AV.oks]; done) | exact fv_nil | (refine fv_up ?_ ?_ <;> omega) | exact fv_row rfl rfl (by first | rfl | (simp [AV.oks_append, AV.oks_cons, AV.oks_nil, AV.ok_v, AV.ok_fz, AV.ok_fp, bs_oks]; done)) (by first | omega | (simp; omega) | decide | (simp [*]; done)) (by decide) (by first | rfl | (simp; done) | (simp; rfl) | (simp [bs]; done)) | exact fv_ptr rfl rfl (by first | rfl | (simp [AV.oks_append, AV.oks_cons, AV.oks_nil, AV.ok_v, AV.ok_fz, AV.ok_fp, bs_oks]; done)) (by first | omega | (simp; omega) | decide | (simp [*]; done)) rfl), trivial⟩ (by first | rfl | (simp [AV.ok, AV.oks]; done)) rfl rfl) ?_
    refine AOps.cons rfl rfl (ok_move rfl (by conv => lhs; whnf) rfl rfl) ?_
    refine AOps.cons rfl rfl (ok_extract rfl rfl rfl rfl rfl) ?_
    refine AOps.cons rfl rfl (ok_extract rfl rfl rfl rfl rfl) ?_
    refine AOps.cons rfl rfl (ok_assign rfl (by conv => lhs; whnf) rfl rfl) ?_
    refine AOps.cons rfl rfl (ok_assign rfl (by conv => lhs; whnf) rfl rfl) ?_
    refine AOps.nil ?_
    refine AWp.seq ?_
    refine AWp.region ?_
    refine AOps.cons rfl rfl (ok_buildSlice2 (id := 400) (vals := [(_, _)]) te_ok rfl ⟨rfl, (by conv => lhs; whnf), trivial⟩ rfl rfl rfl rfl rfl (by first | (simp only [List.take_succ_cons, List.take_zero, List.drop_succ_cons, List.drop_zero, List.drop_nil, List.take_nil, List.nil_append, List.cons_append, List.append_nil, List.map_cons, List.map_nil, ZC.val, repZ]; rfl) | rfl) rfl rfl rfl rfl) ?_
    refine AOps.cons rfl rfl (ok_call 0 rfl rfl (enc_small [5] 1 (by decide)) ⟨(by first | exact fv_ok rfl | (refine fv_ok ?_; simp [AV.ok, AV.oks]; done) | exact fv_nil | (refine fv_up ?_ ?_ <;> omega) | exact fv_row rfl rfl (by first | rfl | (simp [AV.oks_append, AV.oks_cons, AV.oks_nil, AV.ok_v, AV.ok_fz, AV.ok_fp, bs_oks]; done)) (by first | omega | (simp; omega) | decide | (simp [*]; done)) (by decide) (by first | rfl | (simp; done) | (simp; rfl) | (simp [bs]; done)) | exact fv_ptr rfl rfl (by first | rfl | (simp [AV.oks_append, AV.oks_cons, AV.oks_nil, AV.ok_v, AV.ok_fz, AV.ok_fp, bs_oks]; done)) (by first | omega | (simp; omega) | decide | (simp [*]; done)) rfl), trivial⟩ (by first | rfl | (simp [AV.ok, AV.oks]; done)) rfl rfl) ?_
    refine AOps.cons rfl rfl (ok_move rfl (by conv => lhs; whnf) rfl rfl) ?_
    refine AOps.cons rfl rfl (ok_extract rfl rfl rfl rfl rfl) ?_
    refine AOps.cons rfl rfl (ok_extract rfl rfl rfl rfl rfl) ?_
    refine AOps.cons rfl rfl (ok_assign rfl (by conv => lhs; whnf) rfl rfl) ?_
    refine AOps.cons rfl rfl (ok_assign rfl (by conv => lhs; whnf) rfl rfl) ?_
    refine AOps.nil ?_
    refine AWp.seq ?_
    refine AWp.region ?_
    refine AOps.cons rfl rfl (ok_move rfl (by conv => lhs; whnf) rfl rfl) ?_
    refine AOps.cons rfl rfl (ok_move rfl (by conv => lhs; whnf) rfl rfl) ?_
    refine AOps.dec rfl rfl (ok_bin rfl rfl rfl bd_eql rfl rfl) (fun h4_2 => ?_) (fun h4_2 => ?_)
    · skip
      refine AOps.cons rfl rfl (ok_move rfl (by conv => lhs; whnf) rfl rfl) ?_
      refine AOps.gcons rfl rfl rfl rfl rfl (ok_move rfl (by conv => lhs; whnf) rfl rfl) ?_
      refine AOps.gcons rfl rfl rfl rfl rfl (ok_move rfl (by conv => lhs; whnf) rfl rfl) ?_
      refine AOps.gbool rfl rfl rfl rfl rfl (ok_call 0 rfl rfl (c_bytes_Equal [] [] 0 0) ⟨(by first | exact fv_ok rfl | (refine fv_ok ?_; simp [AV.ok, AV.oks]; done) | exact fv_nil | (refine fv_up ?_ ?_ <;> omega) | exact fv_row rfl rfl (by first | rfl | (simp [AV.oks_append, AV.oks_cons, AV.oks_nil, AV.ok_v, AV.ok_fz, AV.ok_fp, bs_oks]; done)) (by first | omega | (simp; omega) | decide | (simp [*]; done)) (by decide) (by first | rfl | (simp; done) | (simp; rfl) | (simp [bs]; done)) | exact fv_ptr rfl rfl (by first | rfl | (simp [AV.oks_append, AV.oks_cons, AV.oks_nil, AV.ok_v, AV.ok_fz, AV.ok_fp, bs_oks]; done)) (by first | omega | (simp; omega) | decide | (simp [*]; done)) rfl), (by first | exact fv_ok rfl | (refine fv_ok ?_; simp [AV.ok, AV.oks]; done) | exact fv_nil | (refine fv_up ?_ ?_ <;> omega) | exact fv_row rfl rfl (by first | rfl | (simp [AV.oks_append, AV.oks_cons, AV.oks_nil, AV.ok_v, AV.ok_fz, AV.ok_fp, bs_oks]; done)) (by first | omega | (simp; omega) | decide | (simp [*]; done)) (by decide) (by first | rfl | (simp; done) | (simp; rfl) | (simp [bs]; done)) | exact fv_ptr rfl rfl (by first | rfl | (simp [AV.oks_append, AV.oks_cons, AV.oks_nil, AV.ok_v, AV.ok_fz, AV.ok_fp, bs_oks]; done)) (by first | omega | (simp; omega) | decide | (simp [*]; done)) rfl), trivial⟩ (by first | rfl | (simp [AV.ok, AV.oks]; done)) rfl rfl) (fun h4_6 => ?_) (fun h4_6 => ?_)
      · skip
        refine AOps.cons rfl rfl (ok_pick rfl rfl (by conv => lhs; whnf) rfl rfl) ?_
        refine AOps.cons rfl rfl (ok_move rfl (by conv => lhs; whnf) rfl rfl) ?_
        refine AOps.gcons rfl rfl rfl rfl rfl (ok_move rfl (by conv => lhs; whnf) rfl rfl) ?_
        refine AOps.gdec rfl rfl rfl rfl rfl (ok_bin rfl rfl rfl bd_eql rfl rfl) (fun h4_10 => ?_) (fun h4_10 => ?_)
        · skip
          refine AOps.cons rfl rfl (ok_pick rfl rfl (by conv => lhs; whnf) rfl rfl) ?_
          refine AOps.cons rfl rfl (ok_move rfl (by conv => lhs; whnf) rfl rfl) ?_
          refine AOps.gcons rfl rfl rfl rfl rfl (ok_move rfl (by conv => lhs; whnf) rfl rfl) ?_
          refine AOps.gcons rfl rfl rfl rfl rfl (ok_buildSlice2 (id := 514) (vals := [(_, _), (_, _), (_, _)]) te_ok rfl ⟨rfl, (by conv => lhs; whnf), rfl, (by conv => lhs; whnf), rfl, (by conv => lhs; whnf), trivial⟩ rfl rfl rfl rfl rfl (by first | (simp only [List.take_succ_cons, List.take_zero, List.drop_succ_cons, List.drop_zero, List.drop_nil, List.take_nil, List.nil_append, List.cons_append, List.append_nil, List.map_cons, List.map_nil, ZC.val, repZ]; rfl) | rfl) rfl rfl rfl rfl) ?_
          refine AOps.gcons rfl rfl rfl rfl rfl (ok_call 0 rfl rfl (c_bytes_Equal (frame [5]) [0, 1, 5] 0 1) ⟨(by first | exact fv_ok rfl | (refine fv_ok ?_; simp [AV.ok, AV.oks]; done) | exact fv_nil | (refine fv_up ?_ ?_ <;> omega) | exact fv_row rfl rfl (by first | rfl | (simp [AV.oks_append, AV.oks_cons, AV.oks_nil, AV.ok_v, AV.ok_fz, AV.ok_fp, bs_oks]; done)) (by first | omega | (simp; omega) | decide | (simp [*]; done)) (by decide) (by first | rfl | (simp; done) | (simp; rfl) | (simp [bs]; done)) | exact fv_ptr rfl rfl (by first | rfl | (simp [AV.oks_append, AV.oks_cons, AV.oks_nil, AV.ok_v, AV.ok_fz, AV.ok_fp, bs_oks]; done)) (by first | omega | (simp; omega) | decide | (simp [*]; done)) rfl), (by first | exact fv_ok rfl | (refine fv_ok ?_; simp [AV.ok, AV.oks]; done) | exact fv_nil | (refine fv_up ?_ ?_ <;> omega) | exact fv_row rfl rfl (by first | rfl | (simp [AV.oks_append, AV.oks_cons, AV.oks_nil, AV.ok_v, AV.ok_fz, AV.ok_fp, bs_oks]; done)) (by first | omega | (simp; omega) | decide | (simp [*]; done)) (by decide) (by first | rfl | (simp; done) | (simp; rfl) | (simp [bs]; done)) | exact fv_ptr rfl rfl (by first | rfl | (simp [AV.oks_append, AV.oks_cons, AV.oks_nil, AV.ok_v, AV.ok_fz, AV.ok_fp, bs_oks]; done)) (by first | omega | (simp; omega) | decide | (simp [*]; done)) rfl), trivial⟩ (by first | rfl | (simp [AV.ok, AV.oks]; done)) rfl rfl) ?_
          refine AOps.cons rfl rfl (ok_pick rfl rfl (by conv => lhs; whnf) rfl rfl) ?_
          refine AOps.cons rfl rfl (ok_assign rfl (by conv => lhs; whnf) rfl rfl) ?_
          refine AOps.nil ?_
          refine AWp.ret ?_
          show Fin te Try.f3 _ _
          refine Fin.ret2 (xs := [_]) (ys := [_]) 0 ⟨res_tmp (by conv => lhs; whnf), trivial⟩ ⟨(by first | exact fv_ok rfl | (refine fv_ok ?_; simp [AV.ok, AV.oks]; done) | exact fv_row rfl rfl (by first | rfl | (simp [AV.oks_append, AV.oks_cons, AV.oks_nil, AV.ok_v, AV.ok_fz, AV.ok_fp, bs_oks]; done)) (by first | omega | (simp; omega) | decide | (simp [*]; done)) (by decide) rfl), trivial⟩ ?_
          rfl
        · exfalso; first | omega | (simp at h4_10; done) | (simp_all; done)
      · exfalso; first | omega | (simp at h4_6; done) | (simp_all; done)
    · exfalso; first | omega | (simp at h4_2; done) | (simp_all; done)
  · skip
    refine AOps.cons rfl rfl (ok_move rfl (by conv => lhs; whnf) rfl rfl) ?_
    refine AOps.cons rfl rfl (ok_call 0 rfl rfl (enc_small l 0 hl) ⟨(by first | exact fv_ok rfl | (refine fv_ok ?_; simp [AV.ok, AV.oks]; done) | exact fv_nil | (refine fv_up ?_ ?_ <;> omega) | exact fv_row rfl rfl (by first | rfl | (simp [AV.oks_append, AV.oks_cons, AV.oks_nil, AV.ok_v, AV.ok_fz, AV.ok_fp, bs_oks]; done)) (by first | omega | (simp; omega) | decide | (simp [*]; done)) (by decide) (by first | rfl | (simp; done) | (simp; rfl) | (simp [bs]; done)) | exact fv_ptr rfl rfl (by first | rfl | (simp [AV.oks_append, AV.oks_cons, AV.oks_nil, AV.ok_v, AV.ok_fz, AV.ok_fp, bs_oks]; done)) (by first | omega | (simp; omega) | decide | (simp [*]; done)) rfl), trivial⟩ (by first | rfl | (simp [AV.ok, AV.oks]; done)) rfl rfl) ?_
    refine AOps.cons rfl rfl (ok_move rfl (by conv => lhs; whnf) rfl rfl) ?_
    refine AOps.cons rfl rfl (ok_extract rfl rfl rfl rfl rfl) ?_
    refine AOps.cons rfl rfl (ok_extract rfl rfl rfl rfl rfl) ?_
    refine AOps.cons rfl rfl (ok_assign rfl (by conv => lhs; whnf) rfl rfl) ?_
    refine AOps.cons rfl rfl (ok_assign rfl (by conv => lhs; whnf) rfl rfl) ?_
    refine AOps.nil ?_
    refine AWp.seq ?_
    refine AWp.region ?_
    refine AOps.cons rfl rfl (ok_move rfl (by conv => lhs; whnf) rfl rfl) ?_
    refine AOps.cons rfl rfl (ok_call 0 rfl rfl (renc_small l 0 hl) ⟨(by first | exact fv_ok rfl | (refine fv_ok ?_; simp [AV.ok, AV.oks]; done) | exact fv_nil | (refine fv_up ?_ ?_ <;> omega) | exact fv_row rfl rfl (by first | rfl | (simp [AV.oks_append, AV.oks_cons, AV.oks_nil, AV.ok_v, AV.ok_fz, AV.ok_fp, bs_oks]; done)) (by first | omega | (simp; omega) | decide | (simp [*]; done)) (by decide) (by first | rfl | (simp; done) | (simp; rfl) | (simp [bs]; done)) | exact fv_ptr rfl rfl (by first | rfl | (simp [AV.oks_append, AV.oks_cons, AV.oks_nil, AV.ok_v, AV.ok_fz, AV.ok_fp, bs_oks]; done)) (by first | omega | (simp; omega) | decide | (simp [*]; done)) rfl), trivial⟩ (by first | rfl | (simp [AV.ok, AV.oks]; done)) rfl rfl) ?_
    refine AOps.cons rfl rfl (ok_move rfl (by conv => lhs; whnf) rfl rfl) ?_
    refine AOps.cons rfl rfl (ok_extract rfl rfl rfl rfl rfl) ?_
    refine AOps.cons rfl rfl (ok_extract rfl rfl rfl rfl rfl) ?_
    refine AOps.cons rfl rfl (ok_assign rfl (by conv => lhs; whnf) rfl rfl) ?_
    refine AOps.cons rfl rfl (ok_assign rfl (by conv => lhs; whnf) rfl rfl) ?_
    refine AOps.nil ?_
    refine AWp.seq ?_
    refine AWp.region ?_
    refine AOps.cons rfl rfl (ok_buildSlice2 (id := 400) (vals := [(_, _)]) te_ok rfl ⟨rfl, (by conv => lhs; whnf), trivial⟩ rfl rfl rfl rfl rfl (by first | (simp only [List.take_succ_cons, List.take_zero, List.drop_succ_cons, List.drop_zero, List.drop_nil, List.take_nil, List.nil_append, List.cons_append, List.append_nil, List.map_cons, List.map_nil, ZC.val, repZ]; rfl) | rfl) rfl rfl rfl rfl) ?_
    refine AOps.cons rfl rfl (ok_call 0 rfl rfl (enc_small [5] 1 (by decide)) ⟨(by first | exact fv_ok rfl | (refine fv_ok ?_; simp [AV.ok, AV.oks]; done) | exact fv_nil | (refine fv_up ?_ ?_ <;> omega) | exact fv_row rfl rfl (by first | rfl | (simp [AV.oks_append, AV.oks_cons, AV.oks_nil, AV.ok_v, AV.ok_fz, AV.ok_fp, bs_oks]; done)) (by first | omega | (simp; omega) | decide | (simp [*]; done)) (by decide) (by first | rfl | (simp; done) | (simp; rfl) | (simp [bs]; done)) | exact fv_ptr rfl rfl (by first | rfl | (simp [AV.oks_append, AV.oks_cons, AV.oks_nil, AV.ok_v, AV.ok_fz, AV.ok_fp, bs_oks]; done)) (by first | omega | (simp; omega) | decide | (simp [*]; done)) rfl), trivial⟩ (by first | rfl | (simp [AV.ok, AV.oks]; done)) rfl rfl) ?_
    refine AOps.cons rfl rfl (ok_move rfl (by conv => lhs; whnf) rfl rfl) ?_
    refine AOps.cons rfl rfl (ok_extract rfl rfl rfl rfl rfl) ?_
    refine AOps.cons rfl rfl (ok_extract rfl rfl rfl rfl rfl) ?_
    refine AOps.cons rfl rfl (ok_assign rfl (by conv => lhs; whnf) rfl rfl) ?_
    refine AOps.cons rfl rfl (ok_assign rfl (by conv => lhs; whnf) rfl rfl) ?_
    refine AOps.nil ?_
    refine AWp.seq ?_
    refine AWp.region ?_
    refine AOps.cons rfl rfl (ok_move rfl (by conv => lhs; whnf) rfl rfl) ?_
    refine AOps.cons rfl rfl (ok_move rfl (by conv => lhs; whnf) rfl rfl) ?_
    refine AOps.dec rfl rfl (ok_bin rfl rfl rfl bd_eql rfl rfl) (fun h4_2 => ?_) (fun h4_2 => ?_)
    · skip
      refine AOps.cons rfl rfl (ok_move rfl (by conv => lhs; whnf) rfl rfl) ?_
      refine AOps.gcons rfl rfl rfl rfl rfl (ok_move rfl (by conv => lhs; whnf) rfl rfl) ?_
      refine AOps.gcons rfl rfl rfl rfl rfl (ok_move rfl (by conv => lhs; whnf) rfl rfl) ?_
      refine AOps.gbool rfl rfl rfl rfl rfl (ok_call 0 rfl rfl (c_bytes_Equal (frame l) (frame l) 0 0) ⟨(by first | exact fv_ok rfl | (refine fv_ok ?_; simp [AV.ok, AV.oks]; done) | exact fv_nil | (refine fv_up ?_ ?_ <;> omega) | exact fv_row rfl rfl (by first | rfl | (simp [AV.oks_append, AV.oks_cons, AV.oks_nil, AV.ok_v, AV.ok_fz, AV.ok_fp, bs_oks]; done)) (by first | omega | (simp; omega) | decide | (simp [*]; done)) (by decide) (by first | rfl | (simp; done) | (simp; rfl) | (simp [bs]; done)) | exact fv_ptr rfl rfl (by first | rfl | (simp [AV.oks_append, AV.oks_cons, AV.oks_nil, AV.ok_v, AV.ok_fz, AV.ok_fp, bs_oks]; done)) (by first | omega | (simp; omega) | decide | (simp [*]; done)) rfl), (by first | exact fv_ok rfl | (refine fv_ok ?_; simp [AV.ok, AV.oks]; done) | exact fv_nil | (refine fv_up ?_ ?_ <;> omega) | exact fv_row rfl rfl (by first | rfl | (simp [AV.oks_append, AV.oks_cons, AV.oks_nil, AV.ok_v, AV.ok_fz, AV.ok_fp, bs_oks]; done)) (by first | omega | (simp; omega) | decide | (simp [*]; done)) (by decide) (by first | rfl | (simp; done) | (simp; rfl) | (simp [bs]; done)) | exact fv_ptr rfl rfl (by first | rfl | (simp [AV.oks_append, AV.oks_cons, AV.oks_nil, AV.ok_v, AV.ok_fz, AV.ok_fp, bs_oks]; done)) (by first | omega | (simp; omega) | decide | (simp [*]; done)) rfl), trivial⟩ (by first | rfl | (simp [AV.ok, AV.oks]; done)) rfl rfl) (fun h4_6 => ?_) (fun h4_6 => ?_)
      · skip
        refine AOps.cons rfl rfl (ok_pick rfl rfl (by conv => lhs; whnf) rfl rfl) ?_
        refine AOps.cons rfl rfl (ok_move rfl (by conv => lhs; whnf) rfl rfl) ?_
        refine AOps.gcons rfl rfl rfl rfl rfl (ok_move rfl (by conv => lhs; whnf) rfl rfl) ?_
        refine AOps.gdec rfl rfl rfl rfl rfl (ok_bin rfl rfl rfl bd_eql rfl rfl) (fun h4_10 => ?_) (fun h4_10 => ?_)
        · skip
          refine AOps.cons rfl rfl (ok_pick rfl rfl (by conv => lhs; whnf) rfl rfl) ?_
          refine AOps.cons rfl rfl (ok_move rfl (by conv => lhs; whnf) rfl rfl) ?_
          refine AOps.gcons rfl rfl rfl rfl rfl (ok_move rfl (by conv => lhs; whnf) rfl rfl) ?_
          refine AOps.gcons rfl rfl rfl rfl rfl (ok_buildSlice2 (id := 514) (vals := [(_, _), (_, _), (_, _)]) te_ok rfl ⟨rfl, (by conv => lhs; whnf), rfl, (by conv => lhs; whnf), rfl, (by conv => lhs; whnf), trivial⟩ rfl rfl rfl rfl rfl (by first | (simp only [List.take_succ_cons, List.take_zero, List.drop_succ_cons, List.drop_zero, List.drop_nil, List.take_nil, List.nil_append, List.cons_append, List.append_nil, List.map_cons, List.map_nil, ZC.val, repZ]; rfl) | rfl) rfl rfl rfl rfl) ?_
          refine AOps.gcons rfl rfl rfl rfl rfl (ok_call 0 rfl rfl (c_bytes_Equal (frame [5]) [0, 1, 5] 0 1) ⟨(by first | exact fv_ok rfl | (refine fv_ok ?_; simp [AV.ok, AV.oks]; done) | exact fv_nil | (refine fv_up ?_ ?_ <;> omega) | exact fv_row rfl rfl (by first | rfl | (simp [AV.oks_append, AV.oks_cons, AV.oks_nil, AV.ok_v, AV.ok_fz, AV.ok_fp, bs_oks]; done)) (by first | omega | (simp; omega) | decide | (simp [*]; done)) (by decide) (by first | rfl | (simp; done) | (simp; rfl) | (simp [bs]; done)) | exact fv_ptr rfl rfl (by first | rfl | (simp [AV.oks_append, AV.oks_cons, AV.oks_nil, AV.ok_v, AV.ok_fz, AV.ok_fp, bs_oks]; done)) (by first | omega | (simp; omega) | decide | (simp [*]; done)) rfl), (by first | exact fv_ok rfl | (refine fv_ok ?_; simp [AV.ok, AV.oks]; done) | exact fv_nil | (refine fv_up ?_ ?_ <;> omega) | exact fv_row rfl rfl (by first | rfl | (simp [AV.oks_append, AV.oks_cons, AV.oks_nil, AV.ok_v, AV.ok_fz, AV.ok_fp, bs_oks]; done)) (by first | omega | (simp; omega) | decide | (simp [*]; done)) (by decide) (by first | rfl | (simp; done) | (simp; rfl) | (simp [bs]; done)) | exact fv_ptr rfl rfl (by first | rfl | (simp [AV.oks_append, AV.oks_cons, AV.oks_nil, AV.ok_v, AV.ok_fz, AV.ok_fp, bs_oks]; done)) (by first | omega | (simp; omega) | decide | (simp [*]; done)) rfl), trivial⟩ (by first | rfl | (simp [AV.ok, AV.oks]; done)) rfl rfl) ?_
          refine AOps.cons rfl rfl (ok_pick rfl rfl (by conv => lhs; whnf) rfl rfl) ?_
          refine AOps.cons rfl rfl (ok_assign rfl (by conv => lhs; whnf) rfl rfl) ?_
          refine AOps.nil ?_
          refine AWp.ret ?_
          show Fin te Try.f3 _ _
          refine Fin.ret2 (xs := [_]) (ys := [_]) 0 ⟨res_tmp (by conv => lhs; whnf), trivial⟩ ⟨(by first | exact fv_ok rfl | (refine fv_ok ?_; simp [AV.ok, AV.oks]; done) | exact fv_row rfl rfl (by first | rfl | (simp [AV.oks_append, AV.oks_cons, AV.oks_nil, AV.ok_v, AV.ok_fz, AV.ok_fp, bs_oks]; done)) (by first | omega | (simp; omega) | decide | (simp [*]; done)) (by decide) rfl), trivial⟩ ?_
          rfl
        · exfalso; first | omega | (simp at h4_10; done) | (simp_all; done)
      · exfalso; first | omega | (simp at h4_6; done) | (simp_all; done)
    · exfalso; first | omega | (simp at h4_2; done) | (simp_all; done)

end Go.Proofs.Ytahkngplohnliaa.Fw
