/- Walks of layer 11: what each comes to; its conditions stand ahead of it. -/
import Derived.Test.YtahkngplohnliaaTe
import Derived.Test.YtahkngplohnliaaFwR
set_option linter.unusedVariables false
set_option linter.unusedSimpArgs false
namespace Go.Proofs.Ytahkngplohnliaa.Fw
open Go.RowKit


/-- A frame: two bytes of length, and the bytes. -/
def frame (l : List UInt8) : List UInt8 := [byte ((l.length : Int) / 256), byte (l.length : Int)] ++ l
def pEnc (l : List UInt8) : AV := if 65535 < l.length then .tup [.fz 0 0 [], i64 1] else .tup [.fz 0 (frame l).length (bs (frame l)), i64 0]

set_option maxRecDepth 20000 in
theorem c_prefix_Encode (l : List UInt8) (lv : Nat) : AC Try.prog 13 [.fz lv l.length (bs l)] emp (Ret (pEnc l)) := by
  refine AC.intro te_ok (fn := Try.f13) ⟨Try.func13, rfl, rfl⟩ (Nat.le_of_ble_eq_true rfl) ?_
  refine AWp.seq ?_
  refine AWp.region ?_
  refine AOps.cons rfl rfl (ok_nilfz 0 (.inl rfl) rfl rfl rfl) ?_
  refine AOps.cons rfl rfl (ok_assign rfl (by conv => lhs; whnf) rfl rfl) ?_
  refine AOps.nil ?_
  refine AWp.seq ?_
  refine AWp.seq ?_
  refine AWp.region ?_
  refine AOps.cons rfl rfl (ok_move rfl (by conv => lhs; whnf) rfl rfl) ?_
  refine AOps.cons rfl rfl (ok_len_sl te_ok rfl rfl rfl rfl rfl rfl rfl) ?_
  refine AOps.dec rfl rfl (ok_bin rfl rfl rfl br_gtr rfl rfl) (fun h1_2 => ?_) (fun h1_2 => ?_)
  · skip
    refine AOps.nil ?_
    refine AWp.cond_t rfl ?_
    refine AWp.seq ?_
    refine AWp.region ?_
    refine AOps.cons rfl rfl (ok_nilfz 0 (.inl rfl) rfl rfl rfl) ?_
    refine AOps.cons rfl rfl (ok_assign rfl (by conv => lhs; whnf) rfl rfl) ?_
    refine AOps.nil ?_
    refine AWp.ret ?_
    show Fin te Try.f13 _ _
    refine Fin.ret2 (xs := [_, _]) (ys := [_, _]) 0 ⟨res_tmp (by conv => lhs; whnf), res_tmp (by conv => lhs; whnf), trivial⟩ ⟨(by first | exact fv_ok rfl | (refine fv_ok ?_; simp [AV.ok, AV.oks]; done) | exact fv_row rfl rfl (by first | rfl | (simp [AV.oks_append, AV.oks_cons, AV.oks_nil, AV.ok_v, AV.ok_fz, AV.ok_fp, bs_oks]; done)) (by first | omega | (simp; omega) | decide | (simp [*]; done)) (by decide) rfl), (by first | exact fv_ok rfl | (refine fv_ok ?_; simp [AV.ok, AV.oks]; done) | exact fv_row rfl rfl (by first | rfl | (simp [AV.oks_append, AV.oks_cons, AV.oks_nil, AV.ok_v, AV.ok_fz, AV.ok_fp, bs_oks]; done)) (by first | omega | (simp; omega) | decide | (simp [*]; done)) (by decide) rfl), trivial⟩ ?_
    rw [pEnc, if_pos (by omega)]; rfl
  · skip
    refine AOps.nil ?_
    refine AWp.cond_f rfl ?_
    refine AWp.skip ?_
    refine AWp.seq ?_
    refine AWp.region ?_
    refine AOps.cons rfl rfl (ok_move rfl (by conv => lhs; whnf) rfl rfl) ?_
    refine AOps.cons rfl rfl (ok_len_sl te_ok rfl rfl rfl rfl rfl rfl rfl) ?_
    refine AOps.cons rfl rfl (ok_bin rfl rfl rfl (bi_shr (m := 8) rfl (by decide)) rfl rfl) ?_
    refine AOps.cons rfl rfl (ok_conv_u8 te_ok rfl rfl rfl rfl rfl rfl rfl) ?_
    refine AOps.cons rfl rfl (ok_move rfl (by conv => lhs; whnf) rfl rfl) ?_
    refine AOps.cons rfl rfl (ok_len_sl te_ok rfl rfl rfl rfl rfl rfl rfl) ?_
    refine AOps.cons rfl rfl (ok_conv_u8 te_ok rfl rfl rfl rfl rfl rfl rfl) ?_
    refine AOps.cons rfl rfl (ok_buildSlice2 (id := 407) (vals := [(_, _), (_, _)]) te_ok rfl ⟨rfl, (by conv => lhs; whnf), rfl, (by conv => lhs; whnf), trivial⟩ rfl rfl rfl rfl rfl (by first | (simp only [List.take_succ_cons, List.take_zero, List.drop_succ_cons, List.drop_zero, List.drop_nil, List.take_nil, List.nil_append, List.cons_append, List.append_nil, List.map_cons, List.map_nil, ZC.val, repZ]; rfl) | rfl) rfl rfl rfl rfl) ?_
    refine AOps.cons rfl rfl (ok_move rfl (by conv => lhs; whnf) rfl rfl) ?_
    refine AOps.cons rfl rfl (by first | exact ok_append_sl te_ok rfl rfl rfl (by first | omega | (simp; omega) | decide | (simp [*]; done)) rfl rfl rfl rfl rfl rfl (by first | exact src_sl rfl rfl rfl rfl rfl | exact src_fz rfl (by first | omega | (simp; omega) | decide | (simp [*]; done)) | exact src_str rfl rfl | exact src_nil rfl | exact src_sl rfl rfl rfl rfl (by first | omega | (simp; omega) | decide | (simp [*]; done))) (by first | (intro c hc; simp at hc; done) | (simp [AV.one, Value.oneCell']; done) | exact bs_one _ | (intro c hc; simp at hc; rcases hc with rfl | rfl <;> rfl)) rfl (by first | omega | (simp; omega) | decide | (simp [*]; done)) (by first | omega | (simp; omega) | decide | (simp [*]; done)) rfl rfl | exact ok_append_nil (id := 409) te_ok rfl rfl rfl rfl rfl rfl rfl (by first | exact src_sl rfl rfl rfl rfl rfl | exact src_fz rfl (by first | omega | (simp; omega) | decide | (simp [*]; done)) | exact src_str rfl rfl | exact src_nil rfl | exact src_sl rfl rfl rfl rfl (by first | omega | (simp; omega) | decide | (simp [*]; done))) rfl (by first | omega | (simp; omega) | decide | (simp [*]; done)) (by first | omega | (simp; omega) | decide | (simp [*]; done)) rfl rfl) ?_
    refine AOps.cons rfl rfl (ok_assign rfl (by conv => lhs; whnf) rfl rfl) ?_
    refine AOps.cons rfl rfl (ok_assign rfl (by conv => lhs; whnf) rfl rfl) ?_
    refine AOps.nil ?_
    refine AWp.ret ?_
    show Fin te Try.f13 _ _
    refine Fin.ret2 (xs := [_, _]) (ys := [_, _]) 0 ⟨res_tmp (by conv => lhs; whnf), res_tmp (by conv => lhs; whnf), trivial⟩ ⟨(by first | exact fv_ok rfl | (refine fv_ok ?_; simp [AV.ok, AV.oks]; done) | exact fv_row rfl rfl (by first | rfl | (simp [AV.oks_append, AV.oks_cons, AV.oks_nil, AV.ok_v, AV.ok_fz, AV.ok_fp, bs_oks]; done)) (by first | omega | (simp; omega) | decide | (simp [*]; done)) (by decide) rfl), (by first | exact fv_ok rfl | (refine fv_ok ?_; simp [AV.ok, AV.oks]; done) | exact fv_row rfl rfl (by first | rfl | (simp [AV.oks_append, AV.oks_cons, AV.oks_nil, AV.ok_v, AV.ok_fz, AV.ok_fp, bs_oks]; done)) (by first | omega | (simp; omega) | decide | (simp [*]; done)) (by decide) rfl), trivial⟩ ?_
    rw [pEnc, if_neg (by omega)]; simp [resVal, frame, bs, Nat.add_comm]; exact ⟨by omega, List.take_of_length_le (by simp)⟩

set_option maxRecDepth 20000 in
theorem c_ciceroneref11_Encode (l : List UInt8) (lv : Nat) : AC Try.prog 14 [.fz lv l.length (bs l)] emp (Ret (pEnc l)) := by
  refine AC.intro te_ok (fn := Try.f14) ⟨Try.func14, rfl, rfl⟩ (Nat.le_of_ble_eq_true rfl) ?_
  refine AWp.seq ?_
  refine AWp.region ?_
  refine AOps.cons rfl rfl (ok_nilfz 0 (.inl rfl) rfl rfl rfl) ?_
  refine AOps.cons rfl rfl (ok_assign rfl (by conv => lhs; whnf) rfl rfl) ?_
  refine AOps.nil ?_
  refine AWp.seq ?_
  refine AWp.seq ?_
  refine AWp.region ?_
  refine AOps.cons rfl rfl (ok_move rfl (by conv => lhs; whnf) rfl rfl) ?_
  refine AOps.cons rfl rfl (ok_len_sl te_ok rfl rfl rfl rfl rfl rfl rfl) ?_
  refine AOps.dec rfl rfl (ok_bin rfl rfl rfl br_gtr rfl rfl) (fun h1_2 => ?_) (fun h1_2 => ?_)
  · skip
    refine AOps.nil ?_
    refine AWp.cond_t rfl ?_
    refine AWp.seq ?_
    refine AWp.region ?_
    refine AOps.cons rfl rfl (ok_nilfz 0 (.inl rfl) rfl rfl rfl) ?_
    refine AOps.cons rfl rfl (ok_assign rfl (by conv => lhs; whnf) rfl rfl) ?_
    refine AOps.nil ?_
    refine AWp.ret ?_
    show Fin te Try.f14 _ _
    refine Fin.ret2 (xs := [_, _]) (ys := [_, _]) 0 ⟨res_tmp (by conv => lhs; whnf), res_tmp (by conv => lhs; whnf), trivial⟩ ⟨(by first | exact fv_ok rfl | (refine fv_ok ?_; simp [AV.ok, AV.oks]; done) | exact fv_row rfl rfl (by first | rfl | (simp [AV.oks_append, AV.oks_cons, AV.oks_nil, AV.ok_v, AV.ok_fz, AV.ok_fp, bs_oks]; done)) (by first | omega | (simp; omega) | decide | (simp [*]; done)) (by decide) rfl), (by first | exact fv_ok rfl | (refine fv_ok ?_; simp [AV.ok, AV.oks]; done) | exact fv_row rfl rfl (by first | rfl | (simp [AV.oks_append, AV.oks_cons, AV.oks_nil, AV.ok_v, AV.ok_fz, AV.ok_fp, bs_oks]; done)) (by first | omega | (simp; omega) | decide | (simp [*]; done)) (by decide) rfl), trivial⟩ ?_
    rw [pEnc, if_pos (by omega)]; rfl
  · skip
    refine AOps.nil ?_
    refine AWp.cond_f rfl ?_
    refine AWp.skip ?_
    refine AWp.seq ?_
    refine AWp.region ?_
    refine AOps.cons rfl rfl (ok_move rfl (by conv => lhs; whnf) rfl rfl) ?_
    refine AOps.cons rfl rfl (ok_len_sl te_ok rfl rfl rfl rfl rfl rfl rfl) ?_
    refine AOps.cons rfl rfl (ok_bin rfl rfl rfl (bi_quo (by first | omega | (simp; omega) | decide | (simp [*]; done)) (by first | omega | (simp; omega) | decide | (simp [*]; done)) (by first | omega | (simp; omega) | decide | (simp [*]; done))) rfl rfl) ?_
    refine AOps.cons rfl rfl (ok_conv_u8 te_ok rfl rfl rfl rfl rfl rfl rfl) ?_
    refine AOps.cons rfl rfl (ok_move rfl (by conv => lhs; whnf) rfl rfl) ?_
    refine AOps.cons rfl rfl (ok_len_sl te_ok rfl rfl rfl rfl rfl rfl rfl) ?_
    refine AOps.cons rfl rfl (ok_bin rfl rfl rfl (bi_rem (by first | omega | (simp; omega) | decide | (simp [*]; done)) (by first | omega | (simp; omega) | decide | (simp [*]; done))) rfl rfl) ?_
    refine AOps.cons rfl rfl (ok_conv_u8 te_ok rfl rfl rfl rfl rfl rfl rfl) ?_
    refine AOps.cons rfl rfl (ok_buildSlice2 (id := 408) (vals := [(_, _), (_, _)]) te_ok rfl ⟨rfl, (by conv => lhs; whnf), rfl, (by conv => lhs; whnf), trivial⟩ rfl rfl rfl rfl rfl (by first | (simp only [List.take_succ_cons, List.take_zero, List.drop_succ_cons, List.drop_zero, List.drop_nil, List.take_nil, List.nil_append, List.cons_append, List.append_nil, List.map_cons, List.map_nil, ZC.val, repZ]; rfl) | rfl) rfl rfl rfl rfl) ?_
    refine AOps.cons rfl rfl (ok_move rfl (by conv => lhs; whnf) rfl rfl) ?_
    refine AOps.cons rfl rfl (by first | exact ok_append_sl te_ok rfl rfl rfl (by first | omega | (simp; omega) | decide | (simp [*]; done)) rfl rfl rfl rfl rfl rfl (by first | exact src_sl rfl rfl rfl rfl rfl | exact src_fz rfl (by first | omega | (simp; omega) | decide | (simp [*]; done)) | exact src_str rfl rfl | exact src_nil rfl | exact src_sl rfl rfl rfl rfl (by first | omega | (simp; omega) | decide | (simp [*]; done))) (by first | (intro c hc; simp at hc; done) | (simp [AV.one, Value.oneCell']; done) | exact bs_one _ | (intro c hc; simp at hc; rcases hc with rfl | rfl <;> rfl)) rfl (by first | omega | (simp; omega) | decide | (simp [*]; done)) (by first | omega | (simp; omega) | decide | (simp [*]; done)) rfl rfl | exact ok_append_nil (id := 410) te_ok rfl rfl rfl rfl rfl rfl rfl (by first | exact src_sl rfl rfl rfl rfl rfl | exact src_fz rfl (by first | omega | (simp; omega) | decide | (simp [*]; done)) | exact src_str rfl rfl | exact src_nil rfl | exact src_sl rfl rfl rfl rfl (by first | omega | (simp; omega) | decide | (simp [*]; done))) rfl (by first | omega | (simp; omega) | decide | (simp [*]; done)) (by first | omega | (simp; omega) | decide | (simp [*]; done)) rfl rfl) ?_
    refine AOps.cons rfl rfl (ok_assign rfl (by conv => lhs; whnf) rfl rfl) ?_
    refine AOps.cons rfl rfl (ok_assign rfl (by conv => lhs; whnf) rfl rfl) ?_
    refine AOps.nil ?_
    refine AWp.ret ?_
    show Fin te Try.f14 _ _
    refine Fin.ret2 (xs := [_, _]) (ys := [_, _]) 0 ⟨res_tmp (by conv => lhs; whnf), res_tmp (by conv => lhs; whnf), trivial⟩ ⟨(by first | exact fv_ok rfl | (refine fv_ok ?_; simp [AV.ok, AV.oks]; done) | exact fv_row rfl rfl (by first | rfl | (simp [AV.oks_append, AV.oks_cons, AV.oks_nil, AV.ok_v, AV.ok_fz, AV.ok_fp, bs_oks]; done)) (by first | omega | (simp; omega) | decide | (simp [*]; done)) (by decide) rfl), (by first | exact fv_ok rfl | (refine fv_ok ?_; simp [AV.ok, AV.oks]; done) | exact fv_row rfl rfl (by first | rfl | (simp [AV.oks_append, AV.oks_cons, AV.oks_nil, AV.ok_v, AV.ok_fz, AV.ok_fp, bs_oks]; done)) (by first | omega | (simp; omega) | decide | (simp [*]; done)) (by decide) rfl), trivial⟩ ?_
    rw [pEnc, if_neg (by omega)]; simp [resVal, frame, bs, Nat.add_comm, byte_mod]; exact ⟨by omega, List.take_of_length_le (by simp)⟩


theorem pEnc_big {l : List UInt8} (h : 65535 < l.length) : pEnc l = .tup [.fz 0 0 [], i64 1] := by rw [pEnc, if_pos h]
theorem pEnc_small {l : List UInt8} (h : l.length ≤ 65535) : pEnc l = .tup [.fz 0 (frame l).length (bs (frame l)), i64 0] := by rw [pEnc, if_neg (by omega)]
theorem enc_big (l : List UInt8) (lv : Nat) (h : 65535 < l.length) : AC Try.prog 13 [.fz lv l.length (bs l)] emp (Ret (.tup [.fz 0 0 [], i64 1])) := pEnc_big h ▸ c_prefix_Encode l lv
theorem enc_small (l : List UInt8) (lv : Nat) (h : l.length ≤ 65535) : AC Try.prog 13 [.fz lv l.length (bs l)] emp (Ret (.tup [.fz 0 (frame l).length (bs (frame l)), i64 0])) := pEnc_small h ▸ c_prefix_Encode l lv
theorem renc_big (l : List UInt8) (lv : Nat) (h : 65535 < l.length) : AC Try.prog 14 [.fz lv l.length (bs l)] emp (Ret (.tup [.fz 0 0 [], i64 1])) := pEnc_big h ▸ c_ciceroneref11_Encode l lv
theorem renc_small (l : List UInt8) (lv : Nat) (h : l.length ≤ 65535) : AC Try.prog 14 [.fz lv l.length (bs l)] emp (Ret (.tup [.fz 0 (frame l).length (bs (frame l)), i64 0])) := pEnc_small h ▸ c_ciceroneref11_Encode l lv

set_option maxRecDepth 20000 in
theorem c_bytes_Equal (l m : List UInt8) (lv lw : Nat) : AC Try.prog 15 [.fz lv l.length (bs l), .fz lw m.length (bs m)] emp (Ret (tf (decide (l = m)))) := by
  refine AC.intro te_ok (fn := Try.f15) ⟨Try.func15, rfl, rfl⟩ (Nat.le_of_ble_eq_true rfl) ?_
  refine AWp.seq ?_
  refine AWp.region ?_
  refine AOps.cons rfl rfl (ok_assign rfl (by conv => lhs; whnf) rfl rfl) ?_
  refine AOps.nil ?_
  refine AWp.seq ?_
  refine AWp.region ?_
  refine AOps.cons rfl rfl (ok_move rfl (by conv => lhs; whnf) rfl rfl) ?_
  refine AOps.cons rfl rfl (by first | exact ok_conv_bytes te_ok rfl rfl (.inr (.inl ⟨_, rfl⟩)) rfl rfl rfl rfl rfl rfl rfl rfl | exact ok_conv_bytes te_ok rfl rfl (.inr (.inr ⟨_, _, _, _, _, rfl, rfl, rfl, (by first | omega | (simp; omega) | decide | (simp [*]; done))⟩)) rfl rfl rfl rfl rfl rfl rfl rfl) ?_
  refine AOps.cons rfl rfl (ok_move rfl (by conv => lhs; whnf) rfl rfl) ?_
  refine AOps.cons rfl rfl (by first | exact ok_conv_bytes te_ok rfl rfl (.inr (.inl ⟨_, rfl⟩)) rfl rfl rfl rfl rfl rfl rfl rfl | exact ok_conv_bytes te_ok rfl rfl (.inr (.inr ⟨_, _, _, _, _, rfl, rfl, rfl, (by first | omega | (simp; omega) | decide | (simp [*]; done))⟩)) rfl rfl rfl rfl rfl rfl rfl rfl) ?_
  refine AOps.cons rfl rfl (ok_bin rfl rfl rfl bd_seql rfl rfl) ?_
  refine AOps.cons rfl rfl (ok_assign rfl (by conv => lhs; whnf) rfl rfl) ?_
  refine AOps.nil ?_
  refine AWp.ret ?_
  show Fin te Try.f15 _ _
  refine Fin.ret2 (xs := [_]) (ys := [_]) 0 ⟨res_tmp (by conv => lhs; whnf), trivial⟩ ⟨(by first | exact fv_ok rfl | (refine fv_ok ?_; simp [AV.ok, AV.oks]; done) | exact fv_row rfl rfl (by first | rfl | (simp [AV.oks_append, AV.oks_cons, AV.oks_nil, AV.ok_v, AV.ok_fz, AV.ok_fp, bs_oks]; done)) (by first | omega | (simp; omega) | decide | (simp [*]; done)) (by decide) rfl), trivial⟩ ?_
  rfl

end Go.Proofs.Ytahkngplohnliaa.Fw
