/- The texts R18d, R18e, W18g, Q18, W18s, W18h, Q16, A24, A24b, A24c, W18i, Z18, M18, W18j, Z18b, R18h, L18a, one behind the other: what the walks and plain laws need; conditions stand with each theorem. -/
import Derived.Lib.SlBytesConst
import Derived.Test.YtokccoloholgaaaCat4
set_option linter.unusedVariables false
set_option linter.unusedSimpArgs false
namespace Go.Proofs.Ytokccoloholgaaa.Fw
open Go.RowKit
theorem chi_1 {t : Tr} {up : List Int} {k : Int} {n : List UInt8} {j : Nat} (h : ¬ (0 : Int) < j) : childB t up k n j = false := by rw [childB, decide_eq_false (p := 0 < j) (by omega)]; rfl
theorem chi_2 {t : Tr} {up : List Int} {k : Int} {n : List UInt8} {j : Nat} (h : sameN (t.zs.getD j default).o n = false) : childB t up k n j = false := by rw [childB, h, Bool.and_false]
theorem chi_3 {t : Tr} {k : Int} {n : List UInt8} {j : Nat} (hj : j < t.zs.length) (h : ¬ parOf t (t.zs.getD j default) = k) : childB t (parT t) k n j = false := by rw [childB, parT_get hj, decide_eq_false h, Bool.and_false]; rfl
theorem chi_yes {t : Tr} {k : Int} {n : List UInt8} {j : Nat} (hj : j < t.zs.length) (h0 : (0 : Int) < j) (h2 : sameN (t.zs.getD j default).o n = true) (h : parOf t (t.zs.getD j default) = k) : childB t (parT t) k n j = true := by
  rw [childB, parT_get hj, decide_eq_true h, h2, decide_eq_true (p := 0 < j) (by omega)]; rfl
theorem joinQ_1 {t : Tr} {up : List Int} {k : Int} {z : Zo} {r : Rr} (h : ¬ r.ty = 2) : joinQ t up k z r = false := by rw [joinQ, decide_eq_false h]; rfl
theorem joinQ_2 {t : Tr} {up : List Int} {k : Int} {z : Zo} {r : Rr} (h : sameN r.nm z.o = true) : joinQ t up k z r = false := by rw [joinQ, h, Bool.not_true, Bool.and_false]; rfl
theorem joinQ_3 {t : Tr} {up : List Int} {k : Int} {z : Zo} {r : Rr} (h : (List.range t.zs.length).any (childB t up k r.nm) = true) : joinQ t up k z r = false := by rw [joinQ, h, Bool.not_true, Bool.and_false]
theorem joinQ_yes {t : Tr} {up : List Int} {k : Int} {z : Zo} {r : Rr} (h1 : ¬ ¬ r.ty = 2) (h2 : sameN r.nm z.o = false) (h : (List.range t.zs.length).any (childB t up k r.nm) = false) : joinQ t up k z r = true := by
  rw [joinQ, decide_eq_true (Decidable.not_not.1 h1), h2, h]; rfl
theorem joinZ_fin {t : Tr} {up : List Int} {k : Int} (h : ∀ j, j < t.zs.length → kidO t up k j = true) (h2 : (zAt t k).rs.any (joinQ t up k (zAt t k)) = false) : joinZ t up k = true := by rw [joinZ, range_all_iff.2 h, h2]; rfl
theorem joinZ_bad {t : Tr} {up : List Int} {k : Int} (h2 : (zAt t k).rs.any (joinQ t up k (zAt t k)) = true) : joinZ t up k = false := by rw [joinZ, h2, Bool.not_true, Bool.and_false]
set_option maxRecDepth 20000 in
set_option maxHeartbeats 2000000 in
theorem c_ciceroneref18_parent (t : Tr) (k : Int) (ht : TrOk t) (hk : 0 ≤ k ∧ k < t.zs.length) : AC Try.prog 87 [.agg (trC t), i64 k] emp (Ret (i64 (parOf t (zAt t k)))) := by
 have hb1 := ht.1
 have hzk := zo_ok ht hk
 have hkl := hzk.1
 refine AC.intro te_ok (fn := Try.f87) ⟨Try.func87, rfl, rfl⟩ (Nat.le_of_ble_eq_true rfl) ?_
 refine AWp.seq ?_
 refine AWp.region ?_
 refine aC_ rfl rfl (q_box 100) ?_
 refine aC_ rfl rfl (q_assign) ?_
 refine AOps.nil ?_
 refine AWp.seq ?_
 refine AWp.region ?_
 refine aC_ rfl rfl (q_nilrow 200 1 ic) ?_
 refine AOps.nil ?_
 refine AWp.seq ?_
 refine AWp.seq ?_
 refine AWp.region ?_
 refine aC_ rfl rfl (q_fa) ?_
 refine aC_ rfl rfl (q_load) ?_
 refine aC_ rfl rfl (q_len) ?_
 refine aC_ rfl rfl (q_move) ?_
 refine AOps.nil ?_
 refine AWp.block ?_
 refine AWp.loopR (α := Nat × List Int × Nat) [5, 6, 10, 11, 12, 13, 14, 15, 16, 17, 18, 19, 20, 21, 22, 23, 24, 25, 26, 27, 28, 29, 30] (fun x_ => [(10, i64 (x_.1)), (5, .sl 200 (x_.2.2) 0 (x_.2.1).length 1)]) (fun x_ => [(200, .row (cl ic (x_.2.1)) 1 (x_.2.2))]) (fun x_ => (x_.1) ≤ t.zs.length ∧ (x_.2.1) = parL t (zAt t k) (x_.1)) (fun x_ => t.zs.length - (x_.1)) (0, [], 0) ?_ (Back.mk' (HasT.cons (HasT.cons HasT.nil)) (HasH.cons HasH.nil)) ?_
 ·
  exact ⟨Nat.zero_le _, rfl⟩
 ·
  rintro ⟨i, acc, v⟩ hI3
  change i ≤ t.zs.length ∧ acc = parL t (zAt t k) i at hI3
  obtain ⟨hi, ha⟩ := hI3
  refine AWp.as (s' := AS.over _ [5, 6, 10, 11, 12, 13, 14, 15, 16, 17, 18, 19, 20, 21, 22, 23, 24, 25, 26, 27, 28, 29, 30] [(10, i64 i), (5, .sl 200 v 0 acc.length 1)] [(200, .row (cl ic acc) 1 v)]) rfl ?_
  have hal : acc.length ≤ i := by rw [ha]; exact parL_len
  refine AWp.seq ?_
  refine AWp.region ?_
  refine AOps.dec rfl rfl (q_lss) (fun h3_0 => ?_) (fun h3_0 => ?_)
  ·
   refine AOps.nil ?_
   refine AWp.seq ?_
   refine AWp.cond_t rfl ?_
   refine AWp.skip ?_
   refine AWp.seq ?_
   refine AWp.block ?_
   refine AWp.seq ?_
   refine AWp.region ?_
   refine aC_ rfl rfl (q_move) ?_
   refine aC_ rfl rfl (q_assign) ?_
   refine AOps.nil ?_
   refine AWp.seq ?_
   have hzi := ht.2.1 _ (getD_mem' (l := t.zs) (i := i) (by omega))
   have hzl := hzi.1
   cases hbel : belB (zAt t k).o (t.zs.getD i default).o
   ·
    refine AWp.draws [⟨0, [2], [100], some 13, _, none⟩,
 ⟨1, [13], [100], some 14, _, none⟩,
 ⟨2, [1], [], some 15, _, none⟩,
 ⟨3, [14, 15], [], some 16, _, none⟩,
 ⟨4, [16], [], some 17, _, none⟩,
 ⟨5, [17], [], some 18, _, none⟩,
 ⟨6, [2], [100], some 19, _, none⟩,
 ⟨7, [19], [100], some 20, _, none⟩,
 ⟨8, [6], [], some 21, _, none⟩,
 ⟨9, [20, 21], [], some 22, _, none⟩,
 ⟨10, [22], [], some 23, _, none⟩,
 ⟨11, [23], [], some 24, _, none⟩,
 ⟨12, [18, 24], [], some 25, _, none⟩]
     [kN_ 0 [2] [100] 13,
 kN_ 1 [13] [100] 14,
 kN_ 2 [1] [] 15,
 kN_ 3 [14, 15] [] 16,
 kN_ 4 [16] [] 17,
 kN_ 5 [17] [] 18,
 kN_ 6 [2] [100] 19,
 kN_ 7 [19] [100] 20,
 kN_ 8 [6] [] 21,
 kN_ 9 [20, 21] [] 22,
 kN_ 10 [22] [] 23,
 kN_ 11 [23] [] 24,
 kN_ 12 [18, 24] [] 25]
     mixed_ok rfl (by kernel_rfl) ⟨dK_ fun s0 => oG_ rfl rfl (q_fa),
 dK_ fun s0 => oG_ rfl rfl (q_load),
 dK_ fun s0 => oG_ rfl rfl (q_move),
 dK_ fun s0 => oG_ rfl rfl (q_ix),
 dK_ fun s0 => oG_ rfl rfl (q_fa),
 dK_ fun s0 => oG_ rfl rfl (q_load),
 dK_ fun s0 => oG_ rfl rfl (q_fa),
 dK_ fun s0 => oG_ rfl rfl (q_load),
 dK_ fun s0 => oG_ rfl rfl (q_move),
 dK_ fun s0 => oG_ rfl rfl (q_ix),
 dK_ fun s0 => oG_ rfl rfl (q_fa),
 dK_ fun s0 => oG_ rfl rfl (q_load),
 dK_ fun s0 => oG_ rfl rfl ((OpOk.bool_is (c := false) (q_call (0) (hc := (c_ciceroneref18_below (zAt t k).o (t.zs.getD i default).o (by omega) (by omega)))) (hbel))), trivial⟩ ?_
    dsimp only [final, DS.upd, AS.seto]
    refine AWp.cond_f rfl ?_
    refine AWp.skip ?_
    refine AWp.region ?_
    refine aC_ rfl rfl (q_add) ?_
    refine aC_ rfl rfl (q_move) ?_
    refine AOps.nil ?_
    refine ⟨(i + 1, acc, v), ?_, Back.mk' (HasT.cons (HasT.cons HasT.nil)) (HasH.cons HasH.nil), ?_⟩
    ·
     try dsimp only
     exact ⟨by omega, by rw [parL_step, ha, if_neg (by rw [show belB (zAt t k).o (zAt t (i : Int)).o = false from hbel]; decide), List.append_nil]⟩
    ·
     try dsimp only
     first | omega | (simp; omega)
   ·
    refine AWp.draws [⟨0, [2], [100], some 13, _, none⟩,
 ⟨1, [13], [100], some 14, _, none⟩,
 ⟨2, [1], [], some 15, _, none⟩,
 ⟨3, [14, 15], [], some 16, _, none⟩,
 ⟨4, [16], [], some 17, _, none⟩,
 ⟨5, [17], [], some 18, _, none⟩,
 ⟨6, [2], [100], some 19, _, none⟩,
 ⟨7, [19], [100], some 20, _, none⟩,
 ⟨8, [6], [], some 21, _, none⟩,
 ⟨9, [20, 21], [], some 22, _, none⟩,
 ⟨10, [22], [], some 23, _, none⟩,
 ⟨11, [23], [], some 24, _, none⟩,
 ⟨12, [18, 24], [], some 25, _, none⟩]
     [kN_ 0 [2] [100] 13,
 kN_ 1 [13] [100] 14,
 kN_ 2 [1] [] 15,
 kN_ 3 [14, 15] [] 16,
 kN_ 4 [16] [] 17,
 kN_ 5 [17] [] 18,
 kN_ 6 [2] [100] 19,
 kN_ 7 [19] [100] 20,
 kN_ 8 [6] [] 21,
 kN_ 9 [20, 21] [] 22,
 kN_ 10 [22] [] 23,
 kN_ 11 [23] [] 24,
 kN_ 12 [18, 24] [] 25]
     mixed_ok rfl (by kernel_rfl) ⟨dK_ fun s0 => oG_ rfl rfl (q_fa),
 dK_ fun s0 => oG_ rfl rfl (q_load),
 dK_ fun s0 => oG_ rfl rfl (q_move),
 dK_ fun s0 => oG_ rfl rfl (q_ix),
 dK_ fun s0 => oG_ rfl rfl (q_fa),
 dK_ fun s0 => oG_ rfl rfl (q_load),
 dK_ fun s0 => oG_ rfl rfl (q_fa),
 dK_ fun s0 => oG_ rfl rfl (q_load),
 dK_ fun s0 => oG_ rfl rfl (q_move),
 dK_ fun s0 => oG_ rfl rfl (q_ix),
 dK_ fun s0 => oG_ rfl rfl (q_fa),
 dK_ fun s0 => oG_ rfl rfl (q_load),
 dK_ fun s0 => oG_ rfl rfl ((OpOk.bool_is (c := true) (q_call (0) (hc := (c_ciceroneref18_below (zAt t k).o (t.zs.getD i default).o (by omega) (by omega)))) (hbel))), trivial⟩ ?_
    dsimp only [final, DS.upd, AS.seto]
    refine AWp.cond_t rfl ?_
    refine AWp.region ?_
    refine aC_ rfl rfl (q_move) ?_
    refine aC_ rfl rfl (q_move) ?_
    refine aC_ rfl rfl (q_bs 702 ic [_] [(_, _)]) ?_
    refine aC_ rfl rfl (q_app) ?_
    refine aC_ rfl rfl (q_assign) ?_
    refine AOps.nil ?_
    refine AWp.region ?_
    refine aC_ rfl rfl (q_add) ?_
    refine aC_ rfl rfl (q_move) ?_
    refine AOps.nil ?_
    refine ⟨(i + 1, acc ++ [(i : Int)], v + 1), ?_, Back.mk' (HasT.cons (HasT.cons HasT.nil)) (HasH.cons HasH.nil), ?_⟩
    ·
     try dsimp only
     exact ⟨by omega, by rw [parL_step, ha, if_pos (show belB (zAt t k).o (zAt t (i : Int)).o = true from hbel)]⟩
    ·
     try dsimp only
     first | omega | (simp; omega)
  ·
   refine AOps.nil ?_
   refine AWp.seq ?_
   refine AWp.cond_f rfl ?_
   refine AWp.exit ?_
   refine AWp.seq ?_
   obtain rfl : i = t.zs.length := by omega
   have hin := parL_in (t := t) (z := zAt t k) (Nat.le_refl t.zs.length)
   rw [← ha] at hin
   have hnear := parL_near t (zAt t k)
   rw [← ha] at hnear
   refine AWp.draws [⟨0, [2], [100], some 31, _, none⟩,
 ⟨1, [5], [], some 32, _, none⟩,
 ⟨2, [2], [100], some 33, _, none⟩,
 ⟨3, [33], [100], some 34, _, none⟩,
 ⟨4, [1], [], some 35, _, none⟩,
 ⟨5, [34, 35], [], some 36, _, none⟩,
 ⟨6, [36], [], some 37, _, none⟩,
 ⟨7, [37], [], some 38, _, none⟩,
 ⟨8, [31, 32, 38], [200], some 39, _, none⟩,
 ⟨9, [39], [], some 4, _, none⟩]
    [kN_ 0 [2] [100] 31,
 kN_ 1 [5] [] 32,
 kN_ 2 [2] [100] 33,
 kN_ 3 [33] [100] 34,
 kN_ 4 [1] [] 35,
 kN_ 5 [34, 35] [] 36,
 kN_ 6 [36] [] 37,
 kN_ 7 [37] [] 38,
 kN_ 8 [31, 32, 38] [200] 39,
 kN_ 9 [39] [] 4]
    mixed_ok rfl (by kernel_rfl) ⟨dK_ fun s0 => oG_ rfl rfl (q_load),
 dK_ fun s0 => oG_ rfl rfl (q_move),
 dK_ fun s0 => oG_ rfl rfl (q_fa),
 dK_ fun s0 => oG_ rfl rfl (q_load),
 dK_ fun s0 => oG_ rfl rfl (q_move),
 dK_ fun s0 => oG_ rfl rfl (q_ix),
 dK_ fun s0 => oG_ rfl rfl (q_fa),
 dK_ fun s0 => oG_ rfl rfl (q_load),
 dK_ fun s0 => oG_ rfl rfl (q_call (0) (hc := (c_ciceroneref18_nearest t acc 1 (zAt t k).o ht (by omega) hin (by omega)))),
 dK_ fun s0 => oG_ rfl rfl (q_assign), trivial⟩ ?_
   dsimp only [final, DS.upd, AS.seto]
   refine AWp.ret ?_
   show Fin te Try.f87 _ _
   refine q_ret (0) [_] [_] ?_
   exact congrArg i64 hnear
set_option maxRecDepth 20000 in
set_option maxHeartbeats 2000000 in
theorem c_ciceroneref18_delegated (t : Tr) (k : Int) (ht : TrOk t) (hk : 0 ≤ k ∧ k < t.zs.length) : AC Try.prog 42 [.agg (trC t), i64 k] emp (Ret (tf (joinZ t (parT t) k))) := by
 have hb1 := ht.1
 have hzk := zo_ok ht hk
 have hkl := hzk.1
 have hkr : (zAt t k).rs.length * 64 ≤ 140737488351232 := hzk.2.1.1
 refine AC.intro te_ok (fn := Try.f42) ⟨Try.func42, rfl, rfl⟩ (Nat.le_of_ble_eq_true rfl) ?_
 refine AWp.seq ?_
 refine AWp.region ?_
 refine aC_ rfl rfl (q_box 100) ?_
 refine aC_ rfl rfl (q_assign) ?_
 refine AOps.nil ?_
 refine AWp.seq ?_
 refine AWp.region ?_
 refine aC_ rfl rfl (q_fa) ?_
 refine aC_ rfl rfl (q_load) ?_
 refine aC_ rfl rfl (q_move) ?_
 refine aC_ rfl rfl (q_ix) ?_
 refine aC_ rfl rfl (q_load) ?_
 refine aC_ rfl rfl (q_alloc 205) ?_
 refine aC_ rfl rfl (q_store) ?_
 refine AOps.nil ?_
 refine AWp.seq ?_
 refine AWp.seq ?_
 refine AWp.region ?_
 refine aC_ rfl rfl (q_fa) ?_
 refine aC_ rfl rfl (q_load) ?_
 refine aC_ rfl rfl (q_len) ?_
 refine aC_ rfl rfl (q_move) ?_
 refine AOps.nil ?_
 refine AWp.block ?_
 refine AWp.loopR (α := Nat) [4, 6, 7, 8, 21, 22, 23, 24, 25, 26, 27, 28, 29, 30, 31, 32, 33, 34, 35, 36, 37, 38, 39, 40, 41, 42, 43, 44, 45, 46, 47, 48, 49, 50, 51, 52, 53, 54, 55, 56, 57, 58, 59] (fun i => [(21, i64 i)]) (fun i => []) (fun i => i ≤ t.zs.length ∧ ∀ j, j < i → kidO t (parT t) k j = true) (fun i => t.zs.length - i) 0 ?_ (Back.mk' (HasT.cons HasT.nil) HasH.nil) ?_
 ·
  exact ⟨Nat.zero_le _, fun j hj => absurd hj (Nat.not_lt_zero j)⟩
 ·
  rintro i ⟨hi, hc⟩
  refine AWp.seq ?_
  refine AWp.region ?_
  refine AOps.dec rfl rfl (q_lss) (fun h3_0 => ?_) (fun h3_0 => ?_)
  ·
   refine AOps.nil ?_
   refine AWp.seq ?_
   refine AWp.cond_t rfl ?_
   refine AWp.skip ?_
   refine AWp.seq ?_
   refine AWp.block ?_
   refine AWp.seq ?_
   refine AWp.region ?_
   have hzi := ht.2.1 _ (getD_mem' (l := t.zs) (i := i) (by omega))
   have hzl := hzi.1
   refine aC_ rfl rfl (q_move) ?_
   refine aC_ rfl rfl (q_assign) ?_
   refine AOps.nil ?_
   refine AWp.seq ?_
   refine AWp.seq ?_
   refine AWp.region ?_
   refine aC_ rfl rfl (q_move) ?_
   refine AOps.dec rfl rfl (q_eql) (fun h5_1 => ?_) (fun h5_1 => ?_)
   ·
    refine aC_ rfl rfl (q_move) ?_
    refine aG_ rfl rfl rfl rfl rfl rfl rfl rfl ?_
    refine aG_ rfl rfl rfl rfl rfl rfl rfl rfl ?_
    refine aG_ rfl rfl rfl rfl rfl rfl rfl rfl ?_
    refine aG_ rfl rfl rfl rfl rfl rfl rfl rfl ?_
    refine aG_ rfl rfl rfl rfl rfl rfl rfl rfl ?_
    refine aC_ rfl rfl (q_pick) ?_
    refine AOps.nil ?_
    refine AWp.cond_t rfl ?_
    refine AWp.exit ?_
    refine AWp.region ?_
    refine aC_ rfl rfl (q_add) ?_
    refine aC_ rfl rfl (q_move) ?_
    refine AOps.nil ?_
    refine ⟨i + 1, ?_, Back.mk' (HasT.cons HasT.nil) HasH.nil, ?_⟩
    ·
     exact ⟨by omega, lt_step hc (by rw [kidO, decide_eq_true (p := i = 0) (by omega)]; rfl)⟩
    ·
     first | omega | (simp; omega)
   ·
    refine aC_ rfl rfl (q_move) ?_
    refine AOps.gcons rfl rfl rfl rfl rfl (q_load) ?_
    refine AOps.gcons rfl rfl rfl rfl rfl (q_move) ?_
    refine AOps.gcons rfl rfl rfl rfl rfl (q_call (0) (hc := (c_ciceroneref18_parent t i ht ⟨by omega, by omega⟩))) ?_
    refine AOps.gcons rfl rfl rfl rfl rfl (q_move) ?_
    refine AOps.gdec rfl rfl rfl rfl rfl (q_neq) (fun h5_7 => ?_) (fun h5_7 => ?_)
    ·
     refine aC_ rfl rfl (q_pick) ?_
     refine AOps.nil ?_
     refine AWp.cond_t rfl ?_
     refine AWp.exit ?_
     refine AWp.region ?_
     refine aC_ rfl rfl (q_add) ?_
     refine aC_ rfl rfl (q_move) ?_
     refine AOps.nil ?_
     refine ⟨i + 1, ?_, Back.mk' (HasT.cons HasT.nil) HasH.nil, ?_⟩
     ·
      exact ⟨by omega, lt_step hc (by rw [kidO, parT_get (by omega), decide_eq_true (p := parOf t (t.zs.getD i default) ≠ k) h5_7, Bool.or_true]; rfl)⟩
     ·
      first | omega | (simp; omega)
    ·
     refine aC_ rfl rfl (q_pick) ?_
     refine AOps.nil ?_
     refine AWp.cond_f rfl ?_
     refine AWp.skip ?_
     refine AWp.seq ?_
     refine AWp.region ?_
     refine aC_ rfl rfl (q_fa) ?_
     refine aC_ rfl rfl (q_load) ?_
     refine aC_ rfl rfl (q_move) ?_
     refine aC_ rfl rfl (q_ix) ?_
     refine aC_ rfl rfl (q_load) ?_
     refine aC_ rfl rfl (q_alloc 705) ?_
     refine aC_ rfl rfl (q_store) ?_
     refine AOps.nil ?_
     refine AWp.seq ?_
     refine AWp.region ?_
     have hcl := cutZ_len hzk (t.zs.getD i default).o
     refine aC_ rfl rfl (q_load) ?_
     refine aC_ rfl rfl (q_fa) ?_
     refine aC_ rfl rfl (q_load) ?_
     refine aC_ rfl rfl (q_call (0) (hc := (c_rcut (zAt t k) (t.zs.getD i default).o hzk hzl))) ?_
     refine aC_ rfl rfl (q_assign) ?_
     refine AOps.nil ?_
     refine AWp.seq ?_
     rcases em2b (sameN (cutZ (zAt t k) (t.zs.getD i default).o) (t.zs.getD i default).o) (subR (atZ (zAt t k) (t.zs.getD i default).o 2) (atZ (t.zs.getD i default) (t.zs.getD i default).o 2) && subR (atZ (t.zs.getD i default) (t.zs.getD i default).o 2) (atZ (zAt t k) (t.zs.getD i default).o 2)) with h1 | ⟨h1, h2⟩ | ⟨h1, h2⟩
     ·
      refine AWp.draws [⟨0, [8], [], some 42, _, none⟩,
 ⟨1, [7], [705], some 43, _, none⟩,
 ⟨2, [43], [705], some 44, _, none⟩,
 ⟨3, [42, 44], [], some 45, _, none⟩,
 ⟨4, [45], [], some 46, _, none⟩,
 ⟨5, [46], [], some 47, _, none⟩,
 ⟨6, [47], [], some 48, .v undef, none⟩,
 ⟨7, [47], [], some 49, .v undef, none⟩,
 ⟨8, [47], [], some 50, .v undef, none⟩,
 ⟨9, [47], [], some 51, .v undef, none⟩,
 ⟨10, [47], [], some 52, .v undef, none⟩,
 ⟨11, [47], [], some 53, .v undef, none⟩,
 ⟨12, [47], [], some 54, .v undef, none⟩,
 ⟨13, [47], [], some 55, .v undef, none⟩,
 ⟨14, [47], [], some 56, .v undef, none⟩,
 ⟨15, [47], [], some 57, .v undef, none⟩,
 ⟨16, [47, 57], [], some 58, _, none⟩]
       [kN_ 0 [8] [] 42,
 kN_ 1 [7] [705] 43,
 kN_ 2 [43] [705] 44,
 kN_ 3 [42, 44] [] 45,
 kN_ 4 [45] [] 46,
 kN_ 5 [46] [] 47,
 kN_ 6 [47] [] 48,
 kN_ 7 [47] [] 49,
 kN_ 8 [47] [] 50,
 kN_ 9 [47] [] 51,
 kN_ 10 [47] [] 52,
 kN_ 11 [47] [] 53,
 kN_ 12 [47] [] 54,
 kN_ 13 [47] [] 55,
 kN_ 14 [47] [] 56,
 kN_ 15 [47] [] 57,
 kN_ 16 [47, 57] [] 58]
       mixed_ok rfl (by kernel_rfl) ⟨dK_ fun s0 => oG_ rfl rfl (q_move),
 dK_ fun s0 => oG_ rfl rfl (q_fa),
 dK_ fun s0 => oG_ rfl rfl (q_load),
 dK_ fun s0 => oG_ rfl rfl ((OpOk.bool_is (c := false) (q_call (0) (hc := (c_ciceroneref01_Same (cutZ (zAt t k) (t.zs.getD i default).o) (t.zs.getD i default).o (by omega) (by omega)))) (h1))),
 dK_ fun s0 => oG_ rfl rfl ((OpOk.bool_is (c := true) (q_not) (rfl))),
 dK_ fun s0 => oG_ rfl rfl (q_move),
 dK_ fun s0 => oS_ rfl rfl rfl rfl rfl rfl rfl rfl,
 dK_ fun s0 => oS_ rfl rfl rfl rfl rfl rfl rfl rfl,
 dK_ fun s0 => oS_ rfl rfl rfl rfl rfl rfl rfl rfl,
 dK_ fun s0 => oS_ rfl rfl rfl rfl rfl rfl rfl rfl,
 dK_ fun s0 => oS_ rfl rfl rfl rfl rfl rfl rfl rfl,
 dK_ fun s0 => oS_ rfl rfl rfl rfl rfl rfl rfl rfl,
 dK_ fun s0 => oS_ rfl rfl rfl rfl rfl rfl rfl rfl,
 dK_ fun s0 => oS_ rfl rfl rfl rfl rfl rfl rfl rfl,
 dK_ fun s0 => oS_ rfl rfl rfl rfl rfl rfl rfl rfl,
 dK_ fun s0 => oS_ rfl rfl rfl rfl rfl rfl rfl rfl,
 dK_ fun s0 => oG_ rfl rfl (q_pick), trivial⟩ ?_
      dsimp only [final, DS.upd, AS.seto]
      refine AWp.cond_t rfl ?_
      refine AWp.seq ?_
      refine AWp.region ?_
      refine aC_ rfl rfl (q_assign) ?_
      refine AOps.nil ?_
      refine AWp.ret ?_
      show Fin te Try.f42 _ _
      refine q_ret (0) [_] [_] ?_
      exact congrArg tf (joinZ_no (j := i) (by omega) (kidO_no h5_1 ((parT_get (by omega)).trans (Decidable.not_not.1 h5_7)) (by rw [h1]; rfl))).symm
     ·
      refine AWp.draws [⟨0, [8], [], some 42, _, none⟩,
 ⟨1, [7], [705], some 43, _, none⟩,
 ⟨2, [43], [705], some 44, _, none⟩,
 ⟨3, [42, 44], [], some 45, _, none⟩,
 ⟨4, [45], [], some 46, _, none⟩,
 ⟨5, [46], [], some 47, _, none⟩,
 ⟨6, [5, 47], [205], some 48, _, none⟩,
 ⟨7, [7, 47], [705], some 49, _, none⟩,
 ⟨8, [47, 49], [705], some 50, _, none⟩,
 ⟨9, [47, 48, 50], [], some 51, _, none⟩,
 ⟨10, [7, 47], [705], some 52, _, none⟩,
 ⟨11, [7, 47], [705], some 53, _, none⟩,
 ⟨12, [47, 53], [705], some 54, _, none⟩,
 ⟨13, [47, 52, 54], [], some 55, _, none⟩,
 ⟨14, [47, 51, 55], [], some 56, _, none⟩,
 ⟨15, [47, 56], [], some 57, _, none⟩,
 ⟨16, [47, 57], [], some 58, _, none⟩]
       [kN_ 0 [8] [] 42,
 kN_ 1 [7] [705] 43,
 kN_ 2 [43] [705] 44,
 kN_ 3 [42, 44] [] 45,
 kN_ 4 [45] [] 46,
 kN_ 5 [46] [] 47,
 kN_ 6 [5, 47] [205] 48,
 kN_ 7 [7, 47] [705] 49,
 kN_ 8 [47, 49] [705] 50,
 kN_ 9 [47, 48, 50] [] 51,
 kN_ 10 [7, 47] [705] 52,
 kN_ 11 [7, 47] [705] 53,
 kN_ 12 [47, 53] [705] 54,
 kN_ 13 [47, 52, 54] [] 55,
 kN_ 14 [47, 51, 55] [] 56,
 kN_ 15 [47, 56] [] 57,
 kN_ 16 [47, 57] [] 58]
       mixed_ok rfl (by kernel_rfl) ⟨dK_ fun s0 => oG_ rfl rfl (q_move),
 dK_ fun s0 => oG_ rfl rfl (q_fa),
 dK_ fun s0 => oG_ rfl rfl (q_load),
 dK_ fun s0 => oG_ rfl rfl ((OpOk.bool_is (c := true) (q_call (0) (hc := (c_ciceroneref01_Same (cutZ (zAt t k) (t.zs.getD i default).o) (t.zs.getD i default).o (by omega) (by omega)))) (h1))),
 dK_ fun s0 => oG_ rfl rfl ((OpOk.bool_is (c := false) (q_not) (rfl))),
 dK_ fun s0 => oG_ rfl rfl (q_move),
 dK_ fun s0 => oO_ rfl rfl rfl rfl rfl (q_load),
 dK_ fun s0 => oO_ rfl rfl rfl rfl rfl (q_fa),
 dK_ fun s0 => oO_ rfl rfl rfl rfl rfl (q_load),
 dK_ fun s0 => oO_ rfl rfl rfl rfl rfl (q_call (0) (hc := (c_rat (zAt t k) (t.zs.getD i default).o 2 hzk hzl))),
 dK_ fun s0 => oO_ rfl rfl rfl rfl rfl (q_load),
 dK_ fun s0 => oO_ rfl rfl rfl rfl rfl (q_fa),
 dK_ fun s0 => oO_ rfl rfl rfl rfl rfl (q_load),
 dK_ fun s0 => oO_ rfl rfl rfl rfl rfl (q_call (0) (hc := (c_rat (t.zs.getD i default) (t.zs.getD i default).o 2 hzi hzl))),
 dK_ fun s0 => oO_ rfl rfl rfl rfl rfl ((OpOk.bool_is (c := false) (q_call (0) (hc := (c_ciceroneref18_sameNames (atZ (zAt t k) (t.zs.getD i default).o 2) (atZ (t.zs.getD i default) (t.zs.getD i default).o 2) (atZ_ok hzk _ _) (atZ_ok hzi _ _)))) (h2))),
 dK_ fun s0 => oO_ rfl rfl rfl rfl rfl ((OpOk.bool_is (c := true) (q_not) (rfl))),
 dK_ fun s0 => oG_ rfl rfl (q_pick), trivial⟩ ?_
      dsimp only [final, DS.upd, AS.seto]
      refine AWp.cond_t rfl ?_
      refine AWp.seq ?_
      refine AWp.region ?_
      refine aC_ rfl rfl (q_assign) ?_
      refine AOps.nil ?_
      refine AWp.ret ?_
      show Fin te Try.f42 _ _
      refine q_ret (0) [_] [_] ?_
      exact congrArg tf (joinZ_no (j := i) (by omega) (kidO_no h5_1 ((parT_get (by omega)).trans (Decidable.not_not.1 h5_7)) (by rw [Bool.and_assoc, h2, Bool.and_false]))).symm
     ·
      refine AWp.draws [⟨0, [8], [], some 42, _, none⟩,
 ⟨1, [7], [705], some 43, _, none⟩,
 ⟨2, [43], [705], some 44, _, none⟩,
 ⟨3, [42, 44], [], some 45, _, none⟩,
 ⟨4, [45], [], some 46, _, none⟩,
 ⟨5, [46], [], some 47, _, none⟩,
 ⟨6, [5, 47], [205], some 48, _, none⟩,
 ⟨7, [7, 47], [705], some 49, _, none⟩,
 ⟨8, [47, 49], [705], some 50, _, none⟩,
 ⟨9, [47, 48, 50], [], some 51, _, none⟩,
 ⟨10, [7, 47], [705], some 52, _, none⟩,
 ⟨11, [7, 47], [705], some 53, _, none⟩,
 ⟨12, [47, 53], [705], some 54, _, none⟩,
 ⟨13, [47, 52, 54], [], some 55, _, none⟩,
 ⟨14, [47, 51, 55], [], some 56, _, none⟩,
 ⟨15, [47, 56], [], some 57, _, none⟩,
 ⟨16, [47, 57], [], some 58, _, none⟩]
       [kN_ 0 [8] [] 42,
 kN_ 1 [7] [705] 43,
 kN_ 2 [43] [705] 44,
 kN_ 3 [42, 44] [] 45,
 kN_ 4 [45] [] 46,
 kN_ 5 [46] [] 47,
 kN_ 6 [5, 47] [205] 48,
 kN_ 7 [7, 47] [705] 49,
 kN_ 8 [47, 49] [705] 50,
 kN_ 9 [47, 48, 50] [] 51,
 kN_ 10 [7, 47] [705] 52,
 kN_ 11 [7, 47] [705] 53,
 kN_ 12 [47, 53] [705] 54,
 kN_ 13 [47, 52, 54] [] 55,
 kN_ 14 [47, 51, 55] [] 56,
 kN_ 15 [47, 56] [] 57,
 kN_ 16 [47, 57] [] 58]
       mixed_ok rfl (by kernel_rfl) ⟨dK_ fun s0 => oG_ rfl rfl (q_move),
 dK_ fun s0 => oG_ rfl rfl (q_fa),
 dK_ fun s0 => oG_ rfl rfl (q_load),
 dK_ fun s0 => oG_ rfl rfl ((OpOk.bool_is (c := true) (q_call (0) (hc := (c_ciceroneref01_Same (cutZ (zAt t k) (t.zs.getD i default).o) (t.zs.getD i default).o (by omega) (by omega)))) (h1))),
 dK_ fun s0 => oG_ rfl rfl ((OpOk.bool_is (c := false) (q_not) (rfl))),
 dK_ fun s0 => oG_ rfl rfl (q_move),
 dK_ fun s0 => oO_ rfl rfl rfl rfl rfl (q_load),
 dK_ fun s0 => oO_ rfl rfl rfl rfl rfl (q_fa),
 dK_ fun s0 => oO_ rfl rfl rfl rfl rfl (q_load),
 dK_ fun s0 => oO_ rfl rfl rfl rfl rfl (q_call (0) (hc := (c_rat (zAt t k) (t.zs.getD i default).o 2 hzk hzl))),
 dK_ fun s0 => oO_ rfl rfl rfl rfl rfl (q_load),
 dK_ fun s0 => oO_ rfl rfl rfl rfl rfl (q_fa),
 dK_ fun s0 => oO_ rfl rfl rfl rfl rfl (q_load),
 dK_ fun s0 => oO_ rfl rfl rfl rfl rfl (q_call (0) (hc := (c_rat (t.zs.getD i default) (t.zs.getD i default).o 2 hzi hzl))),
 dK_ fun s0 => oO_ rfl rfl rfl rfl rfl ((OpOk.bool_is (c := true) (q_call (0) (hc := (c_ciceroneref18_sameNames (atZ (zAt t k) (t.zs.getD i default).o 2) (atZ (t.zs.getD i default) (t.zs.getD i default).o 2) (atZ_ok hzk _ _) (atZ_ok hzi _ _)))) (h2))),
 dK_ fun s0 => oO_ rfl rfl rfl rfl rfl ((OpOk.bool_is (c := false) (q_not) (rfl))),
 dK_ fun s0 => oG_ rfl rfl (q_pick), trivial⟩ ?_
      dsimp only [final, DS.upd, AS.seto]
      refine AWp.cond_f rfl ?_
      refine AWp.skip ?_
      refine AWp.region ?_
      refine aC_ rfl rfl (q_add) ?_
      refine aC_ rfl rfl (q_move) ?_
      refine AOps.nil ?_
      refine ⟨i + 1, ?_, Back.mk' (HasT.cons HasT.nil) HasH.nil, ?_⟩
      ·
       exact ⟨by omega, lt_step hc (kidO_yes h1 (by simp only [Bool.and_eq_true] at h2; exact h2.1) (by simp only [Bool.and_eq_true] at h2; exact h2.2))⟩
      ·
       first | omega | (simp; omega)
  ·
   refine AOps.nil ?_
   refine AWp.seq ?_
   refine AWp.cond_f rfl ?_
   refine AWp.exit ?_
   refine AWp.seq ?_
   refine AWp.seq ?_
   refine AWp.region ?_
   obtain rfl : i = t.zs.length := by omega
   refine aC_ rfl rfl (q_fa) ?_
   refine aC_ rfl rfl (q_load) ?_
   refine aC_ rfl rfl (q_len) ?_
   refine aC_ rfl rfl (q_move) ?_
   refine AOps.nil ?_
   refine AWp.block ?_
   refine AWp.loopR (α := Nat) [4, 10, 11, 12, 63, 64, 65, 66, 67, 68, 69, 70, 71, 72, 73, 74, 75, 76, 77, 78, 79, 80, 81, 82, 83, 84, 85, 86, 87, 88, 89, 90, 91, 92, 93, 94, 95, 96, 97, 98, 99, 100, 101, 102, 103, 104, 105, 106, 107, 108, 109] (fun e => [(63, i64 e)]) (fun e => []) (fun e => e ≤ (zAt t k).rs.length ∧ ((zAt t k).rs.take e).any (joinQ t (parT t) k (zAt t k)) = false) (fun e => (zAt t k).rs.length - e) 0 ?_ (Back.mk' (HasT.cons HasT.nil) HasH.nil) ?_
   ·
    exact ⟨Nat.zero_le _, rfl⟩
   ·
    rintro e ⟨he, hq⟩
    have hkr2 : (zAt t k).rs.length = (t.zs.getD k.toNat default).rs.length := rfl
    refine AWp.seq ?_
    refine AWp.region ?_
    refine AOps.dec rfl rfl (q_lss) (fun h12_0 => ?_) (fun h12_0 => ?_)
    ·
     refine AOps.nil ?_
     refine AWp.seq ?_
     refine AWp.cond_t rfl ?_
     refine AWp.skip ?_
     refine AWp.seq ?_
     refine AWp.block ?_
     refine AWp.seq ?_
     refine AWp.region ?_
     refine aC_ rfl rfl (q_ix) ?_
     refine aC_ rfl rfl (q_load) ?_
     refine aC_ rfl rfl (q_alloc 1402) ?_
     refine aC_ rfl rfl (q_store) ?_
     refine AOps.nil ?_
     refine AWp.seq ?_
     refine AWp.seq ?_
     refine AWp.region ?_
     have hri := hzk.2.2 _ (getD_mem' (l := (zAt t k).rs) (i := e) (by omega))
     refine aC_ rfl rfl (q_fa) ?_
     refine aC_ rfl rfl (q_load) ?_
     refine AOps.dec rfl rfl (q_neq) (fun h14_2 => ?_) (fun h14_2 => ?_)
     ·
      refine aC_ rfl rfl (q_move) ?_
      refine aG_ rfl rfl rfl rfl rfl rfl rfl rfl ?_
      refine aG_ rfl rfl rfl rfl rfl rfl rfl rfl ?_
      refine aG_ rfl rfl rfl rfl rfl rfl rfl rfl ?_
      refine aG_ rfl rfl rfl rfl rfl rfl rfl rfl ?_
      refine aG_ rfl rfl rfl rfl rfl rfl rfl rfl ?_
      refine aC_ rfl rfl (q_pick) ?_
      refine AOps.nil ?_
      refine AWp.cond_t rfl ?_
      refine AWp.exit ?_
      refine AWp.region ?_
      refine aC_ rfl rfl (q_add) ?_
      refine aC_ rfl rfl (q_move) ?_
      refine AOps.nil ?_
      refine ⟨e + 1, ?_, Back.mk' (HasT.cons HasT.nil) HasH.nil, ?_⟩
      ·
       exact ⟨by omega, any_no (i := e) (by omega) hq (joinQ_1 h14_2)⟩
      ·
       first | omega | (simp; omega)
     ·
      refine aC_ rfl rfl (q_move) ?_
      refine AOps.gcons rfl rfl rfl rfl rfl (q_fa) ?_
      refine AOps.gcons rfl rfl rfl rfl rfl (q_load) ?_
      refine AOps.gcons rfl rfl rfl rfl rfl (q_fa) ?_
      refine AOps.gcons rfl rfl rfl rfl rfl (q_load) ?_
      refine AOps.gbool rfl rfl rfl rfl rfl (q_call (0) (hc := (c_ciceroneref01_Same ((zAt t k).rs.getD e default).nm (zAt t k).o (by omega) (by omega)))) (fun h14_8 => ?_) (fun h14_8 => ?_)
      ·
       refine aC_ rfl rfl (q_pick) ?_
       refine AOps.nil ?_
       refine AWp.cond_t rfl ?_
       refine AWp.exit ?_
       refine AWp.region ?_
       refine aC_ rfl rfl (q_add) ?_
       refine aC_ rfl rfl (q_move) ?_
       refine AOps.nil ?_
       refine ⟨e + 1, ?_, Back.mk' (HasT.cons HasT.nil) HasH.nil, ?_⟩
       ·
        exact ⟨by omega, any_no (i := e) (by omega) hq (joinQ_2 h14_8)⟩
       ·
        first | omega | (simp; omega)
      ·
       refine aC_ rfl rfl (q_pick) ?_
       refine AOps.nil ?_
       refine AWp.cond_f rfl ?_
       refine AWp.skip ?_
       refine AWp.seq ?_
       refine AWp.region ?_
       refine aC_ rfl rfl (q_assign) ?_
       refine AOps.nil ?_
       refine AWp.seq ?_
       refine AWp.seq ?_
       refine AWp.region ?_
       refine aC_ rfl rfl (q_fa) ?_
       refine aC_ rfl rfl (q_load) ?_
       refine aC_ rfl rfl (q_len) ?_
       refine aC_ rfl rfl (q_move) ?_
       refine AOps.nil ?_
       refine AWp.block ?_
       refine AWp.loopR (α := Nat) [11, 12, 80, 81, 82, 83, 84, 85, 86, 87, 88, 89, 90, 91, 92, 93, 94, 95, 96, 97, 98, 99, 100, 101, 102, 103, 104, 105, 106] (fun j => [(80, i64 j), (11, tf ((List.range j).any (childB t (parT t) k ((zAt t k).rs.getD e default).nm)))]) (fun j => []) (fun j => j ≤ t.zs.length) (fun j => t.zs.length - j) 0 ?_ (Back.mk' (HasT.cons (HasT.cons HasT.nil)) HasH.nil) ?_
       ·
        exact Nat.zero_le _
       ·
        rintro j hj
        refine AWp.seq ?_
        refine AWp.region ?_
        refine AOps.dec rfl rfl (q_lss) (fun h17_0 => ?_) (fun h17_0 => ?_)
        ·
         refine AOps.nil ?_
         refine AWp.seq ?_
         refine AWp.cond_t rfl ?_
         refine AWp.skip ?_
         refine AWp.seq ?_
         refine AWp.block ?_
         refine AWp.seq ?_
         refine AWp.region ?_
         have hzj := ht.2.1 _ (getD_mem' (l := t.zs) (i := j) (by omega))
         have hzjl := hzj.1
         refine aC_ rfl rfl (q_move) ?_
         refine aC_ rfl rfl (q_assign) ?_
         refine AOps.nil ?_
         rcases find5 ((List.range j).any (childB t (parT t) k ((zAt t k).rs.getD e default).nm)) (0 < (j : Int)) (sameN (t.zs.getD j default).o ((zAt t k).rs.getD e default).nm) (parOf t (t.zs.getD j default) = k) with h1 | ⟨h1, h2⟩ | ⟨h1, h2, h3⟩ | ⟨h1, h2, h3, h4⟩ | ⟨h1, h2, h3, h4⟩
         ·
          refine AWp.draws [⟨0, [11], [], some 83, _, none⟩,
 ⟨1, [83], [], some 84, _, none⟩,
 ⟨2, [84], [], some 85, .v undef, none⟩,
 ⟨3, [84], [], some 86, .v undef, none⟩,
 ⟨4, [84], [], some 87, .v undef, none⟩,
 ⟨5, [87], [], some 88, .v undef, none⟩,
 ⟨6, [87], [], some 89, .v undef, none⟩,
 ⟨7, [87], [], some 90, .v undef, none⟩,
 ⟨8, [87], [], some 91, .v undef, none⟩,
 ⟨9, [87], [], some 92, .v undef, none⟩,
 ⟨10, [87], [], some 93, .v undef, none⟩,
 ⟨11, [87], [], some 94, .v undef, none⟩,
 ⟨12, [87], [], some 95, .v undef, none⟩,
 ⟨13, [87], [], some 96, .v undef, none⟩,
 ⟨14, [84], [], some 97, .v undef, none⟩,
 ⟨15, [84], [], some 98, .v undef, none⟩,
 ⟨16, [98], [], some 99, .v undef, none⟩,
 ⟨17, [98], [], some 100, .v undef, none⟩,
 ⟨18, [98], [], some 101, .v undef, none⟩,
 ⟨19, [98], [], some 102, .v undef, none⟩,
 ⟨20, [98], [], some 103, .v undef, none⟩,
 ⟨21, [84], [], some 104, .v undef, none⟩,
 ⟨22, [84, 104], [], some 105, _, none⟩,
 ⟨23, [105], [], some 11, _, none⟩]
           [kN_ 0 [11] [] 83,
 kN_ 1 [83] [] 84,
 kN_ 2 [84] [] 85,
 kN_ 3 [84] [] 86,
 kN_ 4 [84] [] 87,
 kN_ 5 [87] [] 88,
 kN_ 6 [87] [] 89,
 kN_ 7 [87] [] 90,
 kN_ 8 [87] [] 91,
 kN_ 9 [87] [] 92,
 kN_ 10 [87] [] 93,
 kN_ 11 [87] [] 94,
 kN_ 12 [87] [] 95,
 kN_ 13 [87] [] 96,
 kN_ 14 [84] [] 97,
 kN_ 15 [84] [] 98,
 kN_ 16 [98] [] 99,
 kN_ 17 [98] [] 100,
 kN_ 18 [98] [] 101,
 kN_ 19 [98] [] 102,
 kN_ 20 [98] [] 103,
 kN_ 21 [84] [] 104,
 kN_ 22 [84, 104] [] 105,
 kN_ 23 [105] [] 11]
           mixed_ok rfl (by kernel_rfl) ⟨dK_ fun s0 => oG_ rfl rfl ((OpOk.bool_is (c := true) (q_move) (h1))),
 dK_ fun s0 => oG_ rfl rfl (q_move),
 dK_ fun s0 => oS_ rfl rfl rfl rfl rfl rfl rfl rfl,
 dK_ fun s0 => oS_ rfl rfl rfl rfl rfl rfl rfl rfl,
 dK_ fun s0 => oS_ rfl rfl rfl rfl rfl rfl rfl rfl,
 DS.ok_over fun s0 => OpAt.gskipu rfl rfl rfl rfl rfl rfl rfl,
 DS.ok_over fun s0 => OpAt.gskipu rfl rfl rfl rfl rfl rfl rfl,
 DS.ok_over fun s0 => OpAt.gskipu rfl rfl rfl rfl rfl rfl rfl,
 DS.ok_over fun s0 => OpAt.gskipu rfl rfl rfl rfl rfl rfl rfl,
 DS.ok_over fun s0 => OpAt.gskipu rfl rfl rfl rfl rfl rfl rfl,
 DS.ok_over fun s0 => OpAt.gskipu rfl rfl rfl rfl rfl rfl rfl,
 DS.ok_over fun s0 => OpAt.gskipu rfl rfl rfl rfl rfl rfl rfl,
 DS.ok_over fun s0 => OpAt.gskipu rfl rfl rfl rfl rfl rfl rfl,
 DS.ok_over fun s0 => OpAt.gskipu rfl rfl rfl rfl rfl rfl rfl,
 dK_ fun s0 => oS_ rfl rfl rfl rfl rfl rfl rfl rfl,
 dK_ fun s0 => oS_ rfl rfl rfl rfl rfl rfl rfl rfl,
 DS.ok_over fun s0 => OpAt.gskipu rfl rfl rfl rfl rfl rfl rfl,
 DS.ok_over fun s0 => OpAt.gskipu rfl rfl rfl rfl rfl rfl rfl,
 DS.ok_over fun s0 => OpAt.gskipu rfl rfl rfl rfl rfl rfl rfl,
 DS.ok_over fun s0 => OpAt.gskipu rfl rfl rfl rfl rfl rfl rfl,
 DS.ok_over fun s0 => OpAt.gskipu rfl rfl rfl rfl rfl rfl rfl,
 dK_ fun s0 => oS_ rfl rfl rfl rfl rfl rfl rfl rfl,
 dK_ fun s0 => oG_ rfl rfl (q_pick),
 dK_ fun s0 => oG_ rfl rfl (q_assign), trivial⟩ ?_
          dsimp only [final, DS.upd, AS.seto]
          refine AWp.region ?_
          refine aC_ rfl rfl (q_add) ?_
          refine aC_ rfl rfl (q_move) ?_
          refine AOps.nil ?_
          refine ⟨j + 1, ?_, Back.mk' (HasT.cons (HasT.cons HasT.nil (h1 := by exact congrArg tf (by rw [range_any_step, h1]; rfl)) )) HasH.nil, ?_⟩
          ·
           first | assumption | omega | decide | (simp; omega) | (simp [*]; done)
          ·
           first | omega | (simp; omega)
         ·
          refine AWp.draws [⟨0, [11], [], some 83, _, none⟩,
 ⟨1, [83], [], some 84, _, none⟩,
 ⟨2, [12, 84], [], some 85, _, none⟩,
 ⟨3, [84, 85], [], some 86, _, none⟩,
 ⟨4, [84, 86], [], some 87, _, none⟩,
 ⟨5, [87], [], some 88, .v undef, none⟩,
 ⟨6, [87], [], some 89, .v undef, none⟩,
 ⟨7, [87], [], some 90, .v undef, none⟩,
 ⟨8, [87], [], some 91, .v undef, none⟩,
 ⟨9, [87], [], some 92, .v undef, none⟩,
 ⟨10, [87], [], some 93, .v undef, none⟩,
 ⟨11, [87], [], some 94, .v undef, none⟩,
 ⟨12, [87], [], some 95, .v undef, none⟩,
 ⟨13, [87], [], some 96, .v undef, none⟩,
 ⟨14, [84, 87, 96], [], some 97, _, none⟩,
 ⟨15, [84, 97], [], some 98, _, none⟩,
 ⟨16, [98], [], some 99, .v undef, none⟩,
 ⟨17, [98], [], some 100, .v undef, none⟩,
 ⟨18, [98], [], some 101, .v undef, none⟩,
 ⟨19, [98], [], some 102, .v undef, none⟩,
 ⟨20, [98], [], some 103, .v undef, none⟩,
 ⟨21, [84, 98, 103], [], some 104, _, none⟩,
 ⟨22, [84, 104], [], some 105, _, none⟩,
 ⟨23, [105], [], some 11, _, none⟩]
           [kN_ 0 [11] [] 83,
 kN_ 1 [83] [] 84,
 kN_ 2 [12, 84] [] 85,
 kN_ 3 [84, 85] [] 86,
 kN_ 4 [84, 86] [] 87,
 kN_ 5 [87] [] 88,
 kN_ 6 [87] [] 89,
 kN_ 7 [87] [] 90,
 kN_ 8 [87] [] 91,
 kN_ 9 [87] [] 92,
 kN_ 10 [87] [] 93,
 kN_ 11 [87] [] 94,
 kN_ 12 [87] [] 95,
 kN_ 13 [87] [] 96,
 kN_ 14 [84, 87, 96] [] 97,
 kN_ 15 [84, 97] [] 98,
 kN_ 16 [98] [] 99,
 kN_ 17 [98] [] 100,
 kN_ 18 [98] [] 101,
 kN_ 19 [98] [] 102,
 kN_ 20 [98] [] 103,
 kN_ 21 [84, 98, 103] [] 104,
 kN_ 22 [84, 104] [] 105,
 kN_ 23 [105] [] 11]
           mixed_ok rfl (by kernel_rfl) ⟨dK_ fun s0 => oG_ rfl rfl ((OpOk.bool_is (c := false) (q_move) (h1))),
 dK_ fun s0 => oG_ rfl rfl (q_move),
 dK_ fun s0 => oO_ rfl rfl rfl rfl rfl (q_move),
 dK_ fun s0 => oO_ rfl rfl rfl rfl rfl ((OpOk.dec_f (q_gtr) (h2))),
 dK_ fun s0 => oO_ rfl rfl rfl rfl rfl (q_move),
 dK_ fun s0 => oS_ rfl rfl rfl rfl rfl rfl rfl rfl,
 dK_ fun s0 => oS_ rfl rfl rfl rfl rfl rfl rfl rfl,
 dK_ fun s0 => oS_ rfl rfl rfl rfl rfl rfl rfl rfl,
 dK_ fun s0 => oS_ rfl rfl rfl rfl rfl rfl rfl rfl,
 dK_ fun s0 => oS_ rfl rfl rfl rfl rfl rfl rfl rfl,
 dK_ fun s0 => oS_ rfl rfl rfl rfl rfl rfl rfl rfl,
 dK_ fun s0 => oS_ rfl rfl rfl rfl rfl rfl rfl rfl,
 dK_ fun s0 => oS_ rfl rfl rfl rfl rfl rfl rfl rfl,
 dK_ fun s0 => oS_ rfl rfl rfl rfl rfl rfl rfl rfl,
 dK_ fun s0 => oO_ rfl rfl rfl rfl rfl (q_pick),
 dK_ fun s0 => oO_ rfl rfl rfl rfl rfl (q_move),
 dK_ fun s0 => oS_ rfl rfl rfl rfl rfl rfl rfl rfl,
 dK_ fun s0 => oS_ rfl rfl rfl rfl rfl rfl rfl rfl,
 dK_ fun s0 => oS_ rfl rfl rfl rfl rfl rfl rfl rfl,
 dK_ fun s0 => oS_ rfl rfl rfl rfl rfl rfl rfl rfl,
 dK_ fun s0 => oS_ rfl rfl rfl rfl rfl rfl rfl rfl,
 dK_ fun s0 => oO_ rfl rfl rfl rfl rfl (q_pick),
 dK_ fun s0 => oG_ rfl rfl (q_pick),
 dK_ fun s0 => oG_ rfl rfl (q_assign), trivial⟩ ?_
          dsimp only [final, DS.upd, AS.seto]
          refine AWp.region ?_
          refine aC_ rfl rfl (q_add) ?_
          refine aC_ rfl rfl (q_move) ?_
          refine AOps.nil ?_
          refine ⟨j + 1, ?_, Back.mk' (HasT.cons (HasT.cons HasT.nil (h1 := by exact congrArg tf (by rw [range_any_step, h1, chi_1 h2]; rfl)) )) HasH.nil, ?_⟩
          ·
           first | assumption | omega | decide | (simp; omega) | (simp [*]; done)
          ·
           first | omega | (simp; omega)
         ·
          refine AWp.draws [⟨0, [11], [], some 83, _, none⟩,
 ⟨1, [83], [], some 84, _, none⟩,
 ⟨2, [12, 84], [], some 85, _, none⟩,
 ⟨3, [84, 85], [], some 86, _, none⟩,
 ⟨4, [84, 86], [], some 87, _, none⟩,
 ⟨5, [2, 87], [100], some 88, _, none⟩,
 ⟨6, [87, 88], [100], some 89, _, none⟩,
 ⟨7, [12, 87], [], some 90, _, none⟩,
 ⟨8, [87, 89, 90], [], some 91, _, none⟩,
 ⟨9, [87, 91], [], some 92, _, none⟩,
 ⟨10, [87, 92], [], some 93, _, none⟩,
 ⟨11, [10, 87], [1402], some 94, _, none⟩,
 ⟨12, [87, 94], [1402], some 95, _, none⟩,
 ⟨13, [87, 93, 95], [], some 96, _, none⟩,
 ⟨14, [84, 87, 96], [], some 97, _, none⟩,
 ⟨15, [84, 97], [], some 98, _, none⟩,
 ⟨16, [98], [], some 99, .v undef, none⟩,
 ⟨17, [98], [], some 100, .v undef, none⟩,
 ⟨18, [98], [], some 101, .v undef, none⟩,
 ⟨19, [98], [], some 102, .v undef, none⟩,
 ⟨20, [98], [], some 103, .v undef, none⟩,
 ⟨21, [84, 98, 103], [], some 104, _, none⟩,
 ⟨22, [84, 104], [], some 105, _, none⟩,
 ⟨23, [105], [], some 11, _, none⟩]
           [kN_ 0 [11] [] 83,
 kN_ 1 [83] [] 84,
 kN_ 2 [12, 84] [] 85,
 kN_ 3 [84, 85] [] 86,
 kN_ 4 [84, 86] [] 87,
 kN_ 5 [2, 87] [100] 88,
 kN_ 6 [87, 88] [100] 89,
 kN_ 7 [12, 87] [] 90,
 kN_ 8 [87, 89, 90] [] 91,
 kN_ 9 [87, 91] [] 92,
 kN_ 10 [87, 92] [] 93,
 kN_ 11 [10, 87] [1402] 94,
 kN_ 12 [87, 94] [1402] 95,
 kN_ 13 [87, 93, 95] [] 96,
 kN_ 14 [84, 87, 96] [] 97,
 kN_ 15 [84, 97] [] 98,
 kN_ 16 [98] [] 99,
 kN_ 17 [98] [] 100,
 kN_ 18 [98] [] 101,
 kN_ 19 [98] [] 102,
 kN_ 20 [98] [] 103,
 kN_ 21 [84, 98, 103] [] 104,
 kN_ 22 [84, 104] [] 105,
 kN_ 23 [105] [] 11]
           mixed_ok rfl (by kernel_rfl) ⟨dK_ fun s0 => oG_ rfl rfl ((OpOk.bool_is (c := false) (q_move) (h1))),
 dK_ fun s0 => oG_ rfl rfl (q_move),
 dK_ fun s0 => oO_ rfl rfl rfl rfl rfl (q_move),
 dK_ fun s0 => oO_ rfl rfl rfl rfl rfl ((OpOk.dec_t (q_gtr) (h2))),
 dK_ fun s0 => oO_ rfl rfl rfl rfl rfl (q_move),
 dK_ fun s0 => oO_ rfl rfl rfl rfl rfl (q_fa),
 dK_ fun s0 => oO_ rfl rfl rfl rfl rfl (q_load),
 dK_ fun s0 => oO_ rfl rfl rfl rfl rfl (q_move),
 dK_ fun s0 => oO_ rfl rfl rfl rfl rfl (q_ix),
 dK_ fun s0 => oO_ rfl rfl rfl rfl rfl (q_fa),
 dK_ fun s0 => oO_ rfl rfl rfl rfl rfl (q_load),
 dK_ fun s0 => oO_ rfl rfl rfl rfl rfl (q_fa),
 dK_ fun s0 => oO_ rfl rfl rfl rfl rfl (q_load),
 dK_ fun s0 => oO_ rfl rfl rfl rfl rfl ((OpOk.bool_is (c := false) (q_call (0) (hc := (c_ciceroneref01_Same (t.zs.getD j default).o ((zAt t k).rs.getD e default).nm (by omega) (by omega)))) (h3))),
 dK_ fun s0 => oO_ rfl rfl rfl rfl rfl (q_pick),
 dK_ fun s0 => oO_ rfl rfl rfl rfl rfl (q_move),
 dK_ fun s0 => oS_ rfl rfl rfl rfl rfl rfl rfl rfl,
 dK_ fun s0 => oS_ rfl rfl rfl rfl rfl rfl rfl rfl,
 dK_ fun s0 => oS_ rfl rfl rfl rfl rfl rfl rfl rfl,
 dK_ fun s0 => oS_ rfl rfl rfl rfl rfl rfl rfl rfl,
 dK_ fun s0 => oS_ rfl rfl rfl rfl rfl rfl rfl rfl,
 dK_ fun s0 => oO_ rfl rfl rfl rfl rfl (q_pick),
 dK_ fun s0 => oG_ rfl rfl (q_pick),
 dK_ fun s0 => oG_ rfl rfl (q_assign), trivial⟩ ?_
          dsimp only [final, DS.upd, AS.seto]
          refine AWp.region ?_
          refine aC_ rfl rfl (q_add) ?_
          refine aC_ rfl rfl (q_move) ?_
          refine AOps.nil ?_
          refine ⟨j + 1, ?_, Back.mk' (HasT.cons (HasT.cons HasT.nil (h1 := by exact congrArg tf (by rw [range_any_step, h1, chi_2 h3]; rfl)) )) HasH.nil, ?_⟩
          ·
           first | assumption | omega | decide | (simp; omega) | (simp [*]; done)
          ·
           first | omega | (simp; omega)
         ·
          refine AWp.draws [⟨0, [11], [], some 83, _, none⟩,
 ⟨1, [83], [], some 84, _, none⟩,
 ⟨2, [12, 84], [], some 85, _, none⟩,
 ⟨3, [84, 85], [], some 86, _, none⟩,
 ⟨4, [84, 86], [], some 87, _, none⟩,
 ⟨5, [2, 87], [100], some 88, _, none⟩,
 ⟨6, [87, 88], [100], some 89, _, none⟩,
 ⟨7, [12, 87], [], some 90, _, none⟩,
 ⟨8, [87, 89, 90], [], some 91, _, none⟩,
 ⟨9, [87, 91], [], some 92, _, none⟩,
 ⟨10, [87, 92], [], some 93, _, none⟩,
 ⟨11, [10, 87], [1402], some 94, _, none⟩,
 ⟨12, [87, 94], [1402], some 95, _, none⟩,
 ⟨13, [87, 93, 95], [], some 96, _, none⟩,
 ⟨14, [84, 87, 96], [], some 97, _, none⟩,
 ⟨15, [84, 97], [], some 98, _, none⟩,
 ⟨16, [2, 98], [100], some 99, _, none⟩,
 ⟨17, [12, 98], [], some 100, _, none⟩,
 ⟨18, [98, 99, 100], [], some 101, _, none⟩,
 ⟨19, [1, 98], [], some 102, _, none⟩,
 ⟨20, [98, 101, 102], [], some 103, _, none⟩,
 ⟨21, [84, 98, 103], [], some 104, _, none⟩,
 ⟨22, [84, 104], [], some 105, _, none⟩,
 ⟨23, [105], [], some 11, _, none⟩]
           [kN_ 0 [11] [] 83,
 kN_ 1 [83] [] 84,
 kN_ 2 [12, 84] [] 85,
 kN_ 3 [84, 85] [] 86,
 kN_ 4 [84, 86] [] 87,
 kN_ 5 [2, 87] [100] 88,
 kN_ 6 [87, 88] [100] 89,
 kN_ 7 [12, 87] [] 90,
 kN_ 8 [87, 89, 90] [] 91,
 kN_ 9 [87, 91] [] 92,
 kN_ 10 [87, 92] [] 93,
 kN_ 11 [10, 87] [1402] 94,
 kN_ 12 [87, 94] [1402] 95,
 kN_ 13 [87, 93, 95] [] 96,
 kN_ 14 [84, 87, 96] [] 97,
 kN_ 15 [84, 97] [] 98,
 kN_ 16 [2, 98] [100] 99,
 kN_ 17 [12, 98] [] 100,
 kN_ 18 [98, 99, 100] [] 101,
 kN_ 19 [1, 98] [] 102,
 kN_ 20 [98, 101, 102] [] 103,
 kN_ 21 [84, 98, 103] [] 104,
 kN_ 22 [84, 104] [] 105,
 kN_ 23 [105] [] 11]
           mixed_ok rfl (by kernel_rfl) ⟨dK_ fun s0 => oG_ rfl rfl ((OpOk.bool_is (c := false) (q_move) (h1))),
 dK_ fun s0 => oG_ rfl rfl (q_move),
 dK_ fun s0 => oO_ rfl rfl rfl rfl rfl (q_move),
 dK_ fun s0 => oO_ rfl rfl rfl rfl rfl ((OpOk.dec_t (q_gtr) (h2))),
 dK_ fun s0 => oO_ rfl rfl rfl rfl rfl (q_move),
 dK_ fun s0 => oO_ rfl rfl rfl rfl rfl (q_fa),
 dK_ fun s0 => oO_ rfl rfl rfl rfl rfl (q_load),
 dK_ fun s0 => oO_ rfl rfl rfl rfl rfl (q_move),
 dK_ fun s0 => oO_ rfl rfl rfl rfl rfl (q_ix),
 dK_ fun s0 => oO_ rfl rfl rfl rfl rfl (q_fa),
 dK_ fun s0 => oO_ rfl rfl rfl rfl rfl (q_load),
 dK_ fun s0 => oO_ rfl rfl rfl rfl rfl (q_fa),
 dK_ fun s0 => oO_ rfl rfl rfl rfl rfl (q_load),
 dK_ fun s0 => oO_ rfl rfl rfl rfl rfl ((OpOk.bool_is (c := true) (q_call (0) (hc := (c_ciceroneref01_Same (t.zs.getD j default).o ((zAt t k).rs.getD e default).nm (by omega) (by omega)))) (h3))),
 dK_ fun s0 => oO_ rfl rfl rfl rfl rfl (q_pick),
 dK_ fun s0 => oO_ rfl rfl rfl rfl rfl (q_move),
 dK_ fun s0 => oO_ rfl rfl rfl rfl rfl (q_load),
 dK_ fun s0 => oO_ rfl rfl rfl rfl rfl (q_move),
 dK_ fun s0 => oO_ rfl rfl rfl rfl rfl (q_call (0) (hc := (c_ciceroneref18_parent t j ht ⟨by omega, by omega⟩))),
 dK_ fun s0 => oO_ rfl rfl rfl rfl rfl (q_move),
 dK_ fun s0 => oO_ rfl rfl rfl rfl rfl ((OpOk.dec_f (q_eql) (h4))),
 dK_ fun s0 => oO_ rfl rfl rfl rfl rfl (q_pick),
 dK_ fun s0 => oG_ rfl rfl (q_pick),
 dK_ fun s0 => oG_ rfl rfl (q_assign), trivial⟩ ?_
          dsimp only [final, DS.upd, AS.seto]
          refine AWp.region ?_
          refine aC_ rfl rfl (q_add) ?_
          refine aC_ rfl rfl (q_move) ?_
          refine AOps.nil ?_
          refine ⟨j + 1, ?_, Back.mk' (HasT.cons (HasT.cons HasT.nil (h1 := by exact congrArg tf (by rw [range_any_step, h1, chi_3 (by omega) h4]; rfl)) )) HasH.nil, ?_⟩
          ·
           first | assumption | omega | decide | (simp; omega) | (simp [*]; done)
          ·
           first | omega | (simp; omega)
         ·
          refine AWp.draws [⟨0, [11], [], some 83, _, none⟩,
 ⟨1, [83], [], some 84, _, none⟩,
 ⟨2, [12, 84], [], some 85, _, none⟩,
 ⟨3, [84, 85], [], some 86, _, none⟩,
 ⟨4, [84, 86], [], some 87, _, none⟩,
 ⟨5, [2, 87], [100], some 88, _, none⟩,
 ⟨6, [87, 88], [100], some 89, _, none⟩,
 ⟨7, [12, 87], [], some 90, _, none⟩,
 ⟨8, [87, 89, 90], [], some 91, _, none⟩,
 ⟨9, [87, 91], [], some 92, _, none⟩,
 ⟨10, [87, 92], [], some 93, _, none⟩,
 ⟨11, [10, 87], [1402], some 94, _, none⟩,
 ⟨12, [87, 94], [1402], some 95, _, none⟩,
 ⟨13, [87, 93, 95], [], some 96, _, none⟩,
 ⟨14, [84, 87, 96], [], some 97, _, none⟩,
 ⟨15, [84, 97], [], some 98, _, none⟩,
 ⟨16, [2, 98], [100], some 99, _, none⟩,
 ⟨17, [12, 98], [], some 100, _, none⟩,
 ⟨18, [98, 99, 100], [], some 101, _, none⟩,
 ⟨19, [1, 98], [], some 102, _, none⟩,
 ⟨20, [98, 101, 102], [], some 103, _, none⟩,
 ⟨21, [84, 98, 103], [], some 104, _, none⟩,
 ⟨22, [84, 104], [], some 105, _, none⟩,
 ⟨23, [105], [], some 11, _, none⟩]
           [kN_ 0 [11] [] 83,
 kN_ 1 [83] [] 84,
 kN_ 2 [12, 84] [] 85,
 kN_ 3 [84, 85] [] 86,
 kN_ 4 [84, 86] [] 87,
 kN_ 5 [2, 87] [100] 88,
 kN_ 6 [87, 88] [100] 89,
 kN_ 7 [12, 87] [] 90,
 kN_ 8 [87, 89, 90] [] 91,
 kN_ 9 [87, 91] [] 92,
 kN_ 10 [87, 92] [] 93,
 kN_ 11 [10, 87] [1402] 94,
 kN_ 12 [87, 94] [1402] 95,
 kN_ 13 [87, 93, 95] [] 96,
 kN_ 14 [84, 87, 96] [] 97,
 kN_ 15 [84, 97] [] 98,
 kN_ 16 [2, 98] [100] 99,
 kN_ 17 [12, 98] [] 100,
 kN_ 18 [98, 99, 100] [] 101,
 kN_ 19 [1, 98] [] 102,
 kN_ 20 [98, 101, 102] [] 103,
 kN_ 21 [84, 98, 103] [] 104,
 kN_ 22 [84, 104] [] 105,
 kN_ 23 [105] [] 11]
           mixed_ok rfl (by kernel_rfl) ⟨dK_ fun s0 => oG_ rfl rfl ((OpOk.bool_is (c := false) (q_move) (h1))),
 dK_ fun s0 => oG_ rfl rfl (q_move),
 dK_ fun s0 => oO_ rfl rfl rfl rfl rfl (q_move),
 dK_ fun s0 => oO_ rfl rfl rfl rfl rfl ((OpOk.dec_t (q_gtr) (h2))),
 dK_ fun s0 => oO_ rfl rfl rfl rfl rfl (q_move),
 dK_ fun s0 => oO_ rfl rfl rfl rfl rfl (q_fa),
 dK_ fun s0 => oO_ rfl rfl rfl rfl rfl (q_load),
 dK_ fun s0 => oO_ rfl rfl rfl rfl rfl (q_move),
 dK_ fun s0 => oO_ rfl rfl rfl rfl rfl (q_ix),
 dK_ fun s0 => oO_ rfl rfl rfl rfl rfl (q_fa),
 dK_ fun s0 => oO_ rfl rfl rfl rfl rfl (q_load),
 dK_ fun s0 => oO_ rfl rfl rfl rfl rfl (q_fa),
 dK_ fun s0 => oO_ rfl rfl rfl rfl rfl (q_load),
 dK_ fun s0 => oO_ rfl rfl rfl rfl rfl ((OpOk.bool_is (c := true) (q_call (0) (hc := (c_ciceroneref01_Same (t.zs.getD j default).o ((zAt t k).rs.getD e default).nm (by omega) (by omega)))) (h3))),
 dK_ fun s0 => oO_ rfl rfl rfl rfl rfl (q_pick),
 dK_ fun s0 => oO_ rfl rfl rfl rfl rfl (q_move),
 dK_ fun s0 => oO_ rfl rfl rfl rfl rfl (q_load),
 dK_ fun s0 => oO_ rfl rfl rfl rfl rfl (q_move),
 dK_ fun s0 => oO_ rfl rfl rfl rfl rfl (q_call (0) (hc := (c_ciceroneref18_parent t j ht ⟨by omega, by omega⟩))),
 dK_ fun s0 => oO_ rfl rfl rfl rfl rfl (q_move),
 dK_ fun s0 => oO_ rfl rfl rfl rfl rfl ((OpOk.dec_t (q_eql) (h4))),
 dK_ fun s0 => oO_ rfl rfl rfl rfl rfl (q_pick),
 dK_ fun s0 => oG_ rfl rfl (q_pick),
 dK_ fun s0 => oG_ rfl rfl (q_assign), trivial⟩ ?_
          dsimp only [final, DS.upd, AS.seto]
          refine AWp.region ?_
          refine aC_ rfl rfl (q_add) ?_
          refine aC_ rfl rfl (q_move) ?_
          refine AOps.nil ?_
          refine ⟨j + 1, ?_, Back.mk' (HasT.cons (HasT.cons HasT.nil (h1 := by exact congrArg tf (by rw [range_any_step, h1, chi_yes (by omega) h2 h3 h4]; rfl)) )) HasH.nil, ?_⟩
          ·
           first | assumption | omega | decide | (simp; omega) | (simp [*]; done)
          ·
           first | omega | (simp; omega)
        ·
         refine AOps.nil ?_
         refine AWp.seq ?_
         refine AWp.cond_f rfl ?_
         refine AWp.exit ?_
         refine AWp.seq ?_
         refine AWp.region ?_
         refine AOps.bool rfl rfl (q_move) (fun h21_0 => ?_) (fun h21_0 => ?_)
         ·
          refine aC_ rfl rfl (q_not) ?_
          refine AOps.nil ?_
          refine AWp.cond_f rfl ?_
          refine AWp.skip ?_
          refine AWp.region ?_
          refine aC_ rfl rfl (q_add) ?_
          refine aC_ rfl rfl (q_move) ?_
          refine AOps.nil ?_
          refine ⟨e + 1, ?_, Back.mk' (HasT.cons HasT.nil) HasH.nil, ?_⟩
          ·
           obtain rfl : j = t.zs.length := by omega
           exact ⟨by omega, any_no (i := e) (by omega) hq (joinQ_3 h21_0)⟩
          ·
           first | omega | (simp; omega)
         ·
          refine aC_ rfl rfl (q_not) ?_
          refine AOps.nil ?_
          refine AWp.cond_t rfl ?_
          refine AWp.seq ?_
          refine AWp.region ?_
          refine aC_ rfl rfl (q_assign) ?_
          refine AOps.nil ?_
          refine AWp.ret ?_
          show Fin te Try.f42 _ _
          refine q_ret (0) [_] [_] ?_
          obtain rfl : j = t.zs.length := by omega
          exact congrArg tf (joinZ_bad (any_yes (i := e) (by omega) (joinQ_yes h14_2 h14_8 h21_0))).symm
    ·
     refine AOps.nil ?_
     refine AWp.seq ?_
     refine AWp.cond_f rfl ?_
     refine AWp.exit ?_
     refine AWp.seq ?_
     refine AWp.region ?_
     refine aC_ rfl rfl (q_assign) ?_
     refine AOps.nil ?_
     refine AWp.ret ?_
     show Fin te Try.f42 _ _
     refine q_ret (0) [_] [_] ?_
     obtain rfl : e = (zAt t k).rs.length := by omega
     rw [List.take_length] at hq
     exact congrArg tf (joinZ_fin hc hq).symm
end Go.Proofs.Ytokccoloholgaaa.Fw


set_option linter.unusedVariables false
set_option linter.unusedSimpArgs false
namespace Go.Proofs.Ytokccoloholgaaa.Fw
open Go.RowKit
theorem gd_at {α : Type} [Inhabited α] {l : List α} {k : Nat} (h : k < l.length) : l.getD k default = l[k] := by rw [List.getD_eq_getElem?_getD, List.getElem?_eq_getElem h]; rfl
theorem one_iff {α : Type} [Inhabited α] {p : α → Bool} {l : List α} {i : Nat} (hi : i < l.length) (hp : p (l.getD i default) = true) : (l.filter p).length = 1 ↔ ∀ k, k < l.length → k ≠ i → p (l.getD k default) = false := by
  have e : l = l.take i ++ l.getD i default :: l.drop (i + 1) := by
    rw [gd_at hi, ← List.drop_eq_getElem_cons hi, List.take_append_drop]
  have hlen : (l.filter p).length = ((l.take i).filter p).length + (1 + ((l.drop (i + 1)).filter p).length) := by
    conv => lhs; rw [e]
    rw [List.filter_append, List.filter_cons_of_pos hp, List.length_append, List.length_cons]; omega
  constructor
  · intro h k hk hki
    have h1 : (l.take i).filter p = [] := List.eq_nil_of_length_eq_zero (by omega)
    have h2 : (l.drop (i + 1)).filter p = [] := List.eq_nil_of_length_eq_zero (by omega)
    rw [List.filter_eq_nil_iff] at h1 h2
    cases hq : p (l.getD k default) with
    | false => rfl
    | true =>
      exfalso
      rw [gd_at hk] at hq
      rcases Nat.lt_or_gt_of_ne hki with h3 | h3
      · exact h1 l[k] (List.mem_take_iff_getElem.2 ⟨k, by omega, rfl⟩) hq
      · exact h2 l[k] (List.mem_drop_iff_getElem.2 ⟨k - (i + 1), by omega, by congr 1; omega⟩) hq
  · intro h
    have h1 : (l.take i).filter p = [] := List.filter_eq_nil_iff.2 fun x hx => by
      obtain ⟨k, hk, rfl⟩ := List.mem_take_iff_getElem.1 hx
      have := h k (by omega) (by omega)
      rw [gd_at (by omega)] at this
      rw [this]; decide
    have h2 : (l.drop (i + 1)).filter p = [] := List.filter_eq_nil_iff.2 fun x hx => by
      obtain ⟨k, hk, rfl⟩ := List.mem_drop_iff_getElem.1 hx
      have := h (i + 1 + k) (by omega) (by omega)
      rw [gd_at (by omega)] at this
      rw [this]; decide
    rw [hlen, h1, h2]; rfl
theorem sameN_comm (a b : List UInt8) : sameN a b = sameN b a := by
  unfold sameN
  rw [Bool.and_comm (canN a), show decide (lowN a = lowN b) = decide (lowN b = lowN a) from decide_eq_decide.2 ⟨Eq.symm, Eq.symm⟩]
theorem sameN_self {a : List UInt8} (h : canN a = true) : sameN a a = true := by simp [sameN, h]
theorem recO_can {z : Zo} {r : Rr} (h : recO z r = true) : canN r.nm = true := by
  unfold recO baseO at h
  simp only [Bool.and_eq_true] at h
  exact (withN_can h.1.1.1.1.1.1.1).1
theorem zone_same (z : Zo) : (recsZ z && aloZ z) = (z.rs.all (inZ z) && decide ((atZ z z.o 6).length = 1) && decide (1 ≤ (atZ z z.o 2).length)) := by
  have key : (z.rs.all (recO z) && aloZ z) = z.rs.all (inZ z) := by
    cases hr : z.rs.all (recO z) with
    | false =>
      rw [Bool.false_and]
      obtain ⟨r, h1, h2⟩ : ∃ r ∈ z.rs, recO z r = false := by simpa using hr
      cases hx : z.rs.all (inZ z) with
      | false => rfl
      | true =>
        have := List.all_eq_true.1 hx r h1
        rw [inZ, h2] at this; cases this
    | true =>
      rw [Bool.true_and]
      have hrec := List.all_eq_true.1 hr
      have hc : ∀ i, i < z.rs.length → canN (z.rs.getD i default).nm = true := fun i hi => recO_can (hrec _ (getD_mem' hi))
      rw [Bool.eq_iff_iff, aloZ, range_all_iff, List.all_eq_true]
      constructor
      · intro h r hr
        obtain ⟨i, hi, rfl⟩ := List.getElem_of_mem hr
        have h1 := h i hi
        rw [Bool.not_eq_true', List.any_eq_false] at h1
        rw [inZ, hrec _ hr, Bool.true_and]
        by_cases h5 : z.rs[i].ty = 5
        · rw [decide_eq_true h5, Bool.not_true, Bool.false_or, decide_eq_true_eq, cntS]
          rw [← gd_at hi] at h5 ⊢
          refine (one_iff (p := fun o => sameN o.nm (z.rs.getD i default).nm) hi (sameN_self (hc i hi))).2 fun k hk hki => ?_
          have h2 := h1 k (List.mem_range.2 hk)
          rw [aloP, decide_eq_true (p := i ≠ k) (fun e => hki e.symm), decide_eq_true h5, Bool.true_and, Bool.true_and, sameN_comm] at h2
          exact Bool.eq_false_iff.2 h2
        · rw [decide_eq_false h5]; rfl
      · intro h i hi
        rw [Bool.not_eq_true', List.any_eq_false]
        intro k hk
        rw [List.mem_range] at hk
        have h1 := h _ (getD_mem' hi)
        rw [aloP]
        by_cases hki : i = k
        · rw [decide_eq_false (p := i ≠ k) (not_not_intro hki)]; simp
        by_cases h5 : (z.rs.getD i default).ty = 5
        · rw [inZ, decide_eq_true h5, Bool.not_true, Bool.false_or, Bool.and_eq_true, decide_eq_true_eq, cntS] at h1
          have h2 := (one_iff (p := fun o => sameN o.nm (z.rs.getD i default).nm) hi (sameN_self (hc i hi))).1 h1.2 k hk (fun e => hki e.symm)
          rw [sameN_comm (z.rs.getD i default).nm, h2, Bool.and_false]; decide
        · rw [decide_eq_false h5, Bool.and_false]; simp
  rw [recsZ, ← key]
  cases z.rs.all (recO z) <;> cases aloZ z <;> cases decide ((atZ z z.o 6).length = 1) <;> cases decide (1 ≤ (atZ z z.o 2).length) <;> rfl
theorem zonO_eq (t : Tr) (k : Nat) : zonO t k = ((recsZ (t.zs.getD k default) && aloZ (t.zs.getD k default)) && joinZ t (parT t) k) := by
  rw [zonO, zone_same]
set_option maxRecDepth 20000 in
set_option maxHeartbeats 2000000 in
theorem c_rCan (t : Tr) (ht : TrOk t) : AC Try.prog 11 [.agg (trC t)] emp (Ret (tf (canT t))) := by
 have hb1 := ht.1
 have hsum := sum_take ht
 refine AC.intro te_ok (fn := Try.f11) ⟨Try.func11, rfl, rfl⟩ (Nat.le_of_ble_eq_true rfl) ?_
 refine AWp.seq ?_
 refine AWp.region ?_
 refine aC_ rfl rfl (q_box 100) ?_
 refine aC_ rfl rfl (q_assign) ?_
 refine AOps.nil ?_
 refine AWp.seq ?_
 refine AWp.seq ?_
 refine AWp.region ?_
 refine aC_ rfl rfl (q_fa) ?_
 refine aC_ rfl rfl (q_load) ?_
 refine aC_ rfl rfl (q_len) ?_
 refine AOps.dec rfl rfl (q_lss) (fun h1_3 => ?_) (fun h1_3 => ?_)
 ·
  refine aC_ rfl rfl (q_move) ?_
  refine aG_ rfl rfl rfl rfl rfl rfl rfl rfl ?_
  refine aG_ rfl rfl rfl rfl rfl rfl rfl rfl ?_
  refine aG_ rfl rfl rfl rfl rfl rfl rfl rfl ?_
  refine aG_ rfl rfl rfl rfl rfl rfl rfl rfl ?_
  refine aC_ rfl rfl (q_pick) ?_
  refine aC_ rfl rfl (q_move) ?_
  refine aG_ rfl rfl rfl rfl rfl rfl rfl rfl ?_
  refine aG_ rfl rfl rfl rfl rfl rfl rfl rfl ?_
  refine aG_ rfl rfl rfl rfl rfl rfl rfl rfl ?_
  refine aG_ rfl rfl rfl rfl rfl rfl rfl rfl ?_
  refine aG_ rfl rfl rfl rfl rfl rfl rfl rfl ?_
  refine aG_ rfl rfl rfl rfl rfl rfl rfl rfl ?_
  refine aC_ rfl rfl (q_pick) ?_
  refine aC_ rfl rfl (q_move) ?_
  refine aG_ rfl rfl rfl rfl rfl rfl rfl rfl ?_
  refine aG_ rfl rfl rfl rfl rfl rfl rfl rfl ?_
  refine aG_ rfl rfl rfl rfl rfl rfl rfl rfl ?_
  refine aC_ rfl rfl (q_pick) ?_
  refine AOps.nil ?_
  refine AWp.cond_t rfl ?_
  refine AWp.seq ?_
  refine AWp.region ?_
  refine aC_ rfl rfl (q_assign) ?_
  refine AOps.nil ?_
  refine AWp.ret ?_
  show Fin te Try.f11 _ _
  refine q_ret (0) [_] [_] ?_
  exact congrArg tf (canT_1 h1_3).symm
 ·
  refine aC_ rfl rfl (q_move) ?_
  refine AOps.gcons rfl rfl rfl rfl rfl (q_fa) ?_
  refine AOps.gcons rfl rfl rfl rfl rfl (q_load) ?_
  refine AOps.gcons rfl rfl rfl rfl rfl (q_len) ?_
  refine AOps.gdec rfl rfl rfl rfl rfl (q_gtr) (fun h1_8 => ?_) (fun h1_8 => ?_)
  ·
   refine aC_ rfl rfl (q_pick) ?_
   refine aC_ rfl rfl (q_move) ?_
   refine aG_ rfl rfl rfl rfl rfl rfl rfl rfl ?_
   refine aG_ rfl rfl rfl rfl rfl rfl rfl rfl ?_
   refine aG_ rfl rfl rfl rfl rfl rfl rfl rfl ?_
   refine aG_ rfl rfl rfl rfl rfl rfl rfl rfl ?_
   refine aG_ rfl rfl rfl rfl rfl rfl rfl rfl ?_
   refine aG_ rfl rfl rfl rfl rfl rfl rfl rfl ?_
   refine aC_ rfl rfl (q_pick) ?_
   refine aC_ rfl rfl (q_move) ?_
   refine aG_ rfl rfl rfl rfl rfl rfl rfl rfl ?_
   refine aG_ rfl rfl rfl rfl rfl rfl rfl rfl ?_
   refine aG_ rfl rfl rfl rfl rfl rfl rfl rfl ?_
   refine aC_ rfl rfl (q_pick) ?_
   refine AOps.nil ?_
   refine AWp.cond_t rfl ?_
   refine AWp.seq ?_
   refine AWp.region ?_
   refine aC_ rfl rfl (q_assign) ?_
   refine AOps.nil ?_
   refine AWp.ret ?_
   show Fin te Try.f11 _ _
   refine q_ret (0) [_] [_] ?_
   exact congrArg tf (canT_2 h1_8).symm
  ·
   refine aC_ rfl rfl (q_pick) ?_
   refine aC_ rfl rfl (q_move) ?_
   refine AOps.gcons rfl rfl rfl rfl rfl (q_fa) ?_
   refine AOps.gcons rfl rfl rfl rfl rfl (q_load) ?_
   refine AOps.gcons rfl rfl rfl rfl rfl (q_ix) ?_
   refine AOps.gcons rfl rfl rfl rfl rfl (q_fa) ?_
   refine AOps.gcons rfl rfl rfl rfl rfl (q_load) ?_
   refine AOps.gdec rfl rfl rfl rfl rfl (q_sneq) (fun h1_16 => ?_) (fun h1_16 => ?_)
   ·
    refine aC_ rfl rfl (q_pick) ?_
    refine aC_ rfl rfl (q_move) ?_
    refine aG_ rfl rfl rfl rfl rfl rfl rfl rfl ?_
    refine aG_ rfl rfl rfl rfl rfl rfl rfl rfl ?_
    refine aG_ rfl rfl rfl rfl rfl rfl rfl rfl ?_
    refine aC_ rfl rfl (q_pick) ?_
    refine AOps.nil ?_
    refine AWp.cond_t rfl ?_
    refine AWp.seq ?_
    refine AWp.region ?_
    refine aC_ rfl rfl (q_assign) ?_
    refine AOps.nil ?_
    refine AWp.ret ?_
    show Fin te Try.f11 _ _
    refine q_ret (0) [_] [_] ?_
    exact congrArg tf (canT_3 h1_16).symm
   ·
    refine aC_ rfl rfl (q_pick) ?_
    refine aC_ rfl rfl (q_move) ?_
    refine AOps.gcons rfl rfl rfl rfl rfl (q_load) ?_
    refine AOps.gbool rfl rfl rfl rfl rfl (q_call (0) (hc := (c_ciceroneref18_servers t ht))) (fun h1_20 => ?_) (fun h1_20 => ?_)
    ·
     refine AOps.gcons rfl rfl rfl rfl rfl (q_not) ?_
     refine aC_ rfl rfl (q_pick) ?_
     refine AOps.nil ?_
     refine AWp.cond_f rfl ?_
     refine AWp.skip ?_
     refine AWp.seq ?_
     refine AWp.region ?_
     refine aC_ rfl rfl (q_assign) ?_
     refine AOps.nil ?_
     refine AWp.seq ?_
     refine AWp.seq ?_
     refine AWp.region ?_
     refine aC_ rfl rfl (q_fa) ?_
     refine aC_ rfl rfl (q_load) ?_
     refine aC_ rfl rfl (q_len) ?_
     refine aC_ rfl rfl (q_move) ?_
     refine AOps.nil ?_
     refine AWp.block ?_
     refine AWp.loopR (α := Nat) [2, 3, 4, 5, 7, 36, 37, 38, 39, 40, 41, 42, 43, 44, 45, 46, 47, 48, 49, 50, 51, 52, 53, 54, 55, 56, 57, 58, 59, 60, 61, 62, 63, 64, 65] (fun i => [(36, i64 i), (3, i64 (sumT (t.zs.take i)))]) (fun i => []) (fun i => i ≤ t.zs.length ∧ ∀ j, j < i → orgO t j = true) (fun i => t.zs.length - i) 0 ?_ (Back.mk' (HasT.cons (HasT.cons HasT.nil)) HasH.nil) ?_
     ·
      exact ⟨Nat.zero_le _, fun j hj => absurd hj (Nat.not_lt_zero j)⟩
     ·
      rintro i ⟨hi, hc⟩
      have hsi := hsum i
      refine AWp.seq ?_
      refine AWp.region ?_
      refine AOps.dec rfl rfl (q_lss) (fun h5_0 => ?_) (fun h5_0 => ?_)
      ·
       refine AOps.nil ?_
       refine AWp.seq ?_
       refine AWp.cond_t rfl ?_
       refine AWp.skip ?_
       refine AWp.seq ?_
       refine AWp.block ?_
       refine AWp.seq ?_
       refine AWp.region ?_
       have hzi := ht.2.1 _ (getD_mem' (l := t.zs) (i := i) (by omega))
       have hzl := hzi.1
       have hrl : (t.zs.getD i default).rs.length * 64 ≤ 140737488351232 := hzi.2.1.1
       have hrl2 : (t.zs[i]?.getD default).rs.length * 64 ≤ 140737488351232 := by rw [← List.getD_eq_getElem?_getD]; exact hrl
       have hrl3 : (t.zs.getD (i : Int).toNat default).rs.length = (t.zs.getD i default).rs.length := rfl
       refine aC_ rfl rfl (q_move) ?_
       refine aC_ rfl rfl (q_ix) ?_
       refine aC_ rfl rfl (q_load) ?_
       refine aC_ rfl rfl (q_alloc 703) ?_
       refine aC_ rfl rfl (q_assign) ?_
       refine aC_ rfl rfl (q_store) ?_
       refine AOps.nil ?_
       refine AWp.seq ?_
       refine AWp.region ?_
       refine aC_ rfl rfl (q_move) ?_
       refine aC_ rfl rfl (q_fa) ?_
       refine aC_ rfl rfl (q_load) ?_
       refine aC_ rfl rfl (q_len) ?_
       refine aC_ rfl rfl (q_add) ?_
       refine aC_ rfl rfl (q_assign) ?_
       refine AOps.nil ?_
       refine AWp.seq ?_
       refine AWp.seq ?_
       refine AWp.region ?_
       refine aC_ rfl rfl (q_fa) ?_
       refine aC_ rfl rfl (q_load) ?_
       refine aC_ rfl rfl (q_move) ?_
       refine aC_ rfl rfl (q_sl) ?_
       refine aC_ rfl rfl (q_len) ?_
       refine aC_ rfl rfl (q_move) ?_
       refine AOps.nil ?_
       refine AWp.block ?_
       refine AWp.loopR (α := Nat) [2, 7, 51, 52, 53, 54, 55, 56, 57, 58, 59, 60] (fun j => [(51, i64 j)]) (fun j => []) (fun j => j ≤ i ∧ ((t.zs.take j).any fun o => sameN o.o (t.zs.getD i default).o) = false) (fun j => i - j) 0 ?_ (Back.mk' (HasT.cons HasT.nil) HasH.nil) ?_
       ·
        exact ⟨Nat.zero_le _, rfl⟩
       ·
        rintro j ⟨hji, hj⟩
        refine AWp.seq ?_
        refine AWp.region ?_
        refine AOps.dec rfl rfl (q_lss) (fun h9_0 => ?_) (fun h9_0 => ?_)
        ·
         refine AOps.nil ?_
         refine AWp.seq ?_
         refine AWp.cond_t rfl ?_
         refine AWp.skip ?_
         refine AWp.seq ?_
         refine AWp.block ?_
         refine AWp.seq ?_
         refine AWp.region ?_
         have hji2 : j < i := by have := h9_0; simp at this; omega
         have hgj : (t.zs.take i).getD j default = t.zs.getD j default := by rw [List.getD_eq_getElem?_getD, List.getD_eq_getElem?_getD, List.getElem?_take_of_lt hji2]
         have hzj := ht.2.1 _ (getD_mem' (l := t.zs) (i := j) (by omega))
         have hzjl := hzj.1
         rw [← hgj] at hzjl
         refine aC_ rfl rfl (q_ix) ?_
         refine aC_ rfl rfl (q_load) ?_
         refine aC_ rfl rfl (q_alloc 1102) ?_
         refine aC_ rfl rfl (q_store) ?_
         refine AOps.nil ?_
         refine AWp.seq ?_
         refine AWp.region ?_
         refine aC_ rfl rfl (q_fa) ?_
         refine aC_ rfl rfl (q_load) ?_
         refine aC_ rfl rfl (q_fa) ?_
         refine aC_ rfl rfl (q_load) ?_
         refine AOps.bool rfl rfl (q_call (0) (hc := (c_ciceroneref01_Same ((t.zs.take i).getD j default).o (t.zs.getD i default).o (by omega) (by omega)))) (fun h11_4 => ?_) (fun h11_4 => ?_)
         ·
          refine AOps.nil ?_
          refine AWp.cond_t rfl ?_
          refine AWp.seq ?_
          refine AWp.region ?_
          refine aC_ rfl rfl (q_assign) ?_
          refine AOps.nil ?_
          refine AWp.ret ?_
          show Fin te Try.f11 _ _
          refine q_ret (0) [_] [_] ?_
          rw [hgj] at h11_4
          exact congrArg tf (canT_5 (j := i) (by omega) (by rw [orgO, List.any_eq_true.2 ⟨t.zs.getD j default, List.mem_take_iff_getElem.2 ⟨j, by omega, (gd_at (by omega)).symm⟩, h11_4⟩, Bool.not_true, Bool.and_false])).symm
         ·
          refine AOps.nil ?_
          refine AWp.cond_f rfl ?_
          refine AWp.skip ?_
          refine AWp.region ?_
          refine aC_ rfl rfl (q_add) ?_
          refine aC_ rfl rfl (q_move) ?_
          refine AOps.nil ?_
          refine ⟨j + 1, ?_, Back.mk' (HasT.cons HasT.nil) HasH.nil, ?_⟩
          ·
           exact ⟨by omega, any_no (i := j) (by omega) hj (by rw [hgj] at h11_4; exact h11_4)⟩
          ·
           first | omega | (simp; omega)
        ·
         refine AOps.nil ?_
         refine AWp.seq ?_
         refine AWp.cond_f rfl ?_
         refine AWp.exit ?_
         refine AWp.seq ?_
         refine AWp.region ?_
         refine aC_ rfl rfl (q_fa) ?_
         refine aC_ rfl rfl (q_load) ?_
         refine AOps.bool rfl rfl (q_call (0) (hc := (c_ciceroneref01_Can (t.zs.getD i default).o (by omega)))) (fun h14_2 => ?_) (fun h14_2 => ?_)
         ·
          refine aC_ rfl rfl (q_not) ?_
          refine AOps.nil ?_
          refine AWp.cond_f rfl ?_
          refine AWp.skip ?_
          refine AWp.region ?_
          refine aC_ rfl rfl (q_add) ?_
          refine aC_ rfl rfl (q_move) ?_
          refine AOps.nil ?_
          obtain rfl : i = j := by have := h9_0; simp at this; omega
          refine ⟨i + 1, ?_, Back.mk' (HasT.cons (HasT.cons HasT.nil (h1 := by exact i64_eq (by rw [sum_step (by omega)]; omega)) )) HasH.nil, ?_⟩
          ·
           exact ⟨by omega, lt_step hc (by rw [orgO, h14_2, hj]; rfl)⟩
          ·
           first | omega | (simp; omega)
         ·
          refine aC_ rfl rfl (q_not) ?_
          refine AOps.nil ?_
          refine AWp.cond_t rfl ?_
          refine AWp.seq ?_
          refine AWp.region ?_
          refine aC_ rfl rfl (q_assign) ?_
          refine AOps.nil ?_
          refine AWp.ret ?_
          show Fin te Try.f11 _ _
          refine q_ret (0) [_] [_] ?_
          exact congrArg tf (canT_5 (j := i) (by omega) (by rw [orgO, h14_2]; rfl)).symm
      ·
       refine AOps.nil ?_
       refine AWp.seq ?_
       refine AWp.cond_f rfl ?_
       refine AWp.exit ?_
       refine AWp.seq ?_
       refine AWp.seq ?_
       refine AWp.region ?_
       obtain rfl : i = t.zs.length := by omega
       rw [List.take_length]
       refine aC_ rfl rfl (q_move) ?_
       refine AOps.dec rfl rfl (q_gtr) (fun h17_1 => ?_) (fun h17_1 => ?_)
       ·
        refine AOps.nil ?_
        refine AWp.cond_t rfl ?_
        refine AWp.seq ?_
        refine AWp.region ?_
        refine aC_ rfl rfl (q_assign) ?_
        refine AOps.nil ?_
        refine AWp.ret ?_
        show Fin te Try.f11 _ _
        refine q_ret (0) [_] [_] ?_
        exact congrArg tf (canT_6 h17_1).symm
       ·
        refine AOps.nil ?_
        refine AWp.cond_f rfl ?_
        refine AWp.skip ?_
        refine AWp.seq ?_
        refine AWp.seq ?_
        refine AWp.region ?_
        refine aC_ rfl rfl (q_fa) ?_
        refine aC_ rfl rfl (q_load) ?_
        refine aC_ rfl rfl (q_len) ?_
        refine aC_ rfl rfl (q_move) ?_
        refine AOps.nil ?_
        refine AWp.block ?_
        refine AWp.loopR (α := Nat) [2, 8, 9, 71, 72, 73, 74, 75, 76, 77, 78, 79, 80, 81, 82, 83, 84, 85, 86, 87, 88, 89, 90] (fun i => [(71, i64 i)]) (fun i => []) (fun i => i ≤ t.zs.length ∧ ∀ j, j < i → zonO t j = true) (fun i => t.zs.length - i) 0 ?_ (Back.mk' (HasT.cons HasT.nil) HasH.nil) ?_
        ·
         exact ⟨Nat.zero_le _, fun j hj => absurd hj (Nat.not_lt_zero j)⟩
        ·
         rintro i ⟨hi, hz⟩
         refine AWp.seq ?_
         refine AWp.region ?_
         refine AOps.dec rfl rfl (q_lss) (fun h20_0 => ?_) (fun h20_0 => ?_)
         ·
          refine AOps.nil ?_
          refine AWp.seq ?_
          refine AWp.cond_t rfl ?_
          refine AWp.skip ?_
          refine AWp.seq ?_
          refine AWp.block ?_
          refine AWp.seq ?_
          refine AWp.region ?_
          have hzi := ht.2.1 _ (getD_mem' (l := t.zs) (i := i) (by omega))
          have hzl := hzi.1
          refine aC_ rfl rfl (q_move) ?_
          refine aC_ rfl rfl (q_ix) ?_
          refine aC_ rfl rfl (q_load) ?_
          refine aC_ rfl rfl (q_alloc 2203) ?_
          refine aC_ rfl rfl (q_assign) ?_
          refine aC_ rfl rfl (q_store) ?_
          refine AOps.nil ?_
          refine AWp.seq ?_
          refine AWp.region ?_
          refine aC_ rfl rfl (q_load) ?_
          refine AOps.bool rfl rfl (q_call (0) (hc := (c_ciceroneref18_records (t.zs.getD i default) hzi))) (fun h22_1 => ?_) (fun h22_1 => ?_)
          ·
           refine aC_ rfl rfl (q_not) ?_
           refine aC_ rfl rfl (q_move) ?_
           refine AOps.gcons rfl rfl rfl rfl rfl (q_load) ?_
           refine AOps.gbool rfl rfl rfl rfl rfl (q_call (0) (hc := (c_ciceroneref18_alone (t.zs.getD i default) hzi))) (fun h22_5 => ?_) (fun h22_5 => ?_)
           ·
            refine AOps.gcons rfl rfl rfl rfl rfl (q_not) ?_
            refine aC_ rfl rfl (q_pick) ?_
            refine aC_ rfl rfl (q_move) ?_
            refine AOps.gcons rfl rfl rfl rfl rfl (q_load) ?_
            refine AOps.gcons rfl rfl rfl rfl rfl (q_move) ?_
            refine AOps.gbool rfl rfl rfl rfl rfl (q_call (0) (hc := (c_ciceroneref18_delegated t i ht ⟨by omega, by omega⟩))) (fun h22_11 => ?_) (fun h22_11 => ?_)
            ·
             refine AOps.gcons rfl rfl rfl rfl rfl (q_not) ?_
             refine aC_ rfl rfl (q_pick) ?_
             refine AOps.nil ?_
             refine AWp.cond_f rfl ?_
             refine AWp.skip ?_
             refine AWp.region ?_
             refine aC_ rfl rfl (q_add) ?_
             refine aC_ rfl rfl (q_move) ?_
             refine AOps.nil ?_
             refine ⟨i + 1, ?_, Back.mk' (HasT.cons HasT.nil) HasH.nil, ?_⟩
             ·
              exact ⟨by omega, lt_step hz (by rw [zonO_eq, h22_1, h22_5, h22_11]; rfl)⟩
             ·
              first | omega | (simp; omega)
            ·
             refine AOps.gcons rfl rfl rfl rfl rfl (q_not) ?_
             refine aC_ rfl rfl (q_pick) ?_
             refine AOps.nil ?_
             refine AWp.cond_t rfl ?_
             refine AWp.seq ?_
             refine AWp.region ?_
             refine aC_ rfl rfl (q_assign) ?_
             refine AOps.nil ?_
             refine AWp.ret ?_
             show Fin te Try.f11 _ _
             refine q_ret (0) [_] [_] ?_
             exact congrArg tf (canT_7 (j := i) (by omega) (by rw [zonO_eq, h22_11, Bool.and_false])).symm
           ·
            refine AOps.gcons rfl rfl rfl rfl rfl (q_not) ?_
            refine aC_ rfl rfl (q_pick) ?_
            refine aC_ rfl rfl (q_move) ?_
            refine aG_ rfl rfl rfl rfl rfl rfl rfl rfl ?_
            refine aG_ rfl rfl rfl rfl rfl rfl rfl rfl ?_
            refine aG_ rfl rfl rfl rfl rfl rfl rfl rfl ?_
            refine aG_ rfl rfl rfl rfl rfl rfl rfl rfl ?_
            refine aC_ rfl rfl (q_pick) ?_
            refine AOps.nil ?_
            refine AWp.cond_t rfl ?_
            refine AWp.seq ?_
            refine AWp.region ?_
            refine aC_ rfl rfl (q_assign) ?_
            refine AOps.nil ?_
            refine AWp.ret ?_
            show Fin te Try.f11 _ _
            refine q_ret (0) [_] [_] ?_
            exact congrArg tf (canT_7 (j := i) (by omega) (by rw [zonO_eq, h22_5, Bool.and_false]; rfl)).symm
          ·
           refine aC_ rfl rfl (q_not) ?_
           refine aC_ rfl rfl (q_move) ?_
           refine aG_ rfl rfl rfl rfl rfl rfl rfl rfl ?_
           refine aG_ rfl rfl rfl rfl rfl rfl rfl rfl ?_
           refine aG_ rfl rfl rfl rfl rfl rfl rfl rfl ?_
           refine aC_ rfl rfl (q_pick) ?_
           refine aC_ rfl rfl (q_move) ?_
           refine aG_ rfl rfl rfl rfl rfl rfl rfl rfl ?_
           refine aG_ rfl rfl rfl rfl rfl rfl rfl rfl ?_
           refine aG_ rfl rfl rfl rfl rfl rfl rfl rfl ?_
           refine aG_ rfl rfl rfl rfl rfl rfl rfl rfl ?_
           refine aC_ rfl rfl (q_pick) ?_
           refine AOps.nil ?_
           refine AWp.cond_t rfl ?_
           refine AWp.seq ?_
           refine AWp.region ?_
           refine aC_ rfl rfl (q_assign) ?_
           refine AOps.nil ?_
           refine AWp.ret ?_
           show Fin te Try.f11 _ _
           refine q_ret (0) [_] [_] ?_
           exact congrArg tf (canT_7 (j := i) (by omega) (by rw [zonO_eq, h22_1]; rfl)).symm
         ·
          refine AOps.nil ?_
          refine AWp.seq ?_
          refine AWp.cond_f rfl ?_
          refine AWp.exit ?_
          refine AWp.seq ?_
          refine AWp.region ?_
          refine aC_ rfl rfl (q_assign) ?_
          refine AOps.nil ?_
          refine AWp.ret ?_
          show Fin te Try.f11 _ _
          refine q_ret (0) [_] [_] ?_
          obtain rfl : i = t.zs.length := by omega
          exact congrArg tf (canT_yes h1_3 h1_8 h1_16 h1_20 hc h17_1 hz).symm
    ·
     refine AOps.gcons rfl rfl rfl rfl rfl (q_not) ?_
     refine aC_ rfl rfl (q_pick) ?_
     refine AOps.nil ?_
     refine AWp.cond_t rfl ?_
     refine AWp.seq ?_
     refine AWp.region ?_
     refine aC_ rfl rfl (q_assign) ?_
     refine AOps.nil ?_
     refine AWp.ret ?_
     show Fin te Try.f11 _ _
     refine q_ret (0) [_] [_] ?_
     exact congrArg tf (canT_4 h1_20).symm
end Go.Proofs.Ytokccoloholgaaa.Fw


set_option linter.unusedVariables false
set_option linter.unusedSimpArgs false
namespace Go.Proofs.Ytokccoloholgaaa.Fw
open Go.RowKit
def Nm (ls : List (List UInt8)) : Prop := GoodN ls ∧ (joinN ls).length ≤ 255
theorem can_nm {n : List UInt8} (h : canN n = true) : ∃ ls, Nm ls ∧ n = joinN ls := by
  obtain ⟨ls, g, e, hl⟩ := canN_iff.1 h
  exact ⟨ls, ⟨g, hl⟩, e⟩
theorem Nm.can {ls : List (List UInt8)} (h : Nm ls) : canN (joinN ls) = true := can_join h.1 h.2
theorem Nm.lab {ls : List (List UInt8)} (h : Nm ls) : labN (joinN ls) = ls := labN_join h.1 h.2
theorem Nm.low {ls : List (List UInt8)} (h : Nm ls) : Nm (lowL ls) := ⟨h.1.low, by rw [low_length h.1]; exact h.2⟩
theorem Nm.lowN {ls : List (List UInt8)} (h : Nm ls) : lowN (joinN ls) = joinN (lowL ls) := lowN_join h.1 h.2
theorem Nm.cnt {ls : List (List UInt8)} (h : Nm ls) : cntN (joinN ls) = ls.length := by rw [cntN, h.lab]
theorem Nm.drop {ls : List (List UInt8)} (h : Nm ls) (j : Nat) : Nm (ls.drop j) := by
  refine ⟨fun x hx => h.1 x (List.mem_of_mem_drop hx), ?_⟩
  have h2 := h.2
  induction j generalizing ls with
  | zero => exact h.2
  | succ j ih =>
    cases ls with
    | nil => simpa using h.2
    | cons l ls =>
      have := joinN_le (l := l) (ls := ls)
      exact ih (ls := ls) ⟨h.1.tail, by omega⟩ (by omega)
theorem Nm.inj {a b : List (List UInt8)} (ha : Nm a) (hb : Nm b) : joinN a = joinN b ↔ a = b := ⟨joinN_inj ha.1 hb.1, fun e => by rw [e]⟩
theorem lowL_length (ls : List (List UInt8)) : (lowL ls).length = ls.length := by simp [lowL]
theorem Nm.same {a b : List (List UInt8)} (ha : Nm a) (hb : Nm b) : sameN (joinN a) (joinN b) = decide (lowL a = lowL b) := by
  rw [sameN, ha.can, hb.can, ha.lowN, hb.lowN, decide_eq_decide.2 (ha.low.inj hb.low)]
  rfl
theorem Nm.tail {a : List (List UInt8)} (ha : Nm a) (k : Int) : tailN (joinN a) k = joinN (a.drop (a.length - min (max k 0).toNat a.length)) := by
  rw [tailN, if_pos ha.can, ha.lab]
theorem lowL_drop (ls : List (List UInt8)) (j : Nat) : lowL (ls.drop j) = (lowL ls).drop j := by simp [lowL, List.map_drop]
theorem Nm.within {a b : List (List UInt8)} (ha : Nm a) (hb : Nm b) : withN (joinN a) (joinN b) = true ↔ lowL b <:+ lowL a := by
  rw [withN, ha.can, hb.can, ha.cnt, hb.cnt, ha.tail, (ha.drop _).same hb, lowL_drop]
  simp only [Bool.true_and, Bool.and_eq_true, decide_eq_true_eq]
  rw [List.suffix_iff_eq_drop, lowL_length, lowL_length]
  constructor
  · rintro ⟨h1, h2⟩
    rw [← h2]
    congr 1
    omega
  · intro h
    have h3 := congrArg List.length h
    rw [List.length_drop, lowL_length, lowL_length] at h3
    refine ⟨by omega, ?_⟩
    conv => rhs; rw [h]
    congr 1
    omega
theorem nm_root : Nm [] := ⟨GoodN.nil, by decide⟩
theorem canR_name {t : Int} {d : List UInt8} (h : t = 2 ∨ t = 5 ∨ t = 12) (hd : d.length ≤ 65535) : canR t d = canN d := by
  rw [canR, if_neg (by omega), if_neg (by omega), if_neg (by omega), if_pos h]
theorem canR_mx {d : List UInt8} (h : d.length ≤ 65535) : canR 15 d = (decide (2 < d.length) && canN (d.drop 2)) := by
  rw [canR, if_neg (by omega), if_neg (by decide), if_neg (by decide), if_neg (by decide), if_pos rfl]
section
variable {t : Tr}
theorem canT_parts (h : canT t = true) : 1 ≤ t.zs.length ∧ t.zs.length ≤ 20 ∧ (t.zs.getD 0 default).o = [0] ∧ srvT t = true ∧ (∀ j, j < t.zs.length → orgO t j = true) ∧ sumT t.zs ≤ 400 ∧ ∀ j, j < t.zs.length → zonO t j = true := by
  unfold canT at h
  simp only [Bool.and_eq_true, decide_eq_true_eq, range_all_iff] at h
  obtain ⟨⟨⟨⟨⟨⟨h1, h2⟩, h3⟩, h4⟩, h5⟩, h6⟩, h7⟩ := h
  exact ⟨h1, h2, h3, h4, h5, h6, h7⟩
theorem canT_in (h : canT t = true) {z : Zo} (hz : z ∈ t.zs) {r : Rr} (hr : r ∈ z.rs) : inZ z r = true := by
  obtain ⟨_, _, _, _, _, _, h7⟩ := canT_parts h
  obtain ⟨i, hi, rfl⟩ := List.getElem_of_mem hz
  have h1 := h7 i hi
  unfold zonO at h1
  simp only [Bool.and_eq_true] at h1
  rw [gd_at hi] at h1
  exact List.all_eq_true.1 h1.1.1.1 r hr
theorem inZ_base' {z : Zo} {r : Rr} (h : inZ z r = true) : baseO z r = true ∧ restO z r = true := by
  unfold inZ recO at h
  simp only [Bool.and_eq_true] at h
  exact h.1
theorem base_can {z : Zo} {r : Rr} (h : baseO z r = true) : canN r.nm = true ∧ withN r.nm z.o = true ∧ canS r.ty r.da = true := by
  unfold baseO at h
  simp only [Bool.and_eq_true] at h
  exact ⟨(withN_can h.1.1.1.1.1.1).1, h.1.1.1.1.1.1, h.2⟩
theorem data_can {z : Zo} {r : Rr} (h : inZ z r = true) (ht : r.ty = 2 ∨ r.ty = 5) : canN r.da = true := by
  have h1 := (base_can (inZ_base' h).1).2.2
  have hl : r.da.length ≤ 65535 := by
    rw [canS_ne (by omega)] at h1
    unfold canR at h1; split at h1
    · cases h1
    · omega
  rw [canS_ne (by omega), canR_name (by omega) hl] at h1
  exact h1
theorem at_mem {z : Zo} {n : List UInt8} {ty : Int} {r : Rr} (h : r ∈ atZ z n ty) : r ∈ z.rs ∧ r.ty = ty ∧ sameN r.nm n = true := by
  obtain ⟨h1, h2⟩ := List.mem_filter.1 h
  unfold atP at h2
  simp only [Bool.and_eq_true, decide_eq_true_eq] at h2
  exact ⟨h1, h2.1, h2.2⟩
theorem at_can (h : canT t = true) {z : Zo} (hz : z ∈ t.zs) {n : List UInt8} {ty : Int} (hty : ty = 2 ∨ ty = 5) {r : Rr} (hr : r ∈ atZ z n ty) : canN r.da = true := by
  obtain ⟨h1, h2, _⟩ := at_mem hr
  exact data_can (canT_in h hz h1) (by omega)
theorem sum_mem {l : List Zo} {z : Zo} (h : z ∈ l) : z.rs.length ≤ sumT l := by
  induction l with
  | nil => cases h
  | cons a l ih =>
    have e : sumT (a :: l) = a.rs.length + sumT l := by simp [sumT]
    rw [e]
    rcases List.mem_cons.1 h with rfl | h
    · omega
    · have := ih h; omega
theorem at_small (h : canT t = true) {z : Zo} (hz : z ∈ t.zs) (n : List UInt8) (ty : Int) : (atZ z n ty).length ≤ 400 := by
  have h1 := List.length_filter_le (atP n ty) z.rs
  have h2 := sum_mem hz
  have h3 := (canT_parts h).2.2.2.2.2.1
  unfold atZ; omega
theorem near_ge {p : Zo → Bool} : ∀ {w : List Int} {b : Int}, (∀ i ∈ w, 0 ≤ i) → 0 ≤ b → 0 ≤ w.foldl (nearS t p) b
  | [], b, _, hb => hb
  | i :: w, b, h, hb => by
    rw [List.foldl_cons]
    refine near_ge (fun j hj => h j (by simp [hj])) ?_
    have := h i (by simp)
    unfold nearS
    split <;> assumption
theorem near_pos {p : Zo → Bool} : ∀ {w : List Int} {b : Int}, (∀ i ∈ w, 0 ≤ i) → (∃ i ∈ w, p (zAt t i) = true) → 0 ≤ w.foldl (nearS t p) b
  | [], b, _, h => by obtain ⟨i, h, _⟩ := h; cases h
  | i :: w, b, hw, h => by
    rw [List.foldl_cons]
    by_cases hb : 0 ≤ nearS t p b i
    · exact near_ge (fun j hj => hw j (by simp [hj])) hb
    · obtain ⟨j, hj, hp⟩ := h
      rcases List.mem_cons.1 hj with rfl | hj
      · exfalso
        apply hb
        have hj0 := hw j (by simp)
        unfold nearS
        rw [hp]
        by_cases hb2 : b < 0
        · rw [decide_eq_true (mostT_neg hb2 _)]; exact hj0
        · split <;> omega
      · exact near_pos (fun j hj => hw j (by simp [hj])) ⟨j, hj, hp⟩
theorem root_with {n : List UInt8} (h : canN n = true) : withN n [0] = true := by
  obtain ⟨ls, a, rfl⟩ := can_nm h
  exact (a.within nm_root).2 List.nil_suffix
theorem home_ok (h : canT t = true) {n : List UInt8} (hn : canN n = true) : 0 ≤ homeT t (everyT t) n ∧ homeT t (everyT t) n < t.zs.length := by
  obtain ⟨h1, _, h3, _⟩ := canT_parts h
  refine ⟨near_pos (fun i hi => (everyT_in t i hi).1) ⟨0, ?_, ?_⟩, (nearF_in (everyT_in t)).2⟩
  · exact List.mem_map.2 ⟨0, List.mem_range.2 (by omega), rfl⟩
  · show withN n (t.zs.getD 0 default).o = true
    rw [h3]; exact root_with hn
end
def hZ (t : Tr) (n : List UInt8) : Zo := zAt t (homeT t (everyT t) n)
def truF (t : Tr) (ty : Int) : Nat → List Rr → List UInt8 → Option (Int × List Rr)
  | 0, _, _ => none
  | k + 1, acc, n => if (atZ (hZ t n) n 5).length = 0 ∨ ty = 5 then some (if theZ (hZ t n) n then 0 else 3, acc ++ atZ (hZ t n) n ty)
      else if acc.length = 8 then none
      else truF t ty k (acc ++ [(atZ (hZ t n) n 5).getD 0 default]) ((atZ (hZ t n) n 5).getD 0 default).da
def truO (t : Tr) (q : Qu) : Option (Int × List Rr) := if canT t && canN q.nm && decide (1 ≤ q.ty) && decide (q.ty ≤ 65535) && decide (q.cs = 1) then truF t q.ty 9 [] q.nm else none
def resC (x : Int × List Rr) : List AV := [i64 x.1, .fz 0 x.2.length (cl rrc x.2)]
def truV (t : Tr) (q : Qu) : Int × List Rr := (truO t q).getD (0, [])
section
variable {t : Tr} {q : Qu}
theorem tru_no1 (h : canT t = false) : truO t q = none := by rw [truO, h]; rfl
theorem tru_no2 (h : canN q.nm = false) : truO t q = none := by rw [truO, h, Bool.and_false]; rfl
theorem tru_no3 (h : q.ty < 1) : truO t q = none := by rw [truO, decide_eq_false (p := 1 ≤ q.ty) (by omega), Bool.and_false]; rfl
theorem tru_no4 (h : 65535 < q.ty) : truO t q = none := by rw [truO, decide_eq_false (p := q.ty ≤ 65535) (by omega), Bool.and_false]; rfl
theorem tru_no5 (h : ¬ q.cs = 1) : truO t q = none := by rw [truO, decide_eq_false h, Bool.and_false]; rfl
theorem tru_go (h1 : canT t = true) (h2 : canN q.nm = true) (h3 : ¬ q.ty < 1) (h4 : ¬ 65535 < q.ty) (h5 : ¬ ¬ q.cs = 1) : truO t q = truF t q.ty 9 [] q.nm := by
  rw [truO, h1, h2, decide_eq_true (p := 1 ≤ q.ty) (by omega), decide_eq_true (p := q.ty ≤ 65535) (by omega), decide_eq_true (Decidable.not_not.1 h5)]; rfl
theorem truF_end {ty : Int} {k : Nat} {acc : List Rr} {n : List UInt8} (h : (atZ (hZ t n) n 5).length = 0 ∨ ty = 5) : truF t ty (k + 1) acc n = some (if theZ (hZ t n) n then 0 else 3, acc ++ atZ (hZ t n) n ty) := by rw [truF, if_pos h]
theorem truF_full {ty : Int} {k : Nat} {acc : List Rr} {n : List UInt8} (h : ¬ ((atZ (hZ t n) n 5).length = 0 ∨ ty = 5)) (h2 : acc.length = 8) : truF t ty (k + 1) acc n = none := by rw [truF, if_neg h, if_pos h2]
theorem truF_on {ty : Int} {k : Nat} {acc : List Rr} {n : List UInt8} (h : ¬ ((atZ (hZ t n) n 5).length = 0 ∨ ty = 5)) (h2 : ¬ acc.length = 8) : truF t ty (k + 1) acc n = truF t ty k (acc ++ [(atZ (hZ t n) n 5).getD 0 default]) ((atZ (hZ t n) n 5).getD 0 default).da := by rw [truF, if_neg h, if_neg h2]
end
theorem tru_none {t : Tr} {q : Qu} (h : truO t q = none) : truV t q = (0, []) ∧ (truO t q).isSome = false := by rw [truV, h]; exact ⟨rfl, rfl⟩
theorem tru_some {t : Tr} {q : Qu} {x : Int × List Rr} (h : truO t q = some x) : truV t q = x ∧ (truO t q).isSome = true := by rw [truV, h]; exact ⟨rfl, rfl⟩
theorem canN_le2 {n : List UInt8} (h : canN n = true) : n.length ≤ 255 := by
  obtain ⟨ls, a, rfl⟩ := can_nm h
  exact a.2
set_option maxRecDepth 20000 in
set_option maxHeartbeats 2000000 in
theorem c_zone_Truth (t : Tr) (q : Qu) (ht : TrOk t) (hq : q.nm.length ≤ 140737488351232) : AC Try.prog 16 [.agg (trC t), .agg (quc q)] emp (Ret (.tup [.agg (resC (truV t q)), tf (truO t q).isSome])) := by
 have hb1 := ht.1
 have hel := everyN_len t.zs.length
 have hel2 : (everyT t).length = t.zs.length := hel
 refine AC.intro te_ok (fn := Try.f16) ⟨Try.func16, rfl, rfl⟩ (Nat.le_of_ble_eq_true rfl) ?_
 refine AWp.seq ?_
 refine AWp.region ?_
 refine aC_ rfl rfl (q_box 100) ?_
 refine aC_ rfl rfl (q_box 101) ?_
 refine aC_ rfl rfl (q_alloc 102) ?_
 refine aC_ rfl rfl (q_assign) ?_
 refine AOps.nil ?_
 refine AWp.seq ?_
 refine AWp.seq ?_
 refine AWp.region ?_
 refine aC_ rfl rfl (q_load) ?_
 refine AOps.bool rfl rfl (q_call (0) (hc := (c_zone_Can t ht))) (fun h1_1 => ?_) (fun h1_1 => ?_)
 ·
  refine aC_ rfl rfl (q_not) ?_
  refine aC_ rfl rfl (q_move) ?_
  refine AOps.gcons rfl rfl rfl rfl rfl (q_fa) ?_
  refine AOps.gcons rfl rfl rfl rfl rfl (q_load) ?_
  refine AOps.gbool rfl rfl rfl rfl rfl (q_call (0) (hc := (c_name_Can q.nm (by omega)))) (fun h1_6 => ?_) (fun h1_6 => ?_)
  ·
   refine AOps.gcons rfl rfl rfl rfl rfl (q_not) ?_
   refine aC_ rfl rfl (q_pick) ?_
   refine aC_ rfl rfl (q_move) ?_
   refine AOps.gcons rfl rfl rfl rfl rfl (q_fa) ?_
   refine AOps.gcons rfl rfl rfl rfl rfl (q_load) ?_
   refine AOps.gdec rfl rfl rfl rfl rfl (q_lss) (fun h1_12 => ?_) (fun h1_12 => ?_)
   ·
    refine aC_ rfl rfl (q_pick) ?_
    refine aC_ rfl rfl (q_move) ?_
    refine aG_ rfl rfl rfl rfl rfl rfl rfl rfl ?_
    refine aG_ rfl rfl rfl rfl rfl rfl rfl rfl ?_
    refine aG_ rfl rfl rfl rfl rfl rfl rfl rfl ?_
    refine aC_ rfl rfl (q_pick) ?_
    refine aC_ rfl rfl (q_move) ?_
    refine aG_ rfl rfl rfl rfl rfl rfl rfl rfl ?_
    refine aG_ rfl rfl rfl rfl rfl rfl rfl rfl ?_
    refine aG_ rfl rfl rfl rfl rfl rfl rfl rfl ?_
    refine aC_ rfl rfl (q_pick) ?_
    refine AOps.nil ?_
    refine AWp.cond_t rfl ?_
    refine AWp.seq ?_
    refine AWp.region ?_
    refine aC_ rfl rfl (q_build []) ?_
    refine aC_ rfl rfl (q_store) ?_
    refine aC_ rfl rfl (q_assign) ?_
    refine AOps.weak (Weak.full 0 [] (t := [(5, tf false), (4, .ptr 102 0 0)]) (hl := [(102, .box [i64 0, .fz 0 ([] : List Rr).length (cl rrc [])])])) ?_
    refine AOps.nil ?_
    refine AWp.ret ?_
    show Fin te Try.f16 _ _
    obtain ⟨x1, x2⟩ := tru_none (q := q) (tru_no3 h1_12)
    rw [x1, x2]
    refine q_ret (0) [_, _] [_, _] ?_
    rfl
   ·
    refine aC_ rfl rfl (q_pick) ?_
    refine aC_ rfl rfl (q_move) ?_
    refine AOps.gcons rfl rfl rfl rfl rfl (q_fa) ?_
    refine AOps.gcons rfl rfl rfl rfl rfl (q_load) ?_
    refine AOps.gdec rfl rfl rfl rfl rfl (q_gtr) (fun h1_17 => ?_) (fun h1_17 => ?_)
    ·
     refine aC_ rfl rfl (q_pick) ?_
     refine aC_ rfl rfl (q_move) ?_
     refine aG_ rfl rfl rfl rfl rfl rfl rfl rfl ?_
     refine aG_ rfl rfl rfl rfl rfl rfl rfl rfl ?_
     refine aG_ rfl rfl rfl rfl rfl rfl rfl rfl ?_
     refine aC_ rfl rfl (q_pick) ?_
     refine AOps.nil ?_
     refine AWp.cond_t rfl ?_
     refine AWp.seq ?_
     refine AWp.region ?_
     refine aC_ rfl rfl (q_build []) ?_
     refine aC_ rfl rfl (q_store) ?_
     refine aC_ rfl rfl (q_assign) ?_
     refine AOps.weak (Weak.full 0 [] (t := [(5, tf false), (4, .ptr 102 0 0)]) (hl := [(102, .box [i64 0, .fz 0 ([] : List Rr).length (cl rrc [])])])) ?_
     refine AOps.nil ?_
     refine AWp.ret ?_
     show Fin te Try.f16 _ _
     obtain ⟨x1, x2⟩ := tru_none (q := q) (tru_no4 h1_17)
     rw [x1, x2]
     refine q_ret (0) [_, _] [_, _] ?_
     rfl
    ·
     refine aC_ rfl rfl (q_pick) ?_
     refine aC_ rfl rfl (q_move) ?_
     refine AOps.gcons rfl rfl rfl rfl rfl (q_fa) ?_
     refine AOps.gcons rfl rfl rfl rfl rfl (q_load) ?_
     refine AOps.gdec rfl rfl rfl rfl rfl (q_neq) (fun h1_22 => ?_) (fun h1_22 => ?_)
     ·
      refine aC_ rfl rfl (q_pick) ?_
      refine AOps.nil ?_
      refine AWp.cond_t rfl ?_
      refine AWp.seq ?_
      refine AWp.region ?_
      refine aC_ rfl rfl (q_build []) ?_
      refine aC_ rfl rfl (q_store) ?_
      refine aC_ rfl rfl (q_assign) ?_
      refine AOps.weak (Weak.full 0 [] (t := [(5, tf false), (4, .ptr 102 0 0)]) (hl := [(102, .box [i64 0, .fz 0 ([] : List Rr).length (cl rrc [])])])) ?_
      refine AOps.nil ?_
      refine AWp.ret ?_
      show Fin te Try.f16 _ _
      obtain ⟨x1, x2⟩ := tru_none (q := q) (tru_no5 h1_22)
      rw [x1, x2]
      refine q_ret (0) [_, _] [_, _] ?_
      rfl
     ·
      refine aC_ rfl rfl (q_pick) ?_
      refine AOps.nil ?_
      refine AWp.cond_f rfl ?_
      refine AWp.skip ?_
      refine AWp.seq ?_
      refine AWp.region ?_
      have hcan := h1_1
      have hgo := tru_go h1_1 h1_6 h1_12 h1_17 h1_22
      have hql := canN_le2 h1_6
      refine aC_ rfl rfl (q_alloc 400) ?_
      refine AOps.nil ?_
      refine AWp.seq ?_
      refine AWp.region ?_
      refine AOps.weak (Weak.nilcell 400 9000 1 5 rrc) ?_
      refine aC_ rfl rfl (q_fa) ?_
      refine aC_ rfl rfl (q_load) ?_
      refine aC_ rfl rfl (q_assign) ?_
      refine AOps.nil ?_
      refine AWp.block ?_
      refine AWp.loopR (α := List Rr × List UInt8 × Nat) [5, 7, 8, 9, 37, 38, 39, 40, 41, 42, 43, 44, 45, 46, 47, 48, 49, 50, 51, 52, 53, 54, 55, 56, 57, 58, 59, 60, 61, 62, 63, 64, 65, 66, 67, 68, 69, 70, 71, 72, 73, 74, 75, 76, 77, 78, 79, 80, 81, 82, 83, 84, 85, 86, 87, 88, 89] (fun x_ => [(7, str (x_.2.1))]) (fun x_ => [(400, .box [i64 0, .sl 9000 (x_.2.2) 0 (x_.1).length 5]), (9000, .row (cl rrc (x_.1)) 5 (x_.2.2))]) (fun x_ => (x_.1).length ≤ 8 ∧ canN (x_.2.1) = true ∧ truF t q.ty (9 - (x_.1).length) (x_.1) (x_.2.1) = truO t q) (fun x_ => 9 - (x_.1).length) ([], q.nm, 0) ?_ (Back.mk' (HasT.cons HasT.nil) (HasH.cons (HasH.cons HasH.nil))) ?_
      ·
       exact ⟨Nat.zero_le _, h1_6, hgo.symm⟩
      ·
       rintro ⟨acc, n, v⟩ hI5
       change acc.length ≤ 8 ∧ canN n = true ∧ truF t q.ty (9 - acc.length) acc n = truO t q at hI5
       obtain ⟨hal, hn, hE⟩ := hI5
       refine AWp.as (s' := AS.over _ [5, 7, 8, 9, 37, 38, 39, 40, 41, 42, 43, 44, 45, 46, 47, 48, 49, 50, 51, 52, 53, 54, 55, 56, 57, 58, 59, 60, 61, 62, 63, 64, 65, 66, 67, 68, 69, 70, 71, 72, 73, 74, 75, 76, 77, 78, 79, 80, 81, 82, 83, 84, 85, 86, 87, 88, 89] [(7, str n)] [(400, .box [i64 0, .sl 9000 v 0 acc.length 5]), (9000, .row (cl rrc acc) 5 v)]) rfl ?_
       refine AWp.block ?_
       refine AWp.seq ?_
       have hhm := home_ok hcan hn
       have hzm : hZ t n ∈ t.zs := zAt_mem hhm
       have hzo : ZoOk (hZ t n) := ht.2.1 _ hzm
       have hnl := canN_le2 hn
       have hs5 := at_small hcan hzm n 5
       have hst := at_small hcan hzm n q.ty
       have hsub : 9 - acc.length = (8 - acc.length) + 1 := by omega
       refine AWp.draws [⟨0, [2], [100], some 37, _, none⟩,
 ⟨1, [37], [100], some 38, _, none⟩,
 ⟨2, [2], [100], some 39, _, none⟩,
 ⟨3, [2], [100], some 40, _, none⟩,
 ⟨4, [40], [], some 41, _, none⟩,
 ⟨5, [7], [], some 42, _, none⟩,
 ⟨6, [39, 41, 42], [], some 43, _, none⟩,
 ⟨7, [38, 43], [], some 44, _, none⟩,
 ⟨8, [44], [], some 45, _, none⟩,
 ⟨9, [], [609], some 8, _, some (609, _)⟩,
 ⟨10, [8, 45], [609], none, _, some (609, _)⟩]
        [kN_ 0 [2] [100] 37,
 kN_ 1 [37] [100] 38,
 kN_ 2 [2] [100] 39,
 kN_ 3 [2] [100] 40,
 kN_ 4 [40] [] 41,
 kN_ 5 [7] [] 42,
 kN_ 6 [39, 41, 42] [] 43,
 kN_ 7 [38, 43] [] 44,
 kN_ 8 [44] [] 45,
 ⟨9, [], [609], some 8, .any, some (609, .box [])⟩,
 ⟨10, [8, 45], [609], none, .any, some (609, .box [])⟩]
        mixed_ok rfl (by kernel_rfl) ⟨dK_ fun s0 => oG_ rfl rfl (q_fa),
 dK_ fun s0 => oG_ rfl rfl (q_load),
 dK_ fun s0 => oG_ rfl rfl (q_load),
 dK_ fun s0 => oG_ rfl rfl (q_load),
 dK_ fun s0 => oG_ rfl rfl (q_call (0) (hc := (c_zone_every t ht))),
 dK_ fun s0 => oG_ rfl rfl (q_move),
 dK_ fun s0 => oG_ rfl rfl (q_call (0) (hc := (c_zone_home t (everyT t) 0 n ht (by omega) (everyT_in t) (by omega)))),
 dK_ fun s0 => oG_ rfl rfl (q_ix),
 dK_ fun s0 => oG_ rfl rfl (q_load),
 dK_ fun s0 => oG_ rfl rfl (q_alloc 609),
 dK_ fun s0 => oG_ rfl rfl (q_store), trivial⟩ ?_
       dsimp only [final, DS.upd, AS.seto]
       refine AWp.seq ?_
       refine AWp.region ?_
       refine aC_ rfl rfl (q_load) ?_
       refine aC_ rfl rfl (q_move) ?_
       refine aC_ rfl rfl (q_call (0) (hc := (c_zone_at (hZ t n) n 5 hzo (by omega)))) ?_
       refine aC_ rfl rfl (q_assign) ?_
       refine AOps.nil ?_
       refine AWp.seq ?_
       refine AWp.seq ?_
       refine AWp.region ?_
       refine aC_ rfl rfl (q_move) ?_
       refine aC_ rfl rfl (q_len) ?_
       refine AOps.dec rfl rfl (q_eql) (fun h7_2 => ?_) (fun h7_2 => ?_)
       ·
        refine aC_ rfl rfl (q_move) ?_
        refine aG_ rfl rfl rfl rfl rfl rfl rfl rfl ?_
        refine aG_ rfl rfl rfl rfl rfl rfl rfl rfl ?_
        refine aG_ rfl rfl rfl rfl rfl rfl rfl rfl ?_
        refine aC_ rfl rfl (q_pick) ?_
        refine AOps.nil ?_
        refine AWp.cond_t rfl ?_
        refine AWp.seq ?_
        have hend : (atZ (hZ t n) n 5).length = 0 ∨ q.ty = 5 := .inl (by omega)
        refine AWp.draws [⟨0, [6], [400], some 57, _, none⟩,
 ⟨1, [57], [400], some 58, _, none⟩,
 ⟨2, [8], [609], some 59, _, none⟩,
 ⟨3, [7], [], some 60, _, none⟩,
 ⟨4, [3], [101], some 61, _, none⟩,
 ⟨5, [61], [101], some 62, _, none⟩,
 ⟨6, [59, 60, 62], [], some 63, _, none⟩,
 ⟨7, [58, 63], [9000], some 64, _, some (9000, _)⟩,
 ⟨8, [6], [400], some 65, _, none⟩,
 ⟨9, [64, 65], [400, 9000], none, _, some (400, _)⟩]
         [kN_ 0 [6] [400] 57,
 kN_ 1 [57] [400] 58,
 kN_ 2 [8] [609] 59,
 kN_ 3 [7] [] 60,
 kN_ 4 [3] [101] 61,
 kN_ 5 [61] [101] 62,
 kN_ 6 [59, 60, 62] [] 63,
 ⟨7, [58, 63], [9000], some 64, .any, some (9000, .box [])⟩,
 kN_ 8 [6] [400] 65,
 ⟨9, [64, 65], [400, 9000], none, .any, some (400, .box [])⟩]
         mixed_ok rfl (by kernel_rfl) ⟨dK_ fun s0 => oG_ rfl rfl (q_fa),
 dK_ fun s0 => oG_ rfl rfl (q_load),
 dK_ fun s0 => oG_ rfl rfl (q_load),
 dK_ fun s0 => oG_ rfl rfl (q_move),
 dK_ fun s0 => oG_ rfl rfl (q_fa),
 dK_ fun s0 => oG_ rfl rfl (q_load),
 dK_ fun s0 => oG_ rfl rfl (q_call (0) (hc := (c_zone_at (hZ t n) n q.ty hzo (by omega)))),
 dK_ fun s0 => oG_ rfl rfl (q_app),
 dK_ fun s0 => oG_ rfl rfl (q_fa),
 dK_ fun s0 => oG_ rfl rfl (q_store), trivial⟩ ?_
        dsimp only [final, DS.upd, AS.seto]
        refine AWp.seq ?_
        refine AWp.seq ?_
        refine AWp.region ?_
        refine aC_ rfl rfl (q_load) ?_
        refine aC_ rfl rfl (q_move) ?_
        refine AOps.bool rfl rfl (q_call (0) (hc := (c_zone_there (hZ t n) n hzo (by omega)))) (fun h9_2 => ?_) (fun h9_2 => ?_)
        ·
         refine aC_ rfl rfl (q_not) ?_
         refine AOps.nil ?_
         refine AWp.cond_f rfl ?_
         refine AWp.skip ?_
         refine AWp.seq ?_
         refine AWp.region ?_
         refine AOps.weak (Weak.full 0 [] (t := [(4, .ptr 102 0 0), (6, .ptr 400 0 0)]) (hl := [(102, .box [.v (.int .i64 0), .v (.slice none 0 0)]), (400, .box [i64 0, .fz 0 (acc ++ atZ (hZ t n) n q.ty).length (cl rrc (acc ++ atZ (hZ t n) n q.ty))])])) ?_
         refine aC_ rfl rfl (q_load) ?_
         refine aC_ rfl rfl (q_store) ?_
         refine aC_ rfl rfl (q_assign) ?_
         refine AOps.nil ?_
         refine AWp.ret ?_
         show Fin te Try.f16 _ _
         rw [hsub, truF_end hend, if_pos h9_2] at hE
         obtain ⟨x1, x2⟩ := tru_some (q := q) hE.symm
         rw [x1, x2]
         refine q_ret (0) [_, _] [_, _] ?_
         rfl
        ·
         refine aC_ rfl rfl (q_not) ?_
         refine AOps.nil ?_
         refine AWp.cond_t rfl ?_
         refine AWp.region ?_
         refine aC_ rfl rfl (q_fa) ?_
         refine aC_ rfl rfl (q_store) ?_
         refine AOps.nil ?_
         refine AWp.seq ?_
         refine AWp.region ?_
         refine AOps.weak (Weak.full 0 [] (t := [(4, .ptr 102 0 0), (6, .ptr 400 0 0)]) (hl := [(102, .box [.v (.int .i64 0), .v (.slice none 0 0)]), (400, .box [i64 3, .fz 0 (acc ++ atZ (hZ t n) n q.ty).length (cl rrc (acc ++ atZ (hZ t n) n q.ty))])])) ?_
         refine aC_ rfl rfl (q_load) ?_
         refine aC_ rfl rfl (q_store) ?_
         refine aC_ rfl rfl (q_assign) ?_
         refine AOps.nil ?_
         refine AWp.ret ?_
         show Fin te Try.f16 _ _
         rw [hsub, truF_end hend, if_neg (by rw [h9_2]; decide)] at hE
         obtain ⟨x1, x2⟩ := tru_some (q := q) hE.symm
         rw [x1, x2]
         refine q_ret (0) [_, _] [_, _] ?_
         rfl
       ·
        refine aC_ rfl rfl (q_move) ?_
        refine AOps.gcons rfl rfl rfl rfl rfl (q_fa) ?_
        refine AOps.gcons rfl rfl rfl rfl rfl (q_load) ?_
        refine AOps.gdec rfl rfl rfl rfl rfl (q_eql) (fun h7_6 => ?_) (fun h7_6 => ?_)
        ·
         refine aC_ rfl rfl (q_pick) ?_
         refine AOps.nil ?_
         refine AWp.cond_t rfl ?_
         refine AWp.seq ?_
         have hend : (atZ (hZ t n) n 5).length = 0 ∨ q.ty = 5 := .inr h7_6
         refine AWp.draws [⟨0, [6], [400], some 57, _, none⟩,
 ⟨1, [57], [400], some 58, _, none⟩,
 ⟨2, [8], [609], some 59, _, none⟩,
 ⟨3, [7], [], some 60, _, none⟩,
 ⟨4, [3], [101], some 61, _, none⟩,
 ⟨5, [61], [101], some 62, _, none⟩,
 ⟨6, [59, 60, 62], [], some 63, _, none⟩,
 ⟨7, [58, 63], [9000], some 64, _, some (9000, _)⟩,
 ⟨8, [6], [400], some 65, _, none⟩,
 ⟨9, [64, 65], [400, 9000], none, _, some (400, _)⟩]
          [kN_ 0 [6] [400] 57,
 kN_ 1 [57] [400] 58,
 kN_ 2 [8] [609] 59,
 kN_ 3 [7] [] 60,
 kN_ 4 [3] [101] 61,
 kN_ 5 [61] [101] 62,
 kN_ 6 [59, 60, 62] [] 63,
 ⟨7, [58, 63], [9000], some 64, .any, some (9000, .box [])⟩,
 kN_ 8 [6] [400] 65,
 ⟨9, [64, 65], [400, 9000], none, .any, some (400, .box [])⟩]
          mixed_ok rfl (by kernel_rfl) ⟨dK_ fun s0 => oG_ rfl rfl (q_fa),
 dK_ fun s0 => oG_ rfl rfl (q_load),
 dK_ fun s0 => oG_ rfl rfl (q_load),
 dK_ fun s0 => oG_ rfl rfl (q_move),
 dK_ fun s0 => oG_ rfl rfl (q_fa),
 dK_ fun s0 => oG_ rfl rfl (q_load),
 dK_ fun s0 => oG_ rfl rfl (q_call (0) (hc := (c_zone_at (hZ t n) n q.ty hzo (by omega)))),
 dK_ fun s0 => oG_ rfl rfl (q_app),
 dK_ fun s0 => oG_ rfl rfl (q_fa),
 dK_ fun s0 => oG_ rfl rfl (q_store), trivial⟩ ?_
         dsimp only [final, DS.upd, AS.seto]
         refine AWp.seq ?_
         refine AWp.seq ?_
         refine AWp.region ?_
         refine aC_ rfl rfl (q_load) ?_
         refine aC_ rfl rfl (q_move) ?_
         refine AOps.bool rfl rfl (q_call (0) (hc := (c_zone_there (hZ t n) n hzo (by omega)))) (fun h9_2 => ?_) (fun h9_2 => ?_)
         ·
          refine aC_ rfl rfl (q_not) ?_
          refine AOps.nil ?_
          refine AWp.cond_f rfl ?_
          refine AWp.skip ?_
          refine AWp.seq ?_
          refine AWp.region ?_
          refine AOps.weak (Weak.full 0 [] (t := [(4, .ptr 102 0 0), (6, .ptr 400 0 0)]) (hl := [(102, .box [.v (.int .i64 0), .v (.slice none 0 0)]), (400, .box [i64 0, .fz 0 (acc ++ atZ (hZ t n) n q.ty).length (cl rrc (acc ++ atZ (hZ t n) n q.ty))])])) ?_
          refine aC_ rfl rfl (q_load) ?_
          refine aC_ rfl rfl (q_store) ?_
          refine aC_ rfl rfl (q_assign) ?_
          refine AOps.nil ?_
          refine AWp.ret ?_
          show Fin te Try.f16 _ _
          rw [hsub, truF_end hend, if_pos h9_2] at hE
          obtain ⟨x1, x2⟩ := tru_some (q := q) hE.symm
          rw [x1, x2]
          refine q_ret (0) [_, _] [_, _] ?_
          rfl
         ·
          refine aC_ rfl rfl (q_not) ?_
          refine AOps.nil ?_
          refine AWp.cond_t rfl ?_
          refine AWp.region ?_
          refine aC_ rfl rfl (q_fa) ?_
          refine aC_ rfl rfl (q_store) ?_
          refine AOps.nil ?_
          refine AWp.seq ?_
          refine AWp.region ?_
          refine AOps.weak (Weak.full 0 [] (t := [(4, .ptr 102 0 0), (6, .ptr 400 0 0)]) (hl := [(102, .box [.v (.int .i64 0), .v (.slice none 0 0)]), (400, .box [i64 3, .fz 0 (acc ++ atZ (hZ t n) n q.ty).length (cl rrc (acc ++ atZ (hZ t n) n q.ty))])])) ?_
          refine aC_ rfl rfl (q_load) ?_
          refine aC_ rfl rfl (q_store) ?_
          refine aC_ rfl rfl (q_assign) ?_
          refine AOps.nil ?_
          refine AWp.ret ?_
          show Fin te Try.f16 _ _
          rw [hsub, truF_end hend, if_neg (by rw [h9_2]; decide)] at hE
          obtain ⟨x1, x2⟩ := tru_some (q := q) hE.symm
          rw [x1, x2]
          refine q_ret (0) [_, _] [_, _] ?_
          rfl
        ·
         refine aC_ rfl rfl (q_pick) ?_
         refine AOps.nil ?_
         refine AWp.cond_f rfl ?_
         refine AWp.skip ?_
         refine AWp.seq ?_
         refine AWp.seq ?_
         refine AWp.region ?_
         have hne : ¬ ((atZ (hZ t n) n 5).length = 0 ∨ q.ty = 5) := fun e => e.elim (fun e => h7_2 (by omega)) h7_6
         have hpos : 0 < (atZ (hZ t n) n 5).length := by omega
         refine aC_ rfl rfl (q_fa) ?_
         refine aC_ rfl rfl (q_load) ?_
         refine aC_ rfl rfl (q_len) ?_
         refine AOps.dec rfl rfl (q_eql) (fun h12_3 => ?_) (fun h12_3 => ?_)
         ·
          refine AOps.nil ?_
          refine AWp.cond_t rfl ?_
          refine AWp.seq ?_
          refine AWp.region ?_
          refine aC_ rfl rfl (q_build []) ?_
          refine aC_ rfl rfl (q_store) ?_
          refine aC_ rfl rfl (q_assign) ?_
          refine AOps.weak (Weak.full 0 [] (t := [(5, tf false), (4, .ptr 102 0 0)]) (hl := [(102, .box [i64 0, .fz 0 ([] : List Rr).length (cl rrc [])])])) ?_
          refine AOps.nil ?_
          refine AWp.ret ?_
          show Fin te Try.f16 _ _
          rw [hsub, truF_full hne (by omega)] at hE
          obtain ⟨x1, x2⟩ := tru_none (q := q) hE.symm
          rw [x1, x2]
          refine q_ret (0) [_, _] [_, _] ?_
          rfl
         ·
          refine AOps.nil ?_
          refine AWp.cond_f rfl ?_
          refine AWp.skip ?_
          refine AWp.seq ?_
          have hfull : ¬ acc.length = 8 := by omega
          refine AWp.draws [⟨0, [6], [400], some 77, _, none⟩,
 ⟨1, [77], [400], some 78, _, none⟩,
 ⟨2, [9], [], some 79, _, none⟩,
 ⟨3, [79], [], some 80, _, none⟩,
 ⟨4, [80], [], some 81, _, none⟩,
 ⟨5, [81], [1505], some 82, _, some (1505, _)⟩,
 ⟨6, [78, 82], [1505, 9000], some 83, _, some (9000, _)⟩,
 ⟨7, [6], [400], some 84, _, none⟩,
 ⟨8, [83, 84], [400, 9000], none, _, some (400, _)⟩]
           [kN_ 0 [6] [400] 77,
 kN_ 1 [77] [400] 78,
 kN_ 2 [9] [] 79,
 kN_ 3 [79] [] 80,
 kN_ 4 [80] [] 81,
 ⟨5, [81], [1505], some 82, .any, some (1505, .box [])⟩,
 ⟨6, [78, 82], [1505, 9000], some 83, .any, some (9000, .box [])⟩,
 kN_ 7 [6] [400] 84,
 ⟨8, [83, 84], [400, 9000], none, .any, some (400, .box [])⟩]
           mixed_ok rfl (by kernel_rfl) ⟨dK_ fun s0 => oG_ rfl rfl (q_fa),
 dK_ fun s0 => oG_ rfl rfl (q_load),
 dK_ fun s0 => oG_ rfl rfl (q_move),
 dK_ fun s0 => oG_ rfl rfl (q_ix),
 dK_ fun s0 => oG_ rfl rfl (q_load),
 dK_ fun s0 => oG_ rfl rfl (q_bs 1505 rrc [((atZ (hZ t n) n 5).getD 0 default)] [(_, _)]),
 dK_ fun s0 => oG_ rfl rfl (q_app),
 dK_ fun s0 => oG_ rfl rfl (q_fa),
 dK_ fun s0 => oG_ rfl rfl (q_store), trivial⟩ ?_
          dsimp only [final, DS.upd, AS.seto]
          refine AWp.region ?_
          refine aC_ rfl rfl (q_move) ?_
          refine aC_ rfl rfl (q_ix) ?_
          refine aC_ rfl rfl (q_fa) ?_
          refine aC_ rfl rfl (q_load) ?_
          refine aC_ rfl rfl (by first | exact q_conv_zs | exact q_conv_ls) ?_
          refine aC_ rfl rfl (q_assign) ?_
          refine AOps.nil ?_
          have hx := at_can hcan hzm (.inr rfl) (getD_mem' (l := atZ (hZ t n) n 5) (i := 0) hpos)
          rw [hsub, truF_on hne hfull] at hE
          refine ⟨(acc ++ [((atZ (hZ t n) n 5).getD 0 default)], ((atZ (hZ t n) n 5).getD 0 default).da, v + 1), ?_, Back.mk' (HasT.cons HasT.nil) (HasH.cons (HasH.cons HasH.nil)), ?_⟩
          ·
           try dsimp only
           exact ⟨by rw [List.length_append]; simp; omega, hx, by rw [← hE, List.length_append]; congr 1; simp only [List.length_cons, List.length_nil]; omega⟩
          ·
           try dsimp only
           rw [List.length_append]; simp; omega
  ·
   refine AOps.gcons rfl rfl rfl rfl rfl (q_not) ?_
   refine aC_ rfl rfl (q_pick) ?_
   refine aC_ rfl rfl (q_move) ?_
   refine aG_ rfl rfl rfl rfl rfl rfl rfl rfl ?_
   refine aG_ rfl rfl rfl rfl rfl rfl rfl rfl ?_
   refine aG_ rfl rfl rfl rfl rfl rfl rfl rfl ?_
   refine aC_ rfl rfl (q_pick) ?_
   refine aC_ rfl rfl (q_move) ?_
   refine aG_ rfl rfl rfl rfl rfl rfl rfl rfl ?_
   refine aG_ rfl rfl rfl rfl rfl rfl rfl rfl ?_
   refine aG_ rfl rfl rfl rfl rfl rfl rfl rfl ?_
   refine aC_ rfl rfl (q_pick) ?_
   refine aC_ rfl rfl (q_move) ?_
   refine aG_ rfl rfl rfl rfl rfl rfl rfl rfl ?_
   refine aG_ rfl rfl rfl rfl rfl rfl rfl rfl ?_
   refine aG_ rfl rfl rfl rfl rfl rfl rfl rfl ?_
   refine aC_ rfl rfl (q_pick) ?_
   refine AOps.nil ?_
   refine AWp.cond_t rfl ?_
   refine AWp.seq ?_
   refine AWp.region ?_
   refine aC_ rfl rfl (q_build []) ?_
   refine aC_ rfl rfl (q_store) ?_
   refine aC_ rfl rfl (q_assign) ?_
   refine AOps.weak (Weak.full 0 [] (t := [(5, tf false), (4, .ptr 102 0 0)]) (hl := [(102, .box [i64 0, .fz 0 ([] : List Rr).length (cl rrc [])])])) ?_
   refine AOps.nil ?_
   refine AWp.ret ?_
   show Fin te Try.f16 _ _
   obtain ⟨x1, x2⟩ := tru_none (q := q) (tru_no2 h1_6)
   rw [x1, x2]
   refine q_ret (0) [_, _] [_, _] ?_
   rfl
 ·
  refine aC_ rfl rfl (q_not) ?_
  refine aC_ rfl rfl (q_move) ?_
  refine aG_ rfl rfl rfl rfl rfl rfl rfl rfl ?_
  refine aG_ rfl rfl rfl rfl rfl rfl rfl rfl ?_
  refine aG_ rfl rfl rfl rfl rfl rfl rfl rfl ?_
  refine aG_ rfl rfl rfl rfl rfl rfl rfl rfl ?_
  refine aC_ rfl rfl (q_pick) ?_
  refine aC_ rfl rfl (q_move) ?_
  refine aG_ rfl rfl rfl rfl rfl rfl rfl rfl ?_
  refine aG_ rfl rfl rfl rfl rfl rfl rfl rfl ?_
  refine aG_ rfl rfl rfl rfl rfl rfl rfl rfl ?_
  refine aC_ rfl rfl (q_pick) ?_
  refine aC_ rfl rfl (q_move) ?_
  refine aG_ rfl rfl rfl rfl rfl rfl rfl rfl ?_
  refine aG_ rfl rfl rfl rfl rfl rfl rfl rfl ?_
  refine aG_ rfl rfl rfl rfl rfl rfl rfl rfl ?_
  refine aC_ rfl rfl (q_pick) ?_
  refine aC_ rfl rfl (q_move) ?_
  refine aG_ rfl rfl rfl rfl rfl rfl rfl rfl ?_
  refine aG_ rfl rfl rfl rfl rfl rfl rfl rfl ?_
  refine aG_ rfl rfl rfl rfl rfl rfl rfl rfl ?_
  refine aC_ rfl rfl (q_pick) ?_
  refine AOps.nil ?_
  refine AWp.cond_t rfl ?_
  refine AWp.seq ?_
  refine AWp.region ?_
  refine aC_ rfl rfl (q_build []) ?_
  refine aC_ rfl rfl (q_store) ?_
  refine aC_ rfl rfl (q_assign) ?_
  refine AOps.weak (Weak.full 0 [] (t := [(5, tf false), (4, .ptr 102 0 0)]) (hl := [(102, .box [i64 0, .fz 0 ([] : List Rr).length (cl rrc [])])])) ?_
  refine AOps.nil ?_
  refine AWp.ret ?_
  show Fin te Try.f16 _ _
  obtain ⟨x1, x2⟩ := tru_none (q := q) (tru_no1 h1_1)
  rw [x1, x2]
  refine q_ret (0) [_, _] [_, _] ?_
  rfl
set_option maxRecDepth 20000 in
set_option maxHeartbeats 2000000 in
theorem c_rTruth (t : Tr) (q : Qu) (ht : TrOk t) (hq : q.nm.length ≤ 140737488351232) : AC Try.prog 17 [.agg (trC t), .agg (quc q)] emp (Ret (.tup [.agg (resC (truV t q)), tf (truO t q).isSome])) := by
 have hb1 := ht.1
 have hel := everyN_len t.zs.length
 have hel2 : (everyT t).length = t.zs.length := hel
 refine AC.intro te_ok (fn := Try.f17) ⟨Try.func17, rfl, rfl⟩ (Nat.le_of_ble_eq_true rfl) ?_
 refine AWp.seq ?_
 refine AWp.region ?_
 refine aC_ rfl rfl (q_box 100) ?_
 refine aC_ rfl rfl (q_box 101) ?_
 refine aC_ rfl rfl (q_alloc 102) ?_
 refine aC_ rfl rfl (q_assign) ?_
 refine AOps.nil ?_
 refine AWp.seq ?_
 refine AWp.seq ?_
 refine AWp.region ?_
 refine aC_ rfl rfl (q_load) ?_
 refine AOps.bool rfl rfl (q_call (0) (hc := (c_rCan t ht))) (fun h1_1 => ?_) (fun h1_1 => ?_)
 ·
  refine aC_ rfl rfl (q_not) ?_
  refine aC_ rfl rfl (q_move) ?_
  refine AOps.gcons rfl rfl rfl rfl rfl (q_fa) ?_
  refine AOps.gcons rfl rfl rfl rfl rfl (q_load) ?_
  refine AOps.gbool rfl rfl rfl rfl rfl (q_call (0) (hc := (c_ciceroneref01_Can q.nm (by omega)))) (fun h1_6 => ?_) (fun h1_6 => ?_)
  ·
   refine AOps.gcons rfl rfl rfl rfl rfl (q_not) ?_
   refine aC_ rfl rfl (q_pick) ?_
   refine aC_ rfl rfl (q_move) ?_
   refine AOps.gcons rfl rfl rfl rfl rfl (q_fa) ?_
   refine AOps.gcons rfl rfl rfl rfl rfl (q_load) ?_
   refine AOps.gdec rfl rfl rfl rfl rfl (q_lss) (fun h1_12 => ?_) (fun h1_12 => ?_)
   ·
    refine aC_ rfl rfl (q_pick) ?_
    refine aC_ rfl rfl (q_move) ?_
    refine aG_ rfl rfl rfl rfl rfl rfl rfl rfl ?_
    refine aG_ rfl rfl rfl rfl rfl rfl rfl rfl ?_
    refine aG_ rfl rfl rfl rfl rfl rfl rfl rfl ?_
    refine aC_ rfl rfl (q_pick) ?_
    refine aC_ rfl rfl (q_move) ?_
    refine aG_ rfl rfl rfl rfl rfl rfl rfl rfl ?_
    refine aG_ rfl rfl rfl rfl rfl rfl rfl rfl ?_
    refine aG_ rfl rfl rfl rfl rfl rfl rfl rfl ?_
    refine aC_ rfl rfl (q_pick) ?_
    refine AOps.nil ?_
    refine AWp.cond_t rfl ?_
    refine AWp.seq ?_
    refine AWp.region ?_
    refine aC_ rfl rfl (q_build []) ?_
    refine aC_ rfl rfl (q_store) ?_
    refine aC_ rfl rfl (q_assign) ?_
    refine AOps.weak (Weak.full 0 [] (t := [(5, tf false), (4, .ptr 102 0 0)]) (hl := [(102, .box [i64 0, .fz 0 ([] : List Rr).length (cl rrc [])])])) ?_
    refine AOps.nil ?_
    refine AWp.ret ?_
    show Fin te Try.f17 _ _
    obtain ⟨x1, x2⟩ := tru_none (q := q) (tru_no3 h1_12)
    rw [x1, x2]
    refine q_ret (0) [_, _] [_, _] ?_
    rfl
   ·
    refine aC_ rfl rfl (q_pick) ?_
    refine aC_ rfl rfl (q_move) ?_
    refine AOps.gcons rfl rfl rfl rfl rfl (q_fa) ?_
    refine AOps.gcons rfl rfl rfl rfl rfl (q_load) ?_
    refine AOps.gdec rfl rfl rfl rfl rfl (q_gtr) (fun h1_17 => ?_) (fun h1_17 => ?_)
    ·
     refine aC_ rfl rfl (q_pick) ?_
     refine aC_ rfl rfl (q_move) ?_
     refine aG_ rfl rfl rfl rfl rfl rfl rfl rfl ?_
     refine aG_ rfl rfl rfl rfl rfl rfl rfl rfl ?_
     refine aG_ rfl rfl rfl rfl rfl rfl rfl rfl ?_
     refine aC_ rfl rfl (q_pick) ?_
     refine AOps.nil ?_
     refine AWp.cond_t rfl ?_
     refine AWp.seq ?_
     refine AWp.region ?_
     refine aC_ rfl rfl (q_build []) ?_
     refine aC_ rfl rfl (q_store) ?_
     refine aC_ rfl rfl (q_assign) ?_
     refine AOps.weak (Weak.full 0 [] (t := [(5, tf false), (4, .ptr 102 0 0)]) (hl := [(102, .box [i64 0, .fz 0 ([] : List Rr).length (cl rrc [])])])) ?_
     refine AOps.nil ?_
     refine AWp.ret ?_
     show Fin te Try.f17 _ _
     obtain ⟨x1, x2⟩ := tru_none (q := q) (tru_no4 h1_17)
     rw [x1, x2]
     refine q_ret (0) [_, _] [_, _] ?_
     rfl
    ·
     refine aC_ rfl rfl (q_pick) ?_
     refine aC_ rfl rfl (q_move) ?_
     refine AOps.gcons rfl rfl rfl rfl rfl (q_fa) ?_
     refine AOps.gcons rfl rfl rfl rfl rfl (q_load) ?_
     refine AOps.gdec rfl rfl rfl rfl rfl (q_neq) (fun h1_22 => ?_) (fun h1_22 => ?_)
     ·
      refine aC_ rfl rfl (q_pick) ?_
      refine AOps.nil ?_
      refine AWp.cond_t rfl ?_
      refine AWp.seq ?_
      refine AWp.region ?_
      refine aC_ rfl rfl (q_build []) ?_
      refine aC_ rfl rfl (q_store) ?_
      refine aC_ rfl rfl (q_assign) ?_
      refine AOps.weak (Weak.full 0 [] (t := [(5, tf false), (4, .ptr 102 0 0)]) (hl := [(102, .box [i64 0, .fz 0 ([] : List Rr).length (cl rrc [])])])) ?_
      refine AOps.nil ?_
      refine AWp.ret ?_
      show Fin te Try.f17 _ _
      obtain ⟨x1, x2⟩ := tru_none (q := q) (tru_no5 h1_22)
      rw [x1, x2]
      refine q_ret (0) [_, _] [_, _] ?_
      rfl
     ·
      refine aC_ rfl rfl (q_pick) ?_
      refine AOps.nil ?_
      refine AWp.cond_f rfl ?_
      refine AWp.skip ?_
      refine AWp.seq ?_
      refine AWp.region ?_
      have hcan := h1_1
      have hgo := tru_go h1_1 h1_6 h1_12 h1_17 h1_22
      have hql := canN_le2 h1_6
      refine aC_ rfl rfl (q_alloc 400) ?_
      refine AOps.nil ?_
      refine AWp.seq ?_
      refine AWp.region ?_
      refine AOps.weak (Weak.nilcell 400 9000 1 5 rrc) ?_
      refine aC_ rfl rfl (q_fa) ?_
      refine aC_ rfl rfl (q_load) ?_
      refine aC_ rfl rfl (q_assign) ?_
      refine AOps.nil ?_
      refine AWp.seq ?_
      refine AWp.seq ?_
      refine AWp.region ?_
      refine aC_ rfl rfl (q_move) ?_
      refine AOps.nil ?_
      refine AWp.block ?_
      refine AWp.loopR (α := List Rr × List UInt8 × Nat) [5, 7, 8, 9, 37, 38, 39, 40, 41, 42, 43, 44, 45, 46, 47, 48, 49, 50, 51, 52, 53, 54, 55, 56, 57, 58, 59, 60, 61, 62, 63, 64, 65, 66, 67, 68, 69, 70, 71, 72, 73, 74, 75, 76, 77, 78, 79, 80, 81, 82, 83, 84, 85, 86, 87, 88, 89, 90, 91, 92] (fun x_ => [(7, str (x_.2.1)), (37, i64 (x_.1).length)]) (fun x_ => [(400, .box [i64 0, .sl 9000 (x_.2.2) 0 (x_.1).length 5]), (9000, .row (cl rrc (x_.1)) 5 (x_.2.2))]) (fun x_ => (x_.1).length ≤ 8 ∧ canN (x_.2.1) = true ∧ truF t q.ty (9 - (x_.1).length) (x_.1) (x_.2.1) = truO t q) (fun x_ => 9 - (x_.1).length) ([], q.nm, 0) ?_ (Back.mk' (HasT.cons (HasT.cons HasT.nil)) (HasH.cons (HasH.cons HasH.nil))) ?_
      ·
       exact ⟨Nat.zero_le _, h1_6, hgo.symm⟩
      ·
       rintro ⟨acc, n, v⟩ hI6
       change acc.length ≤ 8 ∧ canN n = true ∧ truF t q.ty (9 - acc.length) acc n = truO t q at hI6
       obtain ⟨hal, hn, hE⟩ := hI6
       refine AWp.as (s' := AS.over _ [5, 7, 8, 9, 37, 38, 39, 40, 41, 42, 43, 44, 45, 46, 47, 48, 49, 50, 51, 52, 53, 54, 55, 56, 57, 58, 59, 60, 61, 62, 63, 64, 65, 66, 67, 68, 69, 70, 71, 72, 73, 74, 75, 76, 77, 78, 79, 80, 81, 82, 83, 84, 85, 86, 87, 88, 89, 90, 91, 92] [(7, str n), (37, i64 acc.length)] [(400, .box [i64 0, .sl 9000 v 0 acc.length 5]), (9000, .row (cl rrc acc) 5 v)]) rfl ?_
       refine AWp.seq ?_
       refine AWp.region ?_
       refine AOps.dec rfl rfl (q_lss) (fun h6_0 => ?_) (fun h6_0 => ?_)
       ·
        refine AOps.nil ?_
        refine AWp.seq ?_
        refine AWp.cond_t rfl ?_
        refine AWp.skip ?_
        refine AWp.seq ?_
        refine AWp.block ?_
        refine AWp.seq ?_
        have hhm := home_ok hcan hn
        have hzm : hZ t n ∈ t.zs := zAt_mem hhm
        have hzo : ZoOk (hZ t n) := ht.2.1 _ hzm
        have hnl := canN_le2 hn
        have hs5 := at_small hcan hzm n 5
        have hst := at_small hcan hzm n q.ty
        have hsub : 9 - acc.length = (8 - acc.length) + 1 := by omega
        refine AWp.draws [⟨0, [2], [100], some 39, _, none⟩,
 ⟨1, [39], [100], some 40, _, none⟩,
 ⟨2, [2], [100], some 41, _, none⟩,
 ⟨3, [2], [100], some 42, _, none⟩,
 ⟨4, [42], [], some 43, _, none⟩,
 ⟨5, [7], [], some 44, _, none⟩,
 ⟨6, [41, 43, 44], [], some 45, _, none⟩,
 ⟨7, [40, 45], [], some 46, _, none⟩,
 ⟨8, [46], [], some 47, _, none⟩,
 ⟨9, [], [809], some 8, _, some (809, _)⟩,
 ⟨10, [8, 47], [809], none, _, some (809, _)⟩]
         [kN_ 0 [2] [100] 39,
 kN_ 1 [39] [100] 40,
 kN_ 2 [2] [100] 41,
 kN_ 3 [2] [100] 42,
 kN_ 4 [42] [] 43,
 kN_ 5 [7] [] 44,
 kN_ 6 [41, 43, 44] [] 45,
 kN_ 7 [40, 45] [] 46,
 kN_ 8 [46] [] 47,
 ⟨9, [], [809], some 8, .any, some (809, .box [])⟩,
 ⟨10, [8, 47], [809], none, .any, some (809, .box [])⟩]
         mixed_ok rfl (by kernel_rfl) ⟨dK_ fun s0 => oG_ rfl rfl (q_fa),
 dK_ fun s0 => oG_ rfl rfl (q_load),
 dK_ fun s0 => oG_ rfl rfl (q_load),
 dK_ fun s0 => oG_ rfl rfl (q_load),
 dK_ fun s0 => oG_ rfl rfl (q_call (0) (hc := (c_revery t ht))),
 dK_ fun s0 => oG_ rfl rfl (q_move),
 dK_ fun s0 => oG_ rfl rfl (q_call (0) (hc := (c_ciceroneref18_nearest t (everyT t) 0 n ht (by omega) (everyT_in t) (by omega)))),
 dK_ fun s0 => oG_ rfl rfl (q_ix),
 dK_ fun s0 => oG_ rfl rfl (q_load),
 dK_ fun s0 => oG_ rfl rfl (q_alloc 809),
 dK_ fun s0 => oG_ rfl rfl (q_store), trivial⟩ ?_
        dsimp only [final, DS.upd, AS.seto]
        refine AWp.seq ?_
        refine AWp.seq ?_
        refine AWp.region ?_
        refine aC_ rfl rfl (q_load) ?_
        refine aC_ rfl rfl (q_move) ?_
        refine aC_ rfl rfl (q_call (0) (hc := (c_rat (hZ t n) n 5 hzo (by omega)))) ?_
        refine aC_ rfl rfl (q_assign) ?_
        refine AOps.nil ?_
        refine AWp.seq ?_
        refine AWp.region ?_
        refine aC_ rfl rfl (q_move) ?_
        refine aC_ rfl rfl (q_len) ?_
        refine AOps.dec rfl rfl (q_gtr) (fun h9_2 => ?_) (fun h9_2 => ?_)
        ·
         refine aC_ rfl rfl (q_move) ?_
         refine AOps.gcons rfl rfl rfl rfl rfl (q_fa) ?_
         refine AOps.gcons rfl rfl rfl rfl rfl (q_load) ?_
         refine AOps.gdec rfl rfl rfl rfl rfl (q_neq) (fun h9_6 => ?_) (fun h9_6 => ?_)
         ·
          refine aC_ rfl rfl (q_pick) ?_
          refine AOps.nil ?_
          refine AWp.cond_t rfl ?_
          refine AWp.seq ?_
          refine AWp.seq ?_
          refine AWp.region ?_
          have hne : ¬ ((atZ (hZ t n) n 5).length = 0 ∨ q.ty = 5) := fun e => e.elim (fun e => absurd h9_2 (by omega)) h9_6
          have hpos : 0 < (atZ (hZ t n) n 5).length := by omega
          refine aC_ rfl rfl (q_fa) ?_
          refine aC_ rfl rfl (q_load) ?_
          refine aC_ rfl rfl (q_len) ?_
          refine AOps.dec rfl rfl (q_geq) (fun h10_3 => ?_) (fun h10_3 => ?_)
          ·
           refine AOps.nil ?_
           refine AWp.cond_t rfl ?_
           refine AWp.seq ?_
           refine AWp.region ?_
           refine aC_ rfl rfl (q_build []) ?_
           refine aC_ rfl rfl (q_store) ?_
           refine aC_ rfl rfl (q_assign) ?_
           refine AOps.weak (Weak.full 0 [] (t := [(5, tf false), (4, .ptr 102 0 0)]) (hl := [(102, .box [i64 0, .fz 0 ([] : List Rr).length (cl rrc [])])])) ?_
           refine AOps.nil ?_
           refine AWp.ret ?_
           show Fin te Try.f17 _ _
           rw [hsub, truF_full hne (by omega)] at hE
           obtain ⟨x1, x2⟩ := tru_none (q := q) hE.symm
           rw [x1, x2]
           refine q_ret (0) [_, _] [_, _] ?_
           rfl
          ·
           refine AOps.nil ?_
           refine AWp.cond_f rfl ?_
           refine AWp.skip ?_
           refine AWp.seq ?_
           have hfull : ¬ acc.length = 8 := by omega
           refine AWp.draws [⟨0, [6], [400], some 64, _, none⟩,
 ⟨1, [64], [400], some 65, _, none⟩,
 ⟨2, [9], [], some 66, _, none⟩,
 ⟨3, [66], [], some 67, _, none⟩,
 ⟨4, [67], [], some 68, _, none⟩,
 ⟨5, [68], [1305], some 69, _, some (1305, _)⟩,
 ⟨6, [65, 69], [1305, 9000], some 70, _, some (9000, _)⟩,
 ⟨7, [6], [400], some 71, _, none⟩,
 ⟨8, [70, 71], [400, 9000], none, _, some (400, _)⟩]
            [kN_ 0 [6] [400] 64,
 kN_ 1 [64] [400] 65,
 kN_ 2 [9] [] 66,
 kN_ 3 [66] [] 67,
 kN_ 4 [67] [] 68,
 ⟨5, [68], [1305], some 69, .any, some (1305, .box [])⟩,
 ⟨6, [65, 69], [1305, 9000], some 70, .any, some (9000, .box [])⟩,
 kN_ 7 [6] [400] 71,
 ⟨8, [70, 71], [400, 9000], none, .any, some (400, .box [])⟩]
            mixed_ok rfl (by kernel_rfl) ⟨dK_ fun s0 => oG_ rfl rfl (q_fa),
 dK_ fun s0 => oG_ rfl rfl (q_load),
 dK_ fun s0 => oG_ rfl rfl (q_move),
 dK_ fun s0 => oG_ rfl rfl (q_ix),
 dK_ fun s0 => oG_ rfl rfl (q_load),
 dK_ fun s0 => oG_ rfl rfl (q_bs 1305 rrc [((atZ (hZ t n) n 5).getD 0 default)] [(_, _)]),
 dK_ fun s0 => oG_ rfl rfl (q_app),
 dK_ fun s0 => oG_ rfl rfl (q_fa),
 dK_ fun s0 => oG_ rfl rfl (q_store), trivial⟩ ?_
           dsimp only [final, DS.upd, AS.seto]
           refine AWp.seq ?_
           refine AWp.region ?_
           refine aC_ rfl rfl (q_move) ?_
           refine aC_ rfl rfl (q_ix) ?_
           refine aC_ rfl rfl (q_fa) ?_
           refine aC_ rfl rfl (q_load) ?_
           refine aC_ rfl rfl (by first | exact q_conv_zs | exact q_conv_ls) ?_
           refine aC_ rfl rfl (q_assign) ?_
           refine AOps.nil ?_
           refine AWp.exit ?_
           refine AWp.region ?_
           refine aC_ rfl rfl (q_add) ?_
           refine aC_ rfl rfl (q_move) ?_
           refine AOps.nil ?_
           have hx := at_can hcan hzm (.inr rfl) (getD_mem' (l := atZ (hZ t n) n 5) (i := 0) hpos)
           rw [hsub, truF_on hne hfull] at hE
           refine ⟨(acc ++ [((atZ (hZ t n) n 5).getD 0 default)], ((atZ (hZ t n) n 5).getD 0 default).da, v + 1), ?_, Back.mk' (HasT.cons (HasT.cons HasT.nil (h1 := by exact i64_eq (by rw [List.length_append]; simp)) )) (HasH.cons (HasH.cons HasH.nil)), ?_⟩
           ·
            try dsimp only
            exact ⟨by rw [List.length_append]; simp; omega, hx, by rw [← hE, List.length_append]; congr 1; simp only [List.length_cons, List.length_nil]; omega⟩
           ·
            try dsimp only
            rw [List.length_append]; simp; omega
         ·
          refine aC_ rfl rfl (q_pick) ?_
          refine AOps.nil ?_
          refine AWp.cond_f rfl ?_
          refine AWp.skip ?_
          refine AWp.seq ?_
          have hend : (atZ (hZ t n) n 5).length = 0 ∨ q.ty = 5 := .inr (Decidable.not_not.1 h9_6)
          refine AWp.draws [⟨0, [6], [400], some 77, _, none⟩,
 ⟨1, [77], [400], some 78, _, none⟩,
 ⟨2, [8], [809], some 79, _, none⟩,
 ⟨3, [7], [], some 80, _, none⟩,
 ⟨4, [3], [101], some 81, _, none⟩,
 ⟨5, [81], [101], some 82, _, none⟩,
 ⟨6, [79, 80, 82], [], some 83, _, none⟩,
 ⟨7, [78, 83], [9000], some 84, _, some (9000, _)⟩,
 ⟨8, [6], [400], some 85, _, none⟩,
 ⟨9, [84, 85], [400, 9000], none, _, some (400, _)⟩]
           [kN_ 0 [6] [400] 77,
 kN_ 1 [77] [400] 78,
 kN_ 2 [8] [809] 79,
 kN_ 3 [7] [] 80,
 kN_ 4 [3] [101] 81,
 kN_ 5 [81] [101] 82,
 kN_ 6 [79, 80, 82] [] 83,
 ⟨7, [78, 83], [9000], some 84, .any, some (9000, .box [])⟩,
 kN_ 8 [6] [400] 85,
 ⟨9, [84, 85], [400, 9000], none, .any, some (400, .box [])⟩]
           mixed_ok rfl (by kernel_rfl) ⟨dK_ fun s0 => oG_ rfl rfl (q_fa),
 dK_ fun s0 => oG_ rfl rfl (q_load),
 dK_ fun s0 => oG_ rfl rfl (q_load),
 dK_ fun s0 => oG_ rfl rfl (q_move),
 dK_ fun s0 => oG_ rfl rfl (q_fa),
 dK_ fun s0 => oG_ rfl rfl (q_load),
 dK_ fun s0 => oG_ rfl rfl (q_call (0) (hc := (c_rat (hZ t n) n q.ty hzo (by omega)))),
 dK_ fun s0 => oG_ rfl rfl (q_app),
 dK_ fun s0 => oG_ rfl rfl (q_fa),
 dK_ fun s0 => oG_ rfl rfl (q_store), trivial⟩ ?_
          dsimp only [final, DS.upd, AS.seto]
          refine AWp.seq ?_
          refine AWp.seq ?_
          refine AWp.region ?_
          refine aC_ rfl rfl (q_load) ?_
          refine aC_ rfl rfl (q_move) ?_
          refine AOps.bool rfl rfl (q_call (0) (hc := (c_rthere (hZ t n) n hzo (by omega)))) (fun h15_2 => ?_) (fun h15_2 => ?_)
          ·
           refine aC_ rfl rfl (q_not) ?_
           refine AOps.nil ?_
           refine AWp.cond_f rfl ?_
           refine AWp.skip ?_
           refine AWp.seq ?_
           refine AWp.region ?_
           refine AOps.weak (Weak.full 0 [] (t := [(4, .ptr 102 0 0), (6, .ptr 400 0 0)]) (hl := [(102, .box [.v (.int .i64 0), .v (.slice none 0 0)]), (400, .box [i64 0, .fz 0 (acc ++ atZ (hZ t n) n q.ty).length (cl rrc (acc ++ atZ (hZ t n) n q.ty))])])) ?_
           refine aC_ rfl rfl (q_load) ?_
           refine aC_ rfl rfl (q_store) ?_
           refine aC_ rfl rfl (q_assign) ?_
           refine AOps.nil ?_
           refine AWp.ret ?_
           show Fin te Try.f17 _ _
           rw [hsub, truF_end hend, if_pos h15_2] at hE
           obtain ⟨x1, x2⟩ := tru_some (q := q) hE.symm
           rw [x1, x2]
           refine q_ret (0) [_, _] [_, _] ?_
           rfl
          ·
           refine aC_ rfl rfl (q_not) ?_
           refine AOps.nil ?_
           refine AWp.cond_t rfl ?_
           refine AWp.region ?_
           refine aC_ rfl rfl (q_fa) ?_
           refine aC_ rfl rfl (q_store) ?_
           refine AOps.nil ?_
           refine AWp.seq ?_
           refine AWp.region ?_
           refine AOps.weak (Weak.full 0 [] (t := [(4, .ptr 102 0 0), (6, .ptr 400 0 0)]) (hl := [(102, .box [.v (.int .i64 0), .v (.slice none 0 0)]), (400, .box [i64 3, .fz 0 (acc ++ atZ (hZ t n) n q.ty).length (cl rrc (acc ++ atZ (hZ t n) n q.ty))])])) ?_
           refine aC_ rfl rfl (q_load) ?_
           refine aC_ rfl rfl (q_store) ?_
           refine aC_ rfl rfl (q_assign) ?_
           refine AOps.nil ?_
           refine AWp.ret ?_
           show Fin te Try.f17 _ _
           rw [hsub, truF_end hend, if_neg (by rw [h15_2]; decide)] at hE
           obtain ⟨x1, x2⟩ := tru_some (q := q) hE.symm
           rw [x1, x2]
           refine q_ret (0) [_, _] [_, _] ?_
           rfl
        ·
         refine aC_ rfl rfl (q_move) ?_
         refine aG_ rfl rfl rfl rfl rfl rfl rfl rfl ?_
         refine aG_ rfl rfl rfl rfl rfl rfl rfl rfl ?_
         refine aG_ rfl rfl rfl rfl rfl rfl rfl rfl ?_
         refine aC_ rfl rfl (q_pick) ?_
         refine AOps.nil ?_
         refine AWp.cond_f rfl ?_
         refine AWp.skip ?_
         refine AWp.seq ?_
         have hend : (atZ (hZ t n) n 5).length = 0 ∨ q.ty = 5 := .inl (by omega)
         refine AWp.draws [⟨0, [6], [400], some 77, _, none⟩,
 ⟨1, [77], [400], some 78, _, none⟩,
 ⟨2, [8], [809], some 79, _, none⟩,
 ⟨3, [7], [], some 80, _, none⟩,
 ⟨4, [3], [101], some 81, _, none⟩,
 ⟨5, [81], [101], some 82, _, none⟩,
 ⟨6, [79, 80, 82], [], some 83, _, none⟩,
 ⟨7, [78, 83], [9000], some 84, _, some (9000, _)⟩,
 ⟨8, [6], [400], some 85, _, none⟩,
 ⟨9, [84, 85], [400, 9000], none, _, some (400, _)⟩]
          [kN_ 0 [6] [400] 77,
 kN_ 1 [77] [400] 78,
 kN_ 2 [8] [809] 79,
 kN_ 3 [7] [] 80,
 kN_ 4 [3] [101] 81,
 kN_ 5 [81] [101] 82,
 kN_ 6 [79, 80, 82] [] 83,
 ⟨7, [78, 83], [9000], some 84, .any, some (9000, .box [])⟩,
 kN_ 8 [6] [400] 85,
 ⟨9, [84, 85], [400, 9000], none, .any, some (400, .box [])⟩]
          mixed_ok rfl (by kernel_rfl) ⟨dK_ fun s0 => oG_ rfl rfl (q_fa),
 dK_ fun s0 => oG_ rfl rfl (q_load),
 dK_ fun s0 => oG_ rfl rfl (q_load),
 dK_ fun s0 => oG_ rfl rfl (q_move),
 dK_ fun s0 => oG_ rfl rfl (q_fa),
 dK_ fun s0 => oG_ rfl rfl (q_load),
 dK_ fun s0 => oG_ rfl rfl (q_call (0) (hc := (c_rat (hZ t n) n q.ty hzo (by omega)))),
 dK_ fun s0 => oG_ rfl rfl (q_app),
 dK_ fun s0 => oG_ rfl rfl (q_fa),
 dK_ fun s0 => oG_ rfl rfl (q_store), trivial⟩ ?_
         dsimp only [final, DS.upd, AS.seto]
         refine AWp.seq ?_
         refine AWp.seq ?_
         refine AWp.region ?_
         refine aC_ rfl rfl (q_load) ?_
         refine aC_ rfl rfl (q_move) ?_
         refine AOps.bool rfl rfl (q_call (0) (hc := (c_rthere (hZ t n) n hzo (by omega)))) (fun h15_2 => ?_) (fun h15_2 => ?_)
         ·
          refine aC_ rfl rfl (q_not) ?_
          refine AOps.nil ?_
          refine AWp.cond_f rfl ?_
          refine AWp.skip ?_
          refine AWp.seq ?_
          refine AWp.region ?_
          refine AOps.weak (Weak.full 0 [] (t := [(4, .ptr 102 0 0), (6, .ptr 400 0 0)]) (hl := [(102, .box [.v (.int .i64 0), .v (.slice none 0 0)]), (400, .box [i64 0, .fz 0 (acc ++ atZ (hZ t n) n q.ty).length (cl rrc (acc ++ atZ (hZ t n) n q.ty))])])) ?_
          refine aC_ rfl rfl (q_load) ?_
          refine aC_ rfl rfl (q_store) ?_
          refine aC_ rfl rfl (q_assign) ?_
          refine AOps.nil ?_
          refine AWp.ret ?_
          show Fin te Try.f17 _ _
          rw [hsub, truF_end hend, if_pos h15_2] at hE
          obtain ⟨x1, x2⟩ := tru_some (q := q) hE.symm
          rw [x1, x2]
          refine q_ret (0) [_, _] [_, _] ?_
          rfl
         ·
          refine aC_ rfl rfl (q_not) ?_
          refine AOps.nil ?_
          refine AWp.cond_t rfl ?_
          refine AWp.region ?_
          refine aC_ rfl rfl (q_fa) ?_
          refine aC_ rfl rfl (q_store) ?_
          refine AOps.nil ?_
          refine AWp.seq ?_
          refine AWp.region ?_
          refine AOps.weak (Weak.full 0 [] (t := [(4, .ptr 102 0 0), (6, .ptr 400 0 0)]) (hl := [(102, .box [.v (.int .i64 0), .v (.slice none 0 0)]), (400, .box [i64 3, .fz 0 (acc ++ atZ (hZ t n) n q.ty).length (cl rrc (acc ++ atZ (hZ t n) n q.ty))])])) ?_
          refine aC_ rfl rfl (q_load) ?_
          refine aC_ rfl rfl (q_store) ?_
          refine aC_ rfl rfl (q_assign) ?_
          refine AOps.nil ?_
          refine AWp.ret ?_
          show Fin te Try.f17 _ _
          rw [hsub, truF_end hend, if_neg (by rw [h15_2]; decide)] at hE
          obtain ⟨x1, x2⟩ := tru_some (q := q) hE.symm
          rw [x1, x2]
          refine q_ret (0) [_, _] [_, _] ?_
          rfl
       ·
        exfalso; omega
  ·
   refine AOps.gcons rfl rfl rfl rfl rfl (q_not) ?_
   refine aC_ rfl rfl (q_pick) ?_
   refine aC_ rfl rfl (q_move) ?_
   refine aG_ rfl rfl rfl rfl rfl rfl rfl rfl ?_
   refine aG_ rfl rfl rfl rfl rfl rfl rfl rfl ?_
   refine aG_ rfl rfl rfl rfl rfl rfl rfl rfl ?_
   refine aC_ rfl rfl (q_pick) ?_
   refine aC_ rfl rfl (q_move) ?_
   refine aG_ rfl rfl rfl rfl rfl rfl rfl rfl ?_
   refine aG_ rfl rfl rfl rfl rfl rfl rfl rfl ?_
   refine aG_ rfl rfl rfl rfl rfl rfl rfl rfl ?_
   refine aC_ rfl rfl (q_pick) ?_
   refine aC_ rfl rfl (q_move) ?_
   refine aG_ rfl rfl rfl rfl rfl rfl rfl rfl ?_
   refine aG_ rfl rfl rfl rfl rfl rfl rfl rfl ?_
   refine aG_ rfl rfl rfl rfl rfl rfl rfl rfl ?_
   refine aC_ rfl rfl (q_pick) ?_
   refine AOps.nil ?_
   refine AWp.cond_t rfl ?_
   refine AWp.seq ?_
   refine AWp.region ?_
   refine aC_ rfl rfl (q_build []) ?_
   refine aC_ rfl rfl (q_store) ?_
   refine aC_ rfl rfl (q_assign) ?_
   refine AOps.weak (Weak.full 0 [] (t := [(5, tf false), (4, .ptr 102 0 0)]) (hl := [(102, .box [i64 0, .fz 0 ([] : List Rr).length (cl rrc [])])])) ?_
   refine AOps.nil ?_
   refine AWp.ret ?_
   show Fin te Try.f17 _ _
   obtain ⟨x1, x2⟩ := tru_none (q := q) (tru_no2 h1_6)
   rw [x1, x2]
   refine q_ret (0) [_, _] [_, _] ?_
   rfl
 ·
  refine aC_ rfl rfl (q_not) ?_
  refine aC_ rfl rfl (q_move) ?_
  refine aG_ rfl rfl rfl rfl rfl rfl rfl rfl ?_
  refine aG_ rfl rfl rfl rfl rfl rfl rfl rfl ?_
  refine aG_ rfl rfl rfl rfl rfl rfl rfl rfl ?_
  refine aG_ rfl rfl rfl rfl rfl rfl rfl rfl ?_
  refine aC_ rfl rfl (q_pick) ?_
  refine aC_ rfl rfl (q_move) ?_
  refine aG_ rfl rfl rfl rfl rfl rfl rfl rfl ?_
  refine aG_ rfl rfl rfl rfl rfl rfl rfl rfl ?_
  refine aG_ rfl rfl rfl rfl rfl rfl rfl rfl ?_
  refine aC_ rfl rfl (q_pick) ?_
  refine aC_ rfl rfl (q_move) ?_
  refine aG_ rfl rfl rfl rfl rfl rfl rfl rfl ?_
  refine aG_ rfl rfl rfl rfl rfl rfl rfl rfl ?_
  refine aG_ rfl rfl rfl rfl rfl rfl rfl rfl ?_
  refine aC_ rfl rfl (q_pick) ?_
  refine aC_ rfl rfl (q_move) ?_
  refine aG_ rfl rfl rfl rfl rfl rfl rfl rfl ?_
  refine aG_ rfl rfl rfl rfl rfl rfl rfl rfl ?_
  refine aG_ rfl rfl rfl rfl rfl rfl rfl rfl ?_
  refine aC_ rfl rfl (q_pick) ?_
  refine AOps.nil ?_
  refine AWp.cond_t rfl ?_
  refine AWp.seq ?_
  refine AWp.region ?_
  refine aC_ rfl rfl (q_build []) ?_
  refine aC_ rfl rfl (q_store) ?_
  refine aC_ rfl rfl (q_assign) ?_
  refine AOps.weak (Weak.full 0 [] (t := [(5, tf false), (4, .ptr 102 0 0)]) (hl := [(102, .box [i64 0, .fz 0 ([] : List Rr).length (cl rrc [])])])) ?_
  refine AOps.nil ?_
  refine AWp.ret ?_
  show Fin te Try.f17 _ _
  obtain ⟨x1, x2⟩ := tru_none (q := q) (tru_no1 h1_1)
  rw [x1, x2]
  refine q_ret (0) [_, _] [_, _] ?_
  rfl
end Go.Proofs.Ytokccoloholgaaa.Fw


set_option linter.unusedVariables false
set_option linter.unusedSimpArgs false
set_option linter.unusedSectionVars false
namespace Go.Proofs.Ytokccoloholgaaa.Fw
open Go.RowKit
section rules
variable {n : Nat} {s : AS} {d : Option Tmp} {Q : APost}
end rules
end Go.Proofs.Ytokccoloholgaaa.Fw


set_option linter.unusedVariables false
set_option linter.unusedSimpArgs false
namespace Go.Proofs.Ytokccoloholgaaa.Fw
open Go.RowKit
end Go.Proofs.Ytokccoloholgaaa.Fw


set_option linter.unusedVariables false
set_option linter.unusedSimpArgs false
namespace Go.Proofs.Ytokccoloholgaaa.Fw
open Go.RowKit
def MetD (l : List Rr) (i : Nat) (m : List (List UInt8 × Bool)) : Prop := ∀ a, (mget m a).getD false = decide (a ∈ (l.take i).map fun r => lowN r.da)
theorem MetD.start (l : List Rr) : MetD l 0 [] := fun a => by simp [mget]
theorem MetD.step {l : List Rr} {i : Nat} {m : List (List UInt8 × Bool)} (h : MetD l i m) (hi : i < l.length) : MetD l (i + 1) (mput m (lowN (l.getD i default).da) true) := fun a => by
  rw [mget_put, map_step hi]
  obtain ⟨x, hx⟩ : ∃ x, x = lowN (l.getD i default).da := ⟨_, rfl⟩
  rw [← hx]
  by_cases e : x = a
  · rw [if_pos e]; simp [e]
  · rw [if_neg e, h a]
    have e2 : ¬ a = x := fun k => e k.symm
    simp [e2]
theorem MetD.same {l : List Rr} {i : Nat} {m : List (List UInt8 × Bool)} (h : MetD l i m) (hi : i < l.length) (hm : (mget m (lowN (l.getD i default).da)).getD false = true) : MetD l (i + 1) m := fun a => by
  rw [map_step hi, h a]
  rw [h] at hm
  have hm2 := of_decide_eq_true hm
  refine decide_eq_decide.2 ⟨fun q => List.mem_append.2 (.inl q), fun q => ?_⟩
  rcases List.mem_append.1 q with q | q
  · exact q
  · rw [List.mem_singleton] at q; rw [q]; exact hm2
end Go.Proofs.Ytokccoloholgaaa.Fw


set_option linter.unusedVariables false
set_option linter.unusedSimpArgs false
set_option linter.unusedSectionVars false
namespace Go.Proofs.Ytokccoloholgaaa.Fw
open Go.RowKit
section rules
variable {n : Nat} {s : AS} {o : Oper} {d : Option Tmp} {Q : APost} {κ β : Type} [DecidableEq κ]
theorem q_insert {t kt et : TypeId} {x y z : Operand} {id : Nat} (K : MKey κ) {f : β → AV} {m : List (κ × β)} {k : κ} (v : β) {ti : TI} (ho : o.op = .insert t x y z := by exact rfl) (hx : s.ev x = .mp id 0 := by exact rfl) (hy : s.ev y = .v (K.kv k) := by exact rfl)
    (hob : s.h id = some (.map (me K f m)) := by exact rfl) (hz : s.ev z = f v := by exact rfl) (ht : te.get t = some ti := by exact rfl) (hk : ti.k = .map kt et := by exact rfl) (hkd : Try.prog.underlying kt = some K.d := by exact rfl)
    (hdd : o.dst = d := by conv => lhs; whnf) (hd : d.all (Nat.blt · n) = true := by exact rfl) : OpOk Try.prog n o s ((s.seth id (some (.map (me K f (mput m k v))))).put d (.v undef)) :=
  .chg hdd hd fun Λ w φ a hs => by
    obtain ⟨l, b, ents, clock, h1, h2, h3, h4, h5⟩ := map_at hs.hs hob
    have hxv := hs.ev x
    rw [hx] at hxv
    have e1 := rep_mp hxv h1 h3 h2
    have e2 := ev_v hs hy
    have e3 := hs.ev z
    rw [hz] at e3
    have hu := (te_ok.tells ht).map hk
    have hck := MapKept.run_checkKey (w := w) hkd (K.isKey k) false 9999
    rcases mfind m k with ⟨g1, g2, g3, _⟩ | ⟨j, p, g1, g2, g3, g4, g5, _⟩
    · have hf := MapKept.run_findKey (w := w) hkd (h5.none g2)
      have hc := Chg.map hs.hs h1 h2 h4 (.map (ents.push { key := K.kv k, val := a.eval z, born := clock }) (clock + 1))
      refine ⟨.skip, _, l, ?_, hc, ⟨b, _, _, h2, h3, (MapKept.heap_set h4).1, ?_, fun q r hq => ?_⟩, undef, .inr ⟨rfl, rfl⟩, .v⟩
      · simp [execOp, ho, e1, e2, Instr.mapUpdate, run_underlying hu, MapKept.run_getObj_map h4, hck, hf, Result.andThen, MapKept.run_setObj_map _ h4]
      · rw [g3]; simp [me, h5.size]
      · rw [g3, me, List.getElem?_map, Option.map_eq_some_iff] at hq
        obtain ⟨p, hp, rfl⟩ := hq
        by_cases hlt : q < m.length
        · rw [List.getElem?_append_left hlt] at hp
          obtain ⟨e, q1, q2, q3⟩ := h5.at' q p hp
          exact ⟨e, by rw [Array.getElem?_push, if_neg (by rw [h5.size]; omega)]; exact q1, q2, hc.rep q3⟩
        · rw [List.getElem?_append_right (by omega)] at hp
          have hq0 : q - m.length = 0 := by
            have := (List.getElem?_eq_some_iff.1 hp).1
            simp at this; omega
          rw [hq0] at hp
          simp at hp; subst hp
          exact ⟨{ key := K.kv k, val := a.eval z, born := clock }, by rw [Array.getElem?_push, if_pos (by rw [h5.size]; omega)], rfl, hc.rep e3⟩
    · obtain ⟨e, q1, q2, q3, q4⟩ := h5.some g1 g2 g3
      have hf := MapKept.run_findKey (w := w) hkd q4
      have hc := Chg.map hs.hs h1 h2 h4 (.map (ents.modify j fun e => { e with key := K.kv k, val := a.eval z }) clock)
      refine ⟨.skip, _, l, ?_, hc, ⟨b, _, _, h2, h3, (MapKept.heap_set h4).1, ?_, fun q r hq => ?_⟩, undef, .inr ⟨rfl, rfl⟩, .v⟩
      · simp [execOp, ho, e1, e2, Instr.mapUpdate, run_underlying hu, MapKept.run_getObj_map h4, hck, hf, Result.andThen, MapKept.run_setObj_map _ h4, q1, q2, Instr.keyThatStays, K.same]
      · rw [g5]; simp [me, h5.size]
      · rw [g5, me, List.getElem?_map, Option.map_eq_some_iff] at hq
        obtain ⟨p', hp, rfl⟩ := hq
        rw [List.getElem?_set] at hp
        by_cases hjq : j = q
        · subst hjq
          have hlt := (List.getElem?_eq_some_iff.1 g1).1
          simp [hlt] at hp; subst hp
          exact ⟨{ e with key := K.kv k, val := a.eval z }, by rw [Array.getElem?_modify, if_pos rfl, q1]; rfl, rfl, hc.rep e3⟩
        · rw [if_neg hjq] at hp
          obtain ⟨e', r1, r2, r3⟩ := h5.at' q p' hp
          exact ⟨e', by rw [Array.getElem?_modify, if_neg hjq]; exact r1, r2, hc.rep r3⟩
end rules
section jumpsR
variable {P : Program} {n : Nat} {Q : APost} {s : AS}
end jumpsR
section bad
end bad
end Go.Proofs.Ytokccoloholgaaa.Fw


set_option linter.unusedVariables false
set_option linter.unusedSimpArgs false
namespace Go.Proofs.Ytokccoloholgaaa.Fw
open Go.RowKit
def nCnt (t : Int) : Nat := if t = 6 then 2 else if t = 2 ∨ t = 5 ∨ t = 12 ∨ t = 15 then 1 else 0
def mCnt : List (Int × Int) := mput (mput (mput (mput (mput [] 2 1) 5 1) 12 1) 15 1) 6 2
theorem nCnt_eq (t : Int) : (mget mCnt t).getD 0 = (nCnt t : Int) := by
  have e : mCnt = [(2, 1), (5, 1), (12, 1), (15, 1), (6, 2)] := rfl
  rw [e]
  unfold nCnt
  by_cases h6 : t = 6
  · subst h6; rfl
  · by_cases h : t = 2 ∨ t = 5 ∨ t = 12 ∨ t = 15
    · rw [if_neg h6, if_pos h]
      rcases h with rfl | rfl | rfl | rfl <;> rfl
    · rw [if_neg h6, if_neg h]
      simp only [not_or] at h
      simp [mget, Ne.symm h.1, Ne.symm h.2.1, Ne.symm h.2.2.1, Ne.symm h.2.2.2, Ne.symm h6]
theorem nCnt_le (t : Int) : nCnt t ≤ 2 := by
  unfold nCnt
  split
  · omega
  · split <;> omega
def ahM (t : Int) : Nat := if t = 15 then 2 else 0
theorem ahM_le (t : Int) : ahM t ≤ 2 := by unfold ahM; split <;> omega
def plL : Nat → List UInt8 → List UInt8 → Option (List UInt8 × List UInt8)
  | 0, o, r => some (o, r)
  | k + 1, o, r => if cutO r then plL k (o ++ lowN (cutM r)) (cutR r) else none
theorem plL_no {k : Nat} {o r : List UInt8} (h : cutO r = false) : plL (k + 1) o r = none := by rw [plL, if_neg (by simp [h])]
theorem plL_go {k : Nat} {o r : List UInt8} (h : cutO r = true) : plL (k + 1) o r = plL k (o ++ lowN (cutM r)) (cutR r) := by rw [plL, if_pos h]
def plS (x : Rr) : Option (List UInt8 × List UInt8) := plL (nCnt x.ty) (x.da.take (ahM x.ty)) (x.da.drop (ahM x.ty))
def plE (x : Rr) (o r : List UInt8) : List UInt8 := if (nCnt x.ty = 2 ∧ r.length ≠ 20) ∨ (nCnt x.ty = 1 ∧ 0 < r.length) then x.da else o ++ r
def plN (x : Rr) : List UInt8 := match plS x with
  | none => x.da
  | some (o, r) => plE x o r
theorem plN_no {x : Rr} (h : plS x = none) : plN x = x.da := by rw [plN, h]
theorem plN_yes {x : Rr} {o r : List UInt8} (h : plS x = some (o, r)) : plN x = plE x o r := by rw [plN, h]
theorem plE_no {x : Rr} {o r : List UInt8} (h : (nCnt x.ty = 2 ∧ r.length ≠ 20) ∨ (nCnt x.ty = 1 ∧ 0 < r.length)) : plE x o r = x.da := if_pos h
theorem plE_yes {x : Rr} {o r : List UInt8} (h : ¬ ((nCnt x.ty = 2 ∧ r.length ≠ 20) ∨ (nCnt x.ty = 1 ∧ 0 < r.length))) : plE x o r = o ++ r := if_neg h
theorem ah_drop (l : List UInt8) (a : Nat) : l.drop (min (a : Int) (l.length : Int)).toNat = l.drop a := by
  by_cases h : a ≤ l.length
  · rw [show (min (a : Int) (l.length : Int)).toNat = a by omega]
  · rw [List.drop_of_length_le (by omega), List.drop_of_length_le (by omega)]
theorem ah_take (l : List UInt8) (a : Nat) : l.take ((l.length : Int) - ((l.drop (min (a : Int) (l.length : Int)).toNat).length : Int)).toNat = l.take a := by
  rw [ah_drop, List.length_drop]
  by_cases h : a ≤ l.length
  · rw [show ((l.length : Int) - ((l.length - a : Nat) : Int)).toNat = a by omega]
  · rw [List.take_of_length_le (by omega), List.take_of_length_le (by omega)]
set_option maxRecDepth 20000 in
set_option maxHeartbeats 2000000 in
theorem c_audit_plain (r : Rr) (hd : r.da.length ≤ 140737488351232) : AC Try.prog 101 [.agg (rrc r)] emp (Ret (str (plN r))) := by
 have ha2 := ahM_le r.ty
 have hc2 := nCnt_le r.ty
 refine AC.intro te_ok (fn := Try.f101) ⟨Try.func101, rfl, rfl⟩ (Nat.le_of_ble_eq_true rfl) ?_
 refine AWp.seq ?_
 refine AWp.region ?_
 refine aC_ rfl rfl (q_box 100) ?_
 refine aC_ rfl rfl (q_assign) ?_
 refine AOps.nil ?_
 refine AWp.seq ?_
 refine AWp.region ?_
 refine aC_ rfl rfl (q_makeMap 200 MInt (fun b : Int => i64 b)) ?_
 refine aC_ rfl rfl (q_insert MInt (f := fun b : Int => i64 b) (m := ([] : List (Int × Int))) 1) ?_
 refine aC_ rfl rfl (q_insert MInt (f := fun b : Int => i64 b) (m := mput [] 2 1) 1) ?_
 refine aC_ rfl rfl (q_insert MInt (f := fun b : Int => i64 b) (m := mput (mput [] 2 1) 5 1) 1) ?_
 refine aC_ rfl rfl (q_insert MInt (f := fun b : Int => i64 b) (m := mput (mput (mput [] 2 1) 5 1) 12 1) 1) ?_
 refine aC_ rfl rfl (q_insert MInt (f := fun b : Int => i64 b) (m := mput (mput (mput (mput [] 2 1) 5 1) 12 1) 15 1) 2) ?_
 refine aC_ rfl rfl (q_move) ?_
 refine aC_ rfl rfl (q_assign) ?_
 refine AOps.nil ?_
 refine AWp.seq ?_
 refine AWp.draws [⟨0, [3], [], some 11, _, none⟩,
 ⟨1, [1], [100], some 12, _, none⟩,
 ⟨2, [12], [100], some 13, _, none⟩,
 ⟨3, [11, 13], [200], some 14, _, none⟩,
 ⟨4, [], [], some 4, _, none⟩,
 ⟨5, [14], [], some 5, _, none⟩]
  [kN_ 0 [3] [] 11,
 kN_ 1 [1] [100] 12,
 kN_ 2 [12] [100] 13,
 kN_ 3 [11, 13] [200] 14,
 kN_ 4 [] [] 4,
 kN_ 5 [14] [] 5]
  mixed_ok rfl (by kernel_rfl) ⟨dK_ fun s0 => oG_ rfl rfl (q_move),
 dK_ fun s0 => oG_ rfl rfl (q_fa),
 dK_ fun s0 => oG_ rfl rfl (q_load),
 dK_ fun s0 => oG_ rfl rfl (q_lookup MInt (f := fun b : Int => i64 b) (m := mCnt)),
 dK_ fun s0 => oG_ rfl rfl (q_assign),
 dK_ fun s0 => oG_ rfl rfl (q_assign), trivial⟩ ?_
 dsimp only [final, DS.upd, AS.seto]
 rw [nCnt_eq]
 refine AWp.cutR (α := Nat) [4, 15, 16, 17] (fun ah => [(4, i64 ah)]) (fun ah => []) (fun ah => ah = ahM r.ty) ?_ ?_
 ·
  refine AWp.seq ?_
  refine AWp.region ?_
  refine aC_ rfl rfl (q_fa) ?_
  refine aC_ rfl rfl (q_load) ?_
  refine AOps.dec rfl rfl (q_eql) (fun h3_2 => ?_) (fun h3_2 => ?_)
  ·
   refine AOps.nil ?_
   refine AWp.cond_t rfl ?_
   refine AWp.region ?_
   refine aC_ rfl rfl (q_assign) ?_
   refine AOps.nil ?_
   refine ⟨2, ?_, Back.mk' (HasT.cons HasT.nil) HasH.nil⟩
   rw [ahM, if_pos h3_2]
  ·
   refine AOps.nil ?_
   refine AWp.cond_f rfl ?_
   refine AWp.skip ?_
   refine ⟨0, ?_, Back.mk' (HasT.cons HasT.nil) HasH.nil⟩
   rw [ahM, if_neg h3_2]
 ·
  rintro ah rfl
  refine AWp.seq ?_
  refine AWp.region ?_
  refine aC_ rfl rfl (q_fa) ?_
  refine aC_ rfl rfl (q_load) ?_
  refine aC_ rfl rfl (q_move) ?_
  refine aC_ rfl rfl (q_fa) ?_
  refine aC_ rfl rfl (q_load) ?_
  refine aC_ rfl rfl (q_len) ?_
  refine aC_ rfl rfl (q_min) ?_
  refine aC_ rfl rfl (q_sl) ?_
  refine aC_ rfl rfl (q_assign) ?_
  refine AOps.nil ?_
  refine AWp.seq ?_
  refine AWp.region ?_
  have hdl : (List.drop (min (ahM r.ty : Int) (r.da.length : Int)).toNat r.da).length ≤ r.da.length := by rw [List.length_drop]; omega
  refine aC_ rfl rfl (q_fa) ?_
  refine aC_ rfl rfl (q_load) ?_
  refine aC_ rfl rfl (q_fa) ?_
  refine aC_ rfl rfl (q_load) ?_
  refine aC_ rfl rfl (q_len) ?_
  refine aC_ rfl rfl (q_move) ?_
  refine aC_ rfl rfl (q_len) ?_
  refine aC_ rfl rfl (q_sub) ?_
  refine aC_ rfl rfl (q_sl) ?_
  refine aC_ rfl rfl (by first | exact q_conv_zs | exact q_conv_ls) ?_
  refine aC_ rfl rfl (q_assign) ?_
  refine AOps.nil ?_
  refine AWp.seq ?_
  refine AWp.seq ?_
  refine AWp.region ?_
  refine aC_ rfl rfl (q_move) ?_
  refine aC_ rfl rfl (q_move) ?_
  refine AOps.nil ?_
  refine AWp.block ?_
  refine AWp.loopR (α := Nat × List UInt8 × List UInt8) [2, 6, 7, 8, 37, 38, 39, 40, 41, 42, 43, 44, 45, 46, 47, 48, 49, 50, 51, 52, 53, 54, 55, 56, 57, 58, 59, 60, 61, 62, 63, 64, 65, 66, 67, 68, 69, 70, 71, 72, 73, 74, 75, 76, 77, 78, 79, 80, 81, 82, 83, 84, 85, 86] (fun x_ => [(37, i64 (x_.1)), (6, .fz 0 (x_.2.2).length (cl bc (x_.2.2))), (7, str (x_.2.1))]) (fun x_ => []) (fun x_ => (x_.1) ≤ nCnt r.ty ∧ plL (nCnt r.ty - (x_.1)) (x_.2.1) (x_.2.2) = plS r ∧ (x_.2.2).length ≤ r.da.length ∧ (x_.2.1).length ≤ 2 + 255 * (x_.1)) (fun x_ => nCnt r.ty - (x_.1)) (0, _, _) ?_ (Back.mk' (HasT.cons (HasT.cons (HasT.cons HasT.nil))) HasH.nil) ?_
  ·
   exact ⟨Nat.zero_le _, by show plL (nCnt r.ty - 0) (List.take _ r.da) (List.drop _ r.da) = _; rw [ah_take, ah_drop]; rfl, by show (List.drop _ r.da).length ≤ _; rw [List.length_drop]; omega, by show (List.take _ r.da).length ≤ _; rw [ah_take, List.length_take]; omega⟩
  ·
   rintro ⟨i, o, q⟩ hI8
   change i ≤ nCnt r.ty ∧ plL (nCnt r.ty - i) o q = plS r ∧ q.length ≤ r.da.length ∧ o.length ≤ 2 + 255 * i at hI8
   obtain ⟨hi, hE, hql, hol⟩ := hI8
   refine AWp.as (s' := AS.over _ [2, 6, 7, 8, 37, 38, 39, 40, 41, 42, 43, 44, 45, 46, 47, 48, 49, 50, 51, 52, 53, 54, 55, 56, 57, 58, 59, 60, 61, 62, 63, 64, 65, 66, 67, 68, 69, 70, 71, 72, 73, 74, 75, 76, 77, 78, 79, 80, 81, 82, 83, 84, 85, 86] [(37, i64 i), (6, .fz 0 q.length (cl bc q)), (7, str o)] []) rfl ?_
   refine AWp.seq ?_
   refine AWp.region ?_
   refine AOps.dec rfl rfl (q_lss) (fun h8_0 => ?_) (fun h8_0 => ?_)
   ·
    refine AOps.nil ?_
    refine AWp.seq ?_
    refine AWp.cond_t rfl ?_
    refine AWp.skip ?_
    refine AWp.seq ?_
    refine AWp.block ?_
    refine AWp.seq ?_
    refine AWp.region ?_
    refine aC_ rfl rfl (q_assign) ?_
    refine AOps.nil ?_
    refine AWp.seq ?_
    refine AWp.block ?_
    refine AWp.loopR (α := Nat) [8, 39, 40, 41, 42, 43, 44, 45, 46, 47, 48, 49, 50, 51, 52, 53, 54, 55, 56, 57] (fun k => [(8, i64 k)]) (fun k => []) (fun k => zer q k = zer q 0 ∧ k ≤ q.length + 255) (fun k => q.length - k) 0 ?_ (Back.mk' (HasT.cons HasT.nil) HasH.nil) ?_
    ·
     exact ⟨rfl, Nat.zero_le _⟩
    ·
     rintro k ⟨hz, hk0⟩
     refine AWp.seq ?_
     refine AWp.seq ?_
     refine AWp.region ?_
     refine aC_ rfl rfl (q_move) ?_
     refine aC_ rfl rfl (q_move) ?_
     refine aC_ rfl rfl (q_len) ?_
     refine AOps.dec rfl rfl (q_lss) (fun h10_3 => ?_) (fun h10_3 => ?_)
     ·
      refine aC_ rfl rfl (q_move) ?_
      refine AOps.gcons rfl rfl rfl rfl rfl (q_move) ?_
      refine AOps.gcons rfl rfl rfl rfl rfl (q_move) ?_
      refine AOps.gcons rfl rfl rfl rfl rfl (q_ix) ?_
      refine AOps.gcons rfl rfl rfl rfl rfl (q_load) ?_
      refine AOps.gdec rfl rfl rfl rfl rfl (q_neq) (fun h10_9 => ?_) (fun h10_9 => ?_)
      ·
       refine aC_ rfl rfl (q_pick) ?_
       refine AOps.nil ?_
       refine AWp.cond_t rfl ?_
       refine AWp.skip ?_
       refine AWp.block ?_
       refine AWp.region ?_
       have hk := (q.getD k default).toNat_lt
       have he : (q.getD (k : Int).toNat default).toNat = (q.getD k default).toNat := rfl
       have k9 : ¬ (q.getD k default).toNat = 0 := fun e => h10_9 (by show ((q.getD k default).toNat : Int) = 0; omega)
       refine aC_ rfl rfl (q_move) ?_
       refine aC_ rfl rfl (q_move) ?_
       refine aC_ rfl rfl (q_move) ?_
       refine aC_ rfl rfl (q_ix) ?_
       refine aC_ rfl rfl (q_load) ?_
       refine aC_ rfl rfl (q_conv_8i) ?_
       refine aC_ rfl rfl (q_add) ?_
       refine aC_ rfl rfl (q_add) ?_
       refine aC_ rfl rfl (q_assign) ?_
       refine AOps.nil ?_
       refine ⟨k + 1 + (q.getD k default).toNat, ?_, Back.mk' (HasT.cons HasT.nil (h1 := by exact i64_eq (by show (k : Int) + (1 + ((q.getD k default).toNat : Int)) = ((k + 1 + (q.getD k default).toNat : Nat) : Int); omega)) ) HasH.nil, ?_⟩
       ·
        exact ⟨(zer_step (by omega) k9).symm.trans hz, by omega⟩
       ·
        omega
      ·
       refine aC_ rfl rfl (q_pick) ?_
       refine AOps.nil ?_
       refine AWp.cond_f rfl ?_
       refine AWp.exit ?_
       refine AWp.seq ?_
       refine AWp.seq ?_
       refine AWp.region ?_
       have k9 : ((q.getD k default).toNat : Int) = 0 := Classical.not_not.1 h10_9
       have hz0 : zer q 0 = k := by rw [← hz]; exact zer_end (by omega)
       refine aC_ rfl rfl (q_move) ?_
       refine aC_ rfl rfl (q_move) ?_
       refine aC_ rfl rfl (q_len) ?_
       refine AOps.dec rfl rfl (q_geq) (fun h12_3 => ?_) (fun h12_3 => ?_)
       ·
        exfalso; omega
       ·
        refine aC_ rfl rfl (q_move) ?_
        have ei : ((k : Int) + 1).toNat = k + 1 := by omega
        refine AOps.gcons rfl rfl rfl rfl rfl (q_move) ?_
        refine AOps.gcons rfl rfl rfl rfl rfl (q_move) ?_
        refine AOps.gcons rfl rfl rfl rfl rfl (q_add) ?_
        refine AOps.gcons rfl rfl rfl rfl rfl (q_sl) ?_
        refine AOps.gcons rfl rfl rfl rfl rfl (by first | exact q_conv_zs | exact q_conv_ls) ?_
        refine AOps.gbool rfl rfl rfl rfl rfl (q_call (0) (hc := c_name_Can _ (by first | assumption | omega | decide | (simp; omega) | (simp [*]; done)))) (fun h12_10 => ?_) (fun h12_10 => ?_)
        ·
         refine AOps.gcons rfl rfl rfl rfl rfl (q_not) ?_
         refine aC_ rfl rfl (q_pick) ?_
         refine AOps.nil ?_
         refine AWp.cond_f rfl ?_
         refine AWp.skip ?_
         refine AWp.seq ?_
         refine AWp.region ?_
         rw [ei] at h12_10
         obtain ⟨q1, q2, q3⟩ := cut_at (b := q) (k := k + 1) (by omega) h12_10
         have hll := lowN_len (q.take (k + 1))
         refine aC_ rfl rfl (q_move) ?_
         refine aC_ rfl rfl (q_move) ?_
         refine aC_ rfl rfl (q_move) ?_
         refine aC_ rfl rfl (q_add) ?_
         refine aC_ rfl rfl (q_sl) ?_
         refine aC_ rfl rfl (by first | exact q_conv_zs | exact q_conv_ls) ?_
         refine aC_ rfl rfl (q_call (0) (hc := c_name_Lower _ (by first | assumption | omega | decide | (simp; omega) | (simp [*]; done)))) ?_
         refine aC_ rfl rfl (q_sadd (h := by rw [ei]; omega)) ?_
         refine aC_ rfl rfl (q_assign) ?_
         refine AOps.nil ?_
         refine AWp.region ?_
         refine aC_ rfl rfl (q_move) ?_
         refine aC_ rfl rfl (q_move) ?_
         refine aC_ rfl rfl (q_add) ?_
         refine aC_ rfl rfl (q_sl) ?_
         refine aC_ rfl rfl (q_assign) ?_
         refine AOps.nil ?_
         refine AWp.region ?_
         refine aC_ rfl rfl (q_add) ?_
         refine aC_ rfl rfl (q_move) ?_
         refine AOps.nil ?_
         refine ⟨(i + 1, _, _), ?_, Back.mk' (HasT.cons (HasT.cons (HasT.cons HasT.nil))) HasH.nil, ?_⟩
         ·
          try dsimp only
          exact ⟨by omega, by rw [← hE, show nCnt r.ty - i = (nCnt r.ty - (i + 1)) + 1 by omega, plL_go q1, q2, q3, ei], by rw [List.length_drop]; omega, by rw [List.length_append, ei]; omega⟩
         ·
          try dsimp only
          first | omega | (simp; omega)
        ·
         refine AOps.gcons rfl rfl rfl rfl rfl (q_not) ?_
         refine aC_ rfl rfl (q_pick) ?_
         refine AOps.nil ?_
         refine AWp.cond_t rfl ?_
         refine AWp.seq ?_
         refine AWp.region ?_
         refine aC_ rfl rfl (q_fa) ?_
         refine aC_ rfl rfl (q_load) ?_
         refine aC_ rfl rfl (by first | exact q_conv_zs | exact q_conv_ls) ?_
         refine aC_ rfl rfl (q_assign) ?_
         refine AOps.nil ?_
         refine AWp.ret ?_
         show Fin te Try.f101 _ _
         refine q_ret (0) [_] [_] ?_
         rw [ei] at h12_10
         have ho : cutO q = false := by rw [cutO, hz0, h12_10, Bool.and_false]
         rw [show nCnt r.ty - i = (nCnt r.ty - (i + 1)) + 1 by omega, plL_no ho] at hE
         rw [plN_no hE.symm]; rfl
     ·
      refine aC_ rfl rfl (q_move) ?_
      refine aG_ rfl rfl rfl rfl rfl rfl rfl rfl ?_
      refine aG_ rfl rfl rfl rfl rfl rfl rfl rfl ?_
      refine aG_ rfl rfl rfl rfl rfl rfl rfl rfl ?_
      refine aG_ rfl rfl rfl rfl rfl rfl rfl rfl ?_
      refine aG_ rfl rfl rfl rfl rfl rfl rfl rfl ?_
      refine aC_ rfl rfl (q_pick) ?_
      refine AOps.nil ?_
      refine AWp.cond_f rfl ?_
      refine AWp.exit ?_
      refine AWp.seq ?_
      refine AWp.seq ?_
      refine AWp.region ?_
      have hz0 : zer q 0 = k := by rw [← hz]; exact zer_end (by omega)
      refine aC_ rfl rfl (q_move) ?_
      refine aC_ rfl rfl (q_move) ?_
      refine aC_ rfl rfl (q_len) ?_
      refine AOps.dec rfl rfl (q_geq) (fun h12_3 => ?_) (fun h12_3 => ?_)
      ·
       refine aC_ rfl rfl (q_move) ?_
       have ei : ((k : Int) + 1).toNat = k + 1 := by omega
       refine aG_ rfl rfl rfl rfl rfl rfl rfl rfl ?_
       refine aG_ rfl rfl rfl rfl rfl rfl rfl rfl ?_
       refine aG_ rfl rfl rfl rfl rfl rfl rfl rfl ?_
       refine aG_ rfl rfl rfl rfl rfl rfl rfl rfl ?_
       refine aG_ rfl rfl rfl rfl rfl rfl rfl rfl ?_
       refine aG_ rfl rfl rfl rfl rfl rfl rfl rfl ?_
       refine aG_ rfl rfl rfl rfl rfl rfl rfl rfl ?_
       refine aC_ rfl rfl (q_pick) ?_
       refine AOps.nil ?_
       refine AWp.cond_t rfl ?_
       refine AWp.seq ?_
       refine AWp.region ?_
       refine aC_ rfl rfl (q_fa) ?_
       refine aC_ rfl rfl (q_load) ?_
       refine aC_ rfl rfl (by first | exact q_conv_zs | exact q_conv_ls) ?_
       refine aC_ rfl rfl (q_assign) ?_
       refine AOps.nil ?_
       refine AWp.ret ?_
       show Fin te Try.f101 _ _
       refine q_ret (0) [_] [_] ?_
       have ho : cutO q = false := by rw [cutO, hz0, decide_eq_false (by omega)]; rfl
       rw [show nCnt r.ty - i = (nCnt r.ty - (i + 1)) + 1 by omega, plL_no ho] at hE
       rw [plN_no hE.symm]; rfl
      ·
       exfalso; omega
   ·
    refine AOps.nil ?_
    refine AWp.seq ?_
    refine AWp.cond_f rfl ?_
    refine AWp.exit ?_
    refine AWp.seq ?_
    refine AWp.seq ?_
    refine AWp.region ?_
    obtain rfl : i = nCnt r.ty := by omega
    rw [Nat.sub_self] at hE
    have hps := hE.symm
    rw [plL] at hps
    refine aC_ rfl rfl (q_move) ?_
    refine AOps.dec rfl rfl (q_eql) (fun h17_1 => ?_) (fun h17_1 => ?_)
    ·
     refine aC_ rfl rfl (q_move) ?_
     refine AOps.gcons rfl rfl rfl rfl rfl (q_move) ?_
     refine AOps.gcons rfl rfl rfl rfl rfl (q_len) ?_
     refine AOps.gdec rfl rfl rfl rfl rfl (q_neq) (fun h17_5 => ?_) (fun h17_5 => ?_)
     ·
      refine aC_ rfl rfl (q_pick) ?_
      refine aC_ rfl rfl (q_move) ?_
      refine aG_ rfl rfl rfl rfl rfl rfl rfl rfl ?_
      refine aG_ rfl rfl rfl rfl rfl rfl rfl rfl ?_
      refine aG_ rfl rfl rfl rfl rfl rfl rfl rfl ?_
      refine AOps.gskipu rfl rfl rfl rfl rfl rfl rfl ?_
      refine AOps.gskipu rfl rfl rfl rfl rfl rfl rfl ?_
      refine AOps.gskipu rfl rfl rfl rfl rfl rfl rfl ?_
      refine aG_ rfl rfl rfl rfl rfl rfl rfl rfl ?_
      refine aC_ rfl rfl (q_pick) ?_
      refine AOps.nil ?_
      refine AWp.cond_t rfl ?_
      refine AWp.seq ?_
      refine AWp.region ?_
      refine aC_ rfl rfl (q_fa) ?_
      refine aC_ rfl rfl (q_load) ?_
      refine aC_ rfl rfl (by first | exact q_conv_zs | exact q_conv_ls) ?_
      refine aC_ rfl rfl (q_assign) ?_
      refine AOps.nil ?_
      refine AWp.ret ?_
      show Fin te Try.f101 _ _
      refine q_ret (0) [_] [_] ?_
      rw [plN_yes hps, plE_no (by omega)]; rfl
     ·
      refine aC_ rfl rfl (q_pick) ?_
      refine aC_ rfl rfl (q_move) ?_
      refine AOps.gcons rfl rfl rfl rfl rfl (q_move) ?_
      refine AOps.gdec rfl rfl rfl rfl rfl (q_eql) (fun h17_9 => ?_) (fun h17_9 => ?_)
      ·
       refine AOps.gcons rfl rfl rfl rfl rfl (q_move) ?_
       refine AOps.gcons rfl rfl rfl rfl rfl (q_move) ?_
       refine AOps.gcons rfl rfl rfl rfl rfl (q_len) ?_
       refine AOps.gdec rfl rfl rfl rfl rfl (q_gtr) (fun h17_13 => ?_) (fun h17_13 => ?_)
       ·
        refine AOps.gcons rfl rfl rfl rfl rfl (q_pick) ?_
        refine aC_ rfl rfl (q_pick) ?_
        refine AOps.nil ?_
        refine AWp.cond_t rfl ?_
        refine AWp.seq ?_
        refine AWp.region ?_
        refine aC_ rfl rfl (q_fa) ?_
        refine aC_ rfl rfl (q_load) ?_
        refine aC_ rfl rfl (by first | exact q_conv_zs | exact q_conv_ls) ?_
        refine aC_ rfl rfl (q_assign) ?_
        refine AOps.nil ?_
        refine AWp.ret ?_
        show Fin te Try.f101 _ _
        refine q_ret (0) [_] [_] ?_
        rw [plN_yes hps, plE_no (by omega)]; rfl
       ·
        refine AOps.gcons rfl rfl rfl rfl rfl (q_pick) ?_
        refine aC_ rfl rfl (q_pick) ?_
        refine AOps.nil ?_
        refine AWp.cond_f rfl ?_
        refine AWp.skip ?_
        refine AWp.seq ?_
        refine AWp.region ?_
        refine aC_ rfl rfl (q_move) ?_
        refine aC_ rfl rfl (q_move) ?_
        refine aC_ rfl rfl (by first | exact q_conv_zs | exact q_conv_ls) ?_
        refine aC_ rfl rfl (q_sadd (h := by omega)) ?_
        refine aC_ rfl rfl (q_assign) ?_
        refine AOps.nil ?_
        refine AWp.ret ?_
        show Fin te Try.f101 _ _
        refine q_ret (0) [_] [_] ?_
        rw [plN_yes hps, plE_yes (by omega)]; rfl
      ·
       refine AOps.gcons rfl rfl rfl rfl rfl (q_move) ?_
       refine aG_ rfl rfl rfl rfl rfl rfl rfl rfl ?_
       refine aG_ rfl rfl rfl rfl rfl rfl rfl rfl ?_
       refine aG_ rfl rfl rfl rfl rfl rfl rfl rfl ?_
       refine AOps.gcons rfl rfl rfl rfl rfl (q_pick) ?_
       refine aC_ rfl rfl (q_pick) ?_
       refine AOps.nil ?_
       refine AWp.cond_f rfl ?_
       refine AWp.skip ?_
       refine AWp.seq ?_
       refine AWp.region ?_
       refine aC_ rfl rfl (q_move) ?_
       refine aC_ rfl rfl (q_move) ?_
       refine aC_ rfl rfl (by first | exact q_conv_zs | exact q_conv_ls) ?_
       refine aC_ rfl rfl (q_sadd (h := by omega)) ?_
       refine aC_ rfl rfl (q_assign) ?_
       refine AOps.nil ?_
       refine AWp.ret ?_
       show Fin te Try.f101 _ _
       refine q_ret (0) [_] [_] ?_
       rw [plN_yes hps, plE_yes (by omega)]; rfl
    ·
     refine aC_ rfl rfl (q_move) ?_
     refine aG_ rfl rfl rfl rfl rfl rfl rfl rfl ?_
     refine aG_ rfl rfl rfl rfl rfl rfl rfl rfl ?_
     refine aG_ rfl rfl rfl rfl rfl rfl rfl rfl ?_
     refine aC_ rfl rfl (q_pick) ?_
     refine aC_ rfl rfl (q_move) ?_
     refine AOps.gcons rfl rfl rfl rfl rfl (q_move) ?_
     refine AOps.gdec rfl rfl rfl rfl rfl (q_eql) (fun h17_9 => ?_) (fun h17_9 => ?_)
     ·
      refine AOps.gcons rfl rfl rfl rfl rfl (q_move) ?_
      refine AOps.gcons rfl rfl rfl rfl rfl (q_move) ?_
      refine AOps.gcons rfl rfl rfl rfl rfl (q_len) ?_
      refine AOps.gdec rfl rfl rfl rfl rfl (q_gtr) (fun h17_13 => ?_) (fun h17_13 => ?_)
      ·
       refine AOps.gcons rfl rfl rfl rfl rfl (q_pick) ?_
       refine aC_ rfl rfl (q_pick) ?_
       refine AOps.nil ?_
       refine AWp.cond_t rfl ?_
       refine AWp.seq ?_
       refine AWp.region ?_
       refine aC_ rfl rfl (q_fa) ?_
       refine aC_ rfl rfl (q_load) ?_
       refine aC_ rfl rfl (by first | exact q_conv_zs | exact q_conv_ls) ?_
       refine aC_ rfl rfl (q_assign) ?_
       refine AOps.nil ?_
       refine AWp.ret ?_
       show Fin te Try.f101 _ _
       refine q_ret (0) [_] [_] ?_
       rw [plN_yes hps, plE_no (by omega)]; rfl
      ·
       refine AOps.gcons rfl rfl rfl rfl rfl (q_pick) ?_
       refine aC_ rfl rfl (q_pick) ?_
       refine AOps.nil ?_
       refine AWp.cond_f rfl ?_
       refine AWp.skip ?_
       refine AWp.seq ?_
       refine AWp.region ?_
       refine aC_ rfl rfl (q_move) ?_
       refine aC_ rfl rfl (q_move) ?_
       refine aC_ rfl rfl (by first | exact q_conv_zs | exact q_conv_ls) ?_
       refine aC_ rfl rfl (q_sadd (h := by omega)) ?_
       refine aC_ rfl rfl (q_assign) ?_
       refine AOps.nil ?_
       refine AWp.ret ?_
       show Fin te Try.f101 _ _
       refine q_ret (0) [_] [_] ?_
       rw [plN_yes hps, plE_yes (by omega)]; rfl
     ·
      refine AOps.gcons rfl rfl rfl rfl rfl (q_move) ?_
      refine aG_ rfl rfl rfl rfl rfl rfl rfl rfl ?_
      refine aG_ rfl rfl rfl rfl rfl rfl rfl rfl ?_
      refine aG_ rfl rfl rfl rfl rfl rfl rfl rfl ?_
      refine AOps.gcons rfl rfl rfl rfl rfl (q_pick) ?_
      refine aC_ rfl rfl (q_pick) ?_
      refine AOps.nil ?_
      refine AWp.cond_f rfl ?_
      refine AWp.skip ?_
      refine AWp.seq ?_
      refine AWp.region ?_
      refine aC_ rfl rfl (q_move) ?_
      refine aC_ rfl rfl (q_move) ?_
      refine aC_ rfl rfl (by first | exact q_conv_zs | exact q_conv_ls) ?_
      refine aC_ rfl rfl (q_sadd (h := by omega)) ?_
      refine aC_ rfl rfl (q_assign) ?_
      refine AOps.nil ?_
      refine AWp.ret ?_
      show Fin te Try.f101 _ _
      refine q_ret (0) [_] [_] ?_
      rw [plN_yes hps, plE_yes (by omega)]; rfl
end Go.Proofs.Ytokccoloholgaaa.Fw


set_option linter.unusedVariables false
set_option linter.unusedSimpArgs false
namespace Go.Proofs.Ytokccoloholgaaa.Fw
open Go.RowKit
def lwN (l : List (List UInt8)) : List UInt8 := l.flatMap lowN
def lwL (l : List (List UInt8)) : Nat := (l.map List.length).sum
def lowR (x : Rr) : List UInt8 := if (namS x.ty x.da).length = 0 then x.da else x.da.take (ahM x.ty) ++ lwN (namS x.ty x.da) ++ x.da.drop (ahM x.ty + lwL (namS x.ty x.da))
theorem lwN_step {l : List (List UInt8)} {i : Nat} (h : i < l.length) : lwN (l.take (i + 1)) = lwN (l.take i) ++ lowN (l.getD i default) := by rw [take_step' h, lwN, List.flatMap_append]; simp [lwN]
theorem lwL_step {l : List (List UInt8)} {i : Nat} (h : i < l.length) : lwL (l.take (i + 1)) = lwL (l.take i) + (l.getD i default).length := by rw [take_step' h, lwL, List.map_append, List.sum_append]; simp [lwL]
theorem lwL_le : ∀ (l : List (List UInt8)) (i : Nat), lwL (l.take i) ≤ lwL l
  | [], i => by simp [lwL]
  | a :: l, 0 => by simp [lwL]
  | a :: l, i + 1 => by
    have := lwL_le l i
    simp only [lwL, List.take_succ_cons, List.map_cons, List.sum_cons] at *
    omega
theorem cut1_iff {q : List UInt8} : (cutO q = true ∧ (cutR q).length = 0) ↔ canN q = true := by
  constructor
  · rintro ⟨h1, h2⟩
    obtain ⟨e1, e2⟩ := cut_back h1
    rw [List.length_eq_zero_iff.1 h2, List.append_nil] at e1
    rw [e1]; exact e2
  · intro h
    obtain ⟨h1, _, h3⟩ := cut_at (b := q) (k := q.length) (Nat.le_refl _) (by rw [List.take_length]; exact h)
    exact ⟨h1, by rw [h3]; simp⟩
theorem cut1_M {q : List UInt8} (h : canN q = true) : cutM q = q ∧ cutR q = [] := by
  obtain ⟨_, h2, h3⟩ := cut_at (b := q) (k := q.length) (Nat.le_refl _) (by rw [List.take_length]; exact h)
  exact ⟨by rw [h2, List.take_length], by rw [h3]; simp⟩
theorem soa_parts {d : List UInt8} (h : soaO d = true) : cutO d = true ∧ cutO (cutR d) = true ∧ (cutR (cutR d)).length = 20 ∧ d = cutM d ++ (cutM (cutR d) ++ cutR (cutR d)) ∧ d.length ≤ 530 := by
  simp only [soaO, Bool.and_eq_true, decide_eq_true_eq] at h
  obtain ⟨h1, h2, h3⟩ := h
  have e1 := (cut_back h1).1
  have e2 := (cut_back h2).1
  have l1 := (cut_len d).1
  have l2 := (cut_len (cutR d)).1
  have e3 : d = cutM d ++ (cutM (cutR d) ++ cutR (cutR d)) := by rw [← e2, ← e1]
  refine ⟨h1, h2, h3, e3, ?_⟩
  have := congrArg List.length e3
  rw [List.length_append, List.length_append, h3] at this
  omega
theorem nam_six {d : List UInt8} : namS 6 d = if soaO d then [cutM d, cutM (cutR d)] else [] := by
  rw [namS, if_pos rfl]
  cases h : soaO d with
  | true =>
    rw [canS_6 (by have := (soa_parts h).2.2.2.2; omega), h, if_pos rfl, if_pos rfl]
    have : soaV d = ⟨cutM d, cutM (cutR d), wd (cutR (cutR d)) 0 5, wd (cutR (cutR d)) 1 5, wd (cutR (cutR d)) 2 5, wd (cutR (cutR d)) 3 5, wd (cutR (cutR d)) 4 5⟩ := by rw [soaV, if_pos h]
    rw [this]
  | false => rw [canS, if_pos rfl, h, Bool.and_false]; rfl
theorem nam_one {t : Int} {d : List UInt8} (h : t = 2 ∨ t = 5 ∨ t = 12 ∨ t = 15) : namS t d = if canN (d.drop (ahM t)) then [d.drop (ahM t)] else [] := by
  rw [namS_ne (by omega), namR]
  by_cases h15 : t = 15
  · subst h15
    show _ = if canN (d.drop 2) then [d.drop 2] else []
    cases hc : canN (d.drop 2) with
    | true =>
      have h1 := canN_len hc
      have h2 : 0 < (d.drop 2).length := by
        cases hd : d.drop 2 with
        | nil => rw [hd] at hc; simp [canN, labs] at hc
        | cons a l => simp
      rw [List.length_drop] at h1 h2
      rw [canR_mx (by omega), hc, decide_eq_true (by omega)]
      simp
    | false =>
      have : canR 15 d = false := by
        by_cases hl : d.length ≤ 65535
        · rw [canR_mx hl, hc, Bool.and_false]
        · rw [canR, if_pos (by omega)]
      rw [this]; simp
  · have h3 : t = 2 ∨ t = 5 ∨ t = 12 := by omega
    have ha : ahM t = 0 := if_neg h15
    rw [ha, List.drop_zero, if_pos h3]
    cases hc : canN d with
    | true => rw [canR_name h3 (by have := canN_len hc; omega), hc]
    | false =>
      have : canR t d = false := by
        by_cases hl : d.length ≤ 65535
        · rw [canR_name h3 hl, hc]
        · rw [canR, if_pos (by omega)]
      simp [this]
theorem nam_no {t : Int} {d : List UInt8} (h6 : t ≠ 6) (h : ¬ (t = 2 ∨ t = 5 ∨ t = 12 ∨ t = 15)) : namS t d = [] := by
  rw [namS_ne h6, namR, if_neg (show ¬ (t = 2 ∨ t = 5 ∨ t = 12) by omega), if_neg (show ¬ t = 15 by omega)]
  simp
theorem nam_parts {t : Int} {d : List UInt8} (h : 0 < (namS t d).length) : ahM t + lwL (namS t d) ≤ d.length := by
  by_cases h6 : t = 6
  · subst h6
    rw [nam_six] at h ⊢
    cases hs : soaO d with
    | false => rw [hs] at h; simp at h
    | true =>
      obtain ⟨_, _, _, e, _⟩ := soa_parts hs
      have := congrArg List.length e
      rw [List.length_append, List.length_append] at this
      simp [lwL, ahM]; omega
  · by_cases h1 : t = 2 ∨ t = 5 ∨ t = 12 ∨ t = 15
    · rw [nam_one h1] at h ⊢
      cases hc : canN (d.drop (ahM t)) with
      | false => rw [hc] at h; simp at h
      | true =>
        have h2 : 0 < (d.drop (ahM t)).length := by
          cases hd : d.drop (ahM t) with
          | nil => rw [hd] at hc; simp [canN, labs] at hc
          | cons a l => simp
        rw [List.length_drop] at h2
        simp [lwL]; omega
    · rw [nam_no h6 h1] at h; simp at h
theorem low_plain (x : Rr) : plN x = lowR x := by
  by_cases h6 : x.ty = 6
  · have hn : nCnt x.ty = 2 := by rw [nCnt, if_pos h6]
    have ha : ahM x.ty = 0 := by rw [ahM, if_neg (by omega)]
    have e : plS x = plL 2 [] x.da := by rw [plS, hn, ha, List.take_zero, List.drop_zero]
    have hN : namS x.ty x.da = if soaO x.da then [cutM x.da, cutM (cutR x.da)] else [] := by rw [h6, nam_six]
    cases hs : soaO x.da with
    | true =>
      obtain ⟨h1, h2, h3, h4, _⟩ := soa_parts hs
      rw [plL_go h1, plL_go h2, plL, List.nil_append] at e
      rw [plN_yes e, plE_yes (by rw [hn]; omega), lowR, hN, hs, ha]
      simp only [if_true, List.length_cons, List.length_nil]
      rw [if_neg (by omega), List.take_zero, List.nil_append]
      have hd : x.da.drop (0 + lwL [cutM x.da, cutM (cutR x.da)]) = cutR (cutR x.da) := by
        exact (congrArg (List.drop _) (h4.trans (List.append_assoc ..).symm)).trans (List.drop_left' (by simp [lwL]))
      rw [hd]
      simp [lwN]
    | false =>
      rw [lowR, hN, hs, if_pos (by simp)]
      cases h1 : cutO x.da with
      | false => rw [plL_no h1] at e; exact plN_no e
      | true =>
        rw [plL_go h1] at e
        cases h2 : cutO (cutR x.da) with
        | false => rw [plL_no h2] at e; exact plN_no e
        | true =>
          rw [plL_go h2, plL] at e
          rw [plN_yes e, plE_no (.inl ⟨hn, fun h => ?_⟩)]
          rw [soaO, h1, h2, h] at hs; simp at hs
  · by_cases h1 : x.ty = 2 ∨ x.ty = 5 ∨ x.ty = 12 ∨ x.ty = 15
    · have hn : nCnt x.ty = 1 := by rw [nCnt, if_neg h6, if_pos h1]
      have e : plS x = plL 1 (x.da.take (ahM x.ty)) (x.da.drop (ahM x.ty)) := by rw [plS, hn]
      rw [lowR, nam_one h1]
      generalize hq : x.da.drop (ahM x.ty) = q at *
      cases hc : canN q with
      | true =>
        obtain ⟨k1, k2⟩ := cut1_M hc
        have k0 := (cut1_iff.2 hc).1
        rw [plL_go k0, plL, k1, k2] at e
        rw [plN_yes e, plE_yes (by rw [hn]; simp)]
        simp only [if_true, List.length_cons, List.length_nil]
        rw [if_neg (by omega), ← List.drop_drop, hq]
        simp [lwN, lwL]
      | false =>
        rw [if_pos (by simp)]
        cases h2 : cutO q with
        | false => rw [plL_no h2] at e; exact plN_no e
        | true =>
          rw [plL_go h2, plL] at e
          rw [plN_yes e, plE_no (.inr ⟨hn, ?_⟩)]
          rcases Nat.eq_zero_or_pos (cutR q).length with h | h
          · rw [cut1_iff.1 ⟨h2, h⟩] at hc; cases hc
          · exact h
    · have hn : nCnt x.ty = 0 := by rw [nCnt, if_neg h6, if_neg h1]
      have ha : ahM x.ty = 0 := by rw [ahM, if_neg (by omega)]
      have e : plS x = some ([], x.da) := by rw [plS, hn, ha, List.take_zero, List.drop_zero, plL]
      rw [plN_yes e, plE_yes (by rw [hn]; omega), lowR, nam_no h6 h1, if_pos (by simp), List.nil_append]
set_option maxRecDepth 20000 in
set_option maxHeartbeats 2000000 in
theorem c_ciceroneref24_low (r : Rr) (hd : r.da.length ≤ 140737488351232) : AC Try.prog 102 [.agg (rrc r)] emp (Ret (str (lowR r))) := by
 have ha2 := ahM_le r.ty
 have hn2 := namS_le r.ty r.da
 have hnp := nam_parts (t := r.ty) (d := r.da)
 refine AC.intro te_ok (fn := Try.f102) ⟨Try.func102, rfl, rfl⟩ (Nat.le_of_ble_eq_true rfl) ?_
 refine AWp.seq ?_
 refine AWp.region ?_
 refine aC_ rfl rfl (q_box 100) ?_
 refine aC_ rfl rfl (q_assign) ?_
 refine AOps.nil ?_
 refine AWp.seq ?_
 refine AWp.region ?_
 refine aC_ rfl rfl (q_fa) ?_
 refine aC_ rfl rfl (q_load) ?_
 refine aC_ rfl rfl (q_fa) ?_
 refine aC_ rfl rfl (q_load) ?_
 refine aC_ rfl rfl (q_call (0) (hc := (c_ciceroneref03_Names r.ty r.da 0 (by omega)))) ?_
 refine aC_ rfl rfl (q_assign) ?_
 refine AOps.nil ?_
 refine AWp.seq ?_
 refine AWp.seq ?_
 refine AWp.region ?_
 refine aC_ rfl rfl (q_move) ?_
 refine aC_ rfl rfl (q_len) ?_
 refine AOps.dec rfl rfl (q_eql) (fun h2_2 => ?_) (fun h2_2 => ?_)
 ·
  refine AOps.nil ?_
  refine AWp.cond_t rfl ?_
  refine AWp.seq ?_
  refine AWp.region ?_
  refine aC_ rfl rfl (q_fa) ?_
  refine aC_ rfl rfl (q_load) ?_
  refine aC_ rfl rfl (by first | exact q_conv_zs | exact q_conv_ls) ?_
  refine aC_ rfl rfl (q_assign) ?_
  refine AOps.nil ?_
  refine AWp.ret ?_
  show Fin te Try.f102 _ _
  refine q_ret (0) [_] [_] ?_
  rw [lowR, if_pos (by omega)]; rfl
 ·
  refine AOps.nil ?_
  refine AWp.cond_f rfl ?_
  refine AWp.skip ?_
  refine AWp.seq ?_
  refine AWp.region ?_
  refine aC_ rfl rfl (q_assign) ?_
  refine AOps.nil ?_
  refine AWp.cutR (α := Nat) [4, 20, 21, 22] (fun ah => [(4, i64 ah)]) (fun ah => []) (fun ah => ah = ahM r.ty) ?_ ?_
  ·
   refine AWp.seq ?_
   refine AWp.region ?_
   refine aC_ rfl rfl (q_fa) ?_
   refine aC_ rfl rfl (q_load) ?_
   refine AOps.dec rfl rfl (q_eql) (fun h5_2 => ?_) (fun h5_2 => ?_)
   ·
    refine AOps.nil ?_
    refine AWp.cond_t rfl ?_
    refine AWp.region ?_
    refine aC_ rfl rfl (q_assign) ?_
    refine AOps.nil ?_
    refine ⟨2, ?_, Back.mk' (HasT.cons HasT.nil) HasH.nil⟩
    rw [ahM, if_pos h5_2]
   ·
    refine AOps.nil ?_
    refine AWp.cond_f rfl ?_
    refine AWp.skip ?_
    refine ⟨0, ?_, Back.mk' (HasT.cons HasT.nil) HasH.nil⟩
    rw [ahM, if_neg h5_2]
  ·
   rintro ah rfl
   refine AWp.seq ?_
   refine AWp.region ?_
   refine aC_ rfl rfl (q_fa) ?_
   refine aC_ rfl rfl (q_load) ?_
   refine aC_ rfl rfl (q_move) ?_
   refine aC_ rfl rfl (q_sl) ?_
   refine aC_ rfl rfl (by first | exact q_conv_zs | exact q_conv_ls) ?_
   refine aC_ rfl rfl (q_assign) ?_
   refine AOps.nil ?_
   refine AWp.seq ?_
   refine AWp.region ?_
   refine aC_ rfl rfl (q_move) ?_
   refine aC_ rfl rfl (q_assign) ?_
   refine AOps.nil ?_
   refine AWp.seq ?_
   refine AWp.seq ?_
   refine AWp.region ?_
   refine aC_ rfl rfl (q_move) ?_
   refine aC_ rfl rfl (q_len) ?_
   refine aC_ rfl rfl (q_move) ?_
   refine AOps.nil ?_
   refine AWp.block ?_
   refine AWp.loopR (α := Nat × List UInt8) [5, 6, 8, 31, 32, 33, 34, 35, 36, 37, 38, 39, 40, 41, 42, 43] (fun x_ => [(31, i64 (x_.1)), (5, str (x_.2)), (6, i64 (ahM r.ty + lwL ((namS r.ty r.da).take (x_.1)) : Nat))]) (fun x_ => []) (fun x_ => (x_.1) ≤ (namS r.ty r.da).length ∧ (x_.2) = r.da.take (ahM r.ty) ++ lwN ((namS r.ty r.da).take (x_.1)) ∧ (x_.2).length ≤ 2 + 255 * (x_.1)) (fun x_ => (namS r.ty r.da).length - (x_.1)) (0, _) ?_ (Back.mk' (HasT.cons (HasT.cons (HasT.cons HasT.nil))) HasH.nil) ?_
   ·
    exact ⟨Nat.zero_le _, by simp [lwN], by show (List.take _ r.da).length ≤ _; rw [List.length_take]; omega⟩
   ·
    rintro ⟨i, s⟩ hI10
    change i ≤ (namS r.ty r.da).length ∧ s = r.da.take (ahM r.ty) ++ lwN ((namS r.ty r.da).take i) ∧ s.length ≤ 2 + 255 * i at hI10
    obtain ⟨hi, hs, hsl⟩ := hI10
    refine AWp.as (s' := AS.over _ [5, 6, 8, 31, 32, 33, 34, 35, 36, 37, 38, 39, 40, 41, 42, 43] [(31, i64 i), (5, str s), (6, i64 (ahM r.ty + lwL ((namS r.ty r.da).take i) : Nat))] []) rfl ?_
    have hw1 := lwL_le (namS r.ty r.da) i
    have hw2 : i < (namS r.ty r.da).length → lwL ((namS r.ty r.da).take i) + ((namS r.ty r.da).getD i default).length ≤ lwL (namS r.ty r.da) := fun h => by rw [← lwL_step h]; exact lwL_le _ _
    have hw3 : ((namS r.ty r.da)[i]?.getD default).length = ((namS r.ty r.da).getD i default).length := by rw [List.getD_eq_getElem?_getD]
    have hll := lowN_len ((namS r.ty r.da).getD i default)
    refine AWp.seq ?_
    refine AWp.region ?_
    refine AOps.dec rfl rfl (q_lss) (fun h10_0 => ?_) (fun h10_0 => ?_)
    ·
     refine AOps.nil ?_
     refine AWp.seq ?_
     refine AWp.cond_t rfl ?_
     refine AWp.skip ?_
     refine AWp.seq ?_
     refine AWp.block ?_
     refine AWp.seq ?_
     refine AWp.region ?_
     refine aC_ rfl rfl (q_ix) ?_
     refine aC_ rfl rfl (q_load) ?_
     refine aC_ rfl rfl (q_assign) ?_
     refine AOps.nil ?_
     refine AWp.seq ?_
     refine AWp.region ?_
     refine aC_ rfl rfl (q_move) ?_
     refine aC_ rfl rfl (q_move) ?_
     refine aC_ rfl rfl (q_call (0) (hc := (c_ciceroneref01_Lower ((namS r.ty r.da).getD i default) (by have := hnp (by omega); omega)))) ?_
     refine aC_ rfl rfl (q_sadd (h := by omega)) ?_
     refine aC_ rfl rfl (q_assign) ?_
     refine AOps.nil ?_
     refine AWp.region ?_
     refine aC_ rfl rfl (q_move) ?_
     refine aC_ rfl rfl (q_move) ?_
     refine aC_ rfl rfl (q_len_str) ?_
     refine aC_ rfl rfl (q_add) ?_
     refine aC_ rfl rfl (q_assign) ?_
     refine AOps.nil ?_
     refine AWp.region ?_
     refine aC_ rfl rfl (q_add) ?_
     refine aC_ rfl rfl (q_move) ?_
     refine AOps.nil ?_
     refine ⟨(i + 1, _), ?_, Back.mk' (HasT.cons (HasT.cons (HasT.cons HasT.nil (h1 := by exact i64_eq (by rw [lwL_step (by omega)]; show ((ahM r.ty + lwL ((namS r.ty r.da).take i) : Nat) : Int) + (((namS r.ty r.da).getD i default).length : Int) = _; omega)) ))) HasH.nil, ?_⟩
     ·
      try dsimp only
      exact ⟨by omega, by rw [lwN_step (by omega), ← List.append_assoc, ← hs], by rw [List.length_append]; show s.length + (lowN ((namS r.ty r.da).getD i default)).length ≤ _; omega⟩
     ·
      try dsimp only
      first | omega | (simp; omega)
    ·
     refine AOps.nil ?_
     refine AWp.seq ?_
     refine AWp.cond_f rfl ?_
     refine AWp.exit ?_
     refine AWp.seq ?_
     refine AWp.region ?_
     obtain rfl : i = (namS r.ty r.da).length := by omega
     rw [List.take_length] at hs
     rw [List.take_length]
     have hdl : (List.drop ((ahM r.ty + lwL (namS r.ty r.da) : Nat) : Int).toNat r.da).length ≤ r.da.length := by rw [List.length_drop]; omega
     refine aC_ rfl rfl (q_move) ?_
     refine aC_ rfl rfl (q_fa) ?_
     refine aC_ rfl rfl (q_load) ?_
     refine aC_ rfl rfl (q_move) ?_
     refine aC_ rfl rfl (q_sl) ?_
     refine aC_ rfl rfl (by first | exact q_conv_zs | exact q_conv_ls) ?_
     refine aC_ rfl rfl (q_sadd (h := by omega)) ?_
     refine aC_ rfl rfl (q_assign) ?_
     refine AOps.nil ?_
     refine AWp.ret ?_
     show Fin te Try.f102 _ _
     refine q_ret (0) [_] [_] ?_
     rw [lowR, if_neg (by omega), hs]; rfl
end Go.Proofs.Ytokccoloholgaaa.Fw


set_option linter.unusedVariables false
set_option linter.unusedSimpArgs false
namespace Go.Proofs.Ytokccoloholgaaa.Fw
open Go.RowKit
inductive RunE where
  | f (l : List Rr)
  | o (id v n : Nat)
  deriving Inhabited
def rfa : RunE → AV
  | .f l => .fz 0 l.length (cl rrc l)
  | .o id v n => .sl id v 0 n 5
def rf (x : RunE) : List AV := [rfa x]
theorem rf_one : ∀ x, (rf x).all AV.one = true
  | .f _ => rfl
  | .o .. => rfl
def keyE (a b : Rr) : Bool := decide (a.ty = b.ty) && sameN a.nm b.nm
def rnA (p : List (List Rr) × List Rr) (r : Rr) : List (List Rr) × List Rr := match p.2 with
  | [] => (p.1, [r])
  | h :: t => if keyE h r then (p.1, h :: t ++ [r]) else (p.1 ++ [h :: t], [r])
theorem keyE_ne {a b : Rr} (h : ¬ a.ty = b.ty) : keyE a b = false := by rw [keyE, decide_eq_false h]; rfl
theorem keyE_no {a b : Rr} (h : sameN a.nm b.nm = false) : keyE a b = false := by rw [keyE, h, Bool.and_false]
theorem keyE_yes {a b : Rr} (h1 : a.ty = b.ty) (h : sameN a.nm b.nm = true) : keyE a b = true := by rw [keyE, h, decide_eq_true h1]; rfl
def rnF (l : List Rr) : List (List Rr) × List Rr := l.foldl rnA ([], [])
def rnD (p : List (List Rr) × List Rr) : List (List Rr) := match p.2 with
  | [] => p.1
  | h :: t => p.1 ++ [h :: t]
def rnO (l : List Rr) : Bool := l.all fun r => canN r.nm
def rnV (l : List Rr) : List (List Rr) := if rnO l then rnD (rnF l) else []
def rnX (D : List (List Rr)) (run : List Rr) (k v : Nat) : List RunE := match run with
  | [] => D.map .f
  | h :: t => D.map .f ++ [.o k v (h :: t).length]
theorem rnF_step {l : List Rr} {i : Nat} (h : i < l.length) : rnF (l.take (i + 1)) = rnA (rnF (l.take i)) (l.getD i default) := by rw [take_step' h, rnF, List.foldl_append]; rfl
theorem rnA_yes {D : List (List Rr)} {h r : Rr} {t : List Rr} (k : keyE h r = true) : rnA (D, h :: t) r = (D, h :: t ++ [r]) := by simp [rnA, k]
theorem rnA_no {D : List (List Rr)} {h r : Rr} {t : List Rr} (k : keyE h r = false) : rnA (D, h :: t) r = (D ++ [h :: t], [r]) := by simp [rnA, k]
theorem rnA_one (p : List (List Rr) × List Rr) (r : Rr) : (rnA p r).1.length + (rnA p r).2.length ≤ p.1.length + p.2.length + 1 ∧ (rnA p r).2 ≠ [] ∧ (∀ x ∈ (rnA p r).2, x ∈ p.2 ∨ x = r) := by
  obtain ⟨D, run⟩ := p
  cases run with
  | nil => simp [rnA]
  | cons a t =>
    cases hk : keyE a r with
    | true => rw [rnA_yes hk]; refine ⟨by simp; omega, by simp, fun x hx => ?_⟩; rcases List.mem_append.1 hx with hx | hx; exact .inl hx; exact .inr (List.mem_singleton.1 hx)
    | false => rw [rnA_no hk]; refine ⟨by simp only [List.length_append, List.length_cons, List.length_nil]; omega, by simp, fun x hx => .inr (List.mem_singleton.1 hx)⟩
theorem rnF_from : ∀ (l : List Rr) (p : List (List Rr) × List Rr), (l.foldl rnA p).1.length + (l.foldl rnA p).2.length ≤ p.1.length + p.2.length + l.length ∧ ((l.foldl rnA p).2 = [] → l = [] ∧ p.2 = []) ∧ (∀ x ∈ (l.foldl rnA p).2, x ∈ p.2 ∨ x ∈ l)
  | [], p => ⟨by simp, fun h => ⟨rfl, h⟩, fun x hx => .inl hx⟩
  | r :: l, p => by
    obtain ⟨h1, h2, h3⟩ := rnF_from l (rnA p r)
    obtain ⟨k1, k2, k3⟩ := rnA_one p r
    refine ⟨by simp only [List.foldl_cons, List.length_cons]; omega, fun h => absurd (h2 h).2 k2, fun x hx => ?_⟩
    rcases h3 x hx with hx | hx
    · rcases k3 x hx with hx | rfl
      · exact .inl hx
      · exact .inr List.mem_cons_self
    · exact .inr (List.mem_cons_of_mem _ hx)
theorem rnF_inv (l : List Rr) : (rnF l).1.length + (rnF l).2.length ≤ l.length ∧ ((rnF l).2 = [] → l = []) ∧ (∀ x ∈ (rnF l).2, x ∈ l) ∧ (l = [] → (rnF l).1 = []) := by
  obtain ⟨h1, h2, h3⟩ := rnF_from l ([], [])
  refine ⟨by simpa [rnF] using h1, fun h => (h2 h).1, fun x hx => ?_, fun h => by rw [h]; rfl⟩
  rcases h3 x hx with hx | hx
  · cases hx
  · exact hx
theorem rn_split {k : Nat} {run : List Rr} (h : k = 100 ∨ k = 802 ∧ run ≠ []) : (run = [] ∧ k = 100) ∨ (∃ r0 rs, run = r0 :: rs ∧ k = 100) ∨ (∃ r0 rs, run = r0 :: rs ∧ k = 802) := by
  cases run with
  | nil => rcases h with h | h; exact .inl ⟨rfl, h⟩; exact absurd rfl h.2
  | cons a t => rcases h with h | h; exact .inr (.inl ⟨a, t, rfl, h⟩); exact .inr (.inr ⟨a, t, rfl, h.1⟩)
theorem key3 (p : Prop) [Decidable p] (b : Bool) : ¬ p ∨ (p ∧ b = false) ∨ (p ∧ b = true) := by
  by_cases h : p
  · cases b <;> simp [h]
  · exact .inl h
theorem rnX_len {D : List (List Rr)} {r0 : Rr} {rs : List Rr} {k v : Nat} : (rnX D (r0 :: rs) k v).length = D.length + 1 := by simp [rnX]
theorem rnX_get {D : List (List Rr)} {r0 : Rr} {rs : List Rr} {k v : Nat} : (rnX D (r0 :: rs) k v).getD D.length default = .o k v (r0 :: rs).length := by
  rw [rnX, List.getD_eq_getElem?_getD, List.getElem?_append_right (by simp)]; simp
theorem rnX_set {D : List (List Rr)} {r0 : Rr} {rs : List Rr} {k v v2 m : Nat} : (rnX D (r0 :: rs) k v).set D.length (.o k v2 m) = D.map .f ++ [.o k v2 m] := by
  rw [rnX, List.set_append_right _ _ (by simp)]; simp
section
variable {ρ : Nat → Bool} {σ : IdMap} {h : Heap}
theorem lvs_app : ∀ {l1 m1 l2 m2 : List AV}, LVals ρ σ h 0 0 l1 m1 → LVals ρ σ h 0 0 l2 m2 → LVals ρ σ h 0 0 (l1 ++ l2) (m1 ++ m2)
  | [], [], _, _, _, h2 => h2
  | _ :: _, _ :: _, _, _, h1, h2 => ⟨h1.1, lvs_app h1.2 h2⟩
  | [], _ :: _, _, _, h1, _ => h1.elim
  | _ :: _, [], _, _, h1, _ => h1.elim
theorem lvs_f : ∀ {D : List (List Rr)}, LVals ρ σ h 0 0 (cl rf (D.map .f)) (cl rf (D.map .f))
  | [] => trivial
  | a :: D => ⟨lv_ok rfl, lvs_f⟩
theorem lvs_f2 : ∀ {D : List (List Rr)}, LVals ρ σ h 0 0 (cl rf (D.map .f)) (cl (lc 0 rrc) D)
  | [] => trivial
  | a :: D => ⟨lv_ok rfl, lvs_f2⟩
theorem run_keep {D : List (List Rr)} {k v n : Nat} (e : σ.get k = some k) (hρ : ρ k = false) : LVals ρ σ h 0 0 (cl rf (D.map .f ++ [.o k v n])) (cl rf (D.map .f ++ [.o k v n])) := by
  rw [cl_append]
  exact lvs_app lvs_f ⟨lv_sl e hρ, trivial⟩
theorem run_last {k v : Nat} {run : List Rr} (hk : h k = some (.row (cl rrc run) 5 v)) (e : σ.inv k = none) : LVal ρ σ h 0 0 (.sl k v 0 run.length 5) (.fz 0 run.length (cl rrc run)) :=
  lv_row0 e hk .row (fun _ => rfl) (by decide) (fun _ => rfl)
theorem run_new {D : List (List Rr)} {k v k2 m n : Nat} {run : List Rr} (hk : h k = some (.row (cl rrc run) 5 v)) (e : σ.inv k = none) (e2 : σ.get k2 = some k2) (hρ : ρ k2 = false) :
    LVals ρ σ h 0 0 (cl rf ((D.map .f ++ [.o k v run.length]) ++ [.o k2 m n])) (cl rf ((D ++ [run]).map .f ++ [.o k2 m n])) := by
  rw [List.map_append, cl_append, cl_append, cl_append, cl_append]
  exact lvs_app (lvs_app lvs_f ⟨run_last hk e, trivial⟩) ⟨lv_sl e2 hρ, trivial⟩
theorem run_end {D : List (List Rr)} {k v : Nat} {run : List Rr} (hk : h k = some (.row (cl rrc run) 5 v)) (e : σ.inv k = none) : LVals ρ σ h 0 0 (cl rf (D.map .f ++ [.o k v run.length])) (cl (lc 0 rrc) (D ++ [run])) := by
  rw [cl_append, cl_append]
  exact lvs_app lvs_f2 ⟨run_last hk e, trivial⟩
end
theorem rnO_step {l : List Rr} {i : Nat} (h : i < l.length) (h1 : rnO (l.take i) = true) (h2 : canN (l.getD i default).nm = true) : rnO (l.take (i + 1)) = true := all_step h h1 h2
theorem rnO_no {l : List Rr} {i : Nat} (h : i < l.length) (h2 : canN (l.getD i default).nm = false) : rnO l = false := all_no h h2
theorem rnV_no {l : List Rr} (h : rnO l = false) : rnV l = [] := by rw [rnV, h]; rfl
theorem rnV_yes {l : List Rr} (h : rnO l = true) : rnV l = rnD (rnF l) := by rw [rnV, h]; rfl
set_option maxRecDepth 20000 in
set_option maxHeartbeats 2000000 in
theorem c_audit_runs (l : List Rr) (hl : RrsOk l) (hn : ∀ x ∈ l, x.nm.length ≤ 140737488351232) : AC Try.prog 67 [.fz 0 l.length (cl rrc l)] emp (Ret (.tup [.fz 0 (rnV l).length (cl (lc 0 rrc) (rnV l)), tf (rnO l)])) := by
 have hb1 := hl.1
 refine AC.intro te_ok (fn := Try.f67) ⟨Try.func67, rfl, rfl⟩ (Nat.le_of_ble_eq_true rfl) ?_
 refine AWp.seq ?_
 refine AWp.region ?_
 refine aC_ rfl rfl (q_nilrow 100 5 rrc) ?_
 refine aC_ rfl rfl (q_assign) ?_
 refine AOps.nil ?_
 refine AWp.seq ?_
 refine AWp.region ?_
 refine aC_ rfl rfl (q_nilrow 200 1 rf) ?_
 refine AOps.nil ?_
 refine AWp.seq ?_
 refine AWp.seq ?_
 refine AWp.region ?_
 refine aC_ rfl rfl (q_move) ?_
 refine aC_ rfl rfl (q_len) ?_
 refine aC_ rfl rfl (q_move) ?_
 refine AOps.nil ?_
 refine AWp.block ?_
 refine AWp.loopI (α := Nat × List RunE × Nat × List (List Rr) × List Rr × Nat × Nat × Nat) (fun x_ => mkS [(8, .fz 0 l.length (cl rrc l)), (9, i64 l.length), (10, i64 (x_.1)), (4, .sl 200 (x_.2.2.2.2.2.2.1) 0 (x_.2.2.1) 1)] [(200, .row (cl rf (x_.2.1)) 1 (x_.2.2.2.2.2.2.1)), ((x_.2.2.2.2.2.1), .row (cl rrc (x_.2.2.2.2.1)) 5 (x_.2.2.2.2.2.2.2))]) (fun x_ => (x_.1) ≤ l.length ∧ ((x_.2.2.2.2.2.1) = 100 ∨ (x_.2.2.2.2.2.1) = 802 ∧ (x_.2.2.2.2.1) ≠ []) ∧ (x_.2.2.1) = (x_.2.1).length ∧ rnF (l.take (x_.1)) = ((x_.2.2.2.1), (x_.2.2.2.2.1)) ∧ (x_.2.1) = rnX (x_.2.2.2.1) (x_.2.2.2.2.1) (x_.2.2.2.2.2.1) (x_.2.2.2.2.2.2.2) ∧ rnO (l.take (x_.1)) = true) (fun x_ => l.length - (x_.1)) (0, [], 0, [], [], 100, 0, 0) ?_ (Weak.full (0) [] (hobj := ⟨rfl, ⟨_, rfl, rfl, rfl, trivial⟩, rfl, ⟨_, rfl, rfl, rfl, trivial⟩, trivial⟩)) ?_
 ·
  exact ⟨Nat.zero_le _, .inl rfl, rfl, rfl, rfl, rfl⟩
 ·
  rintro ⟨i, xs, n, D, run, k, v, vr⟩ hI3
  change i ≤ l.length ∧ (k = 100 ∨ k = 802 ∧ run ≠ []) ∧ n = xs.length ∧ rnF (l.take i) = (D, run) ∧ xs = rnX D run k vr ∧ rnO (l.take i) = true at hI3
  obtain ⟨hi, hk, hnx, hf, hxs, hO⟩ := hI3
  refine AWp.as (s' := mkS [(8, .fz 0 l.length (cl rrc l)), (9, i64 l.length), (10, i64 i), (4, .sl 200 v 0 n 1)] [(200, .row (cl rf xs) 1 v), (k, .row (cl rrc run) 5 vr)]) rfl ?_
  have hv := rnF_inv (l.take i)
  rw [hf] at hv
  obtain ⟨hsz, hnil, hmem, hD⟩ := hv
  dsimp only at hsz hnil hmem hD
  rw [List.length_take] at hsz
  refine AWp.seq ?_
  refine AWp.region ?_
  rcases rn_split hk with ⟨rfl, rfl⟩ | ⟨r0, rs, rfl, rfl⟩ | ⟨r0, rs, rfl, rfl⟩
  ·
   have hl0 := hnil rfl
   obtain rfl : D = [] := hD hl0
   obtain rfl : xs = [] := hxs
   obtain rfl : n = 0 := hnx
   refine AOps.dec rfl rfl (q_lss) (fun h3_0 => ?_) (fun h3_0 => ?_)
   ·
    refine AOps.nil ?_
    refine AWp.seq ?_
    refine AWp.cond_t rfl ?_
    refine AWp.skip ?_
    refine AWp.seq ?_
    refine AWp.block ?_
    refine AWp.seq ?_
    refine AWp.region ?_
    have hri := hn _ (getD_mem' (l := l) (i := i) (by omega))
    refine aC_ rfl rfl (q_ix) ?_
    refine aC_ rfl rfl (q_load) ?_
    refine aC_ rfl rfl (q_alloc 502) ?_
    refine aC_ rfl rfl (q_store) ?_
    refine AOps.nil ?_
    refine AWp.seq ?_
    refine AWp.region ?_
    refine aC_ rfl rfl (q_move) ?_
    refine aC_ rfl rfl (q_len) ?_
    refine aC_ rfl rfl (q_sub) ?_
    refine aC_ rfl rfl (q_assign) ?_
    refine AOps.nil ?_
    refine AWp.block ?_
    refine AWp.seq ?_
    refine AWp.region ?_
    refine aC_ rfl rfl (q_fa) ?_
    refine aC_ rfl rfl (q_load) ?_
    refine AOps.bool rfl rfl (q_call (0) (hc := (c_name_Can (l.getD i default).nm (by omega)))) (fun h7_2 => ?_) (fun h7_2 => ?_)
    ·
     refine aC_ rfl rfl (q_not) ?_
     refine aC_ rfl rfl (q_assign) ?_
     refine AOps.nil ?_
     refine AWp.cond_f rfl ?_
     refine AWp.seq ?_
     refine AWp.draws [⟨0, [7], [], some 28, _, none⟩,
 ⟨1, [28], [], some 29, _, none⟩,
 ⟨2, [29], [], some 30, _, none⟩,
 ⟨3, [30], [], some 31, .v undef, none⟩,
 ⟨4, [30], [], some 32, .v undef, none⟩,
 ⟨5, [30], [], some 33, .v undef, none⟩,
 ⟨6, [30], [], some 34, .v undef, none⟩,
 ⟨7, [30], [], some 35, .v undef, none⟩,
 ⟨8, [30], [], some 36, .v undef, none⟩,
 ⟨9, [30], [], some 37, .v undef, none⟩,
 ⟨10, [30], [], some 38, .v undef, none⟩,
 ⟨11, [30], [], some 39, .v undef, none⟩,
 ⟨12, [30], [], some 40, .v undef, none⟩,
 ⟨13, [30, 40], [], some 41, _, none⟩,
 ⟨14, [41], [], some 42, _, none⟩,
 ⟨15, [42], [], some 43, .v undef, none⟩,
 ⟨16, [42], [], some 44, .v undef, none⟩,
 ⟨17, [42], [], some 45, .v undef, none⟩,
 ⟨18, [42], [], some 46, .v undef, none⟩,
 ⟨19, [42], [], some 47, .v undef, none⟩,
 ⟨20, [42], [], some 48, .v undef, none⟩,
 ⟨21, [42], [], some 49, .v undef, none⟩,
 ⟨22, [42], [], some 50, .v undef, none⟩,
 ⟨23, [42], [], some 51, .v undef, none⟩,
 ⟨24, [42], [], some 52, .v undef, none⟩,
 ⟨25, [42, 52], [], some 53, _, none⟩,
 ⟨26, [53], [], some 27, _, none⟩]
      [kN_ 0 [7] [] 28,
 kN_ 1 [28] [] 29,
 kN_ 2 [29] [] 30,
 kN_ 3 [30] [] 31,
 kN_ 4 [30] [] 32,
 kN_ 5 [30] [] 33,
 kN_ 6 [30] [] 34,
 kN_ 7 [30] [] 35,
 kN_ 8 [30] [] 36,
 kN_ 9 [30] [] 37,
 kN_ 10 [30] [] 38,
 kN_ 11 [30] [] 39,
 kN_ 12 [30] [] 40,
 kN_ 13 [30, 40] [] 41,
 kN_ 14 [41] [] 42,
 kN_ 15 [42] [] 43,
 kN_ 16 [42] [] 44,
 kN_ 17 [42] [] 45,
 kN_ 18 [42] [] 46,
 kN_ 19 [42] [] 47,
 kN_ 20 [42] [] 48,
 kN_ 21 [42] [] 49,
 kN_ 22 [42] [] 50,
 kN_ 23 [42] [] 51,
 kN_ 24 [42] [] 52,
 kN_ 25 [42, 52] [] 53,
 kN_ 26 [53] [] 27]
      mixed_ok rfl (by kernel_rfl) ⟨dK_ fun s0 => oG_ rfl rfl (q_move),
 dK_ fun s0 => oG_ rfl rfl ((OpOk.dec_f (q_geq) (by simp))),
 dK_ fun s0 => oG_ rfl rfl (q_move),
 dK_ fun s0 => oS_ rfl rfl rfl rfl rfl rfl rfl rfl,
 dK_ fun s0 => oS_ rfl rfl rfl rfl rfl rfl rfl rfl,
 dK_ fun s0 => oS_ rfl rfl rfl rfl rfl rfl rfl rfl,
 dK_ fun s0 => oS_ rfl rfl rfl rfl rfl rfl rfl rfl,
 dK_ fun s0 => oS_ rfl rfl rfl rfl rfl rfl rfl rfl,
 dK_ fun s0 => oS_ rfl rfl rfl rfl rfl rfl rfl rfl,
 dK_ fun s0 => oS_ rfl rfl rfl rfl rfl rfl rfl rfl,
 dK_ fun s0 => oS_ rfl rfl rfl rfl rfl rfl rfl rfl,
 dK_ fun s0 => oS_ rfl rfl rfl rfl rfl rfl rfl rfl,
 dK_ fun s0 => oS_ rfl rfl rfl rfl rfl rfl rfl rfl,
 dK_ fun s0 => oG_ rfl rfl (q_pick),
 dK_ fun s0 => oG_ rfl rfl (q_move),
 dK_ fun s0 => oS_ rfl rfl rfl rfl rfl rfl rfl rfl,
 dK_ fun s0 => oS_ rfl rfl rfl rfl rfl rfl rfl rfl,
 dK_ fun s0 => oS_ rfl rfl rfl rfl rfl rfl rfl rfl,
 dK_ fun s0 => oS_ rfl rfl rfl rfl rfl rfl rfl rfl,
 dK_ fun s0 => oS_ rfl rfl rfl rfl rfl rfl rfl rfl,
 dK_ fun s0 => oS_ rfl rfl rfl rfl rfl rfl rfl rfl,
 dK_ fun s0 => oS_ rfl rfl rfl rfl rfl rfl rfl rfl,
 dK_ fun s0 => oS_ rfl rfl rfl rfl rfl rfl rfl rfl,
 dK_ fun s0 => oS_ rfl rfl rfl rfl rfl rfl rfl rfl,
 dK_ fun s0 => oS_ rfl rfl rfl rfl rfl rfl rfl rfl,
 dK_ fun s0 => oG_ rfl rfl (q_pick),
 dK_ fun s0 => oG_ rfl rfl (q_assign), trivial⟩ ?_
     dsimp only [final, DS.upd, AS.seto]
     refine AWp.cond_f rfl ?_
     refine AWp.region ?_
     refine aC_ rfl rfl (q_move) ?_
     refine aC_ rfl rfl (q_load) ?_
     refine aC_ rfl rfl (q_bs 802 rrc [(l.getD i default)] [(_, _)]) ?_
     refine aC_ rfl rfl (q_bs 803 rf [.o 802 0 1] [(_, _)]) ?_
     refine aC_ rfl rfl (q_appo 0 (l := ([] : List RunE)) (f := rf) (m := [.o 802 0 1]) (h1 := rf_one) (hb := by decide)) ?_
     refine aC_ rfl rfl (q_assign) ?_
     refine AOps.nil ?_
     refine AWp.region ?_
     refine aC_ rfl rfl (q_add) ?_
     refine aC_ rfl rfl (q_move) ?_
     refine AOps.nil ?_
     refine ⟨(i + 1, [.o 802 0 1], 1, [], [(l.getD i default)], 802, v + 1, 0), ?_, Weak.full (0) [] (hobj := ⟨rfl, ⟨_, rfl, rfl, rfl, run_keep (D := []) rfl rfl⟩, rfl, ⟨_, rfl, lobj_row (fun _ => rfl)⟩, trivial⟩), ?_⟩
     ·
      try dsimp only
      exact ⟨by omega, .inr ⟨rfl, by simp⟩, rfl, by rw [rnF_step (by omega), hf]; rfl, rfl, rnO_step (by omega) hO h7_2⟩
     ·
      try dsimp only
      first | omega | (simp; omega)
    ·
     refine aC_ rfl rfl (q_not) ?_
     refine aC_ rfl rfl (q_assign) ?_
     refine AOps.nil ?_
     refine AWp.cond_t rfl ?_
     refine AWp.seq ?_
     refine AWp.region ?_
     refine aC_ rfl rfl (q_nilz (0) (lc 0 rrc)) ?_
     refine aC_ rfl rfl (q_assign) ?_
     refine AOps.nil ?_
     refine AWp.ret ?_
     show Fin te Try.f67 _ _
     refine q_ret (0) [_, _] [_, _] ?_
     have ho : rnO l = false := rnO_no (i := i) (by omega) h7_2
     rw [rnV_no ho, ho]; rfl
   ·
    refine AOps.nil ?_
    refine AWp.seq ?_
    refine AWp.cond_f rfl ?_
    refine AWp.exit ?_
    refine AWp.seq ?_
    refine AWp.region ?_
    obtain rfl : i = l.length := by omega
    rw [List.take_length] at hl0
    subst hl0
    refine AOps.weak (Weak.full 0 [] (t := [(4, .sl 200 v 0 ([] : List (List Rr)).length 1)]) (hl := [(200, .row (cl (lc 0 rrc) []) 1 v)]) (hobj := ⟨rfl, ⟨_, rfl, rfl, rfl, trivial⟩, trivial⟩)) ?_
    refine aC_ rfl rfl (q_move) ?_
    refine aC_ rfl rfl (q_assign) ?_
    refine aC_ rfl rfl (q_assign) ?_
    refine AOps.nil ?_
    refine AWp.ret ?_
    show Fin te Try.f67 _ _
    refine q_ret (0) [_, _] [_, _] ?_
    rfl
  ·
   have hxl : xs.length = D.length + 1 := by rw [hxs]; exact rnX_len
   have hld : mkAV false (rf (xs.getD ((n : Int) - 1).toNat default)) = .sl 100 vr 0 (r0 :: rs).length 5 := by rw [show ((n : Int) - 1).toNat = D.length by omega, hxs, rnX_get]; rfl
   have hr0 : r0.nm.length ≤ 140737488351232 := hn _ (List.mem_of_mem_take (hmem r0 (by simp)))
   refine AOps.dec rfl rfl (q_lss) (fun h3_0 => ?_) (fun h3_0 => ?_)
   ·
    refine AOps.nil ?_
    refine AWp.seq ?_
    refine AWp.cond_t rfl ?_
    refine AWp.skip ?_
    refine AWp.seq ?_
    refine AWp.block ?_
    refine AWp.seq ?_
    refine AWp.region ?_
    have hri := hn _ (getD_mem' (l := l) (i := i) (by omega))
    refine aC_ rfl rfl (q_ix) ?_
    refine aC_ rfl rfl (q_load) ?_
    refine aC_ rfl rfl (q_alloc 502) ?_
    refine aC_ rfl rfl (q_store) ?_
    refine AOps.nil ?_
    refine AWp.seq ?_
    refine AWp.region ?_
    refine aC_ rfl rfl (q_move) ?_
    refine aC_ rfl rfl (q_len) ?_
    refine aC_ rfl rfl (q_sub) ?_
    refine aC_ rfl rfl (q_assign) ?_
    refine AOps.nil ?_
    refine AWp.block ?_
    refine AWp.seq ?_
    refine AWp.region ?_
    refine aC_ rfl rfl (q_fa) ?_
    refine aC_ rfl rfl (q_load) ?_
    refine AOps.bool rfl rfl (q_call (0) (hc := (c_name_Can (l.getD i default).nm (by omega)))) (fun h7_2 => ?_) (fun h7_2 => ?_)
    ·
     refine aC_ rfl rfl (q_not) ?_
     refine aC_ rfl rfl (q_assign) ?_
     refine AOps.nil ?_
     refine AWp.cond_f rfl ?_
     refine AWp.seq ?_
     rcases key3 (r0.ty = (l.getD i default).ty) (sameN r0.nm (l.getD i default).nm) with h1 | ⟨h1, h2⟩ | ⟨h1, h2⟩
     ·
      refine AWp.draws [⟨0, [7], [], some 28, _, none⟩,
 ⟨1, [28], [], some 29, _, none⟩,
 ⟨2, [29], [], some 30, _, none⟩,
 ⟨3, [4, 30], [], some 31, _, none⟩,
 ⟨4, [7, 30], [], some 32, _, none⟩,
 ⟨5, [30, 31, 32], [200], some 33, _, none⟩,
 ⟨6, [30, 33], [200], some 34, _, none⟩,
 ⟨7, [30, 34], [100], some 35, _, none⟩,
 ⟨8, [30, 35], [100], some 36, _, none⟩,
 ⟨9, [30, 36], [100], some 37, _, none⟩,
 ⟨10, [6, 30], [502], some 38, _, none⟩,
 ⟨11, [30, 38], [502], some 39, _, none⟩,
 ⟨12, [30, 37, 39], [], some 40, _, none⟩,
 ⟨13, [30, 40], [], some 41, _, none⟩,
 ⟨14, [41], [], some 42, _, none⟩,
 ⟨15, [42], [], some 43, .v undef, none⟩,
 ⟨16, [42], [], some 44, .v undef, none⟩,
 ⟨17, [42], [], some 45, .v undef, none⟩,
 ⟨18, [42], [], some 46, .v undef, none⟩,
 ⟨19, [42], [], some 47, .v undef, none⟩,
 ⟨20, [42], [], some 48, .v undef, none⟩,
 ⟨21, [42], [], some 49, .v undef, none⟩,
 ⟨22, [42], [], some 50, .v undef, none⟩,
 ⟨23, [42], [], some 51, .v undef, none⟩,
 ⟨24, [42], [], some 52, .v undef, none⟩,
 ⟨25, [42, 52], [], some 53, _, none⟩,
 ⟨26, [53], [], some 27, _, none⟩]
       [kN_ 0 [7] [] 28,
 kN_ 1 [28] [] 29,
 kN_ 2 [29] [] 30,
 kN_ 3 [4, 30] [] 31,
 kN_ 4 [7, 30] [] 32,
 kN_ 5 [30, 31, 32] [200] 33,
 kN_ 6 [30, 33] [200] 34,
 kN_ 7 [30, 34] [100] 35,
 kN_ 8 [30, 35] [100] 36,
 kN_ 9 [30, 36] [100] 37,
 kN_ 10 [6, 30] [502] 38,
 kN_ 11 [30, 38] [502] 39,
 kN_ 12 [30, 37, 39] [] 40,
 kN_ 13 [30, 40] [] 41,
 kN_ 14 [41] [] 42,
 kN_ 15 [42] [] 43,
 kN_ 16 [42] [] 44,
 kN_ 17 [42] [] 45,
 kN_ 18 [42] [] 46,
 kN_ 19 [42] [] 47,
 kN_ 20 [42] [] 48,
 kN_ 21 [42] [] 49,
 kN_ 22 [42] [] 50,
 kN_ 23 [42] [] 51,
 kN_ 24 [42] [] 52,
 kN_ 25 [42, 52] [] 53,
 kN_ 26 [53] [] 27]
       mixed_ok rfl (by kernel_rfl) ⟨dK_ fun s0 => oG_ rfl rfl (q_move),
 dK_ fun s0 => oG_ rfl rfl ((OpOk.dec_t (q_geq) (by omega))),
 dK_ fun s0 => oG_ rfl rfl (q_move),
 dK_ fun s0 => oO_ rfl rfl rfl rfl rfl (q_move),
 dK_ fun s0 => oO_ rfl rfl rfl rfl rfl (q_move),
 dK_ fun s0 => oO_ rfl rfl rfl rfl rfl (q_ix),
 dK_ fun s0 => oO_ rfl rfl rfl rfl rfl (q_load (z := .sl 100 vr 0 (r0 :: rs).length 5) (hz := by exact .el (f := rf) (l := xs) rfl .row (fun _ => rfl) (by omega)) (hy := by exact hld)),
 dK_ fun s0 => oO_ rfl rfl rfl rfl rfl (q_ix (h1 := by simp <;> omega)),
 dK_ fun s0 => oO_ rfl rfl rfl rfl rfl (q_fa),
 dK_ fun s0 => oO_ rfl rfl rfl rfl rfl (q_load),
 dK_ fun s0 => oO_ rfl rfl rfl rfl rfl (q_fa),
 dK_ fun s0 => oO_ rfl rfl rfl rfl rfl (q_load),
 dK_ fun s0 => oO_ rfl rfl rfl rfl rfl ((OpOk.dec_f (q_eql) (h1))),
 dK_ fun s0 => oG_ rfl rfl (q_pick),
 dK_ fun s0 => oG_ rfl rfl (q_move),
 dK_ fun s0 => oS_ rfl rfl rfl rfl rfl rfl rfl rfl,
 dK_ fun s0 => oS_ rfl rfl rfl rfl rfl rfl rfl rfl,
 dK_ fun s0 => oS_ rfl rfl rfl rfl rfl rfl rfl rfl,
 dK_ fun s0 => oS_ rfl rfl rfl rfl rfl rfl rfl rfl,
 dK_ fun s0 => oS_ rfl rfl rfl rfl rfl rfl rfl rfl,
 dK_ fun s0 => oS_ rfl rfl rfl rfl rfl rfl rfl rfl,
 dK_ fun s0 => oS_ rfl rfl rfl rfl rfl rfl rfl rfl,
 dK_ fun s0 => oS_ rfl rfl rfl rfl rfl rfl rfl rfl,
 dK_ fun s0 => oS_ rfl rfl rfl rfl rfl rfl rfl rfl,
 dK_ fun s0 => oS_ rfl rfl rfl rfl rfl rfl rfl rfl,
 dK_ fun s0 => oG_ rfl rfl (q_pick),
 dK_ fun s0 => oG_ rfl rfl (q_assign), trivial⟩ ?_
      dsimp only [final, DS.upd, AS.seto]
      refine AWp.cond_f rfl ?_
      refine AWp.region ?_
      refine aC_ rfl rfl (q_move) ?_
      refine aC_ rfl rfl (q_load) ?_
      refine aC_ rfl rfl (q_bs 802 rrc [(l.getD i default)] [(_, _)]) ?_
      refine aC_ rfl rfl (q_bs 803 rf [.o 802 0 1] [(_, _)]) ?_
      refine aC_ rfl rfl (q_appo 0 (l := xs) (f := rf) (m := [.o 802 0 1]) (h1 := rf_one) (hb := by simp; omega)) ?_
      refine aC_ rfl rfl (q_assign) ?_
      refine AOps.nil ?_
      refine AWp.region ?_
      refine aC_ rfl rfl (q_add) ?_
      refine aC_ rfl rfl (q_move) ?_
      refine AOps.nil ?_
      refine ⟨(i + 1, (D ++ [r0 :: rs]).map .f ++ [.o 802 0 1], (xs.drop 0 ++ [RunE.o 802 0 1]).length, D ++ [r0 :: rs], [(l.getD i default)], 802, v + 1, 0), ?_, Weak.full (0) [] (hobj := ⟨rfl, ⟨_, rfl, rfl, rfl, by rw [show xs.drop 0 = D.map .f ++ [.o 100 vr (r0 :: rs).length] from hxs]; exact run_new rfl rfl rfl rfl⟩, rfl, ⟨_, rfl, lobj_row (fun _ => rfl)⟩, trivial⟩), ?_⟩
      ·
       try dsimp only
       exact ⟨by omega, .inr ⟨rfl, by simp⟩, by simp; omega, by rw [rnF_step (by omega), hf]; exact rnA_no (keyE_ne h1), rfl, rnO_step (by omega) hO h7_2⟩
      ·
       try dsimp only
       first | omega | (simp; omega)
     ·
      refine AWp.draws [⟨0, [7], [], some 28, _, none⟩,
 ⟨1, [28], [], some 29, _, none⟩,
 ⟨2, [29], [], some 30, _, none⟩,
 ⟨3, [4, 30], [], some 31, _, none⟩,
 ⟨4, [7, 30], [], some 32, _, none⟩,
 ⟨5, [30, 31, 32], [200], some 33, _, none⟩,
 ⟨6, [30, 33], [200], some 34, _, none⟩,
 ⟨7, [30, 34], [100], some 35, _, none⟩,
 ⟨8, [30, 35], [100], some 36, _, none⟩,
 ⟨9, [30, 36], [100], some 37, _, none⟩,
 ⟨10, [6, 30], [502], some 38, _, none⟩,
 ⟨11, [30, 38], [502], some 39, _, none⟩,
 ⟨12, [30, 37, 39], [], some 40, _, none⟩,
 ⟨13, [30, 40], [], some 41, _, none⟩,
 ⟨14, [41], [], some 42, _, none⟩,
 ⟨15, [4, 42], [], some 43, _, none⟩,
 ⟨16, [7, 42], [], some 44, _, none⟩,
 ⟨17, [42, 43, 44], [200], some 45, _, none⟩,
 ⟨18, [42, 45], [200], some 46, _, none⟩,
 ⟨19, [42, 46], [100], some 47, _, none⟩,
 ⟨20, [42, 47], [100], some 48, _, none⟩,
 ⟨21, [42, 48], [100], some 49, _, none⟩,
 ⟨22, [6, 42], [502], some 50, _, none⟩,
 ⟨23, [42, 50], [502], some 51, _, none⟩,
 ⟨24, [42, 49, 51], [], some 52, _, none⟩,
 ⟨25, [42, 52], [], some 53, _, none⟩,
 ⟨26, [53], [], some 27, _, none⟩]
       [kN_ 0 [7] [] 28,
 kN_ 1 [28] [] 29,
 kN_ 2 [29] [] 30,
 kN_ 3 [4, 30] [] 31,
 kN_ 4 [7, 30] [] 32,
 kN_ 5 [30, 31, 32] [200] 33,
 kN_ 6 [30, 33] [200] 34,
 kN_ 7 [30, 34] [100] 35,
 kN_ 8 [30, 35] [100] 36,
 kN_ 9 [30, 36] [100] 37,
 kN_ 10 [6, 30] [502] 38,
 kN_ 11 [30, 38] [502] 39,
 kN_ 12 [30, 37, 39] [] 40,
 kN_ 13 [30, 40] [] 41,
 kN_ 14 [41] [] 42,
 kN_ 15 [4, 42] [] 43,
 kN_ 16 [7, 42] [] 44,
 kN_ 17 [42, 43, 44] [200] 45,
 kN_ 18 [42, 45] [200] 46,
 kN_ 19 [42, 46] [100] 47,
 kN_ 20 [42, 47] [100] 48,
 kN_ 21 [42, 48] [100] 49,
 kN_ 22 [6, 42] [502] 50,
 kN_ 23 [42, 50] [502] 51,
 kN_ 24 [42, 49, 51] [] 52,
 kN_ 25 [42, 52] [] 53,
 kN_ 26 [53] [] 27]
       mixed_ok rfl (by kernel_rfl) ⟨dK_ fun s0 => oG_ rfl rfl (q_move),
 dK_ fun s0 => oG_ rfl rfl ((OpOk.dec_t (q_geq) (by omega))),
 dK_ fun s0 => oG_ rfl rfl (q_move),
 dK_ fun s0 => oO_ rfl rfl rfl rfl rfl (q_move),
 dK_ fun s0 => oO_ rfl rfl rfl rfl rfl (q_move),
 dK_ fun s0 => oO_ rfl rfl rfl rfl rfl (q_ix),
 dK_ fun s0 => oO_ rfl rfl rfl rfl rfl (q_load (z := .sl 100 vr 0 (r0 :: rs).length 5) (hz := by exact .el (f := rf) (l := xs) rfl .row (fun _ => rfl) (by omega)) (hy := by exact hld)),
 dK_ fun s0 => oO_ rfl rfl rfl rfl rfl (q_ix (h1 := by simp <;> omega)),
 dK_ fun s0 => oO_ rfl rfl rfl rfl rfl (q_fa),
 dK_ fun s0 => oO_ rfl rfl rfl rfl rfl (q_load),
 dK_ fun s0 => oO_ rfl rfl rfl rfl rfl (q_fa),
 dK_ fun s0 => oO_ rfl rfl rfl rfl rfl (q_load),
 dK_ fun s0 => oO_ rfl rfl rfl rfl rfl ((OpOk.dec_t (q_eql) (h1))),
 dK_ fun s0 => oG_ rfl rfl (q_pick),
 dK_ fun s0 => oG_ rfl rfl (q_move),
 dK_ fun s0 => oO_ rfl rfl rfl rfl rfl (q_move),
 dK_ fun s0 => oO_ rfl rfl rfl rfl rfl (q_move),
 dK_ fun s0 => oO_ rfl rfl rfl rfl rfl (q_ix),
 dK_ fun s0 => oO_ rfl rfl rfl rfl rfl (q_load (z := .sl 100 vr 0 (r0 :: rs).length 5) (hz := by exact .el (f := rf) (l := xs) rfl .row (fun _ => rfl) (by omega)) (hy := by exact hld)),
 dK_ fun s0 => oO_ rfl rfl rfl rfl rfl (q_ix (h1 := by simp <;> omega)),
 dK_ fun s0 => oO_ rfl rfl rfl rfl rfl (q_fa),
 dK_ fun s0 => oO_ rfl rfl rfl rfl rfl (q_load),
 dK_ fun s0 => oO_ rfl rfl rfl rfl rfl (q_fa),
 dK_ fun s0 => oO_ rfl rfl rfl rfl rfl (q_load),
 dK_ fun s0 => oO_ rfl rfl rfl rfl rfl ((OpOk.bool_is (c := false) (q_call (0) (hc := (c_name_Same r0.nm (l.getD i default).nm (by omega) (by omega)))) (h2))),
 dK_ fun s0 => oG_ rfl rfl (q_pick),
 dK_ fun s0 => oG_ rfl rfl (q_assign), trivial⟩ ?_
      dsimp only [final, DS.upd, AS.seto]
      refine AWp.cond_f rfl ?_
      refine AWp.region ?_
      refine aC_ rfl rfl (q_move) ?_
      refine aC_ rfl rfl (q_load) ?_
      refine aC_ rfl rfl (q_bs 802 rrc [(l.getD i default)] [(_, _)]) ?_
      refine aC_ rfl rfl (q_bs 803 rf [.o 802 0 1] [(_, _)]) ?_
      refine aC_ rfl rfl (q_appo 0 (l := xs) (f := rf) (m := [.o 802 0 1]) (h1 := rf_one) (hb := by simp; omega)) ?_
      refine aC_ rfl rfl (q_assign) ?_
      refine AOps.nil ?_
      refine AWp.region ?_
      refine aC_ rfl rfl (q_add) ?_
      refine aC_ rfl rfl (q_move) ?_
      refine AOps.nil ?_
      refine ⟨(i + 1, (D ++ [r0 :: rs]).map .f ++ [.o 802 0 1], (xs.drop 0 ++ [RunE.o 802 0 1]).length, D ++ [r0 :: rs], [(l.getD i default)], 802, v + 1, 0), ?_, Weak.full (0) [] (hobj := ⟨rfl, ⟨_, rfl, rfl, rfl, by rw [show xs.drop 0 = D.map .f ++ [.o 100 vr (r0 :: rs).length] from hxs]; exact run_new rfl rfl rfl rfl⟩, rfl, ⟨_, rfl, lobj_row (fun _ => rfl)⟩, trivial⟩), ?_⟩
      ·
       try dsimp only
       exact ⟨by omega, .inr ⟨rfl, by simp⟩, by simp; omega, by rw [rnF_step (by omega), hf]; exact rnA_no (keyE_no h2), rfl, rnO_step (by omega) hO h7_2⟩
      ·
       try dsimp only
       first | omega | (simp; omega)
     ·
      refine AWp.draws [⟨0, [7], [], some 28, _, none⟩,
 ⟨1, [28], [], some 29, _, none⟩,
 ⟨2, [29], [], some 30, _, none⟩,
 ⟨3, [4, 30], [], some 31, _, none⟩,
 ⟨4, [7, 30], [], some 32, _, none⟩,
 ⟨5, [30, 31, 32], [200], some 33, _, none⟩,
 ⟨6, [30, 33], [200], some 34, _, none⟩,
 ⟨7, [30, 34], [100], some 35, _, none⟩,
 ⟨8, [30, 35], [100], some 36, _, none⟩,
 ⟨9, [30, 36], [100], some 37, _, none⟩,
 ⟨10, [6, 30], [502], some 38, _, none⟩,
 ⟨11, [30, 38], [502], some 39, _, none⟩,
 ⟨12, [30, 37, 39], [], some 40, _, none⟩,
 ⟨13, [30, 40], [], some 41, _, none⟩,
 ⟨14, [41], [], some 42, _, none⟩,
 ⟨15, [4, 42], [], some 43, _, none⟩,
 ⟨16, [7, 42], [], some 44, _, none⟩,
 ⟨17, [42, 43, 44], [200], some 45, _, none⟩,
 ⟨18, [42, 45], [200], some 46, _, none⟩,
 ⟨19, [42, 46], [100], some 47, _, none⟩,
 ⟨20, [42, 47], [100], some 48, _, none⟩,
 ⟨21, [42, 48], [100], some 49, _, none⟩,
 ⟨22, [6, 42], [502], some 50, _, none⟩,
 ⟨23, [42, 50], [502], some 51, _, none⟩,
 ⟨24, [42, 49, 51], [], some 52, _, none⟩,
 ⟨25, [42, 52], [], some 53, _, none⟩,
 ⟨26, [53], [], some 27, _, none⟩]
       [kN_ 0 [7] [] 28,
 kN_ 1 [28] [] 29,
 kN_ 2 [29] [] 30,
 kN_ 3 [4, 30] [] 31,
 kN_ 4 [7, 30] [] 32,
 kN_ 5 [30, 31, 32] [200] 33,
 kN_ 6 [30, 33] [200] 34,
 kN_ 7 [30, 34] [100] 35,
 kN_ 8 [30, 35] [100] 36,
 kN_ 9 [30, 36] [100] 37,
 kN_ 10 [6, 30] [502] 38,
 kN_ 11 [30, 38] [502] 39,
 kN_ 12 [30, 37, 39] [] 40,
 kN_ 13 [30, 40] [] 41,
 kN_ 14 [41] [] 42,
 kN_ 15 [4, 42] [] 43,
 kN_ 16 [7, 42] [] 44,
 kN_ 17 [42, 43, 44] [200] 45,
 kN_ 18 [42, 45] [200] 46,
 kN_ 19 [42, 46] [100] 47,
 kN_ 20 [42, 47] [100] 48,
 kN_ 21 [42, 48] [100] 49,
 kN_ 22 [6, 42] [502] 50,
 kN_ 23 [42, 50] [502] 51,
 kN_ 24 [42, 49, 51] [] 52,
 kN_ 25 [42, 52] [] 53,
 kN_ 26 [53] [] 27]
       mixed_ok rfl (by kernel_rfl) ⟨dK_ fun s0 => oG_ rfl rfl (q_move),
 dK_ fun s0 => oG_ rfl rfl ((OpOk.dec_t (q_geq) (by omega))),
 dK_ fun s0 => oG_ rfl rfl (q_move),
 dK_ fun s0 => oO_ rfl rfl rfl rfl rfl (q_move),
 dK_ fun s0 => oO_ rfl rfl rfl rfl rfl (q_move),
 dK_ fun s0 => oO_ rfl rfl rfl rfl rfl (q_ix),
 dK_ fun s0 => oO_ rfl rfl rfl rfl rfl (q_load (z := .sl 100 vr 0 (r0 :: rs).length 5) (hz := by exact .el (f := rf) (l := xs) rfl .row (fun _ => rfl) (by omega)) (hy := by exact hld)),
 dK_ fun s0 => oO_ rfl rfl rfl rfl rfl (q_ix (h1 := by simp <;> omega)),
 dK_ fun s0 => oO_ rfl rfl rfl rfl rfl (q_fa),
 dK_ fun s0 => oO_ rfl rfl rfl rfl rfl (q_load),
 dK_ fun s0 => oO_ rfl rfl rfl rfl rfl (q_fa),
 dK_ fun s0 => oO_ rfl rfl rfl rfl rfl (q_load),
 dK_ fun s0 => oO_ rfl rfl rfl rfl rfl ((OpOk.dec_t (q_eql) (h1))),
 dK_ fun s0 => oG_ rfl rfl (q_pick),
 dK_ fun s0 => oG_ rfl rfl (q_move),
 dK_ fun s0 => oO_ rfl rfl rfl rfl rfl (q_move),
 dK_ fun s0 => oO_ rfl rfl rfl rfl rfl (q_move),
 dK_ fun s0 => oO_ rfl rfl rfl rfl rfl (q_ix),
 dK_ fun s0 => oO_ rfl rfl rfl rfl rfl (q_load (z := .sl 100 vr 0 (r0 :: rs).length 5) (hz := by exact .el (f := rf) (l := xs) rfl .row (fun _ => rfl) (by omega)) (hy := by exact hld)),
 dK_ fun s0 => oO_ rfl rfl rfl rfl rfl (q_ix (h1 := by simp <;> omega)),
 dK_ fun s0 => oO_ rfl rfl rfl rfl rfl (q_fa),
 dK_ fun s0 => oO_ rfl rfl rfl rfl rfl (q_load),
 dK_ fun s0 => oO_ rfl rfl rfl rfl rfl (q_fa),
 dK_ fun s0 => oO_ rfl rfl rfl rfl rfl (q_load),
 dK_ fun s0 => oO_ rfl rfl rfl rfl rfl ((OpOk.bool_is (c := true) (q_call (0) (hc := (c_name_Same r0.nm (l.getD i default).nm (by omega) (by omega)))) (h2))),
 dK_ fun s0 => oG_ rfl rfl (q_pick),
 dK_ fun s0 => oG_ rfl rfl (q_assign), trivial⟩ ?_
      dsimp only [final, DS.upd, AS.seto]
      refine AWp.cond_t rfl ?_
      refine AWp.draws [⟨0, [4], [], some 54, _, none⟩,
 ⟨1, [7], [], some 55, _, none⟩,
 ⟨2, [4], [], some 56, _, none⟩,
 ⟨3, [7], [], some 57, _, none⟩,
 ⟨4, [56, 57], [200], some 58, _, none⟩,
 ⟨5, [58], [200], some 59, _, none⟩,
 ⟨6, [6], [502], some 60, _, none⟩,
 ⟨7, [60], [1107], some 61, _, some (1107, _)⟩,
 ⟨8, [59, 61], [100, 1107], some 62, _, some (100, _)⟩,
 ⟨9, [54, 55], [200], some 63, _, none⟩,
 ⟨10, [62, 63], [100, 200], none, _, some (200, _)⟩]
       [kN_ 0 [4] [] 54,
 kN_ 1 [7] [] 55,
 kN_ 2 [4] [] 56,
 kN_ 3 [7] [] 57,
 kN_ 4 [56, 57] [200] 58,
 kN_ 5 [58] [200] 59,
 kN_ 6 [6] [502] 60,
 ⟨7, [60], [1107], some 61, .any, some (1107, .box [])⟩,
 ⟨8, [59, 61], [100, 1107], some 62, .any, some (100, .box [])⟩,
 kN_ 9 [54, 55] [200] 63,
 ⟨10, [62, 63], [100, 200], none, .any, some (200, .box [])⟩]
       mixed_ok rfl (by kernel_rfl) ⟨dK_ fun s0 => oG_ rfl rfl (q_move),
 dK_ fun s0 => oG_ rfl rfl (q_move),
 dK_ fun s0 => oG_ rfl rfl (q_move),
 dK_ fun s0 => oG_ rfl rfl (q_move),
 dK_ fun s0 => oG_ rfl rfl (q_ix),
 dK_ fun s0 => oG_ rfl rfl (q_load (z := .sl 100 vr 0 (r0 :: rs).length 5) (hz := by exact .el (f := rf) (l := xs) rfl .row (fun _ => rfl) (by omega)) (hy := by exact hld)),
 dK_ fun s0 => oG_ rfl rfl (q_load),
 dK_ fun s0 => oG_ rfl rfl (q_bs 1107 rrc [(l.getD i default)] [(_, _)]),
 dK_ fun s0 => oG_ rfl rfl (q_app (l := r0 :: rs) (m := [(l.getD i default)]) (f := rrc) (hb := by simp only [List.length_cons, List.length_nil] at hsz ⊢; omega)),
 dK_ fun s0 => oG_ rfl rfl (q_ix),
 dK_ fun s0 => oG_ rfl rfl (q_store (hs := by exact .el (f := rf) (l := xs) (a := .o 100 (vr + 1) ((r0 :: rs) ++ [(l.getD i default)]).length) rfl .row rfl (fun _ => rfl) (by decide) (by omega))), trivial⟩ ?_
      dsimp only [final, DS.upd, AS.seto]
      refine AWp.region ?_
      refine aC_ rfl rfl (q_add) ?_
      refine aC_ rfl rfl (q_move) ?_
      refine AOps.nil ?_
      have hset : xs.set ((n : Int) - 1).toNat (.o 100 (vr + 1) ((r0 :: rs) ++ [(l.getD i default)]).length) = D.map .f ++ [.o 100 (vr + 1) ((r0 :: rs) ++ [(l.getD i default)]).length] := by rw [show ((n : Int) - 1).toNat = D.length by omega, hxs, rnX_set]
      refine ⟨(i + 1, xs.set ((n : Int) - 1).toNat (.o 100 (vr + 1) ((r0 :: rs) ++ [(l.getD i default)]).length), n, D, (r0 :: rs) ++ [(l.getD i default)], 100, v, vr + 1), ?_, Weak.full (0) [] (hobj := ⟨rfl, ⟨_, rfl, rfl, rfl, by rw [hset]; exact run_keep rfl rfl⟩, rfl, ⟨_, rfl, lobj_row (fun _ => rfl)⟩, trivial⟩), ?_⟩
      ·
       try dsimp only
       exact ⟨by omega, .inl rfl, by rw [List.length_set]; exact hnx, by rw [rnF_step (by omega), hf]; exact rnA_yes (keyE_yes h1 h2), by rw [hset]; rfl, rnO_step (by omega) hO h7_2⟩
      ·
       try dsimp only
       first | omega | (simp; omega)
    ·
     refine aC_ rfl rfl (q_not) ?_
     refine aC_ rfl rfl (q_assign) ?_
     refine AOps.nil ?_
     refine AWp.cond_t rfl ?_
     refine AWp.seq ?_
     refine AWp.region ?_
     refine aC_ rfl rfl (q_nilz (0) (lc 0 rrc)) ?_
     refine aC_ rfl rfl (q_assign) ?_
     refine AOps.nil ?_
     refine AWp.ret ?_
     show Fin te Try.f67 _ _
     refine q_ret (0) [_, _] [_, _] ?_
     have ho : rnO l = false := rnO_no (i := i) (by omega) h7_2
     rw [rnV_no ho, ho]; rfl
   ·
    refine AOps.nil ?_
    refine AWp.seq ?_
    refine AWp.cond_f rfl ?_
    refine AWp.exit ?_
    refine AWp.seq ?_
    refine AWp.region ?_
    obtain rfl : i = l.length := by omega
    rw [List.take_length] at hf hO
    have hrv : rnV l = D ++ [r0 :: rs] := by rw [rnV_yes hO, hf]; rfl
    obtain rfl : n = (D ++ [r0 :: rs]).length := by rw [hnx, hxl]; simp
    refine AOps.weak (Weak.full 0 [] (t := [(4, .sl 200 v 0 (D ++ [r0 :: rs]).length 1)]) (hl := [(200, .row (cl (lc 0 rrc) (D ++ [r0 :: rs])) 1 v)]) (hobj := ⟨rfl, ⟨_, rfl, rfl, rfl, by rw [hxs]; exact run_end rfl rfl⟩, trivial⟩)) ?_
    refine aC_ rfl rfl (q_move) ?_
    refine aC_ rfl rfl (q_assign) ?_
    refine aC_ rfl rfl (q_assign) ?_
    refine AOps.nil ?_
    refine AWp.ret ?_
    show Fin te Try.f67 _ _
    refine q_ret (0) [_, _] [_, _] ?_
    rw [hrv, hO]; rfl
  ·
   have hxl : xs.length = D.length + 1 := by rw [hxs]; exact rnX_len
   have hld : mkAV false (rf (xs.getD ((n : Int) - 1).toNat default)) = .sl 802 vr 0 (r0 :: rs).length 5 := by rw [show ((n : Int) - 1).toNat = D.length by omega, hxs, rnX_get]; rfl
   have hr0 : r0.nm.length ≤ 140737488351232 := hn _ (List.mem_of_mem_take (hmem r0 (by simp)))
   refine AOps.dec rfl rfl (q_lss) (fun h3_0 => ?_) (fun h3_0 => ?_)
   ·
    refine AOps.nil ?_
    refine AWp.seq ?_
    refine AWp.cond_t rfl ?_
    refine AWp.skip ?_
    refine AWp.seq ?_
    refine AWp.block ?_
    refine AWp.seq ?_
    refine AWp.region ?_
    have hri := hn _ (getD_mem' (l := l) (i := i) (by omega))
    refine aC_ rfl rfl (q_ix) ?_
    refine aC_ rfl rfl (q_load) ?_
    refine aC_ rfl rfl (q_alloc 502) ?_
    refine aC_ rfl rfl (q_store) ?_
    refine AOps.nil ?_
    refine AWp.seq ?_
    refine AWp.region ?_
    refine aC_ rfl rfl (q_move) ?_
    refine aC_ rfl rfl (q_len) ?_
    refine aC_ rfl rfl (q_sub) ?_
    refine aC_ rfl rfl (q_assign) ?_
    refine AOps.nil ?_
    refine AWp.block ?_
    refine AWp.seq ?_
    refine AWp.region ?_
    refine aC_ rfl rfl (q_fa) ?_
    refine aC_ rfl rfl (q_load) ?_
    refine AOps.bool rfl rfl (q_call (0) (hc := (c_name_Can (l.getD i default).nm (by omega)))) (fun h7_2 => ?_) (fun h7_2 => ?_)
    ·
     refine aC_ rfl rfl (q_not) ?_
     refine aC_ rfl rfl (q_assign) ?_
     refine AOps.nil ?_
     refine AWp.cond_f rfl ?_
     refine AWp.seq ?_
     rcases key3 (r0.ty = (l.getD i default).ty) (sameN r0.nm (l.getD i default).nm) with h1 | ⟨h1, h2⟩ | ⟨h1, h2⟩
     ·
      refine AWp.draws [⟨0, [7], [], some 28, _, none⟩,
 ⟨1, [28], [], some 29, _, none⟩,
 ⟨2, [29], [], some 30, _, none⟩,
 ⟨3, [4, 30], [], some 31, _, none⟩,
 ⟨4, [7, 30], [], some 32, _, none⟩,
 ⟨5, [30, 31, 32], [200], some 33, _, none⟩,
 ⟨6, [30, 33], [200], some 34, _, none⟩,
 ⟨7, [30, 34], [802], some 35, _, none⟩,
 ⟨8, [30, 35], [802], some 36, _, none⟩,
 ⟨9, [30, 36], [802], some 37, _, none⟩,
 ⟨10, [6, 30], [502], some 38, _, none⟩,
 ⟨11, [30, 38], [502], some 39, _, none⟩,
 ⟨12, [30, 37, 39], [], some 40, _, none⟩,
 ⟨13, [30, 40], [], some 41, _, none⟩,
 ⟨14, [41], [], some 42, _, none⟩,
 ⟨15, [42], [], some 43, .v undef, none⟩,
 ⟨16, [42], [], some 44, .v undef, none⟩,
 ⟨17, [42], [], some 45, .v undef, none⟩,
 ⟨18, [42], [], some 46, .v undef, none⟩,
 ⟨19, [42], [], some 47, .v undef, none⟩,
 ⟨20, [42], [], some 48, .v undef, none⟩,
 ⟨21, [42], [], some 49, .v undef, none⟩,
 ⟨22, [42], [], some 50, .v undef, none⟩,
 ⟨23, [42], [], some 51, .v undef, none⟩,
 ⟨24, [42], [], some 52, .v undef, none⟩,
 ⟨25, [42, 52], [], some 53, _, none⟩,
 ⟨26, [53], [], some 27, _, none⟩]
       [kN_ 0 [7] [] 28,
 kN_ 1 [28] [] 29,
 kN_ 2 [29] [] 30,
 kN_ 3 [4, 30] [] 31,
 kN_ 4 [7, 30] [] 32,
 kN_ 5 [30, 31, 32] [200] 33,
 kN_ 6 [30, 33] [200] 34,
 kN_ 7 [30, 34] [802] 35,
 kN_ 8 [30, 35] [802] 36,
 kN_ 9 [30, 36] [802] 37,
 kN_ 10 [6, 30] [502] 38,
 kN_ 11 [30, 38] [502] 39,
 kN_ 12 [30, 37, 39] [] 40,
 kN_ 13 [30, 40] [] 41,
 kN_ 14 [41] [] 42,
 kN_ 15 [42] [] 43,
 kN_ 16 [42] [] 44,
 kN_ 17 [42] [] 45,
 kN_ 18 [42] [] 46,
 kN_ 19 [42] [] 47,
 kN_ 20 [42] [] 48,
 kN_ 21 [42] [] 49,
 kN_ 22 [42] [] 50,
 kN_ 23 [42] [] 51,
 kN_ 24 [42] [] 52,
 kN_ 25 [42, 52] [] 53,
 kN_ 26 [53] [] 27]
       mixed_ok rfl (by kernel_rfl) ⟨dK_ fun s0 => oG_ rfl rfl (q_move),
 dK_ fun s0 => oG_ rfl rfl ((OpOk.dec_t (q_geq) (by omega))),
 dK_ fun s0 => oG_ rfl rfl (q_move),
 dK_ fun s0 => oO_ rfl rfl rfl rfl rfl (q_move),
 dK_ fun s0 => oO_ rfl rfl rfl rfl rfl (q_move),
 dK_ fun s0 => oO_ rfl rfl rfl rfl rfl (q_ix),
 dK_ fun s0 => oO_ rfl rfl rfl rfl rfl (q_load (z := .sl 802 vr 0 (r0 :: rs).length 5) (hz := by exact .el (f := rf) (l := xs) rfl .row (fun _ => rfl) (by omega)) (hy := by exact hld)),
 dK_ fun s0 => oO_ rfl rfl rfl rfl rfl (q_ix (h1 := by simp <;> omega)),
 dK_ fun s0 => oO_ rfl rfl rfl rfl rfl (q_fa),
 dK_ fun s0 => oO_ rfl rfl rfl rfl rfl (q_load),
 dK_ fun s0 => oO_ rfl rfl rfl rfl rfl (q_fa),
 dK_ fun s0 => oO_ rfl rfl rfl rfl rfl (q_load),
 dK_ fun s0 => oO_ rfl rfl rfl rfl rfl ((OpOk.dec_f (q_eql) (h1))),
 dK_ fun s0 => oG_ rfl rfl (q_pick),
 dK_ fun s0 => oG_ rfl rfl (q_move),
 dK_ fun s0 => oS_ rfl rfl rfl rfl rfl rfl rfl rfl,
 dK_ fun s0 => oS_ rfl rfl rfl rfl rfl rfl rfl rfl,
 dK_ fun s0 => oS_ rfl rfl rfl rfl rfl rfl rfl rfl,
 dK_ fun s0 => oS_ rfl rfl rfl rfl rfl rfl rfl rfl,
 dK_ fun s0 => oS_ rfl rfl rfl rfl rfl rfl rfl rfl,
 dK_ fun s0 => oS_ rfl rfl rfl rfl rfl rfl rfl rfl,
 dK_ fun s0 => oS_ rfl rfl rfl rfl rfl rfl rfl rfl,
 dK_ fun s0 => oS_ rfl rfl rfl rfl rfl rfl rfl rfl,
 dK_ fun s0 => oS_ rfl rfl rfl rfl rfl rfl rfl rfl,
 dK_ fun s0 => oS_ rfl rfl rfl rfl rfl rfl rfl rfl,
 dK_ fun s0 => oG_ rfl rfl (q_pick),
 dK_ fun s0 => oG_ rfl rfl (q_assign), trivial⟩ ?_
      dsimp only [final, DS.upd, AS.seto]
      refine AWp.cond_f rfl ?_
      refine AWp.region ?_
      refine aC_ rfl rfl (q_move) ?_
      refine aC_ rfl rfl (q_load) ?_
      refine aC_ rfl rfl (q_bs 100 rrc [(l.getD i default)] [(_, _)]) ?_
      refine aC_ rfl rfl (q_bs 803 rf [.o 100 0 1] [(_, _)]) ?_
      refine aC_ rfl rfl (q_appo 0 (l := xs) (f := rf) (m := [.o 100 0 1]) (h1 := rf_one) (hb := by simp; omega)) ?_
      refine aC_ rfl rfl (q_assign) ?_
      refine AOps.nil ?_
      refine AWp.region ?_
      refine aC_ rfl rfl (q_add) ?_
      refine aC_ rfl rfl (q_move) ?_
      refine AOps.nil ?_
      refine ⟨(i + 1, (D ++ [r0 :: rs]).map .f ++ [.o 100 0 1], (xs.drop 0 ++ [RunE.o 100 0 1]).length, D ++ [r0 :: rs], [(l.getD i default)], 100, v + 1, 0), ?_, Weak.full (0) [] (hobj := ⟨rfl, ⟨_, rfl, rfl, rfl, by rw [show xs.drop 0 = D.map .f ++ [.o 802 vr (r0 :: rs).length] from hxs]; exact run_new rfl rfl rfl rfl⟩, rfl, ⟨_, rfl, lobj_row (fun _ => rfl)⟩, trivial⟩), ?_⟩
      ·
       try dsimp only
       exact ⟨by omega, .inl rfl, by simp; omega, by rw [rnF_step (by omega), hf]; exact rnA_no (keyE_ne h1), rfl, rnO_step (by omega) hO h7_2⟩
      ·
       try dsimp only
       first | omega | (simp; omega)
     ·
      refine AWp.draws [⟨0, [7], [], some 28, _, none⟩,
 ⟨1, [28], [], some 29, _, none⟩,
 ⟨2, [29], [], some 30, _, none⟩,
 ⟨3, [4, 30], [], some 31, _, none⟩,
 ⟨4, [7, 30], [], some 32, _, none⟩,
 ⟨5, [30, 31, 32], [200], some 33, _, none⟩,
 ⟨6, [30, 33], [200], some 34, _, none⟩,
 ⟨7, [30, 34], [802], some 35, _, none⟩,
 ⟨8, [30, 35], [802], some 36, _, none⟩,
 ⟨9, [30, 36], [802], some 37, _, none⟩,
 ⟨10, [6, 30], [502], some 38, _, none⟩,
 ⟨11, [30, 38], [502], some 39, _, none⟩,
 ⟨12, [30, 37, 39], [], some 40, _, none⟩,
 ⟨13, [30, 40], [], some 41, _, none⟩,
 ⟨14, [41], [], some 42, _, none⟩,
 ⟨15, [4, 42], [], some 43, _, none⟩,
 ⟨16, [7, 42], [], some 44, _, none⟩,
 ⟨17, [42, 43, 44], [200], some 45, _, none⟩,
 ⟨18, [42, 45], [200], some 46, _, none⟩,
 ⟨19, [42, 46], [802], some 47, _, none⟩,
 ⟨20, [42, 47], [802], some 48, _, none⟩,
 ⟨21, [42, 48], [802], some 49, _, none⟩,
 ⟨22, [6, 42], [502], some 50, _, none⟩,
 ⟨23, [42, 50], [502], some 51, _, none⟩,
 ⟨24, [42, 49, 51], [], some 52, _, none⟩,
 ⟨25, [42, 52], [], some 53, _, none⟩,
 ⟨26, [53], [], some 27, _, none⟩]
       [kN_ 0 [7] [] 28,
 kN_ 1 [28] [] 29,
 kN_ 2 [29] [] 30,
 kN_ 3 [4, 30] [] 31,
 kN_ 4 [7, 30] [] 32,
 kN_ 5 [30, 31, 32] [200] 33,
 kN_ 6 [30, 33] [200] 34,
 kN_ 7 [30, 34] [802] 35,
 kN_ 8 [30, 35] [802] 36,
 kN_ 9 [30, 36] [802] 37,
 kN_ 10 [6, 30] [502] 38,
 kN_ 11 [30, 38] [502] 39,
 kN_ 12 [30, 37, 39] [] 40,
 kN_ 13 [30, 40] [] 41,
 kN_ 14 [41] [] 42,
 kN_ 15 [4, 42] [] 43,
 kN_ 16 [7, 42] [] 44,
 kN_ 17 [42, 43, 44] [200] 45,
 kN_ 18 [42, 45] [200] 46,
 kN_ 19 [42, 46] [802] 47,
 kN_ 20 [42, 47] [802] 48,
 kN_ 21 [42, 48] [802] 49,
 kN_ 22 [6, 42] [502] 50,
 kN_ 23 [42, 50] [502] 51,
 kN_ 24 [42, 49, 51] [] 52,
 kN_ 25 [42, 52] [] 53,
 kN_ 26 [53] [] 27]
       mixed_ok rfl (by kernel_rfl) ⟨dK_ fun s0 => oG_ rfl rfl (q_move),
 dK_ fun s0 => oG_ rfl rfl ((OpOk.dec_t (q_geq) (by omega))),
 dK_ fun s0 => oG_ rfl rfl (q_move),
 dK_ fun s0 => oO_ rfl rfl rfl rfl rfl (q_move),
 dK_ fun s0 => oO_ rfl rfl rfl rfl rfl (q_move),
 dK_ fun s0 => oO_ rfl rfl rfl rfl rfl (q_ix),
 dK_ fun s0 => oO_ rfl rfl rfl rfl rfl (q_load (z := .sl 802 vr 0 (r0 :: rs).length 5) (hz := by exact .el (f := rf) (l := xs) rfl .row (fun _ => rfl) (by omega)) (hy := by exact hld)),
 dK_ fun s0 => oO_ rfl rfl rfl rfl rfl (q_ix (h1 := by simp <;> omega)),
 dK_ fun s0 => oO_ rfl rfl rfl rfl rfl (q_fa),
 dK_ fun s0 => oO_ rfl rfl rfl rfl rfl (q_load),
 dK_ fun s0 => oO_ rfl rfl rfl rfl rfl (q_fa),
 dK_ fun s0 => oO_ rfl rfl rfl rfl rfl (q_load),
 dK_ fun s0 => oO_ rfl rfl rfl rfl rfl ((OpOk.dec_t (q_eql) (h1))),
 dK_ fun s0 => oG_ rfl rfl (q_pick),
 dK_ fun s0 => oG_ rfl rfl (q_move),
 dK_ fun s0 => oO_ rfl rfl rfl rfl rfl (q_move),
 dK_ fun s0 => oO_ rfl rfl rfl rfl rfl (q_move),
 dK_ fun s0 => oO_ rfl rfl rfl rfl rfl (q_ix),
 dK_ fun s0 => oO_ rfl rfl rfl rfl rfl (q_load (z := .sl 802 vr 0 (r0 :: rs).length 5) (hz := by exact .el (f := rf) (l := xs) rfl .row (fun _ => rfl) (by omega)) (hy := by exact hld)),
 dK_ fun s0 => oO_ rfl rfl rfl rfl rfl (q_ix (h1 := by simp <;> omega)),
 dK_ fun s0 => oO_ rfl rfl rfl rfl rfl (q_fa),
 dK_ fun s0 => oO_ rfl rfl rfl rfl rfl (q_load),
 dK_ fun s0 => oO_ rfl rfl rfl rfl rfl (q_fa),
 dK_ fun s0 => oO_ rfl rfl rfl rfl rfl (q_load),
 dK_ fun s0 => oO_ rfl rfl rfl rfl rfl ((OpOk.bool_is (c := false) (q_call (0) (hc := (c_name_Same r0.nm (l.getD i default).nm (by omega) (by omega)))) (h2))),
 dK_ fun s0 => oG_ rfl rfl (q_pick),
 dK_ fun s0 => oG_ rfl rfl (q_assign), trivial⟩ ?_
      dsimp only [final, DS.upd, AS.seto]
      refine AWp.cond_f rfl ?_
      refine AWp.region ?_
      refine aC_ rfl rfl (q_move) ?_
      refine aC_ rfl rfl (q_load) ?_
      refine aC_ rfl rfl (q_bs 100 rrc [(l.getD i default)] [(_, _)]) ?_
      refine aC_ rfl rfl (q_bs 803 rf [.o 100 0 1] [(_, _)]) ?_
      refine aC_ rfl rfl (q_appo 0 (l := xs) (f := rf) (m := [.o 100 0 1]) (h1 := rf_one) (hb := by simp; omega)) ?_
      refine aC_ rfl rfl (q_assign) ?_
      refine AOps.nil ?_
      refine AWp.region ?_
      refine aC_ rfl rfl (q_add) ?_
      refine aC_ rfl rfl (q_move) ?_
      refine AOps.nil ?_
      refine ⟨(i + 1, (D ++ [r0 :: rs]).map .f ++ [.o 100 0 1], (xs.drop 0 ++ [RunE.o 100 0 1]).length, D ++ [r0 :: rs], [(l.getD i default)], 100, v + 1, 0), ?_, Weak.full (0) [] (hobj := ⟨rfl, ⟨_, rfl, rfl, rfl, by rw [show xs.drop 0 = D.map .f ++ [.o 802 vr (r0 :: rs).length] from hxs]; exact run_new rfl rfl rfl rfl⟩, rfl, ⟨_, rfl, lobj_row (fun _ => rfl)⟩, trivial⟩), ?_⟩
      ·
       try dsimp only
       exact ⟨by omega, .inl rfl, by simp; omega, by rw [rnF_step (by omega), hf]; exact rnA_no (keyE_no h2), rfl, rnO_step (by omega) hO h7_2⟩
      ·
       try dsimp only
       first | omega | (simp; omega)
     ·
      refine AWp.draws [⟨0, [7], [], some 28, _, none⟩,
 ⟨1, [28], [], some 29, _, none⟩,
 ⟨2, [29], [], some 30, _, none⟩,
 ⟨3, [4, 30], [], some 31, _, none⟩,
 ⟨4, [7, 30], [], some 32, _, none⟩,
 ⟨5, [30, 31, 32], [200], some 33, _, none⟩,
 ⟨6, [30, 33], [200], some 34, _, none⟩,
 ⟨7, [30, 34], [802], some 35, _, none⟩,
 ⟨8, [30, 35], [802], some 36, _, none⟩,
 ⟨9, [30, 36], [802], some 37, _, none⟩,
 ⟨10, [6, 30], [502], some 38, _, none⟩,
 ⟨11, [30, 38], [502], some 39, _, none⟩,
 ⟨12, [30, 37, 39], [], some 40, _, none⟩,
 ⟨13, [30, 40], [], some 41, _, none⟩,
 ⟨14, [41], [], some 42, _, none⟩,
 ⟨15, [4, 42], [], some 43, _, none⟩,
 ⟨16, [7, 42], [], some 44, _, none⟩,
 ⟨17, [42, 43, 44], [200], some 45, _, none⟩,
 ⟨18, [42, 45], [200], some 46, _, none⟩,
 ⟨19, [42, 46], [802], some 47, _, none⟩,
 ⟨20, [42, 47], [802], some 48, _, none⟩,
 ⟨21, [42, 48], [802], some 49, _, none⟩,
 ⟨22, [6, 42], [502], some 50, _, none⟩,
 ⟨23, [42, 50], [502], some 51, _, none⟩,
 ⟨24, [42, 49, 51], [], some 52, _, none⟩,
 ⟨25, [42, 52], [], some 53, _, none⟩,
 ⟨26, [53], [], some 27, _, none⟩]
       [kN_ 0 [7] [] 28,
 kN_ 1 [28] [] 29,
 kN_ 2 [29] [] 30,
 kN_ 3 [4, 30] [] 31,
 kN_ 4 [7, 30] [] 32,
 kN_ 5 [30, 31, 32] [200] 33,
 kN_ 6 [30, 33] [200] 34,
 kN_ 7 [30, 34] [802] 35,
 kN_ 8 [30, 35] [802] 36,
 kN_ 9 [30, 36] [802] 37,
 kN_ 10 [6, 30] [502] 38,
 kN_ 11 [30, 38] [502] 39,
 kN_ 12 [30, 37, 39] [] 40,
 kN_ 13 [30, 40] [] 41,
 kN_ 14 [41] [] 42,
 kN_ 15 [4, 42] [] 43,
 kN_ 16 [7, 42] [] 44,
 kN_ 17 [42, 43, 44] [200] 45,
 kN_ 18 [42, 45] [200] 46,
 kN_ 19 [42, 46] [802] 47,
 kN_ 20 [42, 47] [802] 48,
 kN_ 21 [42, 48] [802] 49,
 kN_ 22 [6, 42] [502] 50,
 kN_ 23 [42, 50] [502] 51,
 kN_ 24 [42, 49, 51] [] 52,
 kN_ 25 [42, 52] [] 53,
 kN_ 26 [53] [] 27]
       mixed_ok rfl (by kernel_rfl) ⟨dK_ fun s0 => oG_ rfl rfl (q_move),
 dK_ fun s0 => oG_ rfl rfl ((OpOk.dec_t (q_geq) (by omega))),
 dK_ fun s0 => oG_ rfl rfl (q_move),
 dK_ fun s0 => oO_ rfl rfl rfl rfl rfl (q_move),
 dK_ fun s0 => oO_ rfl rfl rfl rfl rfl (q_move),
 dK_ fun s0 => oO_ rfl rfl rfl rfl rfl (q_ix),
 dK_ fun s0 => oO_ rfl rfl rfl rfl rfl (q_load (z := .sl 802 vr 0 (r0 :: rs).length 5) (hz := by exact .el (f := rf) (l := xs) rfl .row (fun _ => rfl) (by omega)) (hy := by exact hld)),
 dK_ fun s0 => oO_ rfl rfl rfl rfl rfl (q_ix (h1 := by simp <;> omega)),
 dK_ fun s0 => oO_ rfl rfl rfl rfl rfl (q_fa),
 dK_ fun s0 => oO_ rfl rfl rfl rfl rfl (q_load),
 dK_ fun s0 => oO_ rfl rfl rfl rfl rfl (q_fa),
 dK_ fun s0 => oO_ rfl rfl rfl rfl rfl (q_load),
 dK_ fun s0 => oO_ rfl rfl rfl rfl rfl ((OpOk.dec_t (q_eql) (h1))),
 dK_ fun s0 => oG_ rfl rfl (q_pick),
 dK_ fun s0 => oG_ rfl rfl (q_move),
 dK_ fun s0 => oO_ rfl rfl rfl rfl rfl (q_move),
 dK_ fun s0 => oO_ rfl rfl rfl rfl rfl (q_move),
 dK_ fun s0 => oO_ rfl rfl rfl rfl rfl (q_ix),
 dK_ fun s0 => oO_ rfl rfl rfl rfl rfl (q_load (z := .sl 802 vr 0 (r0 :: rs).length 5) (hz := by exact .el (f := rf) (l := xs) rfl .row (fun _ => rfl) (by omega)) (hy := by exact hld)),
 dK_ fun s0 => oO_ rfl rfl rfl rfl rfl (q_ix (h1 := by simp <;> omega)),
 dK_ fun s0 => oO_ rfl rfl rfl rfl rfl (q_fa),
 dK_ fun s0 => oO_ rfl rfl rfl rfl rfl (q_load),
 dK_ fun s0 => oO_ rfl rfl rfl rfl rfl (q_fa),
 dK_ fun s0 => oO_ rfl rfl rfl rfl rfl (q_load),
 dK_ fun s0 => oO_ rfl rfl rfl rfl rfl ((OpOk.bool_is (c := true) (q_call (0) (hc := (c_name_Same r0.nm (l.getD i default).nm (by omega) (by omega)))) (h2))),
 dK_ fun s0 => oG_ rfl rfl (q_pick),
 dK_ fun s0 => oG_ rfl rfl (q_assign), trivial⟩ ?_
      dsimp only [final, DS.upd, AS.seto]
      refine AWp.cond_t rfl ?_
      refine AWp.draws [⟨0, [4], [], some 54, _, none⟩,
 ⟨1, [7], [], some 55, _, none⟩,
 ⟨2, [4], [], some 56, _, none⟩,
 ⟨3, [7], [], some 57, _, none⟩,
 ⟨4, [56, 57], [200], some 58, _, none⟩,
 ⟨5, [58], [200], some 59, _, none⟩,
 ⟨6, [6], [502], some 60, _, none⟩,
 ⟨7, [60], [1107], some 61, _, some (1107, _)⟩,
 ⟨8, [59, 61], [802, 1107], some 62, _, some (802, _)⟩,
 ⟨9, [54, 55], [200], some 63, _, none⟩,
 ⟨10, [62, 63], [200, 802], none, _, some (200, _)⟩]
       [kN_ 0 [4] [] 54,
 kN_ 1 [7] [] 55,
 kN_ 2 [4] [] 56,
 kN_ 3 [7] [] 57,
 kN_ 4 [56, 57] [200] 58,
 kN_ 5 [58] [200] 59,
 kN_ 6 [6] [502] 60,
 ⟨7, [60], [1107], some 61, .any, some (1107, .box [])⟩,
 ⟨8, [59, 61], [802, 1107], some 62, .any, some (802, .box [])⟩,
 kN_ 9 [54, 55] [200] 63,
 ⟨10, [62, 63], [200, 802], none, .any, some (200, .box [])⟩]
       mixed_ok rfl (by kernel_rfl) ⟨dK_ fun s0 => oG_ rfl rfl (q_move),
 dK_ fun s0 => oG_ rfl rfl (q_move),
 dK_ fun s0 => oG_ rfl rfl (q_move),
 dK_ fun s0 => oG_ rfl rfl (q_move),
 dK_ fun s0 => oG_ rfl rfl (q_ix),
 dK_ fun s0 => oG_ rfl rfl (q_load (z := .sl 802 vr 0 (r0 :: rs).length 5) (hz := by exact .el (f := rf) (l := xs) rfl .row (fun _ => rfl) (by omega)) (hy := by exact hld)),
 dK_ fun s0 => oG_ rfl rfl (q_load),
 dK_ fun s0 => oG_ rfl rfl (q_bs 1107 rrc [(l.getD i default)] [(_, _)]),
 dK_ fun s0 => oG_ rfl rfl (q_app (l := r0 :: rs) (m := [(l.getD i default)]) (f := rrc) (hb := by simp only [List.length_cons, List.length_nil] at hsz ⊢; omega)),
 dK_ fun s0 => oG_ rfl rfl (q_ix),
 dK_ fun s0 => oG_ rfl rfl (q_store (hs := by exact .el (f := rf) (l := xs) (a := .o 802 (vr + 1) ((r0 :: rs) ++ [(l.getD i default)]).length) rfl .row rfl (fun _ => rfl) (by decide) (by omega))), trivial⟩ ?_
      dsimp only [final, DS.upd, AS.seto]
      refine AWp.region ?_
      refine aC_ rfl rfl (q_add) ?_
      refine aC_ rfl rfl (q_move) ?_
      refine AOps.nil ?_
      have hset : xs.set ((n : Int) - 1).toNat (.o 802 (vr + 1) ((r0 :: rs) ++ [(l.getD i default)]).length) = D.map .f ++ [.o 802 (vr + 1) ((r0 :: rs) ++ [(l.getD i default)]).length] := by rw [show ((n : Int) - 1).toNat = D.length by omega, hxs, rnX_set]
      refine ⟨(i + 1, xs.set ((n : Int) - 1).toNat (.o 802 (vr + 1) ((r0 :: rs) ++ [(l.getD i default)]).length), n, D, (r0 :: rs) ++ [(l.getD i default)], 802, v, vr + 1), ?_, Weak.full (0) [] (hobj := ⟨rfl, ⟨_, rfl, rfl, rfl, by rw [hset]; exact run_keep rfl rfl⟩, rfl, ⟨_, rfl, lobj_row (fun _ => rfl)⟩, trivial⟩), ?_⟩
      ·
       try dsimp only
       exact ⟨by omega, .inr ⟨rfl, by simp⟩, by rw [List.length_set]; exact hnx, by rw [rnF_step (by omega), hf]; exact rnA_yes (keyE_yes h1 h2), by rw [hset]; rfl, rnO_step (by omega) hO h7_2⟩
      ·
       try dsimp only
       first | omega | (simp; omega)
    ·
     refine aC_ rfl rfl (q_not) ?_
     refine aC_ rfl rfl (q_assign) ?_
     refine AOps.nil ?_
     refine AWp.cond_t rfl ?_
     refine AWp.seq ?_
     refine AWp.region ?_
     refine aC_ rfl rfl (q_nilz (0) (lc 0 rrc)) ?_
     refine aC_ rfl rfl (q_assign) ?_
     refine AOps.nil ?_
     refine AWp.ret ?_
     show Fin te Try.f67 _ _
     refine q_ret (0) [_, _] [_, _] ?_
     have ho : rnO l = false := rnO_no (i := i) (by omega) h7_2
     rw [rnV_no ho, ho]; rfl
   ·
    refine AOps.nil ?_
    refine AWp.seq ?_
    refine AWp.cond_f rfl ?_
    refine AWp.exit ?_
    refine AWp.seq ?_
    refine AWp.region ?_
    obtain rfl : i = l.length := by omega
    rw [List.take_length] at hf hO
    have hrv : rnV l = D ++ [r0 :: rs] := by rw [rnV_yes hO, hf]; rfl
    obtain rfl : n = (D ++ [r0 :: rs]).length := by rw [hnx, hxl]; simp
    refine AOps.weak (Weak.full 0 [] (t := [(4, .sl 200 v 0 (D ++ [r0 :: rs]).length 1)]) (hl := [(200, .row (cl (lc 0 rrc) (D ++ [r0 :: rs])) 1 v)]) (hobj := ⟨rfl, ⟨_, rfl, rfl, rfl, by rw [hxs]; exact run_end rfl rfl⟩, trivial⟩)) ?_
    refine aC_ rfl rfl (q_move) ?_
    refine aC_ rfl rfl (q_assign) ?_
    refine aC_ rfl rfl (q_assign) ?_
    refine AOps.nil ?_
    refine AWp.ret ?_
    show Fin te Try.f67 _ _
    refine q_ret (0) [_, _] [_, _] ?_
    rw [hrv, hO]; rfl
end Go.Proofs.Ytokccoloholgaaa.Fw


set_option linter.unusedVariables false
set_option linter.unusedSimpArgs false
namespace Go.Proofs.Ytokccoloholgaaa.Fw
open Go.RowKit
section
variable {z : Zo} {ty : Int} {aa : Bool} {an : List Rr} {n : List UInt8} {v : Nat}
end
end Go.Proofs.Ytokccoloholgaaa.Fw


set_option linter.unusedVariables false
set_option linter.unusedSimpArgs false
namespace Go.Proofs.Ytokccoloholgaaa.Fw
open Go.RowKit
def Lw (n : List UInt8) : List (List UInt8) := lowL (labN n)
theorem same_iff {a b : List UInt8} : sameN a b = true ↔ canN a = true ∧ canN b = true ∧ Lw a = Lw b := by
  constructor
  · intro h
    have h0 := h
    unfold sameN at h
    simp only [Bool.and_eq_true] at h
    obtain ⟨⟨h1, h2⟩, _⟩ := h
    obtain ⟨la, ha, rfl⟩ := can_nm h1
    obtain ⟨lb, hb, rfl⟩ := can_nm h2
    rw [ha.same hb] at h0
    exact ⟨h1, h2, by rw [Lw, Lw, ha.lab, hb.lab]; exact of_decide_eq_true h0⟩
  · rintro ⟨h1, h2, h3⟩
    obtain ⟨la, ha, rfl⟩ := can_nm h1
    obtain ⟨lb, hb, rfl⟩ := can_nm h2
    rw [Lw, Lw, ha.lab, hb.lab] at h3
    rw [ha.same hb]; exact decide_eq_true h3
section
variable {t : Tr}
end
end Go.Proofs.Ytokccoloholgaaa.Fw


set_option linter.unusedVariables false
set_option linter.unusedSimpArgs false
namespace Go.Proofs.Ytokccoloholgaaa.Fw
open Go.RowKit
def Msg.rrs (m : Msg) : List Rr := m.an ++ m.au ++ m.ad
def NmOk (m : Msg) : Prop := (∀ x ∈ m.qs, x.nm.length ≤ 140737488351232) ∧ ∀ x ∈ m.rrs, x.nm.length ≤ 140737488351232
section
variable {d : Nat} {s n b u : TypeId} {is in' ib iu : TI}
theorem has_rrN {t y : TypeId} {it iy : TI} {cs : List AV} (h : Has te (d + 2) t cs) (ht : te.get t = some it) (kt : it.k = .struct [(0, s), (1, n), (2, n), (3, n), (4, y)]) (hs : te.get s = some is) (ks : is.k = .str) (hn : te.get n = some in') (kn : in'.k = .int .i64)
    (hy : te.get y = some iy) (ky : iy.k = .slice u) (hu : te.get u = some iu) (ku : iu.k = .int .u8) (bu : iu.bytes = 1) : ∃ x : Rr, cs = rrc x ∧ (x.da.length ≤ 140737488351232 ∧ x.nm.length ≤ 140737488351232) := by
  obtain ⟨_, w, rfl, q, hh⟩ := has_struct h ht kt
  obtain ⟨a1, rfl, bn⟩ := has_str q hs ks
  obtain ⟨_, w, rfl, q, hh⟩ := hh
  obtain ⟨a2, rfl, _⟩ := has_int q hn kn
  obtain ⟨_, w, rfl, q, hh⟩ := hh
  obtain ⟨a3, rfl, _⟩ := has_int q hn kn
  obtain ⟨_, w, rfl, q, hh⟩ := hh
  obtain ⟨a4, rfl, _⟩ := has_int q hn kn
  obtain ⟨_, w, rfl, q, hh⟩ := hh
  obtain ⟨a5, rfl, h5⟩ := has_bytes q hy ky hu ku bu
  cases hh
  exact ⟨⟨a1, a2, a3, a4, a5⟩, rfl, h5, bn⟩
theorem has_quN {t : TypeId} {it : TI} {cs : List AV} (h : Has te (d + 1) t cs) (ht : te.get t = some it) (kt : it.k = .struct [(0, s), (1, n), (2, n)]) (hs : te.get s = some is) (ks : is.k = .str) (hn : te.get n = some in') (kn : in'.k = .int .i64) : ∃ x : Qu, cs = quc x ∧ x.nm.length ≤ 140737488351232 := by
  obtain ⟨_, w, rfl, q, hh⟩ := has_struct h ht kt
  obtain ⟨a1, rfl, bn⟩ := has_str q hs ks
  obtain ⟨_, w, rfl, q, hh⟩ := hh
  obtain ⟨a2, rfl, _⟩ := has_int q hn kn
  obtain ⟨_, w, rfl, q, hh⟩ := hh
  obtain ⟨a3, rfl, _⟩ := has_int q hn kn
  cases hh
  exact ⟨⟨a1, a2, a3⟩, rfl, bn⟩
theorem has_rrsN {t r y : TypeId} {it ir iy : TI} {cs : List AV} (h : Has te (d + 3) t cs) (ht : te.get t = some it) (kt : it.k = .slice r) (hr : te.get r = some ir) (kr : ir.k = .struct [(0, s), (1, n), (2, n), (3, n), (4, y)]) (br : ir.bytes = 64)
    (hs : te.get s = some is) (ks : is.k = .str) (hn : te.get n = some in') (kn : in'.k = .int .i64) (hy : te.get y = some iy) (ky : iy.k = .slice u) (hu : te.get u = some iu) (ku : iu.k = .int .u8) (bu : iu.bytes = 1) : ∃ l : List Rr, cs = [.fz 0 l.length (cl rrc l)] ∧ (RrsOk l ∧ ∀ x ∈ l, x.nm.length ≤ 140737488351232) := by
  obtain ⟨l, h1, h2, h3⟩ := has_sl (f := rrc) (q := fun x => x.da.length ≤ 140737488351232 ∧ x.nm.length ≤ 140737488351232) h ht kt hr fun c hc => has_rrN hc hr kr hs ks hn kn hy ky hu ku bu
  exact ⟨l, h1, ⟨by rw [br] at h2; exact h2, fun x hx => (h3 x hx).1⟩, fun x hx => (h3 x hx).2⟩
theorem has_qusN {t r : TypeId} {it ir : TI} {cs : List AV} (h : Has te (d + 2) t cs) (ht : te.get t = some it) (kt : it.k = .slice r) (hr : te.get r = some ir) (kr : ir.k = .struct [(0, s), (1, n), (2, n)]) (br : ir.bytes = 32)
    (hs : te.get s = some is) (ks : is.k = .str) (hn : te.get n = some in') (kn : in'.k = .int .i64) : ∃ l : List Qu, cs = [.fz 0 l.length (cl quc l)] ∧ (l.length * 32 ≤ 140737488351232 ∧ ∀ x ∈ l, x.nm.length ≤ 140737488351232) := by
  obtain ⟨l, h1, h2, h3⟩ := has_sl (f := quc) (q := fun x => x.nm.length ≤ 140737488351232) h ht kt hr fun c hc => has_quN hc hr kr hs ks hn kn
  exact ⟨l, h1, by rw [br] at h2; exact h2, h3⟩
theorem has_msgN {t th tq tr r q y : TypeId} {it ith itq itr ir iq iy : TI} {cs : List AV} (h : Has te (d + 4) t cs) (ht : te.get t = some it) (kt : it.k = .struct [(0, th), (8, tq), (9, tr), (10, tr), (11, tr)])
    (hth : te.get th = some ith) (kth : ith.k = .struct [(0, n), (1, b), (2, n), (3, b), (4, b), (5, b), (6, b), (7, n)]) (htq : te.get tq = some itq) (ktq : itq.k = .slice q) (hq : te.get q = some iq) (kq : iq.k = .struct [(0, s), (1, n), (2, n)]) (bq : iq.bytes = 32)
    (htr : te.get tr = some itr) (ktr : itr.k = .slice r) (hr : te.get r = some ir) (kr : ir.k = .struct [(0, s), (1, n), (2, n), (3, n), (4, y)]) (br : ir.bytes = 64)
    (hs : te.get s = some is) (ks : is.k = .str) (hn : te.get n = some in') (kn : in'.k = .int .i64) (hb : te.get b = some ib) (kb : ib.k = .bool) (hy : te.get y = some iy) (ky : iy.k = .slice u) (hu : te.get u = some iu) (ku : iu.k = .int .u8) (bu : iu.bytes = 1) :
    ∃ m : Msg, cs = msgC m ∧ MsgOk m ∧ NmOk m := by
  obtain ⟨_, w, rfl, q1, hh⟩ := has_struct h ht kt
  obtain ⟨a1, rfl, _⟩ := has_hdr q1 hth kth hn kn hb kb
  obtain ⟨_, w, rfl, q1, hh⟩ := hh
  obtain ⟨a2, rfl, b2⟩ := has_qusN q1 htq ktq hq kq bq hs ks hn kn
  obtain ⟨_, w, rfl, q1, hh⟩ := hh
  obtain ⟨a3, rfl, b3⟩ := has_rrsN q1 htr ktr hr kr br hs ks hn kn hy ky hu ku bu
  obtain ⟨_, w, rfl, q1, hh⟩ := hh
  obtain ⟨a4, rfl, b4⟩ := has_rrsN q1 htr ktr hr kr br hs ks hn kn hy ky hu ku bu
  obtain ⟨_, w, rfl, q1, hh⟩ := hh
  obtain ⟨a5, rfl, b5⟩ := has_rrsN q1 htr ktr hr kr br hs ks hn kn hy ky hu ku bu
  cases hh
  refine ⟨⟨a1, a2, a3, a4, a5⟩, rfl, ⟨b2.1, b3.1, b4.1, b5.1⟩, b2.2, fun x hx => ?_⟩
  simp only [Msg.rrs, List.mem_append] at hx
  rcases hx with (hx | hx) | hx
  · exact b3.2 x hx
  · exact b4.2 x hx
  · exact b5.2 x hx
end
section
variable {d : Nat} {s n u : TypeId} {is in' iu : TI}
theorem has_zo {t rl r y : TypeId} {it irl ir iy : TI} {cs : List AV} (h : Has te (d + 4) t cs) (ht : te.get t = some it) (kt : it.k = .struct [(0, s), (1, rl)]) (hrl : te.get rl = some irl) (krl : irl.k = .slice r) (hr : te.get r = some ir) (kr : ir.k = .struct [(0, s), (1, n), (2, n), (3, n), (4, y)]) (br : ir.bytes = 64)
    (hs : te.get s = some is) (ks : is.k = .str) (hn : te.get n = some in') (kn : in'.k = .int .i64) (hy : te.get y = some iy) (ky : iy.k = .slice u) (hu : te.get u = some iu) (ku : iu.k = .int .u8) (bu : iu.bytes = 1) : ∃ z : Zo, cs = zoC z ∧ ZoOk z := by
  obtain ⟨_, w, rfl, q, hh⟩ := has_struct h ht kt
  obtain ⟨a1, rfl, b1⟩ := has_str q hs ks
  obtain ⟨_, w, rfl, q, hh⟩ := hh
  obtain ⟨l, rfl, b2, b3⟩ := has_rrsN q hrl krl hr kr br hs ks hn kn hy ky hu ku bu
  cases hh
  exact ⟨⟨a1, l⟩, rfl, b1, b2, b3⟩
theorem has_sv {t il : TypeId} {it iil : TI} {cs : List AV} (h : Has te (d + 4) t cs) (ht : te.get t = some it) (kt : it.k = .struct [(0, n), (1, il)]) (hil : te.get il = some iil) (kil : iil.k = .slice n) (hn : te.get n = some in') (kn : in'.k = .int .i64) (bn : in'.bytes = 8) : ∃ x : Sv, cs = svC x ∧ x.zs.length * 8 ≤ 140737488351232 := by
  obtain ⟨_, w, rfl, q, hh⟩ := has_struct h ht kt
  obtain ⟨a1, rfl, _⟩ := has_int q hn kn
  obtain ⟨_, w, rfl, q, hh⟩ := hh
  obtain ⟨l, rfl, b2, _⟩ := has_intsc q hil kil hn kn bn
  cases hh
  exact ⟨⟨a1, l⟩, rfl, b2⟩
theorem has_tr {t zl z rl r y sl sv il : TypeId} {it izl iz irl ir iy isl isv iil : TI} {cs : List AV} (h : Has te (d + 6) t cs) (ht : te.get t = some it) (kt : it.k = .struct [(0, zl), (1, sl)]) (hzl : te.get zl = some izl) (kzl : izl.k = .slice z) (hz : te.get z = some iz) (kz : iz.k = .struct [(0, s), (1, rl)]) (bz : iz.bytes = 40)
    (hsl : te.get sl = some isl) (ksl : isl.k = .slice sv) (hsv : te.get sv = some isv) (ksv : isv.k = .struct [(0, n), (1, il)]) (bsv : isv.bytes = 32) (hil : te.get il = some iil) (kil : iil.k = .slice n)
    (hrl : te.get rl = some irl) (krl : irl.k = .slice r) (hr : te.get r = some ir) (kr : ir.k = .struct [(0, s), (1, n), (2, n), (3, n), (4, y)]) (br : ir.bytes = 64)
    (hs : te.get s = some is) (ks : is.k = .str) (hn : te.get n = some in') (kn : in'.k = .int .i64) (bn : in'.bytes = 8) (hy : te.get y = some iy) (ky : iy.k = .slice u) (hu : te.get u = some iu) (ku : iu.k = .int .u8) (bu : iu.bytes = 1) : ∃ T : Tr, cs = trC T ∧ TrOk T := by
  obtain ⟨_, w, rfl, q, hh⟩ := has_struct h ht kt
  obtain ⟨a, rfl, a1, a2⟩ := has_sl (f := zoC) (q := ZoOk) q hzl kzl hz fun c hc => has_zo hc hz kz hrl krl hr kr br hs ks hn kn hy ky hu ku bu
  obtain ⟨_, w, rfl, q, hh⟩ := hh
  obtain ⟨b, rfl, b1, b2⟩ := has_sl (f := svC) (q := fun x => x.zs.length * 8 ≤ 140737488351232) q hsl ksl hsv fun c hc => has_sv hc hsv ksv hil kil hn kn bn
  cases hh
  exact ⟨⟨a, b⟩, rfl, by rw [bz] at a1; exact a1, a2, by rw [bsv] at b1; exact b1, b2⟩
end
end Go.Proofs.Ytokccoloholgaaa.Fw


set_option linter.unusedVariables false
set_option linter.unusedSimpArgs false
namespace Go.Proofs.Ytokccoloholgaaa.Fw
open Go.RowKit
section
variable {t : Tr} {a : Int} {m : Msg}
end
end Go.Proofs.Ytokccoloholgaaa.Fw


set_option linter.unusedVariables false
set_option linter.unusedSimpArgs false
namespace Go.Proofs.Ytokccoloholgaaa.Fw
open Go.RowKit
section
variable {t : Tr}
theorem tru_parts {q : Qu} {x : Int × List Rr} (h : truO t q = some x) : canT t = true ∧ canN q.nm = true ∧ 1 ≤ q.ty ∧ q.ty ≤ 65535 ∧ q.cs = 1 ∧ truF t q.ty 9 [] q.nm = some x := by
  unfold truO at h
  split at h
  · rename_i hc
    simp only [Bool.and_eq_true, decide_eq_true_eq] at hc
    exact ⟨hc.1.1.1.1, hc.1.1.1.2, hc.1.1.2, hc.1.2, hc.2, h⟩
  · cases h
end
end Go.Proofs.Ytokccoloholgaaa.Fw


set_option linter.unusedVariables false
set_option linter.unusedSimpArgs false
namespace Go.Proofs.Ytokccoloholgaaa.Fw
open Go.RowKit
end Go.Proofs.Ytokccoloholgaaa.Fw


set_option linter.unusedVariables false
set_option linter.unusedSimpArgs false
namespace Go.Proofs.Ytokccoloholgaaa.Fw
open Go.RowKit
theorem tru_len {t : Tr} {q : Qu} : (truV t q).2.length ≤ 408 := by
  have key : ∀ (k : Nat) (acc : List Rr) (n : List UInt8) (x : Int × List Rr), canT t = true → canN n = true → acc.length ≤ 8 → truF t q.ty k acc n = some x → x.2.length ≤ 408 := by
    intro k
    induction k with
    | zero => intro acc n x _ _ _ h; cases h
    | succ k ih =>
      intro acc n x hcan hn hacc h
      have hhm := home_ok hcan hn
      have hzm : hZ t n ∈ t.zs := zAt_mem hhm
      by_cases hend : (atZ (hZ t n) n 5).length = 0 ∨ q.ty = 5
      · rw [truF_end hend] at h
        cases h
        have := at_small hcan hzm n q.ty
        simp only [List.length_append]; omega
      · by_cases h8 : acc.length = 8
        · rw [truF_full hend h8] at h; cases h
        · rw [truF_on hend h8] at h
          exact ih _ _ x hcan (at_can hcan hzm (.inr rfl) (getD_mem' (l := atZ (hZ t n) n 5) (i := 0) (by omega))) (by rw [List.length_append]; simp; omega) h
  unfold truV
  cases hx : truO t q with
  | none => simp
  | some x =>
    unfold truO at hx
    split at hx
    · rename_i hc
      simp only [Bool.and_eq_true] at hc
      exact key _ _ _ _ hc.1.1.1.1 hc.1.1.1.2 (by simp) hx
    · cases hx
end Go.Proofs.Ytokccoloholgaaa.Fw


