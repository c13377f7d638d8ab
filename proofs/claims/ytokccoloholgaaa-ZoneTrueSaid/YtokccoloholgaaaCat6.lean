/- The texts L18b, one behind the other: what the walks and plain laws need; conditions stand with each theorem. -/
import Derived.Test.YtokccoloholgaaaCat5
set_option linter.unusedVariables false
set_option linter.unusedSimpArgs false
namespace Go.Proofs.Ytokccoloholgaaa.Fw
open Go.RowKit
set_option maxRecDepth 20000 in
set_option maxHeartbeats 2000000 in
theorem c_ciceronelaw18_ZoneTrue (t : Tr) (q : Qu) (ht : TrOk t) (hq : q.nm.length ≤ 140737488351232) : AC Try.prog 6 [.agg (trC t), .agg (quc q)] emp (Ret (tf true)) := by
 have hb1 := ht.1
 have hev := evT_ok ht
 obtain ⟨hm1, hm2⟩ := m0_ok hq
 refine AC.intro te_ok (fn := Try.f6) ⟨Try.func6, rfl, rfl⟩ (Nat.le_of_ble_eq_true rfl) ?_
 refine AWp.seq ?_
 refine AWp.region ?_
 refine AOps.cons rfl rfl (q_box 100) ?_
 refine AOps.cons rfl rfl (q_box 101) ?_
 refine AOps.cons rfl rfl (q_assign) ?_
 refine AOps.nil ?_
 refine AWp.seq ?_
 refine AWp.seq ?_
 refine AWp.region ?_
 refine AOps.cons rfl rfl (q_load) ?_
 refine AOps.bool rfl rfl (q_call (0) (hc := (c_rCan t ht))) (fun h1_1 => ?_) (fun h1_1 => ?_)
 ·
  refine AOps.cons rfl rfl (q_not) ?_
  refine AOps.nil ?_
  refine AWp.cond_f rfl ?_
  refine AWp.skip ?_
  refine AWp.seq ?_
  refine AWp.region ?_
  refine AOps.cons rfl rfl (q_nilrow 400 1 ic) ?_
  refine AOps.nil ?_
  refine AWp.seq ?_
  refine AWp.seq ?_
  refine AWp.region ?_
  have hcan := h1_1
  refine AOps.cons rfl rfl (q_fa) ?_
  refine AOps.cons rfl rfl (q_load) ?_
  refine AOps.cons rfl rfl (q_len) ?_
  refine AOps.cons rfl rfl (q_move) ?_
  refine AOps.nil ?_
  refine AWp.block ?_
  refine AWp.loopR (α := Nat × List Int × Nat) [5, 6, 31, 32, 33, 34, 35, 36, 37, 38] (fun x_ => [(31, i64 (x_.1)), (5, .sl 400 (x_.2.2) 0 (x_.2.1).length 1)]) (fun x_ => [(400, .row (cl ic (x_.2.1)) 1 (x_.2.2))]) (fun x_ => (x_.1) ≤ t.zs.length ∧ (x_.2.1) = everyN (x_.1)) (fun x_ => t.zs.length - (x_.1)) (0, [], 0) ?_ (Back.mk' (HasT.cons (HasT.cons HasT.nil)) (HasH.cons HasH.nil)) ?_
  ·
   exact ⟨Nat.zero_le _, rfl⟩
  ·
   rintro ⟨i, acc, v⟩ hI5
   change i ≤ t.zs.length ∧ acc = everyN i at hI5
   obtain ⟨hi, ha⟩ := hI5
   refine AWp.as (s' := AS.over _ [5, 6, 31, 32, 33, 34, 35, 36, 37, 38] [(31, i64 i), (5, .sl 400 v 0 acc.length 1)] [(400, .row (cl ic acc) 1 v)]) rfl ?_
   have hal : acc.length = i := by rw [ha, everyN_len]
   refine AWp.seq ?_
   refine AWp.region ?_
   refine AOps.dec rfl rfl (q_lss) (fun h5_0 => ?_) (fun h5_0 => ?_)
   ·
    refine AOps.nil ?_
    refine AWp.seq ?_
    refine AWp.cond_t rfl ?_
    refine AWp.skip ?_
    refine AWp.seq ?_
    refine AWp.block ?_
    refine AWp.seq ?_
    refine AWp.region ?_
    refine AOps.cons rfl rfl (q_move) ?_
    refine AOps.cons rfl rfl (q_assign) ?_
    refine AOps.nil ?_
    refine AWp.region ?_
    refine AOps.cons rfl rfl (q_move) ?_
    refine AOps.cons rfl rfl (q_move) ?_
    refine AOps.cons rfl rfl (q_bs 802 ic [_] [(_, _)]) ?_
    refine AOps.cons rfl rfl (q_app) ?_
    refine AOps.cons rfl rfl (q_assign) ?_
    refine AOps.nil ?_
    refine AWp.region ?_
    refine AOps.cons rfl rfl (q_add) ?_
    refine AOps.cons rfl rfl (q_move) ?_
    refine AOps.nil ?_
    refine ⟨(i + 1, acc ++ [(i : Int)], v + 1), ?_, Back.mk' (HasT.cons (HasT.cons HasT.nil)) (HasH.cons HasH.nil), ?_⟩
    ·
     try dsimp only
     exact ⟨by omega, by rw [everyN_step, ha]⟩
    ·
     try dsimp only
     first | omega | (simp; omega)
   ·
    refine AOps.nil ?_
    refine AWp.seq ?_
    refine AWp.cond_f rfl ?_
    refine AWp.exit ?_
    refine AWp.seq ?_
    refine AWp.region ?_
    obtain rfl : i = t.zs.length := by omega
    obtain rfl : acc = everyT t := ha
    refine AOps.cons rfl rfl (q_fa) ?_
    refine AOps.cons rfl rfl (q_load) ?_
    refine AOps.cons rfl rfl (q_move) ?_
    refine AOps.weak (Weak.full 0 [] (t := [(2, .ptr 100 0 0), (3, .ptr 101 0 0), (40, .fz 0 t.zs.length (cl zoC t.zs)), (41, .fz 0 (everyT t).length (cl ic (everyT t)))]) (hl := [(100, .box (trC t)), (101, .box (quc q))])) ?_
    refine AOps.cons rfl rfl (q_build [(_, _), (_, _)]) ?_
    refine AOps.cons rfl rfl (q_bs 1004 svC [⟨7, everyT t⟩] [(_, _)]) ?_
    refine AOps.weak (Weak.full 0 [] (t := [(2, .ptr 100 0 0), (3, .ptr 101 0 0), (40, .fz 0 t.zs.length (cl zoC t.zs)), (43, .fz 0 (evT t).ss.length (cl svC (evT t).ss))]) (hl := [(100, .box (trC t)), (101, .box (quc q))])) ?_
    refine AOps.cons rfl rfl (q_build [(_, _), (_, _)]) ?_
    refine AOps.cons rfl rfl (q_alloc 1006) ?_
    refine AOps.cons rfl rfl (q_store) ?_
    refine AOps.nil ?_
    refine AWp.seq ?_
    refine AWp.region ?_
    refine AOps.cons rfl rfl (q_load) ?_
    refine AOps.cons rfl rfl (q_load) ?_
    refine AOps.cons rfl rfl (q_bs 1102 quc [q] [(_, _)]) ?_
    refine AOps.weak (Weak.full 0 [] (t := [(2, .ptr 100 0 0), (3, .ptr 101 0 0), (7, .ptr 1006 0 0), (46, .agg (trC (evT t))), (48, .fz 0 [q].length (cl quc [q]))]) (hl := [(100, .box (trC t)), (101, .box (quc q)), (1006, .box (trC (evT t)))])) ?_
    refine AOps.cons rfl rfl (q_build [(_, _)]) ?_
    refine AOps.cons rfl rfl (q_call (0) (hA := by exact ⟨fv_okb rfl rfl, fv_okb rfl rfl, fv_agg ⟨fv_okb rfl rfl, fv_okb rfl rfl, fv_okb rfl rfl, fv_okb rfl rfl, fv_okb rfl rfl, fv_okb rfl rfl, fv_okb rfl rfl, fv_okb rfl rfl, fv_okb rfl rfl, fv_nilz, fv_nilz, fv_nilz, trivial⟩, trivial⟩) (hc := (c_zone_Serve (evT t) 7 (m0 q) hev hm1 hm2))) ?_
    refine AOps.cons rfl rfl (q_move) ?_
    refine AOps.cons rfl rfl (q_extract) ?_
    refine AOps.cons rfl rfl (q_extract) ?_
    refine AOps.cons rfl rfl (q_alloc 1108) ?_
    refine AOps.cons rfl rfl (q_store) ?_
    refine AOps.cons rfl rfl (q_assign) ?_
    refine AOps.nil ?_
    refine AWp.seq ?_
    refine AWp.region ?_
    refine AOps.cons rfl rfl (q_load) ?_
    refine AOps.cons rfl rfl (q_load) ?_
    refine AOps.cons rfl rfl (q_call (0) (hc := (c_zone_Truth (evT t) q hev hq))) ?_
    refine AOps.cons rfl rfl (q_move) ?_
    refine AOps.cons rfl rfl (q_extract) ?_
    refine AOps.bool rfl rfl (q_extract) (fun h11_5 => ?_) (fun h11_5 => ?_)
    ·
     refine AOps.cons rfl rfl (q_alloc 1206) ?_
     refine AOps.cons rfl rfl (q_store) ?_
     refine AOps.cons rfl rfl (q_assign) ?_
     refine AOps.nil ?_
     refine AWp.seq ?_
     refine AWp.seq ?_
     refine AWp.region ?_
     refine AOps.cons rfl rfl (q_move) ?_
     refine AOps.cons rfl rfl (q_not) ?_
     refine AOps.nil ?_
     refine AWp.cond_f rfl ?_
     refine AWp.skip ?_
     refine AWp.seq ?_
     refine AWp.seq ?_
     refine AWp.region ?_
     obtain ⟨x, hx⟩ := Option.isSome_iff_exists.1 h11_5
     obtain ⟨hso, f, hf, haa, hpre, hnm, hD⟩ := serve_true hcan hx
     rw [hf, show truV (evT t) q = x by rw [truV, hx]; rfl]
     have hple := hpre.length_le
     have hxl : x.2.length ≤ 408 := by have h := tru_len (t := evT t) (q := q); rw [show truV (evT t) q = x by rw [truV, hx]; rfl] at h; exact h
     refine AOps.weak (Weak.full 0 [] (t := [(3, .ptr 101 0 0), (8, .ptr 1108 0 0), (9, tf (serO (evT t) 7 (m0 q))), (10, .ptr 1206 0 0)]) (hl := [(101, .box (quc q)), (1108, .box [i64 0, tf true, i64 0, tf f.aa, tf false, tf false, tf false, i64 f.code, .fz 0 [q].length (cl quc [q]), .fz 0 (f.an).length (cl rrc (f.an)), .fz 0 (f.au).length (cl rrc (f.au)), .fz 0 (f.ad).length (cl rrc (f.ad))]), (1206, .box (resC x))])) ?_
     refine AOps.cons rfl rfl ((OpOk.bool_is (c := true) (q_move) (hso))) ?_
     refine AOps.cons rfl rfl (q_not) ?_
     refine AOps.cons rfl rfl (q_move) ?_
     refine AOps.gcons rfl rfl rfl rfl rfl (q_fa) ?_
     refine AOps.gcons rfl rfl rfl rfl rfl (q_fa) ?_
     refine AOps.gcons rfl rfl rfl rfl rfl ((OpOk.bool_is (c := true) (q_load) (haa))) ?_
     refine AOps.gcons rfl rfl rfl rfl rfl (q_move) ?_
     refine AOps.gcons rfl rfl rfl rfl rfl (q_fa) ?_
     refine AOps.gcons rfl rfl rfl rfl rfl (q_load) ?_
     refine AOps.gcons rfl rfl rfl rfl rfl (q_len) ?_
     refine AOps.gcons rfl rfl rfl rfl rfl (q_fa) ?_
     refine AOps.gcons rfl rfl rfl rfl rfl (q_load) ?_
     refine AOps.gcons rfl rfl rfl rfl rfl (q_len) ?_
     refine AOps.gcons rfl rfl rfl rfl rfl ((OpOk.dec_f (q_gtr) (by omega))) ?_
     refine AOps.gcons rfl rfl rfl rfl rfl (q_pick) ?_
     refine AOps.cons rfl rfl (q_pick) ?_
     refine AOps.cons rfl rfl (q_move) ?_
     refine AOps.gcons rfl rfl rfl rfl rfl (q_fa) ?_
     refine AOps.gcons rfl rfl rfl rfl rfl (q_fa) ?_
     refine AOps.gcons rfl rfl rfl rfl rfl ((OpOk.bool_is (c := true) (q_load) (haa))) ?_
     refine AOps.gcons rfl rfl rfl rfl rfl (q_not) ?_
     refine AOps.gcons rfl rfl rfl rfl rfl (q_move) ?_
     refine AOps.gskip rfl rfl rfl rfl rfl rfl rfl rfl ?_
     refine AOps.gskip rfl rfl rfl rfl rfl rfl rfl rfl ?_
     refine AOps.gskip rfl rfl rfl rfl rfl rfl rfl rfl ?_
     refine AOps.gskip rfl rfl rfl rfl rfl rfl rfl rfl ?_
     refine AOps.gcons rfl rfl rfl rfl rfl (q_pick) ?_
     refine AOps.gcons rfl rfl rfl rfl rfl (q_move) ?_
     refine AOps.gskip rfl rfl rfl rfl rfl rfl rfl rfl ?_
     refine AOps.gskip rfl rfl rfl rfl rfl rfl rfl rfl ?_
     refine AOps.gskip rfl rfl rfl rfl rfl rfl rfl rfl ?_
     refine AOps.gskip rfl rfl rfl rfl rfl rfl rfl rfl ?_
     refine AOps.gcons rfl rfl rfl rfl rfl (q_pick) ?_
     refine AOps.cons rfl rfl (q_pick) ?_
     refine AOps.nil ?_
     refine AWp.cond_f rfl ?_
     refine AWp.skip ?_
     refine AWp.seq ?_
     refine AWp.seq ?_
     refine AWp.region ?_
     refine AOps.cons rfl rfl (q_fa) ?_
     refine AOps.cons rfl rfl (q_load) ?_
     refine AOps.cons rfl rfl (q_len) ?_
     refine AOps.cons rfl rfl (q_move) ?_
     refine AOps.nil ?_
     refine AWp.block ?_
     refine AWp.loopR (α := Nat) [4, 14, 15, 110, 111, 112, 113, 114, 115, 116, 117, 118, 119, 120, 121, 122, 123, 124, 125, 126, 127, 128, 129, 130, 131, 132, 133, 134, 135, 136] (fun i => [(110, i64 i)]) (fun i => []) (fun i => i ≤ f.an.length) (fun i => f.an.length - i) 0 ?_ (Back.mk' (HasT.cons HasT.nil) HasH.nil) ?_
     ·
      exact Nat.zero_le _
     ·
      rintro i hi
      refine AWp.seq ?_
      refine AWp.region ?_
      refine AOps.dec rfl rfl (q_lss) (fun h18_0 => ?_) (fun h18_0 => ?_)
      ·
       refine AOps.nil ?_
       refine AWp.seq ?_
       refine AWp.cond_t rfl ?_
       refine AWp.skip ?_
       refine AWp.seq ?_
       refine AWp.block ?_
       refine AWp.seq ?_
       refine AWp.region ?_
       refine AOps.cons rfl rfl (q_move) ?_
       refine AOps.cons rfl rfl (q_ix) ?_
       refine AOps.cons rfl rfl (q_load) ?_
       refine AOps.cons rfl rfl (q_alloc 2003) ?_
       refine AOps.cons rfl rfl (q_assign) ?_
       refine AOps.cons rfl rfl (q_store) ?_
       refine AOps.nil ?_
       refine AWp.seq ?_
       have hi2 : i < f.an.length := by have := h18_0; simp at this; omega
       have hget := pre_get hpre hi2
       have hni := hnm _ (getD_mem' (l := x.2) (i := i) (by omega))
       have hsm : sameN (f.an.getD i default).nm (x.2.getD i default).nm = true := by rw [hget] at hni ⊢; exact sameN_self hni
       have hnl := canN_le2 hni
       have hnl2 := hnl
       rw [hget] at hnl2
       have hge : (f.an.getD i default).ty = (x.2.getD i default).ty := by rw [hget]
       refine AWp.draws [⟨0, [15], [2003], some 115, _, none⟩,
           ⟨1, [115], [2003], some 116, _, none⟩,
           ⟨2, [10], [1206], some 117, _, none⟩,
           ⟨3, [117], [1206], some 118, _, none⟩,
           ⟨4, [14], [], some 119, _, none⟩,
           ⟨5, [118, 119], [], some 120, _, none⟩,
           ⟨6, [120], [], some 121, _, none⟩,
           ⟨7, [121], [], some 122, _, none⟩,
           ⟨8, [116, 122], [], some 123, _, none⟩,
           ⟨9, [123], [], some 124, _, none⟩,
           ⟨10, [124], [], some 125, _, none⟩,
           ⟨11, [15, 125], [2003], some 126, _, none⟩,
           ⟨12, [125, 126], [2003], some 127, _, none⟩,
           ⟨13, [10, 125], [1206], some 128, _, none⟩,
           ⟨14, [125, 128], [1206], some 129, _, none⟩,
           ⟨15, [14, 125], [], some 130, _, none⟩,
           ⟨16, [125, 129, 130], [], some 131, _, none⟩,
           ⟨17, [125, 131], [], some 132, _, none⟩,
           ⟨18, [125, 132], [], some 133, _, none⟩,
           ⟨19, [125, 127, 133], [], some 134, _, none⟩,
           ⟨20, [125, 134], [], some 135, _, none⟩]
        [⟨0, [15], [2003], some 115, .any, none⟩,
            ⟨1, [115], [2003], some 116, .any, none⟩,
            ⟨2, [10], [1206], some 117, .any, none⟩,
            ⟨3, [117], [1206], some 118, .any, none⟩,
            ⟨4, [14], [], some 119, .any, none⟩,
            ⟨5, [118, 119], [], some 120, .any, none⟩,
            ⟨6, [120], [], some 121, .any, none⟩,
            ⟨7, [121], [], some 122, .any, none⟩,
            ⟨8, [116, 122], [], some 123, .any, none⟩,
            ⟨9, [123], [], some 124, .any, none⟩,
            ⟨10, [124], [], some 125, .any, none⟩,
            ⟨11, [15, 125], [2003], some 126, .any, none⟩,
            ⟨12, [125, 126], [2003], some 127, .any, none⟩,
            ⟨13, [10, 125], [1206], some 128, .any, none⟩,
            ⟨14, [125, 128], [1206], some 129, .any, none⟩,
            ⟨15, [14, 125], [], some 130, .any, none⟩,
            ⟨16, [125, 129, 130], [], some 131, .any, none⟩,
            ⟨17, [125, 131], [], some 132, .any, none⟩,
            ⟨18, [125, 132], [], some 133, .any, none⟩,
            ⟨19, [125, 127, 133], [], some 134, .any, none⟩,
            ⟨20, [125, 134], [], some 135, .any, none⟩]
        mixed_ok rfl (by kernel_rfl) ⟨DS.ok_over fun s0 => OpAt.go rfl rfl (q_fa),
            DS.ok_over fun s0 => OpAt.go rfl rfl (q_load),
            DS.ok_over fun s0 => OpAt.go rfl rfl (q_fa),
            DS.ok_over fun s0 => OpAt.go rfl rfl (q_load),
            DS.ok_over fun s0 => OpAt.go rfl rfl (q_move),
            DS.ok_over fun s0 => OpAt.go rfl rfl (q_ix),
            DS.ok_over fun s0 => OpAt.go rfl rfl (q_fa),
            DS.ok_over fun s0 => OpAt.go rfl rfl (q_load),
            DS.ok_over fun s0 => OpAt.go rfl rfl ((OpOk.bool_is (c := true) (q_call (0) (hc := (c_ciceroneref01_Same (f.an.getD i default).nm (x.2.getD i default).nm (by omega) (by omega)))) (hsm))),
            DS.ok_over fun s0 => OpAt.go rfl rfl ((OpOk.bool_is (c := false) (q_not) (rfl))),
            DS.ok_over fun s0 => OpAt.go rfl rfl (q_move),
            DS.ok_over fun s0 => OpAt.ggo rfl rfl rfl rfl rfl (q_fa),
            DS.ok_over fun s0 => OpAt.ggo rfl rfl rfl rfl rfl (q_load),
            DS.ok_over fun s0 => OpAt.ggo rfl rfl rfl rfl rfl (q_fa),
            DS.ok_over fun s0 => OpAt.ggo rfl rfl rfl rfl rfl (q_load),
            DS.ok_over fun s0 => OpAt.ggo rfl rfl rfl rfl rfl (q_move),
            DS.ok_over fun s0 => OpAt.ggo rfl rfl rfl rfl rfl (q_ix),
            DS.ok_over fun s0 => OpAt.ggo rfl rfl rfl rfl rfl (q_fa),
            DS.ok_over fun s0 => OpAt.ggo rfl rfl rfl rfl rfl (q_load),
            DS.ok_over fun s0 => OpAt.ggo rfl rfl rfl rfl rfl ((OpOk.dec_f (q_neq) (fun k => k hge))),
            DS.ok_over fun s0 => OpAt.go rfl rfl (q_pick), trivial⟩ ?_
       dsimp only [final, DS.upd, AS.seto]
       refine AWp.cond_f rfl ?_
       refine AWp.skip ?_
       refine AWp.region ?_
       refine AOps.cons rfl rfl (q_add) ?_
       refine AOps.cons rfl rfl (q_move) ?_
       refine AOps.nil ?_
       refine ⟨i + 1, ?_, Back.mk' (HasT.cons HasT.nil) HasH.nil, ?_⟩
       ·
        first | assumption | omega | decide | (simp; omega) | (simp [*]; done)
       ·
        first | omega | (simp; omega)
      ·
       refine AOps.nil ?_
       refine AWp.seq ?_
       refine AWp.cond_f rfl ?_
       refine AWp.exit ?_
       refine AWp.seq ?_
       refine AWp.region ?_
       refine AOps.cons rfl rfl (q_fa) ?_
       refine AOps.cons rfl rfl (q_load) ?_
       refine AOps.cons rfl rfl (q_len) ?_
       refine AOps.cons rfl rfl (q_assign) ?_
       refine AOps.nil ?_
       refine AWp.seq ?_
       refine AWp.region ?_
       rcases hD with ⟨d1, d2, d3, d4⟩ | ⟨d1, d2⟩
       ·
        refine AOps.cons rfl rfl (q_move) ?_
        refine AOps.cons rfl rfl ((OpOk.dec_t (q_gtr) (by omega))) ?_
        refine AOps.cons rfl rfl (q_move) ?_
        refine AOps.gcons rfl rfl rfl rfl rfl (q_fa) ?_
        refine AOps.gcons rfl rfl rfl rfl rfl (q_load) ?_
        refine AOps.gcons rfl rfl rfl rfl rfl (q_move) ?_
        refine AOps.gcons rfl rfl rfl rfl rfl (q_sub) ?_
        refine AOps.gcons rfl rfl rfl rfl rfl (q_ix) ?_
        refine AOps.gcons rfl rfl rfl rfl rfl (q_fa) ?_
        refine AOps.gcons rfl rfl rfl rfl rfl (q_load) ?_
        refine AOps.gcons rfl rfl rfl rfl rfl ((OpOk.dec_t (q_eql) (by first | exact d2 | (rw [← d2]; congr 2; omega)))) ?_
        refine AOps.cons rfl rfl (q_pick) ?_
        refine AOps.cons rfl rfl (q_move) ?_
        refine AOps.gcons rfl rfl rfl rfl rfl (q_fa) ?_
        refine AOps.gcons rfl rfl rfl rfl rfl (q_load) ?_
        refine AOps.gcons rfl rfl rfl rfl rfl ((OpOk.dec_t (q_neq) (d3))) ?_
        refine AOps.cons rfl rfl (q_pick) ?_
        refine AOps.cons rfl rfl (q_move) ?_
        refine AOps.gcons rfl rfl rfl rfl rfl (q_fa) ?_
        refine AOps.gcons rfl rfl rfl rfl rfl (q_load) ?_
        refine AOps.gcons rfl rfl rfl rfl rfl (q_len) ?_
        refine AOps.gcons rfl rfl rfl rfl rfl ((OpOk.dec_t (q_eql) (by rw [d4]; rfl))) ?_
        refine AOps.cons rfl rfl (q_pick) ?_
        refine AOps.cons rfl rfl (q_assign) ?_
        refine AOps.nil ?_
        refine AWp.seq ?_
        refine AWp.region ?_
        refine AOps.cons rfl rfl (q_move) ?_
        refine AOps.cons rfl rfl (q_move) ?_
        refine AOps.gskip rfl rfl rfl rfl rfl rfl rfl rfl ?_
        refine AOps.gskip rfl rfl rfl rfl rfl rfl rfl rfl ?_
        refine AOps.gskip rfl rfl rfl rfl rfl rfl rfl rfl ?_
        refine AOps.gskip rfl rfl rfl rfl rfl rfl rfl rfl ?_
        refine AOps.cons rfl rfl (q_pick) ?_
        refine AOps.cons rfl rfl (q_move) ?_
        refine AOps.gskip rfl rfl rfl rfl rfl rfl rfl rfl ?_
        refine AOps.gskip rfl rfl rfl rfl rfl rfl rfl rfl ?_
        refine AOps.gskip rfl rfl rfl rfl rfl rfl rfl rfl ?_
        refine AOps.gskip rfl rfl rfl rfl rfl rfl rfl rfl ?_
        refine AOps.gskip rfl rfl rfl rfl rfl rfl rfl rfl ?_
        refine AOps.gskip rfl rfl rfl rfl rfl rfl rfl rfl ?_
        refine AOps.gskip rfl rfl rfl rfl rfl rfl rfl rfl ?_
        refine AOps.gskipu rfl rfl rfl rfl rfl rfl rfl ?_
        refine AOps.gskipu rfl rfl rfl rfl rfl rfl rfl ?_
        refine AOps.gskipu rfl rfl rfl rfl rfl rfl rfl ?_
        refine AOps.gskipu rfl rfl rfl rfl rfl rfl rfl ?_
        refine AOps.gskipu rfl rfl rfl rfl rfl rfl rfl ?_
        refine AOps.gskip rfl rfl rfl rfl rfl rfl rfl rfl ?_
        refine AOps.cons rfl rfl (q_pick) ?_
        refine AOps.cons rfl rfl (q_assign) ?_
        refine AOps.nil ?_
        refine AWp.ret ?_
        show Fin te Try.f6 _ _
        refine q_ret (0) [_] [_] ?_
        rfl
       ·
        refine AOps.cons rfl rfl (q_move) ?_
        refine AOps.dec rfl rfl (q_gtr) (fun h24_1 => ?_) (fun h24_1 => ?_)
        ·
         refine AOps.cons rfl rfl (q_move) ?_
         refine AOps.gcons rfl rfl rfl rfl rfl (q_fa) ?_
         refine AOps.gcons rfl rfl rfl rfl rfl (q_load) ?_
         refine AOps.gcons rfl rfl rfl rfl rfl (q_move) ?_
         refine AOps.gcons rfl rfl rfl rfl rfl (q_sub) ?_
         refine AOps.gcons rfl rfl rfl rfl rfl (q_ix) ?_
         refine AOps.gcons rfl rfl rfl rfl rfl (q_fa) ?_
         refine AOps.gcons rfl rfl rfl rfl rfl (q_load) ?_
         refine AOps.gdec rfl rfl rfl rfl rfl (q_eql) (fun h24_10 => ?_) (fun h24_10 => ?_)
         ·
          refine AOps.cons rfl rfl (q_pick) ?_
          refine AOps.cons rfl rfl (q_move) ?_
          refine AOps.gcons rfl rfl rfl rfl rfl (q_fa) ?_
          refine AOps.gcons rfl rfl rfl rfl rfl (q_load) ?_
          refine AOps.gdec rfl rfl rfl rfl rfl (q_neq) (fun h24_15 => ?_) (fun h24_15 => ?_)
          ·
           refine AOps.cons rfl rfl (q_pick) ?_
           refine AOps.cons rfl rfl (q_move) ?_
           refine AOps.gcons rfl rfl rfl rfl rfl (q_fa) ?_
           refine AOps.gcons rfl rfl rfl rfl rfl (q_load) ?_
           refine AOps.gcons rfl rfl rfl rfl rfl (q_len) ?_
           refine AOps.gdec rfl rfl rfl rfl rfl (q_eql) (fun h24_21 => ?_) (fun h24_21 => ?_)
           ·
            refine AOps.cons rfl rfl (q_pick) ?_
            refine AOps.cons rfl rfl (q_assign) ?_
            refine AOps.nil ?_
            refine AWp.seq ?_
            refine AWp.region ?_
            refine AOps.cons rfl rfl (q_move) ?_
            refine AOps.cons rfl rfl (q_move) ?_
            refine AOps.gskip rfl rfl rfl rfl rfl rfl rfl rfl ?_
            refine AOps.gskip rfl rfl rfl rfl rfl rfl rfl rfl ?_
            refine AOps.gskip rfl rfl rfl rfl rfl rfl rfl rfl ?_
            refine AOps.gskip rfl rfl rfl rfl rfl rfl rfl rfl ?_
            refine AOps.cons rfl rfl (q_pick) ?_
            refine AOps.cons rfl rfl (q_move) ?_
            refine AOps.gskip rfl rfl rfl rfl rfl rfl rfl rfl ?_
            refine AOps.gskip rfl rfl rfl rfl rfl rfl rfl rfl ?_
            refine AOps.gskip rfl rfl rfl rfl rfl rfl rfl rfl ?_
            refine AOps.gskip rfl rfl rfl rfl rfl rfl rfl rfl ?_
            refine AOps.gskip rfl rfl rfl rfl rfl rfl rfl rfl ?_
            refine AOps.gskip rfl rfl rfl rfl rfl rfl rfl rfl ?_
            refine AOps.gskip rfl rfl rfl rfl rfl rfl rfl rfl ?_
            refine AOps.gskipu rfl rfl rfl rfl rfl rfl rfl ?_
            refine AOps.gskipu rfl rfl rfl rfl rfl rfl rfl ?_
            refine AOps.gskipu rfl rfl rfl rfl rfl rfl rfl ?_
            refine AOps.gskipu rfl rfl rfl rfl rfl rfl rfl ?_
            refine AOps.gskipu rfl rfl rfl rfl rfl rfl rfl ?_
            refine AOps.gskip rfl rfl rfl rfl rfl rfl rfl rfl ?_
            refine AOps.cons rfl rfl (q_pick) ?_
            refine AOps.cons rfl rfl (q_assign) ?_
            refine AOps.nil ?_
            refine AWp.ret ?_
            show Fin te Try.f6 _ _
            refine q_ret (0) [_] [_] ?_
            rfl
           ·
            refine AOps.cons rfl rfl (q_pick) ?_
            refine AOps.cons rfl rfl (q_assign) ?_
            refine AOps.nil ?_
            refine AWp.seq ?_
            refine AWp.region ?_
            refine AOps.cons rfl rfl (q_move) ?_
            refine AOps.cons rfl rfl (q_move) ?_
            refine AOps.gcons rfl rfl rfl rfl rfl (q_fa) ?_
            refine AOps.gcons rfl rfl rfl rfl rfl (q_fa) ?_
            refine AOps.gcons rfl rfl rfl rfl rfl (q_load) ?_
            refine AOps.gdec rfl rfl rfl rfl rfl (q_eql) (fun h25_5 => ?_) (fun h25_5 => ?_)
            ·
             refine AOps.cons rfl rfl (q_pick) ?_
             refine AOps.cons rfl rfl (q_move) ?_
             refine AOps.gskip rfl rfl rfl rfl rfl rfl rfl rfl ?_
             refine AOps.gskip rfl rfl rfl rfl rfl rfl rfl rfl ?_
             refine AOps.gskip rfl rfl rfl rfl rfl rfl rfl rfl ?_
             refine AOps.gskip rfl rfl rfl rfl rfl rfl rfl rfl ?_
             refine AOps.gskip rfl rfl rfl rfl rfl rfl rfl rfl ?_
             refine AOps.gskip rfl rfl rfl rfl rfl rfl rfl rfl ?_
             refine AOps.gskip rfl rfl rfl rfl rfl rfl rfl rfl ?_
             refine AOps.gskipu rfl rfl rfl rfl rfl rfl rfl ?_
             refine AOps.gskipu rfl rfl rfl rfl rfl rfl rfl ?_
             refine AOps.gskipu rfl rfl rfl rfl rfl rfl rfl ?_
             refine AOps.gskipu rfl rfl rfl rfl rfl rfl rfl ?_
             refine AOps.gskipu rfl rfl rfl rfl rfl rfl rfl ?_
             refine AOps.gskip rfl rfl rfl rfl rfl rfl rfl rfl ?_
             refine AOps.cons rfl rfl (q_pick) ?_
             refine AOps.cons rfl rfl (q_assign) ?_
             refine AOps.nil ?_
             refine AWp.ret ?_
             show Fin te Try.f6 _ _
             refine q_ret (0) [_] [_] ?_
             rfl
            ·
             refine AOps.cons rfl rfl (q_pick) ?_
             refine AOps.cons rfl rfl (q_move) ?_
             refine AOps.gcons rfl rfl rfl rfl rfl (q_fa) ?_
             refine AOps.gcons rfl rfl rfl rfl rfl (q_fa) ?_
             refine AOps.gcons rfl rfl rfl rfl rfl (q_load) ?_
             refine AOps.gcons rfl rfl rfl rfl rfl (q_fa) ?_
             refine AOps.gcons rfl rfl rfl rfl rfl (q_load) ?_
             refine AOps.gcons rfl rfl rfl rfl rfl ((OpOk.dec_t (q_eql) (d1))) ?_
             refine AOps.gcons rfl rfl rfl rfl rfl (q_move) ?_
             refine AOps.gcons rfl rfl rfl rfl rfl (q_move) ?_
             refine AOps.gcons rfl rfl rfl rfl rfl (q_fa) ?_
             refine AOps.gcons rfl rfl rfl rfl rfl (q_load) ?_
             refine AOps.gcons rfl rfl rfl rfl rfl (q_len) ?_
             refine AOps.gcons rfl rfl rfl rfl rfl ((OpOk.dec_t (q_eql) (by rw [d2]))) ?_
             refine AOps.gcons rfl rfl rfl rfl rfl (q_pick) ?_
             refine AOps.cons rfl rfl (q_pick) ?_
             refine AOps.cons rfl rfl (q_assign) ?_
             refine AOps.nil ?_
             refine AWp.ret ?_
             show Fin te Try.f6 _ _
             refine q_ret (0) [_] [_] ?_
             rfl
          ·
           refine AOps.cons rfl rfl (q_pick) ?_
           refine AOps.cons rfl rfl (q_move) ?_
           refine AOps.gskip rfl rfl rfl rfl rfl rfl rfl rfl ?_
           refine AOps.gskip rfl rfl rfl rfl rfl rfl rfl rfl ?_
           refine AOps.gskip rfl rfl rfl rfl rfl rfl rfl rfl ?_
           refine AOps.gskip rfl rfl rfl rfl rfl rfl rfl rfl ?_
           refine AOps.cons rfl rfl (q_pick) ?_
           refine AOps.cons rfl rfl (q_assign) ?_
           refine AOps.nil ?_
           refine AWp.seq ?_
           refine AWp.region ?_
           refine AOps.cons rfl rfl (q_move) ?_
           refine AOps.cons rfl rfl (q_move) ?_
           refine AOps.gcons rfl rfl rfl rfl rfl (q_fa) ?_
           refine AOps.gcons rfl rfl rfl rfl rfl (q_fa) ?_
           refine AOps.gcons rfl rfl rfl rfl rfl (q_load) ?_
           refine AOps.gdec rfl rfl rfl rfl rfl (q_eql) (fun h25_5 => ?_) (fun h25_5 => ?_)
           ·
            refine AOps.cons rfl rfl (q_pick) ?_
            refine AOps.cons rfl rfl (q_move) ?_
            refine AOps.gskip rfl rfl rfl rfl rfl rfl rfl rfl ?_
            refine AOps.gskip rfl rfl rfl rfl rfl rfl rfl rfl ?_
            refine AOps.gskip rfl rfl rfl rfl rfl rfl rfl rfl ?_
            refine AOps.gskip rfl rfl rfl rfl rfl rfl rfl rfl ?_
            refine AOps.gskip rfl rfl rfl rfl rfl rfl rfl rfl ?_
            refine AOps.gskip rfl rfl rfl rfl rfl rfl rfl rfl ?_
            refine AOps.gskip rfl rfl rfl rfl rfl rfl rfl rfl ?_
            refine AOps.gskipu rfl rfl rfl rfl rfl rfl rfl ?_
            refine AOps.gskipu rfl rfl rfl rfl rfl rfl rfl ?_
            refine AOps.gskipu rfl rfl rfl rfl rfl rfl rfl ?_
            refine AOps.gskipu rfl rfl rfl rfl rfl rfl rfl ?_
            refine AOps.gskipu rfl rfl rfl rfl rfl rfl rfl ?_
            refine AOps.gskip rfl rfl rfl rfl rfl rfl rfl rfl ?_
            refine AOps.cons rfl rfl (q_pick) ?_
            refine AOps.cons rfl rfl (q_assign) ?_
            refine AOps.nil ?_
            refine AWp.ret ?_
            show Fin te Try.f6 _ _
            refine q_ret (0) [_] [_] ?_
            rfl
           ·
            refine AOps.cons rfl rfl (q_pick) ?_
            refine AOps.cons rfl rfl (q_move) ?_
            refine AOps.gcons rfl rfl rfl rfl rfl (q_fa) ?_
            refine AOps.gcons rfl rfl rfl rfl rfl (q_fa) ?_
            refine AOps.gcons rfl rfl rfl rfl rfl (q_load) ?_
            refine AOps.gcons rfl rfl rfl rfl rfl (q_fa) ?_
            refine AOps.gcons rfl rfl rfl rfl rfl (q_load) ?_
            refine AOps.gcons rfl rfl rfl rfl rfl ((OpOk.dec_t (q_eql) (d1))) ?_
            refine AOps.gcons rfl rfl rfl rfl rfl (q_move) ?_
            refine AOps.gcons rfl rfl rfl rfl rfl (q_move) ?_
            refine AOps.gcons rfl rfl rfl rfl rfl (q_fa) ?_
            refine AOps.gcons rfl rfl rfl rfl rfl (q_load) ?_
            refine AOps.gcons rfl rfl rfl rfl rfl (q_len) ?_
            refine AOps.gcons rfl rfl rfl rfl rfl ((OpOk.dec_t (q_eql) (by rw [d2]))) ?_
            refine AOps.gcons rfl rfl rfl rfl rfl (q_pick) ?_
            refine AOps.cons rfl rfl (q_pick) ?_
            refine AOps.cons rfl rfl (q_assign) ?_
            refine AOps.nil ?_
            refine AWp.ret ?_
            show Fin te Try.f6 _ _
            refine q_ret (0) [_] [_] ?_
            rfl
         ·
          refine AOps.cons rfl rfl (q_pick) ?_
          refine AOps.cons rfl rfl (q_move) ?_
          refine AOps.gskip rfl rfl rfl rfl rfl rfl rfl rfl ?_
          refine AOps.gskip rfl rfl rfl rfl rfl rfl rfl rfl ?_
          refine AOps.gskip rfl rfl rfl rfl rfl rfl rfl rfl ?_
          refine AOps.cons rfl rfl (q_pick) ?_
          refine AOps.cons rfl rfl (q_move) ?_
          refine AOps.gskip rfl rfl rfl rfl rfl rfl rfl rfl ?_
          refine AOps.gskip rfl rfl rfl rfl rfl rfl rfl rfl ?_
          refine AOps.gskip rfl rfl rfl rfl rfl rfl rfl rfl ?_
          refine AOps.gskip rfl rfl rfl rfl rfl rfl rfl rfl ?_
          refine AOps.cons rfl rfl (q_pick) ?_
          refine AOps.cons rfl rfl (q_assign) ?_
          refine AOps.nil ?_
          refine AWp.seq ?_
          refine AWp.region ?_
          refine AOps.cons rfl rfl (q_move) ?_
          refine AOps.cons rfl rfl (q_move) ?_
          refine AOps.gcons rfl rfl rfl rfl rfl (q_fa) ?_
          refine AOps.gcons rfl rfl rfl rfl rfl (q_fa) ?_
          refine AOps.gcons rfl rfl rfl rfl rfl (q_load) ?_
          refine AOps.gdec rfl rfl rfl rfl rfl (q_eql) (fun h25_5 => ?_) (fun h25_5 => ?_)
          ·
           refine AOps.cons rfl rfl (q_pick) ?_
           refine AOps.cons rfl rfl (q_move) ?_
           refine AOps.gskip rfl rfl rfl rfl rfl rfl rfl rfl ?_
           refine AOps.gskip rfl rfl rfl rfl rfl rfl rfl rfl ?_
           refine AOps.gskip rfl rfl rfl rfl rfl rfl rfl rfl ?_
           refine AOps.gskip rfl rfl rfl rfl rfl rfl rfl rfl ?_
           refine AOps.gskip rfl rfl rfl rfl rfl rfl rfl rfl ?_
           refine AOps.gskip rfl rfl rfl rfl rfl rfl rfl rfl ?_
           refine AOps.gskip rfl rfl rfl rfl rfl rfl rfl rfl ?_
           refine AOps.gskipu rfl rfl rfl rfl rfl rfl rfl ?_
           refine AOps.gskipu rfl rfl rfl rfl rfl rfl rfl ?_
           refine AOps.gskipu rfl rfl rfl rfl rfl rfl rfl ?_
           refine AOps.gskipu rfl rfl rfl rfl rfl rfl rfl ?_
           refine AOps.gskipu rfl rfl rfl rfl rfl rfl rfl ?_
           refine AOps.gskip rfl rfl rfl rfl rfl rfl rfl rfl ?_
           refine AOps.cons rfl rfl (q_pick) ?_
           refine AOps.cons rfl rfl (q_assign) ?_
           refine AOps.nil ?_
           refine AWp.ret ?_
           show Fin te Try.f6 _ _
           refine q_ret (0) [_] [_] ?_
           rfl
          ·
           refine AOps.cons rfl rfl (q_pick) ?_
           refine AOps.cons rfl rfl (q_move) ?_
           refine AOps.gcons rfl rfl rfl rfl rfl (q_fa) ?_
           refine AOps.gcons rfl rfl rfl rfl rfl (q_fa) ?_
           refine AOps.gcons rfl rfl rfl rfl rfl (q_load) ?_
           refine AOps.gcons rfl rfl rfl rfl rfl (q_fa) ?_
           refine AOps.gcons rfl rfl rfl rfl rfl (q_load) ?_
           refine AOps.gcons rfl rfl rfl rfl rfl ((OpOk.dec_t (q_eql) (d1))) ?_
           refine AOps.gcons rfl rfl rfl rfl rfl (q_move) ?_
           refine AOps.gcons rfl rfl rfl rfl rfl (q_move) ?_
           refine AOps.gcons rfl rfl rfl rfl rfl (q_fa) ?_
           refine AOps.gcons rfl rfl rfl rfl rfl (q_load) ?_
           refine AOps.gcons rfl rfl rfl rfl rfl (q_len) ?_
           refine AOps.gcons rfl rfl rfl rfl rfl ((OpOk.dec_t (q_eql) (by rw [d2]))) ?_
           refine AOps.gcons rfl rfl rfl rfl rfl (q_pick) ?_
           refine AOps.cons rfl rfl (q_pick) ?_
           refine AOps.cons rfl rfl (q_assign) ?_
           refine AOps.nil ?_
           refine AWp.ret ?_
           show Fin te Try.f6 _ _
           refine q_ret (0) [_] [_] ?_
           rfl
        ·
         refine AOps.cons rfl rfl (q_move) ?_
         refine AOps.gskip rfl rfl rfl rfl rfl rfl rfl rfl ?_
         refine AOps.gskip rfl rfl rfl rfl rfl rfl rfl rfl ?_
         refine AOps.gskip rfl rfl rfl rfl rfl rfl rfl rfl ?_
         refine AOps.gskip rfl rfl rfl rfl rfl rfl rfl rfl ?_
         refine AOps.gskip rfl rfl rfl rfl rfl rfl rfl rfl ?_
         refine AOps.gskip rfl rfl rfl rfl rfl rfl rfl rfl ?_
         refine AOps.gskip rfl rfl rfl rfl rfl rfl rfl rfl ?_
         refine AOps.gskip rfl rfl rfl rfl rfl rfl rfl rfl ?_
         refine AOps.cons rfl rfl (q_pick) ?_
         refine AOps.cons rfl rfl (q_move) ?_
         refine AOps.gskip rfl rfl rfl rfl rfl rfl rfl rfl ?_
         refine AOps.gskip rfl rfl rfl rfl rfl rfl rfl rfl ?_
         refine AOps.gskip rfl rfl rfl rfl rfl rfl rfl rfl ?_
         refine AOps.cons rfl rfl (q_pick) ?_
         refine AOps.cons rfl rfl (q_move) ?_
         refine AOps.gskip rfl rfl rfl rfl rfl rfl rfl rfl ?_
         refine AOps.gskip rfl rfl rfl rfl rfl rfl rfl rfl ?_
         refine AOps.gskip rfl rfl rfl rfl rfl rfl rfl rfl ?_
         refine AOps.gskip rfl rfl rfl rfl rfl rfl rfl rfl ?_
         refine AOps.cons rfl rfl (q_pick) ?_
         refine AOps.cons rfl rfl (q_assign) ?_
         refine AOps.nil ?_
         refine AWp.seq ?_
         refine AWp.region ?_
         refine AOps.cons rfl rfl (q_move) ?_
         refine AOps.cons rfl rfl (q_move) ?_
         refine AOps.gcons rfl rfl rfl rfl rfl (q_fa) ?_
         refine AOps.gcons rfl rfl rfl rfl rfl (q_fa) ?_
         refine AOps.gcons rfl rfl rfl rfl rfl (q_load) ?_
         refine AOps.gdec rfl rfl rfl rfl rfl (q_eql) (fun h25_5 => ?_) (fun h25_5 => ?_)
         ·
          refine AOps.cons rfl rfl (q_pick) ?_
          refine AOps.cons rfl rfl (q_move) ?_
          refine AOps.gskip rfl rfl rfl rfl rfl rfl rfl rfl ?_
          refine AOps.gskip rfl rfl rfl rfl rfl rfl rfl rfl ?_
          refine AOps.gskip rfl rfl rfl rfl rfl rfl rfl rfl ?_
          refine AOps.gskip rfl rfl rfl rfl rfl rfl rfl rfl ?_
          refine AOps.gskip rfl rfl rfl rfl rfl rfl rfl rfl ?_
          refine AOps.gskip rfl rfl rfl rfl rfl rfl rfl rfl ?_
          refine AOps.gskip rfl rfl rfl rfl rfl rfl rfl rfl ?_
          refine AOps.gskipu rfl rfl rfl rfl rfl rfl rfl ?_
          refine AOps.gskipu rfl rfl rfl rfl rfl rfl rfl ?_
          refine AOps.gskipu rfl rfl rfl rfl rfl rfl rfl ?_
          refine AOps.gskipu rfl rfl rfl rfl rfl rfl rfl ?_
          refine AOps.gskipu rfl rfl rfl rfl rfl rfl rfl ?_
          refine AOps.gskip rfl rfl rfl rfl rfl rfl rfl rfl ?_
          refine AOps.cons rfl rfl (q_pick) ?_
          refine AOps.cons rfl rfl (q_assign) ?_
          refine AOps.nil ?_
          refine AWp.ret ?_
          show Fin te Try.f6 _ _
          refine q_ret (0) [_] [_] ?_
          rfl
         ·
          refine AOps.cons rfl rfl (q_pick) ?_
          refine AOps.cons rfl rfl (q_move) ?_
          refine AOps.gcons rfl rfl rfl rfl rfl (q_fa) ?_
          refine AOps.gcons rfl rfl rfl rfl rfl (q_fa) ?_
          refine AOps.gcons rfl rfl rfl rfl rfl (q_load) ?_
          refine AOps.gcons rfl rfl rfl rfl rfl (q_fa) ?_
          refine AOps.gcons rfl rfl rfl rfl rfl (q_load) ?_
          refine AOps.gcons rfl rfl rfl rfl rfl ((OpOk.dec_t (q_eql) (d1))) ?_
          refine AOps.gcons rfl rfl rfl rfl rfl (q_move) ?_
          refine AOps.gcons rfl rfl rfl rfl rfl (q_move) ?_
          refine AOps.gcons rfl rfl rfl rfl rfl (q_fa) ?_
          refine AOps.gcons rfl rfl rfl rfl rfl (q_load) ?_
          refine AOps.gcons rfl rfl rfl rfl rfl (q_len) ?_
          refine AOps.gcons rfl rfl rfl rfl rfl ((OpOk.dec_t (q_eql) (by rw [d2]))) ?_
          refine AOps.gcons rfl rfl rfl rfl rfl (q_pick) ?_
          refine AOps.cons rfl rfl (q_pick) ?_
          refine AOps.cons rfl rfl (q_assign) ?_
          refine AOps.nil ?_
          refine AWp.ret ?_
          show Fin te Try.f6 _ _
          refine q_ret (0) [_] [_] ?_
          rfl
    ·
     refine AOps.cons rfl rfl (q_alloc 1206) ?_
     refine AOps.cons rfl rfl (q_store) ?_
     refine AOps.cons rfl rfl (q_assign) ?_
     refine AOps.nil ?_
     refine AWp.seq ?_
     refine AWp.seq ?_
     refine AWp.region ?_
     refine AOps.cons rfl rfl (q_move) ?_
     refine AOps.cons rfl rfl (q_not) ?_
     refine AOps.nil ?_
     refine AWp.cond_t rfl ?_
     refine AWp.seq ?_
     refine AWp.region ?_
     refine AOps.cons rfl rfl (q_load) ?_
     refine AOps.cons rfl rfl (q_load) ?_
     refine AOps.cons rfl rfl (q_call (0) (hc := (c_rTruth (evT t) q hev hq))) ?_
     refine AOps.cons rfl rfl (q_move) ?_
     refine AOps.cons rfl rfl (q_extract) ?_
     refine AOps.cons rfl rfl ((OpOk.bool_is (c := false) (q_extract) (h11_5))) ?_
     refine AOps.cons rfl rfl (q_alloc 1406) ?_
     refine AOps.cons rfl rfl (q_store) ?_
     refine AOps.cons rfl rfl (q_assign) ?_
     refine AOps.nil ?_
     refine AWp.seq ?_
     refine AWp.region ?_
     refine AOps.cons rfl rfl (q_move) ?_
     refine AOps.cons rfl rfl (q_not) ?_
     refine AOps.cons rfl rfl (q_move) ?_
     refine AOps.gcons rfl rfl rfl rfl rfl (q_call (0) (hc := c_ciceronelaw18_Small)) ?_
     refine AOps.gcons rfl rfl rfl rfl rfl ((OpOk.bool_is (c := true) (q_call (0) (hc := (c_zone_Can smT smT_ok))) (smT_can))) ?_
     refine AOps.cons rfl rfl (q_pick) ?_
     refine AOps.cons rfl rfl (q_assign) ?_
     refine AOps.nil ?_
     refine AWp.ret ?_
     show Fin te Try.f6 _ _
     refine q_ret (0) [_] [_] ?_
     rfl
 ·
  refine AOps.cons rfl rfl (q_not) ?_
  refine AOps.nil ?_
  refine AWp.cond_t rfl ?_
  refine AWp.seq ?_
  refine AWp.region ?_
  refine AOps.cons rfl rfl (q_load) ?_
  refine AOps.cons rfl rfl ((OpOk.bool_is (c := false) (q_call (0) (hc := (c_zone_Can t ht))) (h1_1))) ?_
  refine AOps.cons rfl rfl (q_not) ?_
  refine AOps.cons rfl rfl (q_move) ?_
  refine AOps.gcons rfl rfl rfl rfl rfl (q_call (0) (hc := c_ciceronelaw18_Small)) ?_
  refine AOps.gcons rfl rfl rfl rfl rfl ((OpOk.bool_is (c := true) (q_call (0) (hc := (c_zone_Can smT smT_ok))) (smT_can))) ?_
  refine AOps.cons rfl rfl (q_pick) ?_
  refine AOps.cons rfl rfl (q_assign) ?_
  refine AOps.nil ?_
  refine AWp.ret ?_
  show Fin te Try.f6 _ _
  refine q_ret (0) [_] [_] ?_
  rfl
end Go.Proofs.Ytokccoloholgaaa.Fw


