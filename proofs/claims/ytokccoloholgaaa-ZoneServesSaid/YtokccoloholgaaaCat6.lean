/- The texts T18b, T18c, R18h, R18j, R18k, L18a, T18e, T18f, T18g, T18h, T18i, one behind the other: what the walks and plain laws need; conditions stand with each theorem. -/
import Derived.Test.YtokccoloholgaaaCat5
set_option linter.unusedVariables false
set_option linter.unusedSimpArgs false
namespace Go.Proofs.Ytokccoloholgaaa.Fw
open Go.RowKit
set_option maxRecDepth 20000 in
set_option maxHeartbeats 2000000 in
theorem c_own1 (l : List Rr) (h : RrsOk l) : AC Try.prog 82 [.fz 2 l.length (cl rrc1 l)] emp (Ret (.fz 0 l.length (cl rrc l))) := by
 obtain ⟨hb, hd⟩ := id h
 refine AC.intro te_ok (fn := Try.f82) ⟨Try.func82, rfl, rfl⟩ (Nat.le_of_ble_eq_true rfl) ?_
 refine AWp.seq ?_
 refine AWp.region ?_
 refine aC_ rfl rfl (q_nilz (0) rrc) ?_
 refine AOps.nil ?_
 refine AWp.seq ?_
 refine AWp.region ?_
 refine aC_ rfl rfl (q_nilrow 200 5 rrc) ?_
 refine AOps.nil ?_
 refine AWp.seq ?_
 refine AWp.seq ?_
 refine AWp.region ?_
 refine aC_ rfl rfl (q_move) ?_
 refine aC_ rfl rfl (q_len) ?_
 refine aC_ rfl rfl (q_move) ?_
 refine AOps.nil ?_
 refine AWp.block ?_
 refine AWp.loopR (α := Nat × List Rr × Nat) [3, 5, 8, 9, 10, 11, 12, 13, 14, 15, 16, 17, 18, 19, 20] (fun x_ => [(8, i64 (x_.1)), (3, .sl 200 (x_.2.2) 0 (x_.2.1).length 5)]) (fun x_ => [(200, .row (cl rrc (x_.2.1)) 5 (x_.2.2))]) (fun x_ => (x_.1) ≤ l.length ∧ (x_.2.1) = l.take (x_.1)) (fun x_ => l.length - (x_.1)) (0, [], 0) ?_ (Back.mk' (HasT.cons (HasT.cons HasT.nil)) (HasH.cons HasH.nil)) ?_
 ·
  exact ⟨Nat.zero_le _, rfl⟩
 ·
  rintro ⟨i, acc, v⟩ hI3
  change i ≤ l.length ∧ acc = l.take i at hI3
  obtain ⟨hi, hacc⟩ := hI3
  refine AWp.as (s' := AS.over _ [3, 5, 8, 9, 10, 11, 12, 13, 14, 15, 16, 17, 18, 19, 20] [(8, i64 i), (3, .sl 200 v 0 acc.length 5)] [(200, .row (cl rrc acc) 5 v)]) rfl ?_
  have hal : acc.length = i := by rw [hacc, List.length_take]; omega
  refine AWp.seq ?_
  refine AWp.region ?_
  refine AOps.dec rfl rfl (q_lss) (fun h3_0 => ?_) (fun h3_0 => ?_)
  ·
   refine AOps.nil ?_
   refine AWp.seq ?_
   refine AWp.cond_t rfl ?_
   refine AWp.skip ?_
   refine AWp.seq ?_
   refine AWp.block ?_
   refine AWp.seq ?_
   refine AWp.region ?_
   have hdi : (l.getD i default).da.length ≤ 140737488351232 := hd _ (getD_mem' (by omega))
   refine aC_ rfl rfl (q_ix) ?_
   refine aC_ rfl rfl (q_load) ?_
   refine aC_ rfl rfl (q_alloc 502) ?_
   refine aC_ rfl rfl (q_store) ?_
   refine AOps.nil ?_
   refine AWp.seq ?_
   refine AWp.region ?_
   refine aC_ rfl rfl (q_fa) ?_
   refine aC_ rfl rfl (q_load) ?_
   refine aC_ rfl rfl (q_call (2) (hc := c_bytes_Clone _ _ (by first | assumption | omega | decide | (simp; omega) | (simp [*]; done)))) ?_
   refine aC_ rfl rfl (q_fa) ?_
   refine aC_ rfl rfl (q_store) ?_
   refine AOps.nil ?_
   refine AWp.region ?_
   refine aC_ rfl rfl (q_move) ?_
   refine aC_ rfl rfl (q_load) ?_
   refine aC_ rfl rfl (q_bs 702 rrc [_] [(_, _)]) ?_
   refine aC_ rfl rfl (q_app) ?_
   refine aC_ rfl rfl (q_assign) ?_
   refine AOps.nil ?_
   refine AWp.region ?_
   refine aC_ rfl rfl (q_add) ?_
   refine aC_ rfl rfl (q_move) ?_
   refine AOps.nil ?_
   refine ⟨(i + 1, _, _), ?_, Back.mk' (HasT.cons (HasT.cons HasT.nil)) (HasH.cons HasH.nil), ?_⟩
   ·
    try dsimp only
    exact ⟨by omega, by rw [take_step' (by omega), ← hacc]; rfl⟩
   ·
    try dsimp only
    first | omega | (simp; omega)
  ·
   refine AOps.nil ?_
   refine AWp.seq ?_
   refine AWp.cond_f rfl ?_
   refine AWp.exit ?_
   refine AWp.seq ?_
   refine AWp.region ?_
   refine aC_ rfl rfl (q_move) ?_
   refine aC_ rfl rfl (q_assign) ?_
   refine AOps.nil ?_
   refine AWp.ret ?_
   show Fin te Try.f82 _ _
   obtain rfl : acc = l := by rw [hacc, List.take_of_length_le (by omega)]
   refine q_ret (0) [_] [_] ?_
   rfl
set_option maxRecDepth 20000 in
set_option maxHeartbeats 2000000 in
theorem c_at1 (z : Zo) (n : List UInt8) (t : Int) (hz : ZoOk z) (hn : n.length ≤ 140737488351232) : AC Try.prog 37 [.agg (zoC1 z), str n, i64 t] emp (Ret (.fz 0 (atZ z n t).length (cl rrc (atZ z n t)))) := by
 have hrl : z.rs.length * 64 ≤ 140737488351232 := hz.2.1.1
 have hol := hz.1
 refine AC.intro te_ok (fn := Try.f37) ⟨Try.func37, rfl, rfl⟩ (Nat.le_of_ble_eq_true rfl) ?_
 refine AWp.seq ?_
 refine AWp.region ?_
 refine aC_ rfl rfl (q_box 100) ?_
 refine aC_ rfl rfl (q_box 101) ?_
 refine aC_ rfl rfl (q_box 102) ?_
 refine aC_ rfl rfl (q_assign) ?_
 refine AOps.nil ?_
 refine AWp.seq ?_
 refine AWp.region ?_
 refine aC_ rfl rfl (q_makeFunc [] [_, _]) ?_
 refine aC_ rfl rfl (q_assign) ?_
 refine AOps.nil ?_
 refine AWp.seq ?_
 refine AWp.region ?_
 refine aC_ rfl rfl (q_nilrow 300 5 rrc1) ?_
 refine AOps.nil ?_
 refine AWp.seq ?_
 refine AWp.seq ?_
 refine AWp.region ?_
 refine aC_ rfl rfl (q_fa) ?_
 refine aC_ rfl rfl (q_load) ?_
 refine aC_ rfl rfl (q_len) ?_
 refine aC_ rfl rfl (q_move) ?_
 refine AOps.nil ?_
 refine AWp.block ?_
 refine AWp.loopR (α := Nat × List Rr × Nat) [8, 10, 15, 16, 17, 18, 19, 20, 21, 22, 23, 24, 25, 26] (fun x_ => [(15, i64 (x_.1)), (8, .sl 300 (x_.2.2) 0 (x_.2.1).length 5)]) (fun x_ => [(300, .row (cl rrc1 (x_.2.1)) 5 (x_.2.2))]) (fun x_ => (x_.1) ≤ z.rs.length ∧ (x_.2.1) = (z.rs.take (x_.1)).filter (atP n t)) (fun x_ => z.rs.length - (x_.1)) (0, [], 0) ?_ (Back.mk' (HasT.cons (HasT.cons HasT.nil)) (HasH.cons HasH.nil)) ?_
 ·
  exact ⟨Nat.zero_le _, rfl⟩
 ·
  rintro ⟨i, acc, v⟩ hI4
  change i ≤ z.rs.length ∧ acc = (z.rs.take i).filter (atP n t) at hI4
  obtain ⟨hi, ha⟩ := hI4
  refine AWp.as (s' := AS.over _ [8, 10, 15, 16, 17, 18, 19, 20, 21, 22, 23, 24, 25, 26] [(15, i64 i), (8, .sl 300 v 0 acc.length 5)] [(300, .row (cl rrc1 acc) 5 v)]) rfl ?_
  have hal := at_step_ok ha
  refine AWp.seq ?_
  refine AWp.region ?_
  refine AOps.dec rfl rfl (q_lss) (fun h4_0 => ?_) (fun h4_0 => ?_)
  ·
   refine AOps.nil ?_
   refine AWp.seq ?_
   refine AWp.cond_t rfl ?_
   refine AWp.skip ?_
   refine AWp.seq ?_
   refine AWp.block ?_
   refine AWp.seq ?_
   refine AWp.region ?_
   have hr := hz.2.2 _ (getD_mem' (l := z.rs) (i := i) (by omega))
   have hrd := hz.2.1.2 _ (getD_mem' (l := z.rs) (i := i) (by omega))
   refine aC_ rfl rfl (q_ix) ?_
   refine aC_ rfl rfl (q_load) ?_
   refine aC_ rfl rfl (q_alloc 602) ?_
   refine aC_ rfl rfl (q_store) ?_
   refine AOps.nil ?_
   refine AWp.seq ?_
   refine AWp.region ?_
   refine aC_ rfl rfl (q_move) ?_
   refine aC_ rfl rfl (q_load) ?_
   refine AOps.bool rfl rfl (q_call0 (hA := by exact ⟨ev_rr (r := z.rs.getD i default), ev_fv (lo := 0) (hi := 1) (by decide) (fv_ptrb rfl .box rfl rfl rfl), ev_fv (lo := 0) (hi := 1) (by decide) (fv_ptrb rfl .box rfl rfl rfl), trivial⟩) (hc := c_zone_at_1 (z.rs.getD i default) n t 1 hr hn)) (fun h6_2 => ?_) (fun h6_2 => ?_)
   ·
    refine AOps.nil ?_
    refine AWp.cond_t rfl ?_
    refine AWp.region ?_
    refine aC_ rfl rfl (q_move) ?_
    refine aC_ rfl rfl (q_load) ?_
    refine aC_ rfl rfl (q_bs 802 rrc1 [z.rs.getD i default] [(_, _)]) ?_
    refine aC_ rfl rfl (q_app) ?_
    refine aC_ rfl rfl (q_assign) ?_
    refine AOps.nil ?_
    refine AWp.region ?_
    refine aC_ rfl rfl (q_add) ?_
    refine aC_ rfl rfl (q_move) ?_
    refine AOps.nil ?_
    refine ⟨(i + 1, acc ++ [z.rs.getD i default], v + 1), ?_, Back.mk' (HasT.cons (HasT.cons HasT.nil)) (HasH.cons HasH.nil), ?_⟩
    ·
     try dsimp only
     exact ⟨by omega, by rw [filter_yes (by omega) h6_2, ← ha]⟩
    ·
     try dsimp only
     first | omega | (simp; omega)
   ·
    refine AOps.nil ?_
    refine AWp.cond_f rfl ?_
    refine AWp.skip ?_
    refine AWp.region ?_
    refine aC_ rfl rfl (q_add) ?_
    refine aC_ rfl rfl (q_move) ?_
    refine AOps.nil ?_
    refine ⟨(i + 1, acc, v), ?_, Back.mk' (HasT.cons (HasT.cons HasT.nil)) (HasH.cons HasH.nil), ?_⟩
    ·
     try dsimp only
     exact ⟨by omega, by rw [filter_no (by omega) h6_2, ← ha]⟩
    ·
     try dsimp only
     first | omega | (simp; omega)
  ·
   refine AOps.nil ?_
   refine AWp.seq ?_
   refine AWp.cond_f rfl ?_
   refine AWp.exit ?_
   refine AWp.seq ?_
   refine AWp.region ?_
   obtain rfl : i = z.rs.length := by omega
   rw [List.take_length] at ha
   obtain rfl : acc = atZ z n t := ha
   refine aC_ rfl rfl (q_move) ?_
   refine aC_ rfl rfl (q_call (1) (hc := (c_own1 (atZ z n t) (atZ_ok hz n t)))) ?_
   refine aC_ rfl rfl (q_assign) ?_
   refine AOps.nil ?_
   refine AWp.ret ?_
   show Fin te Try.f37 _ _
   refine q_ret (0) [_] [_] ?_
   rfl
set_option maxRecDepth 20000 in
set_option maxHeartbeats 2000000 in
theorem c_fill1_1 (h : Hdr) (qs : List Qu) (aa : Bool) (code : Int) (an au : List Rr) (va : Nat) (z : Zo) (n : List UInt8) (acc : List Rr) (v : Nat) (hz : ZoOk z) (hs : z.rs.length ≤ 400) (hn : n.length ≤ 255) (hacc : acc.length ≤ 1000000) : AC Try.prog 95 [str n, .ptr 3 0 0, .ptr 4 0 0] (hlook [(0, .box [i64 h.id, tf h.resp, i64 h.op, tf (aa), tf h.tc, tf h.rd, tf h.ra, i64 (code), .fz 0 qs.length (cl quc qs), .sl 1 (va) 0 (an).length 5, .fz 0 (au).length (cl rrc (au)), .sl 2 (v) 0 (acc).length 5]), (1, .row (cl rrc an) 5 va), (2, .row (cl rrc (acc)) 5 (v)), (3, .box [.ptr 0 0 0]), (4, .box (zoC1 z))]) (RetH (.tup []) [(0, .box [i64 h.id, tf h.resp, i64 h.op, tf (aa), tf h.tc, tf h.rd, tf h.ra, i64 (code), .fz 0 qs.length (cl quc qs), .sl 1 (va) 0 (an).length 5, .fz 0 (au).length (cl rrc (au)), .sl 2 (v + 1) 0 (acc ++ atZ z n 1).length 5]), (1, .row (cl rrc an) 5 va), (2, .row (cl rrc (acc ++ atZ z n 1)) 5 (v + 1)), (3, .box [.ptr 0 0 0]), (4, .box (zoC1 z))]) := by
 have hal := at_len hs n 1
 refine AC.intro te_ok (fn := Try.f95) ⟨Try.func95, rfl, rfl⟩ (Nat.le_of_ble_eq_true rfl) ?_
 refine AWp.draws [⟨0, [1], [3], some 4, _, []⟩,
 ⟨1, [1], [3], some 5, _, []⟩,
 ⟨2, [5], [0], some 6, _, []⟩,
 ⟨3, [6], [0], some 7, _, []⟩,
 ⟨4, [7], [0], some 8, _, []⟩,
 ⟨5, [2], [4], some 9, _, []⟩,
 ⟨6, [0], [], some 10, _, []⟩,
 ⟨7, [9, 10], [], some 11, _, []⟩,
 ⟨8, [8, 11], [2], some 12, _, [(2, _)]⟩,
 ⟨9, [4], [0], some 13, _, []⟩,
 ⟨10, [13], [0], some 14, _, []⟩,
 ⟨11, [12, 14], [0, 2], none, _, [(0, _)]⟩]
  [kN_ 0 [1] [3] 4,
 kN_ 1 [1] [3] 5,
 kN_ 2 [5] [0] 6,
 kN_ 3 [6] [0] 7,
 kN_ 4 [7] [0] 8,
 kN_ 5 [2] [4] 9,
 kN_ 6 [0] [] 10,
 kN_ 7 [9, 10] [] 11,
 ⟨8, [8, 11], [2], some 12, .any, [(2, .box [])]⟩,
 kN_ 9 [4] [0] 13,
 kN_ 10 [13] [0] 14,
 ⟨11, [12, 14], [0, 2], none, .any, [(0, .box [])]⟩]
  mixed_ok rfl (by kernel_rfl) ⟨dK_ fun s0 => oG_ rfl rfl (q_load),
 dK_ fun s0 => oG_ rfl rfl (q_load),
 dK_ fun s0 => oG_ rfl rfl (q_nil),
 dK_ fun s0 => oG_ rfl rfl (q_fa),
 dK_ fun s0 => oG_ rfl rfl (q_load),
 dK_ fun s0 => oG_ rfl rfl (q_load),
 dK_ fun s0 => oG_ rfl rfl (q_move),
 dK_ fun s0 => oG_ rfl rfl (q_call (1) (hc := (c_at1 z n 1 hz (by omega)))),
 dK_ fun s0 => oG_ rfl rfl (q_app),
 dK_ fun s0 => oG_ rfl rfl (q_nil),
 dK_ fun s0 => oG_ rfl rfl (q_fa),
 dK_ fun s0 => oG_ rfl rfl (q_store), trivial⟩ ?_
 dsimp only [final, DS.upd, AS.seto]
 show Fin te Try.f95 _ _
 refine q_retHD (1) (0) [] [] [] [(_, _), (_, _), (_, _), (_, _), (_, _)] ?_
 rfl
set_option maxRecDepth 20000 in
set_option maxHeartbeats 2000000 in
theorem c_named_f1 (h : Hdr) (qs : List Qu) (aa : Bool) (code : Int) (an au : List Rr) (va : Nat) (z : Zo) (l : List Rr) (hz : ZoOk z) (hs : z.rs.length ≤ 400) (hl : l.length ≤ 400) (hc : ∀ r ∈ l, canN r.da = true) : AC Try.prog 45 [.fz 0 l.length (cl rrc l), .fn (.func 95) [] [.ptr 3 0 0, .ptr 4 0 0]] (hlook [(0, .box [i64 h.id, tf h.resp, i64 h.op, tf (aa), tf h.tc, tf h.rd, tf h.ra, i64 (code), .fz 0 qs.length (cl quc qs), .sl 1 (va) 0 (an).length 5, .fz 0 (au).length (cl rrc (au)), .sl 2 (0) 0 (([] : List Rr)).length 5]), (1, .row (cl rrc an) 5 va), (2, .row (cl rrc (([] : List Rr))) 5 (0)), (3, .box [.ptr 0 0 0]), (4, .box (zoC1 z))]) (RetH (.tup []) [(0, .box [i64 h.id, tf h.resp, i64 h.op, tf (aa), tf h.tc, tf h.rd, tf h.ra, i64 (code), .fz 0 qs.length (cl quc qs), .sl 1 (va) 0 (an).length 5, .fz 0 (au).length (cl rrc (au)), .sl 2 (nmK l l.length) 0 (nmF (fun n => atZ z n 1) l l.length).length 5]), (1, .row (cl rrc an) 5 va), (2, .row (cl rrc (nmF (fun n => atZ z n 1) l l.length)) 5 (nmK l l.length)), (3, .box [.ptr 0 0 0]), (4, .box (zoC1 z))]) := by
 have hsm : ∀ k, k ≤ l.length → (nmF (fun n => atZ z n 1) l k).length ≤ 400 * k := fun k => nmF_small (l := l) (c := 400) (fun r hr => at_len hs r.da 1)
 refine AC.intro te_ok (fn := Try.f45) ⟨Try.func45, rfl, rfl⟩ (Nat.le_of_ble_eq_true rfl) ?_
 refine AWp.seq ?_
 refine AWp.region ?_
 refine aC_ rfl rfl (q_makeMap 100 MStr (fun b : Bool => tf b)) ?_
 refine aC_ rfl rfl (q_assign) ?_
 refine AOps.nil ?_
 refine AWp.seq ?_
 refine AWp.region ?_
 refine aC_ rfl rfl (q_move) ?_
 refine aC_ rfl rfl (q_len) ?_
 refine aC_ rfl rfl (q_move) ?_
 refine AOps.nil ?_
 refine AWp.block ?_
 refine AWp.loopR (α := Nat × List (List UInt8 × Bool) × List Rr × Nat) [6, 7, 11, 12, 13, 14, 15, 16, 17, 18, 19, 20, 21, 22, 23, 24, 25, 26, 27, 28, 29, 30] (fun x_ => [(11, i64 (x_.1))]) (fun x_ => [(100, .map (me MStr (fun b : Bool => tf b) (x_.2.1))), (0, .box [i64 h.id, tf h.resp, i64 h.op, tf (aa), tf h.tc, tf h.rd, tf h.ra, i64 (code), .fz 0 qs.length (cl quc qs), .sl 1 (va) 0 (an).length 5, .fz 0 (au).length (cl rrc (au)), .sl 2 ((x_.2.2.2)) 0 ((x_.2.2.1)).length 5]), (1, .row (cl rrc an) 5 va), (2, .row (cl rrc ((x_.2.2.1))) 5 ((x_.2.2.2))), (3, .box [.ptr 0 0 0]), (4, .box (zoC1 z))]) (fun x_ => (x_.1) ≤ l.length ∧ MetD l (x_.1) (x_.2.1) ∧ (x_.2.2.1) = nmF (fun n => atZ z n 1) l (x_.1) ∧ (x_.2.2.2) = nmK l (x_.1)) (fun x_ => l.length - (x_.1)) (0, [], [], 0) ?_ (Back.mk' (HasT.cons HasT.nil) (HasH.cons (HasH.cons (HasH.cons (HasH.cons (HasH.cons (HasH.cons HasH.nil))))) (h2 := by exact objIn_me (fun _ => rfl)) )) ?_
 ·
  exact ⟨Nat.zero_le _, MetD.start l, rfl, rfl⟩
 ·
  rintro ⟨i, m, a2, v2⟩ hI2
  change i ≤ l.length ∧ MetD l i m ∧ a2 = nmF (fun n => atZ z n 1) l i ∧ v2 = nmK l i at hI2
  obtain ⟨hi, hm, ha, hv⟩ := hI2
  refine AWp.as (s' := AS.over _ [6, 7, 11, 12, 13, 14, 15, 16, 17, 18, 19, 20, 21, 22, 23, 24, 25, 26, 27, 28, 29, 30] [(11, i64 i)] [(100, .map (me MStr (fun b : Bool => tf b) m)), (0, .box [i64 h.id, tf h.resp, i64 h.op, tf (aa), tf h.tc, tf h.rd, tf h.ra, i64 (code), .fz 0 qs.length (cl quc qs), .sl 1 (va) 0 (an).length 5, .fz 0 (au).length (cl rrc (au)), .sl 2 (v2) 0 (a2).length 5]), (1, .row (cl rrc an) 5 va), (2, .row (cl rrc (a2)) 5 (v2)), (3, .box [.ptr 0 0 0]), (4, .box (zoC1 z))]) rfl ?_
  have hsi := hsm i hi
  have hal := congrArg List.length ha
  refine AWp.seq ?_
  refine AWp.region ?_
  refine AOps.dec rfl rfl (q_lss) (fun h2_0 => ?_) (fun h2_0 => ?_)
  ·
   refine AOps.nil ?_
   refine AWp.seq ?_
   refine AWp.cond_t rfl ?_
   refine AWp.skip ?_
   refine AWp.seq ?_
   refine AWp.block ?_
   refine AWp.seq ?_
   refine AWp.region ?_
   refine aC_ rfl rfl (q_ix) ?_
   refine aC_ rfl rfl (q_load) ?_
   refine aC_ rfl rfl (q_alloc 402) ?_
   refine aC_ rfl rfl (q_store) ?_
   refine AOps.nil ?_
   refine AWp.seq ?_
   refine AWp.region ?_
   have hci := hc _ (getD_mem' (l := l) (i := i) (by omega))
   have hcl := canN_le2 hci
   refine aC_ rfl rfl (q_fa) ?_
   refine aC_ rfl rfl (q_load) ?_
   refine aC_ rfl rfl (by first | exact q_conv_zs | exact q_conv_ls) ?_
   refine aC_ rfl rfl (q_call (1) (hc := (c_name_Lower (l.getD i default).da (by omega)))) ?_
   refine aC_ rfl rfl (q_assign) ?_
   refine AOps.nil ?_
   refine AWp.seq ?_
   refine AWp.region ?_
   refine aC_ rfl rfl (q_move) ?_
   refine aC_ rfl rfl (q_move) ?_
   refine AOps.bool rfl rfl (q_lookup MStr) (fun h5_2 => ?_) (fun h5_2 => ?_)
   ·
    refine aC_ rfl rfl (q_not) ?_
    refine AOps.nil ?_
    refine AWp.cond_f rfl ?_
    refine AWp.skip ?_
    refine AWp.region ?_
    refine aC_ rfl rfl (q_add) ?_
    refine aC_ rfl rfl (q_move) ?_
    refine AOps.nil ?_
    refine ⟨(i + 1, m, a2, v2), ?_, Back.mk' (HasT.cons HasT.nil) (HasH.cons (HasH.cons (HasH.cons (HasH.cons (HasH.cons (HasH.cons HasH.nil))))) (h2 := by exact objIn_me (fun _ => rfl)) ), ?_⟩
    ·
     try dsimp only
     have hf : fstO l i = false := by rw [hm.fst, h5_2]; rfl
     exact ⟨by omega, hm.same (by omega) h5_2, by rw [nmF_no hf, ha], by rw [nmK_no hf, hv]⟩
    ·
     try dsimp only
     first | omega | (simp; omega)
   ·
    refine aC_ rfl rfl (q_not) ?_
    refine AOps.nil ?_
    refine AWp.cond_t rfl ?_
    refine AWp.seq ?_
    refine AWp.region ?_
    refine aC_ rfl rfl (q_move) ?_
    refine aC_ rfl rfl (q_move) ?_
    refine aC_ rfl rfl (q_mapUpdate MStr true) ?_
    refine AOps.nil ?_
    refine AWp.region ?_
    refine aC_ rfl rfl (q_move) ?_
    refine aC_ rfl rfl (q_fa) ?_
    refine aC_ rfl rfl (q_load) ?_
    refine aC_ rfl rfl (by first | exact q_conv_zs | exact q_conv_ls) ?_
    refine aC_ rfl rfl (q_callB (1) [(0, 0), (1, 1), (2, 2), (3, 3), (4, 4)] [] [(_, _), (_, _), (_, _), (_, _), (_, _)] (hobj := by repeat' (first | exact trivial | exact lv_ok rfl | exact lv_sl rfl rfl | exact lv_ptr rfl rfl | exact lv_mp rfl rfl | exact lobj_row (fun _ => rfl) | exact lobj_me (fun _ => rfl) | refine lobj_box ?_ | refine ⟨rfl, ⟨_, rfl, ?_⟩, ?_⟩ | refine ⟨?_, ?_⟩)) (hB := by repeat' (first | exact trivial | exact hb_rowc (lv := 0) (fun _ => rfl) | exact hb_me (lv := 0) (fun _ => rfl) | exact rfl | refine ⟨rfl, rfl, ?_, ?_⟩)) (hL := by repeat' (first | exact trivial | exact hl_row (fun _ => rfl) | exact hl_me (fun _ => rfl) | exact ⟨rfl, rfl⟩ | refine ⟨?_, ?_⟩)) (hc := (c_fill1_1 h qs aa code an au va z (l.getD i default).da a2 v2 hz hs (by omega) (by omega)))) ?_
    refine AOps.nil ?_
    refine AWp.region ?_
    refine aC_ rfl rfl (q_add) ?_
    refine aC_ rfl rfl (q_move) ?_
    refine AOps.nil ?_
    refine ⟨(i + 1, mput m (lowN (l.getD i default).da) true, a2 ++ atZ z (l.getD i default).da 1, v2 + 1), ?_, Back.mk' (HasT.cons HasT.nil) (HasH.cons (HasH.cons (HasH.cons (HasH.cons (HasH.cons (HasH.cons HasH.nil))))) (h2 := by exact objIn_me (fun _ => rfl)) ), ?_⟩
    ·
     try dsimp only
     have hf : fstO l i = true := by rw [hm.fst, h5_2]; rfl
     exact ⟨by omega, hm.step (by omega), by rw [nmF_yes hf, ha], by rw [nmK_yes hf, hv]⟩
    ·
     try dsimp only
     first | omega | (simp; omega)
  ·
   refine AOps.nil ?_
   refine AWp.seq ?_
   refine AWp.cond_f rfl ?_
   refine AWp.exit ?_
   show Fin te Try.f45 _ _
   obtain rfl : i = l.length := by omega
   rw [ha, hv]
   refine q_retHD (1) (0) [] [] [] [(_, _), (_, _), (_, _), (_, _), (_, _)] ?_ (hobj := by repeat' (first | exact trivial | exact lv_ok rfl | exact lv_sl rfl rfl | exact lv_rn rfl rfl .row rfl | exact lv_ptr rfl rfl | exact lv_mp rfl rfl | exact lv_nilz | exact lv_row0 rfl rfl .row (fun _ => rfl) (Nat.le_of_ble_eq_true rfl) (fun _ => rfl) | exact lobj_row (fun _ => rfl) | exact lobj_rown (fun _ => rfl) | exact lobj_me (fun _ => rfl) | refine lobj_box ?_ | refine ⟨rfl, ⟨_, rfl, ?_⟩, ?_⟩ | refine ⟨?_, ?_⟩))
   rfl
set_option maxRecDepth 20000 in
set_option maxHeartbeats 2000000 in
theorem c_fill_1 (h : Hdr) (qs : List Qu) (z : Zo) (n0 : List UInt8) (ty : Int) (hz : ZoOk z) (hs : z.rs.length ≤ 400) (hn0 : n0.length ≤ 255) (hc : ∀ r ∈ z.rs, r.ty = 2 ∨ r.ty = 5 → canN r.da = true) : AC Try.prog 60 [.agg (zoC1 z), str n0, i64 ty, .ptr 0 0 0] (hlook [(0, .box [i64 h.id, tf h.resp, i64 h.op, tf (false), tf h.tc, tf h.rd, tf h.ra, i64 (0), .fz 0 qs.length (cl quc qs), .v (.slice none 0 0), .fz 0 (([] : List Rr)).length (cl rrc (([] : List Rr))), .v (.slice none 0 0)])]) (RetH (.tup []) [(0, .box [i64 h.id, tf h.resp, i64 h.op, tf ((fil z ty false [] n0 0).aa), tf h.tc, tf h.rd, tf h.ra, i64 ((fil z ty false [] n0 0).code), .fz 0 qs.length (cl quc qs), .fz 0 ((fil z ty false [] n0 0).an).length (cl rrc ((fil z ty false [] n0 0).an)), .fz 0 ((fil z ty false [] n0 0).au).length (cl rrc ((fil z ty false [] n0 0).au)), .fz 0 ((fil z ty false [] n0 0).ad).length (cl rrc ((fil z ty false [] n0 0).ad))])]) := by
 have hzl := hz.1
 have hal := fun n t => at_len hs n t
 refine AC.intro te_ok (fn := Try.f60) ⟨Try.func60, rfl, rfl⟩ (Nat.le_of_ble_eq_true rfl) ?_
 refine AWp.seq ?_
 refine AWp.region ?_
 refine aC_ rfl rfl (q_box 100) ?_
 refine aC_ rfl rfl (q_box 101) ?_
 refine AOps.weak (Weak.nilcell 0 9001 9 5 rrc) ?_
 refine AOps.weak (Weak.nilcell 0 9002 11 5 rrc) ?_
 refine AOps.nil ?_
 refine AWp.jumpsR (α := List Rr × List UInt8 × Bool × Nat) 0 [1, 8, 9, 10, 11, 12, 13, 14, 15, 16, 17, 18, 19, 20, 21, 22, 23, 24, 25, 26, 27, 28, 29, 30, 31, 32, 33, 34, 35, 36, 37, 38, 39, 40, 41, 42, 43, 44, 45, 46, 47, 48, 49, 50, 51, 52, 53, 54, 55, 56, 57, 58, 59, 60, 61, 62, 63, 64, 65, 66, 67, 68, 69, 70, 71, 72, 73, 74, 75, 76, 77, 78, 79, 80, 81, 82, 83, 84, 85, 86, 87, 88, 89, 90, 91, 92, 93, 94, 95, 96, 97, 98, 99, 100, 101, 102, 103, 104, 105, 106, 107] (fun x_ => [(1, str (x_.2.1))]) (fun x_ => [(0, .box [i64 h.id, tf h.resp, i64 h.op, tf ((x_.2.2.1)), tf h.tc, tf h.rd, tf h.ra, i64 (0), .fz 0 qs.length (cl quc qs), .sl 9001 ((x_.2.2.2)) 0 ((x_.1)).length 5, .fz 0 (([] : List Rr)).length (cl rrc (([] : List Rr))), .sl 9002 (0) 0 (([] : List Rr)).length 5]), (9001, .row (cl rrc (x_.1)) 5 (x_.2.2.2))]) (fun x_ => fil z ty (x_.2.2.1) (x_.1) (x_.2.1) (x_.2.2.2) = (fil z ty false [] n0 0) ∧ (x_.1).length ≤ 8 ∧ (x_.2.1).length ≤ 255 ∧ ((x_.1).length = 0 → (x_.2.2.1) = false)) (fun x_ => 8 - (x_.1).length) rfl (fun hj => ?_) ?_
 ·
  refine hj _ ⟨([], n0, false, 0), ?_, Back.mk' (HasT.cons HasT.nil) (HasH.cons (HasH.cons HasH.nil))⟩
  exact ⟨rfl, by simp, hn0, fun _ => rfl⟩
 ·
  rintro ⟨an, n, aa, v⟩ hI
  change fil z ty aa an n v = (fil z ty false [] n0 0) ∧ an.length ≤ 8 ∧ n.length ≤ 255 ∧ (an.length = 0 → aa = false) at hI
  obtain ⟨hE, hA, hN, hQ⟩ := hI
  refine AWp.as (s' := AS.over _ [1, 8, 9, 10, 11, 12, 13, 14, 15, 16, 17, 18, 19, 20, 21, 22, 23, 24, 25, 26, 27, 28, 29, 30, 31, 32, 33, 34, 35, 36, 37, 38, 39, 40, 41, 42, 43, 44, 45, 46, 47, 48, 49, 50, 51, 52, 53, 54, 55, 56, 57, 58, 59, 60, 61, 62, 63, 64, 65, 66, 67, 68, 69, 70, 71, 72, 73, 74, 75, 76, 77, 78, 79, 80, 81, 82, 83, 84, 85, 86, 87, 88, 89, 90, 91, 92, 93, 94, 95, 96, 97, 98, 99, 100, 101, 102, 103, 104, 105, 106, 107] [(1, str n)] [(0, .box [i64 h.id, tf h.resp, i64 h.op, tf (aa), tf h.tc, tf h.rd, tf h.ra, i64 (0), .fz 0 qs.length (cl quc qs), .sl 9001 (v) 0 (an).length 5, .fz 0 (([] : List Rr)).length (cl rrc (([] : List Rr))), .sl 9002 (0) 0 (([] : List Rr)).length 5]), (9001, .row (cl rrc an) 5 v)]) rfl ?_
  have hcl := cutZ_len hz n
  have ha5 := hal n 5
  have haty := hal n ty
  refine AWp.seq ?_
  refine AWp.seq ?_
  refine AWp.region ?_
  refine aC_ rfl rfl (q_load) ?_
  refine aC_ rfl rfl (q_move) ?_
  refine aC_ rfl rfl (q_call0 (hA := by exact ⟨ev_zo (z := z), ev_ok rfl, trivial⟩) (hc := c_zone_cut z n hz (by omega))) ?_
  refine aC_ rfl rfl (q_move) ?_
  refine aC_ rfl rfl (q_extract) ?_
  refine AOps.bool rfl rfl (q_extract) (fun h1_5 => ?_) (fun h1_5 => ?_)
  ·
   refine aC_ rfl rfl (q_assign) ?_
   refine aC_ rfl rfl (q_assign) ?_
   refine AOps.nil ?_
   refine AWp.seq ?_
   refine AWp.region ?_
   refine aC_ rfl rfl (q_move) ?_
   refine AOps.nil ?_
   refine AWp.cond_t rfl ?_
   refine AWp.seq ?_
   refine AWp.seq ?_
   refine AWp.region ?_
   have hcut : cutZ z n ≠ [] := of_decide_eq_true h1_5
   refine aC_ rfl rfl (q_load) ?_
   refine aC_ rfl rfl (q_nil) ?_
   refine aC_ rfl rfl (q_fa) ?_
   refine aC_ rfl rfl (q_load) ?_
   refine aC_ rfl rfl (q_len) ?_
   refine AOps.dec rfl rfl (q_eql) (fun h3_5 => ?_) (fun h3_5 => ?_)
   ·
    refine AOps.nil ?_
    refine AWp.cond_t rfl ?_
    refine AWp.seq ?_
    have han : an.length = 0 := by omega
    obtain rfl := List.eq_nil_of_length_eq_zero han
    have hc2 := hal (cutZ z n) 2
    have hcc : ∀ r ∈ atZ z (cutZ z n) 2, canN r.da = true := fun r hr => hc r (at_mem hr).1 (.inl (at_mem hr).2.1)
    refine AWp.draws [⟨0, [7], [101], some 25, _, []⟩,
 ⟨1, [4], [100], some 26, _, []⟩,
 ⟨2, [8], [], some 27, _, []⟩,
 ⟨3, [26, 27], [], some 28, _, []⟩,
 ⟨4, [25], [0], some 29, _, []⟩,
 ⟨5, [29], [0], some 30, _, []⟩,
 ⟨6, [28, 30], [0], none, _, [(0, _)]⟩]
     [kN_ 0 [7] [101] 25,
 kN_ 1 [4] [100] 26,
 kN_ 2 [8] [] 27,
 kN_ 3 [26, 27] [] 28,
 kN_ 4 [25] [0] 29,
 kN_ 5 [29] [0] 30,
 ⟨6, [28, 30], [0], none, .any, [(0, .box [])]⟩]
     mixed_ok rfl (by kernel_rfl) ⟨dK_ fun s0 => oG_ rfl rfl (q_load),
 dK_ fun s0 => oG_ rfl rfl (q_load),
 dK_ fun s0 => oG_ rfl rfl (q_move),
 dK_ fun s0 => oG_ rfl rfl (q_call (1) (hc := (c_at1 z (cutZ z n) 2 hz hcl))),
 dK_ fun s0 => oG_ rfl rfl (q_nil),
 dK_ fun s0 => oG_ rfl rfl (q_fa),
 dK_ fun s0 => oG_ rfl rfl (q_store), trivial⟩ ?_
    dsimp only [final, DS.upd, AS.seto]
    refine AWp.region ?_
    refine aC_ rfl rfl (q_load) ?_
    refine aC_ rfl rfl (q_nil) ?_
    refine aC_ rfl rfl (q_fa) ?_
    refine aC_ rfl rfl (q_load) ?_
    refine aC_ rfl rfl (q_makeFunc [] [_, _]) ?_
    refine aC_ rfl rfl (q_callB (1) [(0, 0), (1, 9001), (2, 9002), (3, 101), (4, 100)] [] [(_, _), (_, _), (_, _), (_, _), (_, _)] (hA := by exact ⟨lv_ok rfl, lv_fn trivial ⟨lv_ptr rfl rfl, lv_ptr rfl rfl, trivial⟩, trivial⟩) (hc := (c_named_f1 h qs aa 0 [] (atZ z (cutZ z n) 2) v z (atZ z (cutZ z n) 2) hz hs hc2 hcc))) ?_
    refine AOps.nil ?_
    refine AWp.ret ?_
    show Fin te Try.f60 _ _
    rw [fil_cut0 hcut rfl] at hE
    rw [← hE]
    refine q_retHD (1) (0) [] [] [] [(_, _)] ?_
    rfl
   ·
    refine AOps.nil ?_
    refine AWp.cond_f rfl ?_
    refine AWp.skip ?_
    refine AWp.ret ?_
    show Fin te Try.f60 _ _
    rw [fil_cutn hcut (by omega)] at hE
    rw [← hE]
    refine q_retHD (1) (0) [] [] [] [(_, _)] ?_
    rfl
  ·
   refine aC_ rfl rfl (q_assign) ?_
   refine aC_ rfl rfl (q_assign) ?_
   refine AOps.nil ?_
   refine AWp.seq ?_
   refine AWp.region ?_
   refine aC_ rfl rfl (q_move) ?_
   refine AOps.nil ?_
   refine AWp.cond_f rfl ?_
   refine AWp.skip ?_
   refine AWp.seq ?_
   refine AWp.region ?_
   have hcut : ¬ cutZ z n ≠ [] := of_decide_eq_false h1_5
   refine aC_ rfl rfl (q_load) ?_
   refine aC_ rfl rfl (q_nil) ?_
   refine aC_ rfl rfl (q_fa) ?_
   refine aC_ rfl rfl (q_fa) ?_
   refine aC_ rfl rfl (q_store) ?_
   refine AOps.nil ?_
   refine AWp.seq ?_
   refine AWp.seq ?_
   refine AWp.region ?_
   refine aC_ rfl rfl (q_load) ?_
   refine aC_ rfl rfl (q_move) ?_
   refine aC_ rfl rfl (q_call (1) (hc := (c_at1 z n 5 hz (by omega)))) ?_
   refine aC_ rfl rfl (q_assign) ?_
   refine AOps.nil ?_
   refine AWp.seq ?_
   refine AWp.region ?_
   refine aC_ rfl rfl (q_move) ?_
   refine aC_ rfl rfl (q_len) ?_
   refine AOps.dec rfl rfl (q_gtr) (fun h8_2 => ?_) (fun h8_2 => ?_)
   ·
    refine aC_ rfl rfl (q_move) ?_
    refine AOps.gcons rfl rfl rfl rfl rfl (q_move) ?_
    refine AOps.gdec rfl rfl rfl rfl rfl (q_neq) (fun h8_5 => ?_) (fun h8_5 => ?_)
    ·
     refine aC_ rfl rfl (q_pick) ?_
     refine AOps.nil ?_
     refine AWp.cond_t rfl ?_
     refine AWp.seq ?_
     have hali : 0 < (atZ z n 5).length ∧ ty ≠ 5 := ⟨by omega, h8_5⟩
     have hx := hc _ (at_mem (getD_mem' (l := atZ z n 5) (i := 0) hali.1)).1 (.inr (at_mem (getD_mem' (l := atZ z n 5) (i := 0) hali.1)).2.1)
     have hxl := canN_le2 hx
     refine AWp.draws [⟨0, [7], [101], some 51, _, []⟩,
 ⟨1, [7], [101], some 52, _, []⟩,
 ⟨2, [52], [0], some 53, _, []⟩,
 ⟨3, [53], [0], some 54, _, []⟩,
 ⟨4, [54], [0], some 55, _, []⟩,
 ⟨5, [10], [], some 56, _, []⟩,
 ⟨6, [55, 56], [9001], some 57, _, [(9001, _)]⟩,
 ⟨7, [51], [0], some 58, _, []⟩,
 ⟨8, [58], [0], some 59, _, []⟩,
 ⟨9, [57, 59], [0, 9001], none, _, [(0, _)]⟩]
      [kN_ 0 [7] [101] 51,
 kN_ 1 [7] [101] 52,
 kN_ 2 [52] [0] 53,
 kN_ 3 [53] [0] 54,
 kN_ 4 [54] [0] 55,
 kN_ 5 [10] [] 56,
 ⟨6, [55, 56], [9001], some 57, .any, [(9001, .box [])]⟩,
 kN_ 7 [51] [0] 58,
 kN_ 8 [58] [0] 59,
 ⟨9, [57, 59], [0, 9001], none, .any, [(0, .box [])]⟩]
      mixed_ok rfl (by kernel_rfl) ⟨dK_ fun s0 => oG_ rfl rfl (q_load),
 dK_ fun s0 => oG_ rfl rfl (q_load),
 dK_ fun s0 => oG_ rfl rfl (q_nil),
 dK_ fun s0 => oG_ rfl rfl (q_fa),
 dK_ fun s0 => oG_ rfl rfl (q_load),
 dK_ fun s0 => oG_ rfl rfl (q_move),
 dK_ fun s0 => oG_ rfl rfl (q_app),
 dK_ fun s0 => oG_ rfl rfl (q_nil),
 dK_ fun s0 => oG_ rfl rfl (q_fa),
 dK_ fun s0 => oG_ rfl rfl (q_store), trivial⟩ ?_
     dsimp only [final, DS.upd, AS.seto]
     refine AWp.seq ?_
     refine AWp.region ?_
     refine aC_ rfl rfl (q_move) ?_
     refine aC_ rfl rfl (q_ix) ?_
     refine aC_ rfl rfl (q_fa) ?_
     refine aC_ rfl rfl (q_load) ?_
     refine aC_ rfl rfl (by first | exact q_conv_zs | exact q_conv_ls) ?_
     refine aC_ rfl rfl (q_assign) ?_
     refine AOps.nil ?_
     refine AWp.seq ?_
     refine AWp.seq ?_
     refine AWp.region ?_
     refine aC_ rfl rfl (q_move) ?_
     refine aC_ rfl rfl (q_fa) ?_
     refine aC_ rfl rfl (q_load) ?_
     refine AOps.bool rfl rfl (q_call (1) (hc := (c_name_Within ((atZ z n 5).getD 0 default).da z.o (by omega) (by omega)))) (fun h11_3 => ?_) (fun h11_3 => ?_)
     ·
      refine aC_ rfl rfl (q_move) ?_
      refine AOps.gcons rfl rfl rfl rfl rfl (q_load) ?_
      refine AOps.gcons rfl rfl rfl rfl rfl (q_nil) ?_
      refine AOps.gcons rfl rfl rfl rfl rfl (q_fa) ?_
      refine AOps.gcons rfl rfl rfl rfl rfl (q_load) ?_
      refine AOps.gcons rfl rfl rfl rfl rfl (q_len) ?_
      refine AOps.gdec rfl rfl rfl rfl rfl (q_lss) (fun h11_10 => ?_) (fun h11_10 => ?_)
      ·
       refine aC_ rfl rfl (q_pick) ?_
       refine AOps.nil ?_
       refine AWp.cond_t rfl ?_
       refine AWp.goto ?_
       refine ⟨rfl, (an ++ atZ z n 5, ((atZ z n 5).getD 0 default).da, true, v + 1), ?_, Back.mk' (HasT.cons HasT.nil) (HasH.cons (HasH.cons HasH.nil)), ?_⟩
       ·
        try dsimp only
        refine ⟨by rw [← hE, fil_on hcut hali ⟨h11_3, by omega⟩], by omega, canN_le2 hx, fun q => ?_⟩
        rw [List.length_append] at q; omega
       ·
        try dsimp only
        have hq8 := h11_10
        simp only [List.length_append] at hq8 ⊢
        omega
      ·
       refine aC_ rfl rfl (q_pick) ?_
       refine AOps.nil ?_
       refine AWp.cond_f rfl ?_
       refine AWp.skip ?_
       refine AWp.ret ?_
       show Fin te Try.f60 _ _
       rw [fil_stop hcut hali (fun q => h11_10 (by have := q.2; omega))] at hE
       rw [← hE]
       refine q_retHD (1) (0) [] [] [] [(_, _)] ?_
       rfl
     ·
      refine aC_ rfl rfl (q_move) ?_
      refine aG_ rfl rfl rfl rfl rfl rfl rfl rfl ?_
      refine aG_ rfl rfl rfl rfl rfl rfl rfl rfl ?_
      refine aG_ rfl rfl rfl rfl rfl rfl rfl rfl ?_
      refine aG_ rfl rfl rfl rfl rfl rfl rfl rfl ?_
      refine aG_ rfl rfl rfl rfl rfl rfl rfl rfl ?_
      refine aG_ rfl rfl rfl rfl rfl rfl rfl rfl ?_
      refine aC_ rfl rfl (q_pick) ?_
      refine AOps.nil ?_
      refine AWp.cond_f rfl ?_
      refine AWp.skip ?_
      refine AWp.ret ?_
      show Fin te Try.f60 _ _
      rw [fil_stop hcut hali (fun q => by rw [h11_3] at q; cases q.1)] at hE
      rw [← hE]
      refine q_retHD (1) (0) [] [] [] [(_, _)] ?_
      rfl
    ·
     refine aC_ rfl rfl (q_pick) ?_
     refine AOps.nil ?_
     refine AWp.cond_f rfl ?_
     refine AWp.skip ?_
     refine AWp.seq ?_
     refine AWp.seq ?_
     refine AWp.region ?_
     have hali : ¬ (0 < (atZ z n 5).length ∧ ty ≠ 5) := fun q => h8_5 q.2
     refine aC_ rfl rfl (q_load) ?_
     refine aC_ rfl rfl (q_move) ?_
     refine aC_ rfl rfl (q_move) ?_
     refine aC_ rfl rfl (q_call (1) (hc := (c_at1 z n ty hz (by omega)))) ?_
     refine aC_ rfl rfl (q_assign) ?_
     refine AOps.nil ?_
     refine AWp.seq ?_
     refine AWp.region ?_
     refine aC_ rfl rfl (q_move) ?_
     refine aC_ rfl rfl (q_len) ?_
     refine AOps.dec rfl rfl (q_gtr) (fun h13_2 => ?_) (fun h13_2 => ?_)
     ·
      refine AOps.nil ?_
      refine AWp.cond_t rfl ?_
      refine AWp.seq ?_
      refine AWp.draws [⟨0, [7], [101], some 84, _, []⟩,
 ⟨1, [7], [101], some 85, _, []⟩,
 ⟨2, [85], [0], some 86, _, []⟩,
 ⟨3, [86], [0], some 87, _, []⟩,
 ⟨4, [87], [0], some 88, _, []⟩,
 ⟨5, [11], [], some 89, _, []⟩,
 ⟨6, [88, 89], [9001], some 90, _, [(9001, _)]⟩,
 ⟨7, [84], [0], some 91, _, []⟩,
 ⟨8, [91], [0], some 92, _, []⟩,
 ⟨9, [90, 92], [0, 9001], none, _, [(0, _)]⟩]
       [kN_ 0 [7] [101] 84,
 kN_ 1 [7] [101] 85,
 kN_ 2 [85] [0] 86,
 kN_ 3 [86] [0] 87,
 kN_ 4 [87] [0] 88,
 kN_ 5 [11] [] 89,
 ⟨6, [88, 89], [9001], some 90, .any, [(9001, .box [])]⟩,
 kN_ 7 [84] [0] 91,
 kN_ 8 [91] [0] 92,
 ⟨9, [90, 92], [0, 9001], none, .any, [(0, .box [])]⟩]
       mixed_ok rfl (by kernel_rfl) ⟨dK_ fun s0 => oG_ rfl rfl (q_load),
 dK_ fun s0 => oG_ rfl rfl (q_load),
 dK_ fun s0 => oG_ rfl rfl (q_nil),
 dK_ fun s0 => oG_ rfl rfl (q_fa),
 dK_ fun s0 => oG_ rfl rfl (q_load),
 dK_ fun s0 => oG_ rfl rfl (q_move),
 dK_ fun s0 => oG_ rfl rfl (q_app),
 dK_ fun s0 => oG_ rfl rfl (q_nil),
 dK_ fun s0 => oG_ rfl rfl (q_fa),
 dK_ fun s0 => oG_ rfl rfl (q_store), trivial⟩ ?_
      dsimp only [final, DS.upd, AS.seto]
      refine AWp.ret ?_
      show Fin te Try.f60 _ _
      rw [fil_has hcut hali (by omega)] at hE
      rw [← hE]
      refine q_retHD (1) (0) [] [] [] [(_, _)] ?_
      rfl
     ·
      refine AOps.nil ?_
      refine AWp.cond_f rfl ?_
      refine AWp.skip ?_
      refine AWp.seq ?_
      refine AWp.draws [⟨0, [7], [101], some 93, _, []⟩,
 ⟨1, [4], [100], some 94, _, []⟩,
 ⟨2, [4], [100], some 95, _, []⟩,
 ⟨3, [95], [100], some 96, _, []⟩,
 ⟨4, [94, 96], [], some 97, _, []⟩,
 ⟨5, [93], [0], some 98, _, []⟩,
 ⟨6, [98], [0], some 99, _, []⟩,
 ⟨7, [97, 99], [0], none, _, [(0, _)]⟩]
       [kN_ 0 [7] [101] 93,
 kN_ 1 [4] [100] 94,
 kN_ 2 [4] [100] 95,
 kN_ 3 [95] [100] 96,
 kN_ 4 [94, 96] [] 97,
 kN_ 5 [93] [0] 98,
 kN_ 6 [98] [0] 99,
 ⟨7, [97, 99], [0], none, .any, [(0, .box [])]⟩]
       mixed_ok rfl (by kernel_rfl) ⟨dK_ fun s0 => oG_ rfl rfl (q_load),
 dK_ fun s0 => oG_ rfl rfl (q_load),
 dK_ fun s0 => oG_ rfl rfl (q_fa),
 dK_ fun s0 => oG_ rfl rfl (q_load),
 dK_ fun s0 => oG_ rfl rfl (q_call (1) (hc := (c_at1 z z.o 6 hz (by omega)))),
 dK_ fun s0 => oG_ rfl rfl (q_nil),
 dK_ fun s0 => oG_ rfl rfl (q_fa),
 dK_ fun s0 => oG_ rfl rfl (q_store), trivial⟩ ?_
      dsimp only [final, DS.upd, AS.seto]
      refine AWp.seq ?_
      refine AWp.region ?_
      refine aC_ rfl rfl (q_load) ?_
      refine aC_ rfl rfl (q_move) ?_
      refine AOps.bool rfl rfl (q_call0 (hA := by exact ⟨ev_zo (z := z), ev_ok rfl, trivial⟩) (hc := c_zone_there z n hz (by omega))) (fun h16_2 => ?_) (fun h16_2 => ?_)
      ·
       refine aC_ rfl rfl (q_not) ?_
       refine AOps.nil ?_
       refine AWp.cond_f rfl ?_
       refine AWp.skip ?_
       show Fin te Try.f60 _ _
       rw [fil_none hcut hali (by omega), if_pos h16_2] at hE
       rw [← hE]
       refine q_retHD (1) (0) [] [] [] [(_, _)] ?_
       rfl
      ·
       refine aC_ rfl rfl (q_not) ?_
       refine AOps.nil ?_
       refine AWp.cond_t rfl ?_
       refine AWp.region ?_
       refine aC_ rfl rfl (q_load) ?_
       refine aC_ rfl rfl (q_nil) ?_
       refine aC_ rfl rfl (q_fa) ?_
       refine aC_ rfl rfl (q_fa) ?_
       refine aC_ rfl rfl (q_store) ?_
       refine AOps.nil ?_
       show Fin te Try.f60 _ _
       rw [fil_none hcut hali (by omega), if_neg (by rw [h16_2]; decide)] at hE
       rw [← hE]
       refine q_retHD (1) (0) [] [] [] [(_, _)] ?_
       rfl
   ·
    refine aC_ rfl rfl (q_move) ?_
    refine aG_ rfl rfl rfl rfl rfl rfl rfl rfl ?_
    refine aG_ rfl rfl rfl rfl rfl rfl rfl rfl ?_
    refine aC_ rfl rfl (q_pick) ?_
    refine AOps.nil ?_
    refine AWp.cond_f rfl ?_
    refine AWp.skip ?_
    refine AWp.seq ?_
    refine AWp.seq ?_
    refine AWp.region ?_
    have hali : ¬ (0 < (atZ z n 5).length ∧ ty ≠ 5) := fun q => absurd q.1 (by omega)
    refine aC_ rfl rfl (q_load) ?_
    refine aC_ rfl rfl (q_move) ?_
    refine aC_ rfl rfl (q_move) ?_
    refine aC_ rfl rfl (q_call (1) (hc := (c_at1 z n ty hz (by omega)))) ?_
    refine aC_ rfl rfl (q_assign) ?_
    refine AOps.nil ?_
    refine AWp.seq ?_
    refine AWp.region ?_
    refine aC_ rfl rfl (q_move) ?_
    refine aC_ rfl rfl (q_len) ?_
    refine AOps.dec rfl rfl (q_gtr) (fun h13_2 => ?_) (fun h13_2 => ?_)
    ·
     refine AOps.nil ?_
     refine AWp.cond_t rfl ?_
     refine AWp.seq ?_
     refine AWp.draws [⟨0, [7], [101], some 84, _, []⟩,
 ⟨1, [7], [101], some 85, _, []⟩,
 ⟨2, [85], [0], some 86, _, []⟩,
 ⟨3, [86], [0], some 87, _, []⟩,
 ⟨4, [87], [0], some 88, _, []⟩,
 ⟨5, [11], [], some 89, _, []⟩,
 ⟨6, [88, 89], [9001], some 90, _, [(9001, _)]⟩,
 ⟨7, [84], [0], some 91, _, []⟩,
 ⟨8, [91], [0], some 92, _, []⟩,
 ⟨9, [90, 92], [0, 9001], none, _, [(0, _)]⟩]
      [kN_ 0 [7] [101] 84,
 kN_ 1 [7] [101] 85,
 kN_ 2 [85] [0] 86,
 kN_ 3 [86] [0] 87,
 kN_ 4 [87] [0] 88,
 kN_ 5 [11] [] 89,
 ⟨6, [88, 89], [9001], some 90, .any, [(9001, .box [])]⟩,
 kN_ 7 [84] [0] 91,
 kN_ 8 [91] [0] 92,
 ⟨9, [90, 92], [0, 9001], none, .any, [(0, .box [])]⟩]
      mixed_ok rfl (by kernel_rfl) ⟨dK_ fun s0 => oG_ rfl rfl (q_load),
 dK_ fun s0 => oG_ rfl rfl (q_load),
 dK_ fun s0 => oG_ rfl rfl (q_nil),
 dK_ fun s0 => oG_ rfl rfl (q_fa),
 dK_ fun s0 => oG_ rfl rfl (q_load),
 dK_ fun s0 => oG_ rfl rfl (q_move),
 dK_ fun s0 => oG_ rfl rfl (q_app),
 dK_ fun s0 => oG_ rfl rfl (q_nil),
 dK_ fun s0 => oG_ rfl rfl (q_fa),
 dK_ fun s0 => oG_ rfl rfl (q_store), trivial⟩ ?_
     dsimp only [final, DS.upd, AS.seto]
     refine AWp.ret ?_
     show Fin te Try.f60 _ _
     rw [fil_has hcut hali (by omega)] at hE
     rw [← hE]
     refine q_retHD (1) (0) [] [] [] [(_, _)] ?_
     rfl
    ·
     refine AOps.nil ?_
     refine AWp.cond_f rfl ?_
     refine AWp.skip ?_
     refine AWp.seq ?_
     refine AWp.draws [⟨0, [7], [101], some 93, _, []⟩,
 ⟨1, [4], [100], some 94, _, []⟩,
 ⟨2, [4], [100], some 95, _, []⟩,
 ⟨3, [95], [100], some 96, _, []⟩,
 ⟨4, [94, 96], [], some 97, _, []⟩,
 ⟨5, [93], [0], some 98, _, []⟩,
 ⟨6, [98], [0], some 99, _, []⟩,
 ⟨7, [97, 99], [0], none, _, [(0, _)]⟩]
      [kN_ 0 [7] [101] 93,
 kN_ 1 [4] [100] 94,
 kN_ 2 [4] [100] 95,
 kN_ 3 [95] [100] 96,
 kN_ 4 [94, 96] [] 97,
 kN_ 5 [93] [0] 98,
 kN_ 6 [98] [0] 99,
 ⟨7, [97, 99], [0], none, .any, [(0, .box [])]⟩]
      mixed_ok rfl (by kernel_rfl) ⟨dK_ fun s0 => oG_ rfl rfl (q_load),
 dK_ fun s0 => oG_ rfl rfl (q_load),
 dK_ fun s0 => oG_ rfl rfl (q_fa),
 dK_ fun s0 => oG_ rfl rfl (q_load),
 dK_ fun s0 => oG_ rfl rfl (q_call (1) (hc := (c_at1 z z.o 6 hz (by omega)))),
 dK_ fun s0 => oG_ rfl rfl (q_nil),
 dK_ fun s0 => oG_ rfl rfl (q_fa),
 dK_ fun s0 => oG_ rfl rfl (q_store), trivial⟩ ?_
     dsimp only [final, DS.upd, AS.seto]
     refine AWp.seq ?_
     refine AWp.region ?_
     refine aC_ rfl rfl (q_load) ?_
     refine aC_ rfl rfl (q_move) ?_
     refine AOps.bool rfl rfl (q_call0 (hA := by exact ⟨ev_zo (z := z), ev_ok rfl, trivial⟩) (hc := c_zone_there z n hz (by omega))) (fun h16_2 => ?_) (fun h16_2 => ?_)
     ·
      refine aC_ rfl rfl (q_not) ?_
      refine AOps.nil ?_
      refine AWp.cond_f rfl ?_
      refine AWp.skip ?_
      show Fin te Try.f60 _ _
      rw [fil_none hcut hali (by omega), if_pos h16_2] at hE
      rw [← hE]
      refine q_retHD (1) (0) [] [] [] [(_, _)] ?_
      rfl
     ·
      refine aC_ rfl rfl (q_not) ?_
      refine AOps.nil ?_
      refine AWp.cond_t rfl ?_
      refine AWp.region ?_
      refine aC_ rfl rfl (q_load) ?_
      refine aC_ rfl rfl (q_nil) ?_
      refine aC_ rfl rfl (q_fa) ?_
      refine aC_ rfl rfl (q_fa) ?_
      refine aC_ rfl rfl (q_store) ?_
      refine AOps.nil ?_
      show Fin te Try.f60 _ _
      rw [fil_none hcut hali (by omega), if_neg (by rw [h16_2]; decide)] at hE
      rw [← hE]
      refine q_retHD (1) (0) [] [] [] [(_, _)] ?_
      rfl
end Go.Proofs.Ytokccoloholgaaa.Fw


set_option linter.unusedVariables false
set_option linter.unusedSimpArgs false
namespace Go.Proofs.Ytokccoloholgaaa.Fw
open Go.RowKit
set_option maxRecDepth 20000 in
set_option maxHeartbeats 2000000 in
theorem c_Serve1 (t : Tr) (a : Int) (m : Msg) (ht : TrOk t) (hm : MsgOk m) (hn : NmOk m) : AC Try.prog 22 [.agg (trC1 t), i64 a, .agg (msgC1 m)] emp (Ret (.tup [.agg (msgC (serV t a m)), tf (serO t a m)])) := by
 have hb1 := ht.1
 have hb2 := ht.2.2.1
 have hmq := hm.1
 refine AC.intro te_ok (fn := Try.f22) ⟨Try.func22, rfl, rfl⟩ (Nat.le_of_ble_eq_true rfl) ?_
 refine AWp.seq ?_
 refine AWp.region ?_
 refine aC_ rfl rfl (q_box 100) ?_
 refine aC_ rfl rfl (q_box 101) ?_
 refine aC_ rfl rfl (q_box 102) ?_
 refine aC_ rfl rfl (q_alloc 103) ?_
 refine aC_ rfl rfl (q_assign) ?_
 refine AOps.nil ?_
 refine AWp.seq ?_
 refine AWp.seq ?_
 refine AWp.region ?_
 refine aC_ rfl rfl (q_load) ?_
 refine AOps.bool rfl rfl (q_call0 (hA := by exact ⟨ev_tr (t := t), trivial⟩) (hc := c_zone_Can t ht)) (fun h1_1 => ?_) (fun h1_1 => ?_)
 ·
  refine aC_ rfl rfl (q_not) ?_
  refine aC_ rfl rfl (q_move) ?_
  refine AOps.gcons rfl rfl rfl rfl rfl (q_fa) ?_
  refine AOps.gcons rfl rfl rfl rfl rfl (q_fa) ?_
  refine AOps.gbool rfl rfl rfl rfl rfl (q_load) (fun h1_6 => ?_) (fun h1_6 => ?_)
  ·
   refine aC_ rfl rfl (q_pick) ?_
   refine aC_ rfl rfl (q_move) ?_
   refine aG_ rfl rfl rfl rfl rfl rfl rfl rfl ?_
   refine aG_ rfl rfl rfl rfl rfl rfl rfl rfl ?_
   refine aG_ rfl rfl rfl rfl rfl rfl rfl rfl ?_
   refine aG_ rfl rfl rfl rfl rfl rfl rfl rfl ?_
   refine aC_ rfl rfl (q_pick) ?_
   refine aC_ rfl rfl (q_move) ?_
   refine aG_ rfl rfl rfl rfl rfl rfl rfl rfl ?_
   refine aG_ rfl rfl rfl rfl rfl rfl rfl rfl ?_
   refine aG_ rfl rfl rfl rfl rfl rfl rfl rfl ?_
   refine aG_ rfl rfl rfl rfl rfl rfl rfl rfl ?_
   refine aG_ rfl rfl rfl rfl rfl rfl rfl rfl ?_
   refine aG_ rfl rfl rfl rfl rfl rfl rfl rfl ?_
   refine aG_ rfl rfl rfl rfl rfl rfl rfl rfl ?_
   refine aC_ rfl rfl (q_pick) ?_
   refine AOps.nil ?_
   refine AWp.cond_t rfl ?_
   refine AWp.seq ?_
   refine AWp.region ?_
   refine aC_ rfl rfl (q_build []) ?_
   refine aC_ rfl rfl (q_store) ?_
   refine aC_ rfl rfl (q_assign) ?_
   refine AOps.weak (Weak.full 0 [] (t := [(7, tf false), (6, .ptr 103 0 0)]) (hl := [(103, .box (msgC mZ))])) ?_
   refine AOps.nil ?_
   refine AWp.ret ?_
   show Fin te Try.f22 _ _
   refine q_ret (0) [_, _] [_, _] ?_
   have hno : serO t a m = false := ser_2 h1_6
   rw [ser_none hno, hno]; rfl
  ·
   refine aC_ rfl rfl (q_pick) ?_
   refine aC_ rfl rfl (q_move) ?_
   refine AOps.gcons rfl rfl rfl rfl rfl (q_fa) ?_
   refine AOps.gcons rfl rfl rfl rfl rfl (q_load) ?_
   refine AOps.gcons rfl rfl rfl rfl rfl (q_len) ?_
   refine AOps.gdec rfl rfl rfl rfl rfl (q_neq) (fun h1_12 => ?_) (fun h1_12 => ?_)
   ·
    refine aC_ rfl rfl (q_pick) ?_
    refine aC_ rfl rfl (q_move) ?_
    refine aG_ rfl rfl rfl rfl rfl rfl rfl rfl ?_
    refine aG_ rfl rfl rfl rfl rfl rfl rfl rfl ?_
    refine aG_ rfl rfl rfl rfl rfl rfl rfl rfl ?_
    refine aG_ rfl rfl rfl rfl rfl rfl rfl rfl ?_
    refine aG_ rfl rfl rfl rfl rfl rfl rfl rfl ?_
    refine aG_ rfl rfl rfl rfl rfl rfl rfl rfl ?_
    refine aG_ rfl rfl rfl rfl rfl rfl rfl rfl ?_
    refine aC_ rfl rfl (q_pick) ?_
    refine AOps.nil ?_
    refine AWp.cond_t rfl ?_
    refine AWp.seq ?_
    refine AWp.region ?_
    refine aC_ rfl rfl (q_build []) ?_
    refine aC_ rfl rfl (q_store) ?_
    refine aC_ rfl rfl (q_assign) ?_
    refine AOps.weak (Weak.full 0 [] (t := [(7, tf false), (6, .ptr 103 0 0)]) (hl := [(103, .box (msgC mZ))])) ?_
    refine AOps.nil ?_
    refine AWp.ret ?_
    show Fin te Try.f22 _ _
    refine q_ret (0) [_, _] [_, _] ?_
    have hno : serO t a m = false := ser_3 h1_12
    rw [ser_none hno, hno]; rfl
   ·
    refine aC_ rfl rfl (q_pick) ?_
    refine aC_ rfl rfl (q_move) ?_
    refine AOps.gcons rfl rfl rfl rfl rfl (q_fa) ?_
    refine AOps.gcons rfl rfl rfl rfl rfl (q_load) ?_
    have hl1 : m.qs.length = 1 := by omega
    have hqn := hn.1 _ (getD_mem' (l := m.qs) (i := 0) (by omega))
    refine AOps.gcons rfl rfl rfl rfl rfl (q_ix) ?_
    refine AOps.gcons rfl rfl rfl rfl rfl (q_fa) ?_
    refine AOps.gcons rfl rfl rfl rfl rfl (q_load) ?_
    refine AOps.gbool rfl rfl rfl rfl rfl (q_call (1) (hc := (c_name_Can (m.qs.getD 0 default).nm (by omega)))) (fun h1_20 => ?_) (fun h1_20 => ?_)
    ·
     refine AOps.gcons rfl rfl rfl rfl rfl (q_not) ?_
     refine aC_ rfl rfl (q_pick) ?_
     refine AOps.nil ?_
     refine AWp.cond_f rfl ?_
     refine AWp.skip ?_
     refine AWp.seq ?_
     refine AWp.region ?_
     refine aC_ rfl rfl (q_fa) ?_
     refine aC_ rfl rfl (q_load) ?_
     refine aC_ rfl rfl (q_makeFunc [] [_]) ?_
     refine aC_ rfl rfl (q_call0 (hA := by exact ⟨ev_svs (k := t.ss), ev_fv (lo := 0) (hi := 1) (by decide) (fv_fn trivial ⟨fv_ptrb rfl .box rfl rfl rfl, trivial⟩), trivial⟩) (hc := (c_IndexFunc_sv t.ss 0 0 1 [.fp 1 [i64 a]] (isAd a) (by omega) rfl (fun s hs => c_zone_Serve_1 s a 1)))) ?_
     refine aC_ rfl rfl (q_assign) ?_
     refine AOps.nil ?_
     refine AWp.seq ?_
     refine AWp.seq ?_
     refine AWp.region ?_
     refine aC_ rfl rfl (q_move) ?_
     refine AOps.dec rfl rfl (q_lss) (fun h4_1 => ?_) (fun h4_1 => ?_)
     ·
      refine AOps.nil ?_
      refine AWp.cond_t rfl ?_
      refine AWp.seq ?_
      refine AWp.region ?_
      refine aC_ rfl rfl (q_build []) ?_
      refine aC_ rfl rfl (q_store) ?_
      refine aC_ rfl rfl (q_assign) ?_
      refine AOps.weak (Weak.full 0 [] (t := [(7, tf false), (6, .ptr 103 0 0)]) (hl := [(103, .box (msgC mZ))])) ?_
      refine AOps.nil ?_
      refine AWp.ret ?_
      show Fin te Try.f22 _ _
      refine q_ret (0) [_, _] [_, _] ?_
      have hno : serO t a m = false := ser_5 h4_1
      rw [ser_none hno, hno]; rfl
     ·
      refine AOps.nil ?_
      refine AWp.cond_f rfl ?_
      refine AWp.skip ?_
      refine AWp.seq ?_
      refine AWp.region ?_
      have hyes := ser_yes h1_1 h1_6 h1_12 h1_20 h4_1
      have hcan := h1_1
      have hix := idx_lt' h4_1
      have hsm : (t.ss.getD (idx (isAd a) t.ss).toNat default) ∈ t.ss := getD_mem' hix
      have hin := srv_in hcan hsm
      have hszl := ht.2.2.2 _ hsm
      have hql := canN_le2 h1_20
      refine aC_ rfl rfl (q_fa) ?_
      refine aC_ rfl rfl (q_load) ?_
      refine aC_ rfl rfl (q_ix) ?_
      refine aC_ rfl rfl (q_load) ?_
      refine aC_ rfl rfl (q_alloc 704) ?_
      refine aC_ rfl rfl (q_store) ?_
      refine AOps.nil ?_
      refine AWp.seq ?_
      refine AWp.region ?_
      refine aC_ rfl rfl (q_fa) ?_
      refine aC_ rfl rfl (q_fa) ?_
      refine aC_ rfl rfl (q_load) ?_
      refine aC_ rfl rfl (q_fa) ?_
      refine aC_ rfl rfl (q_fa) ?_
      refine aC_ rfl rfl (q_load) ?_
      refine aC_ rfl rfl (q_fa) ?_
      refine aC_ rfl rfl (q_fa) ?_
      refine aC_ rfl rfl (q_load) ?_
      refine aC_ rfl rfl (q_build [(_, _), (_, _), (_, _), (_, _)]) ?_
      refine aC_ rfl rfl (q_load) ?_
      refine aC_ rfl rfl (q_bs 811 quc [(m.qs.getD 0 default)] [(_, _)]) ?_
      refine aC_ rfl rfl (q_build [(_, _), (_, _)]) ?_
      refine aC_ rfl rfl (q_alloc 813) ?_
      refine aC_ rfl rfl (q_store) ?_
      refine AOps.weak (Weak.fullD 1 0 [] (t := [(3, .ptr 100 0 0), (5, .ptr 102 0 0), (6, .ptr 103 0 0), (8, i64 (idx (isAd a) t.ss)), (9, .ptr 704 0 0), (10, .ptr 813 0 0)]) (hl := [(100, .box (trC1 t)), (102, .box (msgC1 m)), (103, .box [.v (.int .i64 0), .v (.bool false), .v (.int .i64 0), .v (.bool false), .v (.bool false), .v (.bool false), .v (.bool false), .v (.int .i64 0), .v (.slice none 0 0), .v (.slice none 0 0), .v (.slice none 0 0), .v (.slice none 0 0)]), (704, .box (quc (m.qs.getD 0 default))), (813, .box [i64 m.h.id, tf true, i64 m.h.op, tf (false), .v (.bool false), tf m.h.rd, .v (.bool false), i64 (0), .fz 0 [(m.qs.getD 0 default)].length (cl quc [(m.qs.getD 0 default)]), .v (.slice none 0 0), .fz 0 (([] : List Rr)).length (cl rrc (([] : List Rr))), .v (.slice none 0 0)])])) ?_
      refine AOps.nil ?_
      refine AWp.seq ?_
      refine AWp.draws [⟨0, [3], [100], some 60, _, []⟩,
 ⟨1, [3], [100], some 61, _, []⟩,
 ⟨2, [61], [100], some 62, _, []⟩,
 ⟨3, [8], [], some 63, _, []⟩,
 ⟨4, [62, 63], [], some 64, _, []⟩,
 ⟨5, [64], [], some 65, _, []⟩,
 ⟨6, [65], [], some 66, _, []⟩,
 ⟨7, [9], [704], some 67, _, []⟩,
 ⟨8, [67], [704], some 68, _, []⟩,
 ⟨9, [60, 66, 68], [], some 69, _, []⟩,
 ⟨10, [69], [], some 11, _, []⟩]
       [kN_ 0 [3] [100] 60,
 kN_ 1 [3] [100] 61,
 kN_ 2 [61] [100] 62,
 kN_ 3 [8] [] 63,
 kN_ 4 [62, 63] [] 64,
 kN_ 5 [64] [] 65,
 kN_ 6 [65] [] 66,
 kN_ 7 [9] [704] 67,
 kN_ 8 [67] [704] 68,
 kN_ 9 [60, 66, 68] [] 69,
 kN_ 10 [69] [] 11]
       mixed_ok rfl (by kernel_rfl) ⟨dK_ fun s0 => oG_ rfl rfl (q_load),
 dK_ fun s0 => oG_ rfl rfl (q_fa),
 dK_ fun s0 => oG_ rfl rfl (q_load),
 dK_ fun s0 => oG_ rfl rfl (q_move),
 dK_ fun s0 => oG_ rfl rfl (q_ix),
 dK_ fun s0 => oG_ rfl rfl (q_fa),
 dK_ fun s0 => oG_ rfl rfl (q_load),
 dK_ fun s0 => oG_ rfl rfl (q_fa),
 dK_ fun s0 => oG_ rfl rfl (q_load),
 dK_ fun s0 => oG_ rfl rfl (q_call0 (hA := by exact ⟨ev_tr (t := t), ev_ints (k := (t.ss.getD (idx (isAd a) t.ss).toNat default).zs), ev_ok rfl, trivial⟩) (hc := (c_zone_home t (t.ss.getD (idx (isAd a) t.ss).toNat default).zs 0 (m.qs.getD 0 default).nm ht (by omega) hin (by omega)))),
 dK_ fun s0 => oG_ rfl rfl (q_assign), trivial⟩ ?_
      dsimp only [final, DS.upd, AS.seto]
      refine AWp.seq ?_
      refine AWp.block ?_
      refine AWp.seq ?_
      refine AWp.region ?_
      refine aC_ rfl rfl (q_fa) ?_
      refine aC_ rfl rfl (q_fa) ?_
      refine aC_ rfl rfl (q_load) ?_
      refine AOps.dec rfl rfl (q_neq) (fun h10_3 => ?_) (fun h10_3 => ?_)
      ·
       refine aC_ rfl rfl (q_assign) ?_
       refine AOps.nil ?_
       refine AWp.cond_t rfl ?_
       refine AWp.region ?_
       refine aC_ rfl rfl (q_fa) ?_
       refine aC_ rfl rfl (q_fa) ?_
       refine aC_ rfl rfl (q_store) ?_
       refine AOps.nil ?_
       refine AWp.seq ?_
       refine AWp.region ?_
       refine AOps.weak (Weak.full 0 [] (t := [(6, .ptr 103 0 0), (10, .ptr 813 0 0)]) (hl := [(103, .box [.v (.int .i64 0), .v (.bool false), .v (.int .i64 0), .v (.bool false), .v (.bool false), .v (.bool false), .v (.bool false), .v (.int .i64 0), .v (.slice none 0 0), .v (.slice none 0 0), .v (.slice none 0 0), .v (.slice none 0 0)]), (813, .box [i64 m.h.id, tf true, i64 m.h.op, tf (false), .v (.bool false), tf m.h.rd, .v (.bool false), i64 (4), .fz 0 [(m.qs.getD 0 default)].length (cl quc [(m.qs.getD 0 default)]), .fz 0 (([] : List Rr)).length (cl rrc (([] : List Rr))), .fz 0 (([] : List Rr)).length (cl rrc (([] : List Rr))), .fz 0 (([] : List Rr)).length (cl rrc (([] : List Rr)))])])) ?_
       refine aC_ rfl rfl (q_load) ?_
       refine aC_ rfl rfl (q_store) ?_
       refine aC_ rfl rfl (q_assign) ?_
       refine AOps.nil ?_
       refine AWp.ret ?_
       show Fin te Try.f22 _ _
       refine q_ret (0) [_, _] [_, _] ?_
       rw [ser_some hyes, hyes, serR, if_pos h10_3]; rfl
      ·
       refine aC_ rfl rfl (q_assign) ?_
       refine AOps.nil ?_
       refine AWp.cond_f rfl ?_
       refine AWp.seq ?_
       refine AWp.region ?_
       refine aC_ rfl rfl (q_fa) ?_
       refine aC_ rfl rfl (q_load) ?_
       refine AOps.dec rfl rfl (q_neq) (fun h12_2 => ?_) (fun h12_2 => ?_)
       ·
        refine aC_ rfl rfl (q_move) ?_
        refine aG_ rfl rfl rfl rfl rfl rfl rfl rfl ?_
        refine aG_ rfl rfl rfl rfl rfl rfl rfl rfl ?_
        refine aC_ rfl rfl (q_pick) ?_
        refine aC_ rfl rfl (q_assign) ?_
        refine AOps.nil ?_
        refine AWp.cond_t rfl ?_
        refine AWp.region ?_
        refine aC_ rfl rfl (q_fa) ?_
        refine aC_ rfl rfl (q_fa) ?_
        refine aC_ rfl rfl (q_store) ?_
        refine AOps.nil ?_
        refine AWp.seq ?_
        refine AWp.region ?_
        refine AOps.weak (Weak.full 0 [] (t := [(6, .ptr 103 0 0), (10, .ptr 813 0 0)]) (hl := [(103, .box [.v (.int .i64 0), .v (.bool false), .v (.int .i64 0), .v (.bool false), .v (.bool false), .v (.bool false), .v (.bool false), .v (.int .i64 0), .v (.slice none 0 0), .v (.slice none 0 0), .v (.slice none 0 0), .v (.slice none 0 0)]), (813, .box [i64 m.h.id, tf true, i64 m.h.op, tf (false), .v (.bool false), tf m.h.rd, .v (.bool false), i64 (5), .fz 0 [(m.qs.getD 0 default)].length (cl quc [(m.qs.getD 0 default)]), .fz 0 (([] : List Rr)).length (cl rrc (([] : List Rr))), .fz 0 (([] : List Rr)).length (cl rrc (([] : List Rr))), .fz 0 (([] : List Rr)).length (cl rrc (([] : List Rr)))])])) ?_
        refine aC_ rfl rfl (q_load) ?_
        refine aC_ rfl rfl (q_store) ?_
        refine aC_ rfl rfl (q_assign) ?_
        refine AOps.nil ?_
        refine AWp.ret ?_
        show Fin te Try.f22 _ _
        refine q_ret (0) [_, _] [_, _] ?_
        rw [ser_some hyes, hyes, serR, if_neg h10_3, if_pos (.inl h12_2)]; rfl
       ·
        refine aC_ rfl rfl (q_move) ?_
        refine AOps.gcons rfl rfl rfl rfl rfl (q_move) ?_
        refine AOps.gdec rfl rfl rfl rfl rfl (q_lss) (fun h12_5 => ?_) (fun h12_5 => ?_)
        ·
         refine aC_ rfl rfl (q_pick) ?_
         refine aC_ rfl rfl (q_assign) ?_
         refine AOps.nil ?_
         refine AWp.cond_t rfl ?_
         refine AWp.region ?_
         refine aC_ rfl rfl (q_fa) ?_
         refine aC_ rfl rfl (q_fa) ?_
         refine aC_ rfl rfl (q_store) ?_
         refine AOps.nil ?_
         refine AWp.seq ?_
         refine AWp.region ?_
         refine AOps.weak (Weak.full 0 [] (t := [(6, .ptr 103 0 0), (10, .ptr 813 0 0)]) (hl := [(103, .box [.v (.int .i64 0), .v (.bool false), .v (.int .i64 0), .v (.bool false), .v (.bool false), .v (.bool false), .v (.bool false), .v (.int .i64 0), .v (.slice none 0 0), .v (.slice none 0 0), .v (.slice none 0 0), .v (.slice none 0 0)]), (813, .box [i64 m.h.id, tf true, i64 m.h.op, tf (false), .v (.bool false), tf m.h.rd, .v (.bool false), i64 (5), .fz 0 [(m.qs.getD 0 default)].length (cl quc [(m.qs.getD 0 default)]), .fz 0 (([] : List Rr)).length (cl rrc (([] : List Rr))), .fz 0 (([] : List Rr)).length (cl rrc (([] : List Rr))), .fz 0 (([] : List Rr)).length (cl rrc (([] : List Rr)))])])) ?_
         refine aC_ rfl rfl (q_load) ?_
         refine aC_ rfl rfl (q_store) ?_
         refine aC_ rfl rfl (q_assign) ?_
         refine AOps.nil ?_
         refine AWp.ret ?_
         show Fin te Try.f22 _ _
         refine q_ret (0) [_, _] [_, _] ?_
         rw [ser_some hyes, hyes, serR, if_neg h10_3, if_pos (.inr h12_5)]; rfl
        ·
         refine aC_ rfl rfl (q_pick) ?_
         refine aC_ rfl rfl (q_assign) ?_
         refine AOps.nil ?_
         refine AWp.cond_f rfl ?_
         have hhk := nearF_in (t := t) (p := fun z => withN (m.qs.getD 0 default).nm z.o) hin
         have hk0 : 0 ≤ homeT t (t.ss.getD (idx (isAd a) t.ss).toNat default).zs (m.qs.getD 0 default).nm ∧ homeT t (t.ss.getD (idx (isAd a) t.ss).toNat default).zs (m.qs.getD 0 default).nm < t.zs.length := ⟨by omega, hhk.2⟩
         have hzm := zAt_mem hk0
         have hzo := zo_ok ht hk0
         refine AWp.draws [⟨0, [3], [100], some 70, _, []⟩,
 ⟨1, [70], [100], some 71, _, []⟩,
 ⟨2, [11], [], some 72, _, []⟩,
 ⟨3, [71, 72], [], some 73, _, []⟩,
 ⟨4, [73], [], some 74, _, []⟩,
 ⟨5, [9], [704], some 75, _, []⟩,
 ⟨6, [75], [704], some 76, _, []⟩,
 ⟨7, [9], [704], some 77, _, []⟩,
 ⟨8, [77], [704], some 78, _, []⟩,
 ⟨9, [10, 74, 76, 78], [813], some 79, _, [(813, _)]⟩]
          [kN_ 0 [3] [100] 70,
 kN_ 1 [70] [100] 71,
 kN_ 2 [11] [] 72,
 kN_ 3 [71, 72] [] 73,
 kN_ 4 [73] [] 74,
 kN_ 5 [9] [704] 75,
 kN_ 6 [75] [704] 76,
 kN_ 7 [9] [704] 77,
 kN_ 8 [77] [704] 78,
 ⟨9, [10, 74, 76, 78], [813], some 79, .any, [(813, .box [])]⟩]
          mixed_ok rfl (by kernel_rfl) ⟨dK_ fun s0 => oG_ rfl rfl (q_fa),
 dK_ fun s0 => oG_ rfl rfl (q_load),
 dK_ fun s0 => oG_ rfl rfl (q_move),
 dK_ fun s0 => oG_ rfl rfl (q_ix),
 dK_ fun s0 => oG_ rfl rfl (q_load),
 dK_ fun s0 => oG_ rfl rfl (q_fa),
 dK_ fun s0 => oG_ rfl rfl (q_load),
 dK_ fun s0 => oG_ rfl rfl (q_fa),
 dK_ fun s0 => oG_ rfl rfl (q_load),
 dK_ fun s0 => oG_ rfl rfl (q_callB (1) [(0, 813)] [] [(_, _)] (hc := (c_fill_1 ⟨m.h.id, true, m.h.op, false, false, m.h.rd, false, 0⟩ [(m.qs.getD 0 default)] (zAt t (homeT t (t.ss.getD (idx (isAd a) t.ss).toNat default).zs (m.qs.getD 0 default).nm)) (m.qs.getD 0 default).nm (m.qs.getD 0 default).ty hzo (zs_small hcan hzm) (by omega) (zs_data hcan hzm)))), trivial⟩ ?_
         dsimp only [final, DS.upd, AS.seto]
         refine AWp.seq ?_
         refine AWp.region ?_
         refine aC_ rfl rfl (q_load) ?_
         refine aC_ rfl rfl (q_store) ?_
         refine aC_ rfl rfl (q_assign) ?_
         refine AOps.nil ?_
         refine AWp.ret ?_
         show Fin te Try.f22 _ _
         refine q_ret (0) [_, _] [_, _] ?_
         rw [ser_some hyes, hyes, serR, if_neg h10_3, if_neg (fun q => q.elim h12_2 h12_5)]; rfl
    ·
     refine AOps.gcons rfl rfl rfl rfl rfl (q_not) ?_
     refine aC_ rfl rfl (q_pick) ?_
     refine AOps.nil ?_
     refine AWp.cond_t rfl ?_
     refine AWp.seq ?_
     refine AWp.region ?_
     refine aC_ rfl rfl (q_build []) ?_
     refine aC_ rfl rfl (q_store) ?_
     refine aC_ rfl rfl (q_assign) ?_
     refine AOps.weak (Weak.full 0 [] (t := [(7, tf false), (6, .ptr 103 0 0)]) (hl := [(103, .box (msgC mZ))])) ?_
     refine AOps.nil ?_
     refine AWp.ret ?_
     show Fin te Try.f22 _ _
     refine q_ret (0) [_, _] [_, _] ?_
     have hno : serO t a m = false := ser_4 h1_20
     rw [ser_none hno, hno]; rfl
 ·
  refine aC_ rfl rfl (q_not) ?_
  refine aC_ rfl rfl (q_move) ?_
  refine aG_ rfl rfl rfl rfl rfl rfl rfl rfl ?_
  refine aG_ rfl rfl rfl rfl rfl rfl rfl rfl ?_
  refine aG_ rfl rfl rfl rfl rfl rfl rfl rfl ?_
  refine aC_ rfl rfl (q_pick) ?_
  refine aC_ rfl rfl (q_move) ?_
  refine aG_ rfl rfl rfl rfl rfl rfl rfl rfl ?_
  refine aG_ rfl rfl rfl rfl rfl rfl rfl rfl ?_
  refine aG_ rfl rfl rfl rfl rfl rfl rfl rfl ?_
  refine aG_ rfl rfl rfl rfl rfl rfl rfl rfl ?_
  refine aC_ rfl rfl (q_pick) ?_
  refine aC_ rfl rfl (q_move) ?_
  refine aG_ rfl rfl rfl rfl rfl rfl rfl rfl ?_
  refine aG_ rfl rfl rfl rfl rfl rfl rfl rfl ?_
  refine aG_ rfl rfl rfl rfl rfl rfl rfl rfl ?_
  refine aG_ rfl rfl rfl rfl rfl rfl rfl rfl ?_
  refine aG_ rfl rfl rfl rfl rfl rfl rfl rfl ?_
  refine aG_ rfl rfl rfl rfl rfl rfl rfl rfl ?_
  refine aG_ rfl rfl rfl rfl rfl rfl rfl rfl ?_
  refine aC_ rfl rfl (q_pick) ?_
  refine AOps.nil ?_
  refine AWp.cond_t rfl ?_
  refine AWp.seq ?_
  refine AWp.region ?_
  refine aC_ rfl rfl (q_build []) ?_
  refine aC_ rfl rfl (q_store) ?_
  refine aC_ rfl rfl (q_assign) ?_
  refine AOps.weak (Weak.full 0 [] (t := [(7, tf false), (6, .ptr 103 0 0)]) (hl := [(103, .box (msgC mZ))])) ?_
  refine AOps.nil ?_
  refine AWp.ret ?_
  show Fin te Try.f22 _ _
  refine q_ret (0) [_, _] [_, _] ?_
  have hno : serO t a m = false := ser_1 h1_1
  rw [ser_none hno, hno]; rfl
end Go.Proofs.Ytokccoloholgaaa.Fw


set_option linter.unusedVariables false
set_option linter.unusedSimpArgs false
namespace Go.Proofs.Ytokccoloholgaaa.Fw
open Go.RowKit
end Go.Proofs.Ytokccoloholgaaa.Fw


set_option linter.unusedVariables false
set_option linter.unusedSimpArgs false
namespace Go.Proofs.Ytokccoloholgaaa.Fw
open Go.RowKit
set_option maxRecDepth 20000 in
set_option maxHeartbeats 2000000 in
theorem c_rglue (z : Zo) (l : List Rr) (hz : ZoOk z) (hs : z.rs.length ≤ 400) (hl : l.length ≤ 400) (hc : ∀ r ∈ l, canN r.da = true) : AC Try.prog 98 [.agg (zoC z), .fz 0 l.length (cl rrc l)] emp (Ret (.fz 0 (gluZ z l).length (cl rrc (gluZ z l)))) := by
 have hsm : ∀ k, k ≤ l.length → (nmF (fun n => atZ z n 1) l k).length ≤ 400 * k := fun k => nmF_small (l := l) (c := 400) (fun r hr => at_len hs r.da 1)
 refine AC.intro te_ok (fn := Try.f98) ⟨Try.func98, rfl, rfl⟩ (Nat.le_of_ble_eq_true rfl) ?_
 refine AWp.seq ?_
 refine AWp.region ?_
 refine aC_ rfl rfl (q_box 100) ?_
 refine aC_ rfl rfl (q_nilz (0) rrc) ?_
 refine AOps.nil ?_
 refine AWp.seq ?_
 refine AWp.region ?_
 refine aC_ rfl rfl (q_nilrow 200 5 rrc) ?_
 refine AOps.nil ?_
 refine AWp.seq ?_
 refine AWp.seq ?_
 refine AWp.region ?_
 refine aC_ rfl rfl (q_move) ?_
 refine aC_ rfl rfl (q_len) ?_
 refine aC_ rfl rfl (q_move) ?_
 refine AOps.nil ?_
 refine AWp.block ?_
 refine AWp.loopR (α := Nat × List Rr × Nat) [5, 6, 7, 8, 10, 13, 14, 15, 16, 17, 18, 19, 20, 21, 22, 23, 24, 25, 26, 27, 28, 29, 30, 31, 32, 33, 34, 35, 36, 37, 38, 39, 40, 41, 42, 43, 44, 45, 46] (fun x_ => [(13, i64 (x_.1)), (5, .sl 200 (x_.2.2) 0 (x_.2.1).length 5)]) (fun x_ => [(200, .row (cl rrc (x_.2.1)) 5 (x_.2.2))]) (fun x_ => (x_.1) ≤ l.length ∧ (x_.2.1) = nmF (fun n => atZ z n 1) l (x_.1)) (fun x_ => l.length - (x_.1)) (0, [], 0) ?_ (Back.mk' (HasT.cons (HasT.cons HasT.nil)) (HasH.cons HasH.nil)) ?_
 ·
  exact ⟨Nat.zero_le _, rfl⟩
 ·
  rintro ⟨i, acc, v⟩ hI3
  change i ≤ l.length ∧ acc = nmF (fun n => atZ z n 1) l i at hI3
  obtain ⟨hi, ha⟩ := hI3
  refine AWp.as (s' := AS.over _ [5, 6, 7, 8, 10, 13, 14, 15, 16, 17, 18, 19, 20, 21, 22, 23, 24, 25, 26, 27, 28, 29, 30, 31, 32, 33, 34, 35, 36, 37, 38, 39, 40, 41, 42, 43, 44, 45, 46] [(13, i64 i), (5, .sl 200 v 0 acc.length 5)] [(200, .row (cl rrc acc) 5 v)]) rfl ?_
  have hai := hsm i hi
  rw [← ha] at hai
  refine AWp.seq ?_
  refine AWp.region ?_
  refine AOps.dec rfl rfl (q_lss) (fun h3_0 => ?_) (fun h3_0 => ?_)
  ·
   refine AOps.nil ?_
   refine AWp.seq ?_
   refine AWp.cond_t rfl ?_
   refine AWp.skip ?_
   refine AWp.seq ?_
   refine AWp.block ?_
   refine AWp.seq ?_
   refine AWp.region ?_
   have hci := hc _ (getD_mem' (l := l) (i := i) (by omega))
   have hcl := canN_le2 hci
   have hfst := fst_same hc (i := i) (by omega)
   have h1 := at_len hs (l.getD i default).da 1
   have h1b := h1
   simp only [List.getD_eq_getElem?_getD] at h1b
   refine aC_ rfl rfl (q_move) ?_
   refine aC_ rfl rfl (q_ix) ?_
   refine aC_ rfl rfl (q_load) ?_
   refine aC_ rfl rfl (q_alloc 503) ?_
   refine aC_ rfl rfl (q_assign) ?_
   refine aC_ rfl rfl (q_store) ?_
   refine AOps.nil ?_
   refine AWp.seq ?_
   refine AWp.region ?_
   refine aC_ rfl rfl (q_assign) ?_
   refine AOps.nil ?_
   refine AWp.seq ?_
   refine AWp.seq ?_
   refine AWp.region ?_
   refine aC_ rfl rfl (q_move) ?_
   refine aC_ rfl rfl (q_move) ?_
   refine aC_ rfl rfl (q_sl) ?_
   refine aC_ rfl rfl (q_len) ?_
   refine aC_ rfl rfl (q_move) ?_
   refine AOps.nil ?_
   refine AWp.block ?_
   refine AWp.loopR (α := Nat) [8, 10, 22, 23, 24, 25, 26, 27, 28, 29, 30, 31, 32, 33, 34, 35, 36, 37] (fun j => [(22, i64 j), (8, tf (!((l.take j).any fun o => sameN o.da (l.getD i default).da)))]) (fun j => []) (fun j => j ≤ i) (fun j => i - j) 0 ?_ (Back.mk' (HasT.cons (HasT.cons HasT.nil)) HasH.nil) ?_
   ·
    exact Nat.zero_le _
   ·
    rintro j hji
    refine AWp.seq ?_
    refine AWp.region ?_
    refine AOps.dec rfl rfl (q_lss) (fun h7_0 => ?_) (fun h7_0 => ?_)
    ·
     refine AOps.nil ?_
     refine AWp.seq ?_
     refine AWp.cond_t rfl ?_
     refine AWp.skip ?_
     refine AWp.seq ?_
     refine AWp.block ?_
     refine AWp.seq ?_
     refine AWp.region ?_
     have hji2 : j < i := by have := h7_0; simp at this; omega
     have hgj : (l.take i).getD j default = l.getD j default := by rw [List.getD_eq_getElem?_getD, List.getD_eq_getElem?_getD, List.getElem?_take_of_lt hji2]
     have hcj := canN_le2 (hc _ (getD_mem' (l := l) (i := j) (by omega)))
     rw [← hgj] at hcj
     refine aC_ rfl rfl (q_ix) ?_
     refine aC_ rfl rfl (q_load) ?_
     refine aC_ rfl rfl (q_alloc 902) ?_
     refine aC_ rfl rfl (q_store) ?_
     refine AOps.nil ?_
     refine AWp.region ?_
     refine AOps.bool rfl rfl (q_move) (fun h9_0 => ?_) (fun h9_0 => ?_)
     ·
      refine aC_ rfl rfl (q_move) ?_
      refine AOps.gcons rfl rfl rfl rfl rfl (q_fa) ?_
      refine AOps.gcons rfl rfl rfl rfl rfl (q_load) ?_
      refine AOps.gcons rfl rfl rfl rfl rfl (by first | exact q_conv_zs | exact q_conv_ls) ?_
      refine AOps.gcons rfl rfl rfl rfl rfl (q_fa) ?_
      refine AOps.gcons rfl rfl rfl rfl rfl (q_load) ?_
      refine AOps.gcons rfl rfl rfl rfl rfl (by first | exact q_conv_zs | exact q_conv_ls) ?_
      refine AOps.gbool rfl rfl rfl rfl rfl (q_call (0) (hc := (c_ciceroneref01_Same ((l.take i).getD j default).da (l.getD i default).da (by omega) (by omega)))) (fun h9_8 => ?_) (fun h9_8 => ?_)
      ·
       refine AOps.gcons rfl rfl rfl rfl rfl (q_not) ?_
       refine aC_ rfl rfl (q_pick) ?_
       refine aC_ rfl rfl (q_assign) ?_
       refine AOps.nil ?_
       refine AWp.region ?_
       refine aC_ rfl rfl (q_add) ?_
       refine aC_ rfl rfl (q_move) ?_
       refine AOps.nil ?_
       refine ⟨j + 1, ?_, Back.mk' (HasT.cons (HasT.cons HasT.nil (h1 := by rw [hgj] at h9_8; exact congrArg tf (by rw [any_step (by omega), h9_8, Bool.or_true])) )) HasH.nil, ?_⟩
       ·
        first | assumption | omega | decide | (simp; omega) | (simp [*]; done)
       ·
        first | omega | (simp; omega)
      ·
       refine AOps.gcons rfl rfl rfl rfl rfl (q_not) ?_
       refine aC_ rfl rfl (q_pick) ?_
       refine aC_ rfl rfl (q_assign) ?_
       refine AOps.nil ?_
       refine AWp.region ?_
       refine aC_ rfl rfl (q_add) ?_
       refine aC_ rfl rfl (q_move) ?_
       refine AOps.nil ?_
       refine ⟨j + 1, ?_, Back.mk' (HasT.cons (HasT.cons HasT.nil (h1 := by rw [hgj] at h9_8; exact congrArg tf (by rw [any_step (by omega), h9_8, Bool.or_false, h9_0]; rfl)) )) HasH.nil, ?_⟩
       ·
        first | assumption | omega | decide | (simp; omega) | (simp [*]; done)
       ·
        first | omega | (simp; omega)
     ·
      refine aC_ rfl rfl (q_move) ?_
      refine aG_ rfl rfl rfl rfl rfl rfl rfl rfl ?_
      refine aG_ rfl rfl rfl rfl rfl rfl rfl rfl ?_
      refine aG_ rfl rfl rfl rfl rfl rfl rfl rfl ?_
      refine aG_ rfl rfl rfl rfl rfl rfl rfl rfl ?_
      refine aG_ rfl rfl rfl rfl rfl rfl rfl rfl ?_
      refine aG_ rfl rfl rfl rfl rfl rfl rfl rfl ?_
      refine aG_ rfl rfl rfl rfl rfl rfl rfl rfl ?_
      refine aG_ rfl rfl rfl rfl rfl rfl rfl rfl ?_
      refine aC_ rfl rfl (q_pick) ?_
      refine aC_ rfl rfl (q_assign) ?_
      refine AOps.nil ?_
      refine AWp.region ?_
      refine aC_ rfl rfl (q_add) ?_
      refine aC_ rfl rfl (q_move) ?_
      refine AOps.nil ?_
      refine ⟨j + 1, ?_, Back.mk' (HasT.cons (HasT.cons HasT.nil (h1 := by exact congrArg tf (by rw [any_step (by omega)]; rw [Bool.not_eq_false'] at h9_0; rw [h9_0]; rfl)) )) HasH.nil, ?_⟩
      ·
       first | assumption | omega | decide | (simp; omega) | (simp [*]; done)
      ·
       first | omega | (simp; omega)
    ·
     refine AOps.nil ?_
     refine AWp.seq ?_
     refine AWp.cond_f rfl ?_
     refine AWp.exit ?_
     refine AWp.seq ?_
     refine AWp.region ?_
     obtain rfl : i = j := by have := h7_0; simp at this; omega
     rw [← hfst]
     refine AOps.bool rfl rfl (q_move) (fun h11_0 => ?_) (fun h11_0 => ?_)
     ·
      refine AOps.nil ?_
      refine AWp.cond_t rfl ?_
      refine AWp.region ?_
      refine aC_ rfl rfl (q_move) ?_
      refine aC_ rfl rfl (q_load) ?_
      refine aC_ rfl rfl (q_fa) ?_
      refine aC_ rfl rfl (q_load) ?_
      refine aC_ rfl rfl (by first | exact q_conv_zs | exact q_conv_ls) ?_
      refine aC_ rfl rfl (q_call (0) (hc := (c_rat z (l.getD i default).da 1 hz (by omega)))) ?_
      refine aC_ rfl rfl (q_app) ?_
      refine aC_ rfl rfl (q_assign) ?_
      refine AOps.nil ?_
      refine AWp.region ?_
      refine aC_ rfl rfl (q_add) ?_
      refine aC_ rfl rfl (q_move) ?_
      refine AOps.nil ?_
      refine ⟨(i + 1, acc ++ atZ z (l.getD i default).da 1, v + 1), ?_, Back.mk' (HasT.cons (HasT.cons HasT.nil)) (HasH.cons HasH.nil), ?_⟩
      ·
       try dsimp only
       exact ⟨by omega, by rw [nmF_yes h11_0, ha]⟩
      ·
       try dsimp only
       first | omega | (simp; omega)
     ·
      refine AOps.nil ?_
      refine AWp.cond_f rfl ?_
      refine AWp.skip ?_
      refine AWp.region ?_
      refine aC_ rfl rfl (q_add) ?_
      refine aC_ rfl rfl (q_move) ?_
      refine AOps.nil ?_
      refine ⟨(i + 1, acc, v), ?_, Back.mk' (HasT.cons (HasT.cons HasT.nil)) (HasH.cons HasH.nil), ?_⟩
      ·
       try dsimp only
       exact ⟨by omega, by rw [nmF_no h11_0, ha]⟩
      ·
       try dsimp only
       first | omega | (simp; omega)
  ·
   refine AOps.nil ?_
   refine AWp.seq ?_
   refine AWp.cond_f rfl ?_
   refine AWp.exit ?_
   refine AWp.seq ?_
   refine AWp.region ?_
   refine aC_ rfl rfl (q_move) ?_
   refine aC_ rfl rfl (q_assign) ?_
   refine AOps.nil ?_
   refine AWp.ret ?_
   show Fin te Try.f98 _ _
   obtain rfl : i = l.length := by omega
   have hA : gluZ z l = nmF (fun n => atZ z n 1) l l.length := rfl
   rw [hA, ← ha]
   refine q_ret (0) [_] [_] ?_
   rfl
set_option maxRecDepth 20000 in
set_option maxHeartbeats 2000000 in
theorem c_ranswer (h : Hdr) (qs : List Qu) (z : Zo) (q : Qu) (hz : ZoOk z) (hs : z.rs.length ≤ 400) (hn0 : q.nm.length ≤ 255) (hc : ∀ r ∈ z.rs, r.ty = 2 ∨ r.ty = 5 → canN r.da = true) : AC Try.prog 64 [.agg (zoC z), .agg (quc q), .ptr 0 0 0] (hlook [(0, .box [i64 h.id, tf h.resp, i64 h.op, tf (false), tf h.tc, tf h.rd, tf h.ra, i64 (0), .fz 0 qs.length (cl quc qs), .v (.slice none 0 0), .fz 0 (([] : List Rr)).length (cl rrc (([] : List Rr))), .fz 0 (([] : List Rr)).length (cl rrc (([] : List Rr)))])]) (RetH (.tup []) [(0, .box [i64 h.id, tf h.resp, i64 h.op, tf ((fil z q.ty false [] q.nm 0).aa), tf h.tc, tf h.rd, tf h.ra, i64 ((fil z q.ty false [] q.nm 0).code), .fz 0 qs.length (cl quc qs), .fz 0 ((fil z q.ty false [] q.nm 0).an).length (cl rrc ((fil z q.ty false [] q.nm 0).an)), .fz 0 ((fil z q.ty false [] q.nm 0).au).length (cl rrc ((fil z q.ty false [] q.nm 0).au)), .fz 0 ((fil z q.ty false [] q.nm 0).ad).length (cl rrc ((fil z q.ty false [] q.nm 0).ad))])]) := by
 have hzl := hz.1
 have hal := fun n t => at_len hs n t
 refine AC.intro te_ok (fn := Try.f64) ⟨Try.func64, rfl, rfl⟩ (Nat.le_of_ble_eq_true rfl) ?_
 refine AWp.seq ?_
 refine AWp.region ?_
 refine aC_ rfl rfl (q_box 100) ?_
 refine aC_ rfl rfl (q_box 101) ?_
 refine AOps.nil ?_
 refine AWp.seq ?_
 refine AWp.region ?_
 refine aC_ rfl rfl (q_fa) ?_
 refine aC_ rfl rfl (q_load) ?_
 refine aC_ rfl rfl (q_assign) ?_
 refine AOps.weak (Weak.nilcell 0 9001 9 5 rrc) ?_
 refine AOps.nil ?_
 refine AWp.block ?_
 refine AWp.loopR (α := List Rr × List UInt8 × Bool × Nat) [6, 7, 8, 9, 12, 13, 14, 15, 16, 17, 18, 19, 20, 21, 22, 23, 24, 25, 26, 27, 28, 29, 30, 31, 32, 33, 34, 35, 36, 37, 38, 39, 40, 41, 42, 43, 44, 45, 46, 47, 48, 49, 50, 51, 52, 53, 54, 55, 56, 57, 58, 59, 60, 61, 62, 63, 64, 65, 66, 67, 68, 69, 70, 71, 72, 73, 74, 75, 76, 77, 78, 79, 80, 81, 82, 83, 84, 85, 86, 87, 88, 89, 90, 91, 92, 93, 94, 95, 96, 97, 98, 99, 100, 101, 102, 103, 104, 105, 106, 107, 108, 109, 110, 111, 112, 113, 114, 115] (fun x_ => [(6, str (x_.2.1))]) (fun x_ => [(0, .box [i64 h.id, tf h.resp, i64 h.op, tf ((x_.2.2.1)), tf h.tc, tf h.rd, tf h.ra, i64 (0), .fz 0 qs.length (cl quc qs), .sl 9001 ((x_.2.2.2)) 0 ((x_.1)).length 5, .fz 0 (([] : List Rr)).length (cl rrc (([] : List Rr))), .fz 0 (([] : List Rr)).length (cl rrc (([] : List Rr)))]), (9001, .row (cl rrc (x_.1)) 5 (x_.2.2.2))]) (fun x_ => fil z q.ty (x_.2.2.1) (x_.1) (x_.2.1) (x_.2.2.2) = (fil z q.ty false [] q.nm 0) ∧ (x_.1).length ≤ 8 ∧ (x_.2.1).length ≤ 255 ∧ ((x_.1).length = 0 → (x_.2.2.1) = false)) (fun x_ => 8 - (x_.1).length) ([], q.nm, false, 0) ?_ (Back.mk' (HasT.cons HasT.nil) (HasH.cons (HasH.cons HasH.nil))) ?_
 ·
  exact ⟨rfl, by simp, hn0, fun _ => rfl⟩
 ·
  rintro ⟨an, n, aa, v⟩ hI2
  change fil z q.ty aa an n v = (fil z q.ty false [] q.nm 0) ∧ an.length ≤ 8 ∧ n.length ≤ 255 ∧ (an.length = 0 → aa = false) at hI2
  obtain ⟨hE, hA, hN, hQ⟩ := hI2
  refine AWp.as (s' := AS.over _ [6, 7, 8, 9, 12, 13, 14, 15, 16, 17, 18, 19, 20, 21, 22, 23, 24, 25, 26, 27, 28, 29, 30, 31, 32, 33, 34, 35, 36, 37, 38, 39, 40, 41, 42, 43, 44, 45, 46, 47, 48, 49, 50, 51, 52, 53, 54, 55, 56, 57, 58, 59, 60, 61, 62, 63, 64, 65, 66, 67, 68, 69, 70, 71, 72, 73, 74, 75, 76, 77, 78, 79, 80, 81, 82, 83, 84, 85, 86, 87, 88, 89, 90, 91, 92, 93, 94, 95, 96, 97, 98, 99, 100, 101, 102, 103, 104, 105, 106, 107, 108, 109, 110, 111, 112, 113, 114, 115] [(6, str n)] [(0, .box [i64 h.id, tf h.resp, i64 h.op, tf (aa), tf h.tc, tf h.rd, tf h.ra, i64 (0), .fz 0 qs.length (cl quc qs), .sl 9001 (v) 0 (an).length 5, .fz 0 (([] : List Rr)).length (cl rrc (([] : List Rr))), .fz 0 (([] : List Rr)).length (cl rrc (([] : List Rr)))]), (9001, .row (cl rrc an) 5 v)]) rfl ?_
  have hcl := cutZ_len hz n
  have ha5 := hal n 5
  have haty := hal n q.ty
  refine AWp.block ?_
  refine AWp.seq ?_
  refine AWp.seq ?_
  refine AWp.region ?_
  refine aC_ rfl rfl (q_load) ?_
  refine aC_ rfl rfl (q_move) ?_
  refine aC_ rfl rfl (q_call (0) (hc := (c_rcut z n hz (by omega)))) ?_
  refine aC_ rfl rfl (q_assign) ?_
  refine AOps.nil ?_
  refine AWp.seq ?_
  refine AWp.region ?_
  refine aC_ rfl rfl (q_move) ?_
  refine AOps.dec rfl rfl (q_sneq) (fun h3_1 => ?_) (fun h3_1 => ?_)
  ·
   refine AOps.nil ?_
   refine AWp.cond_t rfl ?_
   refine AWp.seq ?_
   refine AWp.seq ?_
   refine AWp.region ?_
   have hcut : cutZ z n ≠ [] := h3_1
   refine aC_ rfl rfl (q_move) ?_
   refine aC_ rfl rfl (q_nil) ?_
   refine aC_ rfl rfl (q_fa) ?_
   refine aC_ rfl rfl (q_load) ?_
   refine aC_ rfl rfl (q_len) ?_
   refine AOps.dec rfl rfl (q_eql) (fun h4_5 => ?_) (fun h4_5 => ?_)
   ·
    refine AOps.nil ?_
    refine AWp.cond_t rfl ?_
    refine AWp.seq ?_
    refine AWp.region ?_
    have han : an.length = 0 := by omega
    obtain rfl := List.eq_nil_of_length_eq_zero han
    have hc2 := hal (cutZ z n) 2
    have hcc : ∀ r ∈ atZ z (cutZ z n) 2, canN r.da = true := fun r hr => hc r (at_mem hr).1 (.inl (at_mem hr).2.1)
    refine aC_ rfl rfl (q_move) ?_
    refine aC_ rfl rfl (q_load) ?_
    refine aC_ rfl rfl (q_move) ?_
    refine aC_ rfl rfl (q_call (0) (hc := (c_rat z (cutZ z n) 2 hz hcl))) ?_
    refine aC_ rfl rfl (q_nil) ?_
    refine aC_ rfl rfl (q_fa) ?_
    refine aC_ rfl rfl (q_store) ?_
    refine AOps.nil ?_
    refine AWp.draws [⟨0, [2], [], some 29, _, []⟩,
 ⟨1, [3], [100], some 30, _, []⟩,
 ⟨2, [2], [], some 31, _, []⟩,
 ⟨3, [31], [0], some 32, _, []⟩,
 ⟨4, [32], [0], some 33, _, []⟩,
 ⟨5, [33], [0], some 34, _, []⟩,
 ⟨6, [30, 34], [], some 35, _, []⟩,
 ⟨7, [29], [0], some 36, _, []⟩,
 ⟨8, [36], [0], some 37, _, []⟩,
 ⟨9, [35, 37], [0], none, _, [(0, _)]⟩]
     [kN_ 0 [2] [] 29,
 kN_ 1 [3] [100] 30,
 kN_ 2 [2] [] 31,
 kN_ 3 [31] [0] 32,
 kN_ 4 [32] [0] 33,
 kN_ 5 [33] [0] 34,
 kN_ 6 [30, 34] [] 35,
 kN_ 7 [29] [0] 36,
 kN_ 8 [36] [0] 37,
 ⟨9, [35, 37], [0], none, .any, [(0, .box [])]⟩]
     mixed_ok rfl (by kernel_rfl) ⟨dK_ fun s0 => oG_ rfl rfl (q_move),
 dK_ fun s0 => oG_ rfl rfl (q_load),
 dK_ fun s0 => oG_ rfl rfl (q_move),
 dK_ fun s0 => oG_ rfl rfl (q_nil),
 dK_ fun s0 => oG_ rfl rfl (q_fa),
 dK_ fun s0 => oG_ rfl rfl (q_load),
 dK_ fun s0 => oG_ rfl rfl (q_call (0) (hc := (c_rglue z (atZ z (cutZ z n) 2) hz hs hc2 hcc))),
 dK_ fun s0 => oG_ rfl rfl (q_nil),
 dK_ fun s0 => oG_ rfl rfl (q_fa),
 dK_ fun s0 => oG_ rfl rfl (q_store), trivial⟩ ?_
    dsimp only [final, DS.upd, AS.seto]
    refine AWp.ret ?_
    show Fin te Try.f64 _ _
    rw [fil_cut0 hcut rfl] at hE
    rw [← hE]
    refine q_retH (0) [] [] [] [(_, _)] ?_
    rfl
   ·
    refine AOps.nil ?_
    refine AWp.cond_f rfl ?_
    refine AWp.skip ?_
    refine AWp.ret ?_
    show Fin te Try.f64 _ _
    rw [fil_cutn hcut (by omega)] at hE
    rw [← hE]
    refine q_retH (0) [] [] [] [(_, _)] ?_
    rfl
  ·
   refine AOps.nil ?_
   refine AWp.cond_f rfl ?_
   refine AWp.skip ?_
   refine AWp.seq ?_
   refine AWp.seq ?_
   refine AWp.region ?_
   have hcut : ¬ cutZ z n ≠ [] := h3_1
   refine aC_ rfl rfl (q_load) ?_
   refine aC_ rfl rfl (q_move) ?_
   refine aC_ rfl rfl (q_call (0) (hc := (c_rat z n 5 hz (by omega)))) ?_
   refine aC_ rfl rfl (q_assign) ?_
   refine AOps.nil ?_
   refine AWp.seq ?_
   refine AWp.region ?_
   refine aC_ rfl rfl (q_move) ?_
   refine aC_ rfl rfl (q_len) ?_
   refine AOps.dec rfl rfl (q_gtr) (fun h8_2 => ?_) (fun h8_2 => ?_)
   ·
    refine aC_ rfl rfl (q_move) ?_
    refine AOps.gcons rfl rfl rfl rfl rfl (q_fa) ?_
    refine AOps.gcons rfl rfl rfl rfl rfl (q_load) ?_
    refine AOps.gdec rfl rfl rfl rfl rfl (q_neq) (fun h8_6 => ?_) (fun h8_6 => ?_)
    ·
     refine aC_ rfl rfl (q_pick) ?_
     refine AOps.nil ?_
     refine AWp.cond_t rfl ?_
     refine AWp.seq ?_
     refine AWp.region ?_
     have hali : 0 < (atZ z n 5).length ∧ q.ty ≠ 5 := ⟨by omega, h8_6⟩
     have hx := hc _ (at_mem (getD_mem' (l := atZ z n 5) (i := 0) hali.1)).1 (.inr (at_mem (getD_mem' (l := atZ z n 5) (i := 0) hali.1)).2.1)
     have hxl := canN_le2 hx
     refine aC_ rfl rfl (q_move) ?_
     refine aC_ rfl rfl (q_nil) ?_
     refine aC_ rfl rfl (q_fa) ?_
     refine aC_ rfl rfl (q_fa) ?_
     refine aC_ rfl rfl (q_store) ?_
     refine AOps.nil ?_
     refine AWp.seq ?_
     refine AWp.region ?_
     refine aC_ rfl rfl (q_move) ?_
     refine aC_ rfl rfl (q_move) ?_
     refine aC_ rfl rfl (q_nil) ?_
     refine aC_ rfl rfl (q_fa) ?_
     refine aC_ rfl rfl (q_load) ?_
     refine aC_ rfl rfl (q_move) ?_
     refine aC_ rfl rfl (q_app) ?_
     refine aC_ rfl rfl (q_nil) ?_
     refine aC_ rfl rfl (q_fa) ?_
     refine aC_ rfl rfl (q_store) ?_
     refine AOps.nil ?_
     refine AWp.seq ?_
     refine AWp.region ?_
     refine aC_ rfl rfl (q_move) ?_
     refine aC_ rfl rfl (q_ix) ?_
     refine aC_ rfl rfl (q_fa) ?_
     refine aC_ rfl rfl (q_load) ?_
     refine aC_ rfl rfl (by first | exact q_conv_zs | exact q_conv_ls) ?_
     refine aC_ rfl rfl (q_assign) ?_
     refine AOps.nil ?_
     refine AWp.seq ?_
     refine AWp.seq ?_
     refine AWp.region ?_
     refine aC_ rfl rfl (q_move) ?_
     refine aC_ rfl rfl (q_fa) ?_
     refine aC_ rfl rfl (q_load) ?_
     refine AOps.bool rfl rfl (q_call (0) (hc := (c_ciceroneref01_Within ((atZ z n 5).getD 0 default).da z.o (by omega) (by omega)))) (fun h12_3 => ?_) (fun h12_3 => ?_)
     ·
      refine aC_ rfl rfl (q_not) ?_
      refine aC_ rfl rfl (q_move) ?_
      refine AOps.gcons rfl rfl rfl rfl rfl (q_move) ?_
      refine AOps.gcons rfl rfl rfl rfl rfl (q_nil) ?_
      refine AOps.gcons rfl rfl rfl rfl rfl (q_fa) ?_
      refine AOps.gcons rfl rfl rfl rfl rfl (q_load) ?_
      refine AOps.gcons rfl rfl rfl rfl rfl (q_len) ?_
      refine AOps.gdec rfl rfl rfl rfl rfl (q_geq) (fun h12_11 => ?_) (fun h12_11 => ?_)
      ·
       refine aC_ rfl rfl (q_pick) ?_
       refine AOps.nil ?_
       refine AWp.cond_t rfl ?_
       refine AWp.ret ?_
       show Fin te Try.f64 _ _
       rw [fil_stop hcut hali (fun k => by have := k.2; omega)] at hE
       rw [← hE]
       refine q_retH (0) [] [] [] [(_, _)] ?_
       rfl
      ·
       refine aC_ rfl rfl (q_pick) ?_
       refine AOps.nil ?_
       refine AWp.cond_f rfl ?_
       refine AWp.skip ?_
       refine AWp.exit ?_
       refine ⟨(an ++ atZ z n 5, ((atZ z n 5).getD 0 default).da, true, v + 1), ?_, Back.mk' (HasT.cons HasT.nil) (HasH.cons (HasH.cons HasH.nil)), ?_⟩
       ·
        try dsimp only
        refine ⟨by rw [← hE, fil_on hcut hali ⟨h12_3, by omega⟩], by omega, canN_le2 hx, fun k => ?_⟩
        rw [List.length_append] at k; omega
       ·
        try dsimp only
        have hq8 := h12_11
        simp only [List.length_append] at hq8 ⊢
        omega
     ·
      refine aC_ rfl rfl (q_not) ?_
      refine aC_ rfl rfl (q_move) ?_
      refine aG_ rfl rfl rfl rfl rfl rfl rfl rfl ?_
      refine aG_ rfl rfl rfl rfl rfl rfl rfl rfl ?_
      refine aG_ rfl rfl rfl rfl rfl rfl rfl rfl ?_
      refine aG_ rfl rfl rfl rfl rfl rfl rfl rfl ?_
      refine aG_ rfl rfl rfl rfl rfl rfl rfl rfl ?_
      refine aG_ rfl rfl rfl rfl rfl rfl rfl rfl ?_
      refine aC_ rfl rfl (q_pick) ?_
      refine AOps.nil ?_
      refine AWp.cond_t rfl ?_
      refine AWp.ret ?_
      show Fin te Try.f64 _ _
      rw [fil_stop hcut hali (fun k => by rw [h12_3] at k; cases k.1)] at hE
      rw [← hE]
      refine q_retH (0) [] [] [] [(_, _)] ?_
      rfl
    ·
     refine aC_ rfl rfl (q_pick) ?_
     refine AOps.nil ?_
     refine AWp.cond_f rfl ?_
     refine AWp.skip ?_
     refine AWp.seq ?_
     refine AWp.region ?_
     have hali : ¬ (0 < (atZ z n 5).length ∧ q.ty ≠ 5) := fun k => h8_6 k.2
     refine aC_ rfl rfl (q_move) ?_
     refine aC_ rfl rfl (q_nil) ?_
     refine aC_ rfl rfl (q_fa) ?_
     refine aC_ rfl rfl (q_fa) ?_
     refine aC_ rfl rfl (q_store) ?_
     refine AOps.nil ?_
     refine AWp.seq ?_
     refine AWp.seq ?_
     refine AWp.region ?_
     refine aC_ rfl rfl (q_load) ?_
     refine aC_ rfl rfl (q_move) ?_
     refine aC_ rfl rfl (q_fa) ?_
     refine aC_ rfl rfl (q_load) ?_
     refine aC_ rfl rfl (q_call (0) (hc := (c_rat z n q.ty hz (by omega)))) ?_
     refine aC_ rfl rfl (q_assign) ?_
     refine AOps.nil ?_
     refine AWp.seq ?_
     refine AWp.region ?_
     refine aC_ rfl rfl (q_move) ?_
     refine aC_ rfl rfl (q_len) ?_
     refine AOps.dec rfl rfl (q_gtr) (fun h15_2 => ?_) (fun h15_2 => ?_)
     ·
      refine AOps.nil ?_
      refine AWp.cond_t rfl ?_
      refine AWp.seq ?_
      refine AWp.region ?_
      refine aC_ rfl rfl (q_move) ?_
      refine aC_ rfl rfl (q_move) ?_
      refine aC_ rfl rfl (q_nil) ?_
      refine aC_ rfl rfl (q_fa) ?_
      refine aC_ rfl rfl (q_load) ?_
      refine aC_ rfl rfl (q_move) ?_
      refine aC_ rfl rfl (q_app) ?_
      refine aC_ rfl rfl (q_nil) ?_
      refine aC_ rfl rfl (q_fa) ?_
      refine aC_ rfl rfl (q_store) ?_
      refine AOps.nil ?_
      refine AWp.ret ?_
      show Fin te Try.f64 _ _
      rw [fil_has hcut hali (by omega)] at hE
      rw [← hE]
      refine q_retH (0) [] [] [] [(_, _)] ?_
      rfl
     ·
      refine AOps.nil ?_
      refine AWp.cond_f rfl ?_
      refine AWp.skip ?_
      refine AWp.seq ?_
      refine AWp.region ?_
      refine aC_ rfl rfl (q_move) ?_
      refine aC_ rfl rfl (q_load) ?_
      refine aC_ rfl rfl (q_fa) ?_
      refine aC_ rfl rfl (q_load) ?_
      refine aC_ rfl rfl (q_call (0) (hc := (c_rat z z.o 6 hz (by omega)))) ?_
      refine aC_ rfl rfl (q_nil) ?_
      refine aC_ rfl rfl (q_fa) ?_
      refine aC_ rfl rfl (q_store) ?_
      refine AOps.nil ?_
      refine AWp.seq ?_
      refine AWp.seq ?_
      refine AWp.region ?_
      refine aC_ rfl rfl (q_load) ?_
      refine aC_ rfl rfl (q_move) ?_
      refine AOps.bool rfl rfl (q_call (0) (hc := (c_rthere z n hz (by omega)))) (fun h18_2 => ?_) (fun h18_2 => ?_)
      ·
       refine aC_ rfl rfl (q_not) ?_
       refine AOps.nil ?_
       refine AWp.cond_f rfl ?_
       refine AWp.skip ?_
       refine AWp.ret ?_
       show Fin te Try.f64 _ _
       rw [fil_none hcut hali (by omega), if_pos h18_2] at hE
       rw [← hE]
       refine q_retH (0) [] [] [] [(_, _)] ?_
       rfl
      ·
       refine aC_ rfl rfl (q_not) ?_
       refine AOps.nil ?_
       refine AWp.cond_t rfl ?_
       refine AWp.region ?_
       refine aC_ rfl rfl (q_move) ?_
       refine aC_ rfl rfl (q_nil) ?_
       refine aC_ rfl rfl (q_fa) ?_
       refine aC_ rfl rfl (q_fa) ?_
       refine aC_ rfl rfl (q_store) ?_
       refine AOps.nil ?_
       refine AWp.ret ?_
       show Fin te Try.f64 _ _
       rw [fil_none hcut hali (by omega), if_neg (by rw [h18_2]; decide)] at hE
       rw [← hE]
       refine q_retH (0) [] [] [] [(_, _)] ?_
       rfl
   ·
    refine aC_ rfl rfl (q_move) ?_
    refine aG_ rfl rfl rfl rfl rfl rfl rfl rfl ?_
    refine aG_ rfl rfl rfl rfl rfl rfl rfl rfl ?_
    refine aG_ rfl rfl rfl rfl rfl rfl rfl rfl ?_
    refine aC_ rfl rfl (q_pick) ?_
    refine AOps.nil ?_
    refine AWp.cond_f rfl ?_
    refine AWp.skip ?_
    refine AWp.seq ?_
    refine AWp.region ?_
    have hali : ¬ (0 < (atZ z n 5).length ∧ q.ty ≠ 5) := fun k => absurd k.1 (by omega)
    refine aC_ rfl rfl (q_move) ?_
    refine aC_ rfl rfl (q_nil) ?_
    refine aC_ rfl rfl (q_fa) ?_
    refine aC_ rfl rfl (q_fa) ?_
    refine aC_ rfl rfl (q_store) ?_
    refine AOps.nil ?_
    refine AWp.seq ?_
    refine AWp.seq ?_
    refine AWp.region ?_
    refine aC_ rfl rfl (q_load) ?_
    refine aC_ rfl rfl (q_move) ?_
    refine aC_ rfl rfl (q_fa) ?_
    refine aC_ rfl rfl (q_load) ?_
    refine aC_ rfl rfl (q_call (0) (hc := (c_rat z n q.ty hz (by omega)))) ?_
    refine aC_ rfl rfl (q_assign) ?_
    refine AOps.nil ?_
    refine AWp.seq ?_
    refine AWp.region ?_
    refine aC_ rfl rfl (q_move) ?_
    refine aC_ rfl rfl (q_len) ?_
    refine AOps.dec rfl rfl (q_gtr) (fun h15_2 => ?_) (fun h15_2 => ?_)
    ·
     refine AOps.nil ?_
     refine AWp.cond_t rfl ?_
     refine AWp.seq ?_
     refine AWp.region ?_
     refine aC_ rfl rfl (q_move) ?_
     refine aC_ rfl rfl (q_move) ?_
     refine aC_ rfl rfl (q_nil) ?_
     refine aC_ rfl rfl (q_fa) ?_
     refine aC_ rfl rfl (q_load) ?_
     refine aC_ rfl rfl (q_move) ?_
     refine aC_ rfl rfl (q_app) ?_
     refine aC_ rfl rfl (q_nil) ?_
     refine aC_ rfl rfl (q_fa) ?_
     refine aC_ rfl rfl (q_store) ?_
     refine AOps.nil ?_
     refine AWp.ret ?_
     show Fin te Try.f64 _ _
     rw [fil_has hcut hali (by omega)] at hE
     rw [← hE]
     refine q_retH (0) [] [] [] [(_, _)] ?_
     rfl
    ·
     refine AOps.nil ?_
     refine AWp.cond_f rfl ?_
     refine AWp.skip ?_
     refine AWp.seq ?_
     refine AWp.region ?_
     refine aC_ rfl rfl (q_move) ?_
     refine aC_ rfl rfl (q_load) ?_
     refine aC_ rfl rfl (q_fa) ?_
     refine aC_ rfl rfl (q_load) ?_
     refine aC_ rfl rfl (q_call (0) (hc := (c_rat z z.o 6 hz (by omega)))) ?_
     refine aC_ rfl rfl (q_nil) ?_
     refine aC_ rfl rfl (q_fa) ?_
     refine aC_ rfl rfl (q_store) ?_
     refine AOps.nil ?_
     refine AWp.seq ?_
     refine AWp.seq ?_
     refine AWp.region ?_
     refine aC_ rfl rfl (q_load) ?_
     refine aC_ rfl rfl (q_move) ?_
     refine AOps.bool rfl rfl (q_call (0) (hc := (c_rthere z n hz (by omega)))) (fun h18_2 => ?_) (fun h18_2 => ?_)
     ·
      refine aC_ rfl rfl (q_not) ?_
      refine AOps.nil ?_
      refine AWp.cond_f rfl ?_
      refine AWp.skip ?_
      refine AWp.ret ?_
      show Fin te Try.f64 _ _
      rw [fil_none hcut hali (by omega), if_pos h18_2] at hE
      rw [← hE]
      refine q_retH (0) [] [] [] [(_, _)] ?_
      rfl
     ·
      refine aC_ rfl rfl (q_not) ?_
      refine AOps.nil ?_
      refine AWp.cond_t rfl ?_
      refine AWp.region ?_
      refine aC_ rfl rfl (q_move) ?_
      refine aC_ rfl rfl (q_nil) ?_
      refine aC_ rfl rfl (q_fa) ?_
      refine aC_ rfl rfl (q_fa) ?_
      refine aC_ rfl rfl (q_store) ?_
      refine AOps.nil ?_
      refine AWp.ret ?_
      show Fin te Try.f64 _ _
      rw [fil_none hcut hali (by omega), if_neg (by rw [h18_2]; decide)] at hE
      rw [← hE]
      refine q_retH (0) [] [] [] [(_, _)] ?_
      rfl
end Go.Proofs.Ytokccoloholgaaa.Fw


set_option linter.unusedVariables false
set_option linter.unusedSimpArgs false
namespace Go.Proofs.Ytokccoloholgaaa.Fw
open Go.RowKit
theorem idx_no {α : Type} [Inhabited α] {g : α → Bool} : ∀ {l : List α}, (∀ j, j < l.length → g (l.getD j default) = false) → idx g l = -1
  | [], _ => rfl
  | a :: l, h => by
    have h0 : g a = false := h 0 (by simp)
    have ih := idx_no (l := l) fun j hj => h (j + 1) (by simpa using hj)
    simp [idx, h0, ih]
theorem idx_is {α : Type} [Inhabited α] {g : α → Bool} : ∀ {l : List α} {i : Nat}, i < l.length → (∀ j, j < i → g (l.getD j default) = false) → g (l.getD i default) = true → idx g l = i
  | [], i, hi, _, _ => by simp at hi
  | a :: l, 0, _, _, h1 => by
    have h0 : g a = true := h1
    simp [idx, h0]
  | a :: l, i + 1, hi, h, h1 => by
    have h0 : g a = false := h 0 (by omega)
    have ih := idx_is (l := l) (i := i) (by simpa using hi) (fun j hj => h (j + 1) (by omega)) h1
    simp [idx, h0, ih]
set_option maxRecDepth 20000 in
set_option maxHeartbeats 2000000 in
theorem c_rServe (t : Tr) (a : Int) (m : Msg) (ht : TrOk t) (hm : MsgOk m) (hn : NmOk m) : AC Try.prog 25 [.agg (trC t), i64 a, .agg (msgC m)] emp (Ret (.tup [.agg (msgC (serV t a m)), tf (serO t a m)])) := by
 have hb1 := ht.1
 have hb2 := ht.2.2.1
 have hmq := hm.1
 refine AC.intro te_ok (fn := Try.f25) ⟨Try.func25, rfl, rfl⟩ (Nat.le_of_ble_eq_true rfl) ?_
 refine AWp.seq ?_
 refine AWp.region ?_
 refine aC_ rfl rfl (q_box 100) ?_
 refine aC_ rfl rfl (q_box 101) ?_
 refine aC_ rfl rfl (q_alloc 102) ?_
 refine aC_ rfl rfl (q_assign) ?_
 refine AOps.nil ?_
 refine AWp.seq ?_
 refine AWp.seq ?_
 refine AWp.region ?_
 refine aC_ rfl rfl (q_load) ?_
 refine AOps.bool rfl rfl (q_call (0) (hc := (c_rCan t ht))) (fun h1_1 => ?_) (fun h1_1 => ?_)
 ·
  refine aC_ rfl rfl (q_not) ?_
  refine aC_ rfl rfl (q_move) ?_
  refine AOps.gcons rfl rfl rfl rfl rfl (q_fa) ?_
  refine AOps.gcons rfl rfl rfl rfl rfl (q_fa) ?_
  refine AOps.gbool rfl rfl rfl rfl rfl (q_load) (fun h1_6 => ?_) (fun h1_6 => ?_)
  ·
   refine aC_ rfl rfl (q_pick) ?_
   refine aC_ rfl rfl (q_move) ?_
   refine aG_ rfl rfl rfl rfl rfl rfl rfl rfl ?_
   refine aG_ rfl rfl rfl rfl rfl rfl rfl rfl ?_
   refine aG_ rfl rfl rfl rfl rfl rfl rfl rfl ?_
   refine aG_ rfl rfl rfl rfl rfl rfl rfl rfl ?_
   refine aC_ rfl rfl (q_pick) ?_
   refine aC_ rfl rfl (q_move) ?_
   refine aG_ rfl rfl rfl rfl rfl rfl rfl rfl ?_
   refine aG_ rfl rfl rfl rfl rfl rfl rfl rfl ?_
   refine aG_ rfl rfl rfl rfl rfl rfl rfl rfl ?_
   refine aG_ rfl rfl rfl rfl rfl rfl rfl rfl ?_
   refine aG_ rfl rfl rfl rfl rfl rfl rfl rfl ?_
   refine aG_ rfl rfl rfl rfl rfl rfl rfl rfl ?_
   refine aG_ rfl rfl rfl rfl rfl rfl rfl rfl ?_
   refine aC_ rfl rfl (q_pick) ?_
   refine AOps.nil ?_
   refine AWp.cond_t rfl ?_
   refine AWp.seq ?_
   refine AWp.region ?_
   refine aC_ rfl rfl (q_build []) ?_
   refine aC_ rfl rfl (q_store) ?_
   refine aC_ rfl rfl (q_assign) ?_
   refine AOps.weak (Weak.full 0 [] (t := [(7, tf false), (6, .ptr 102 0 0)]) (hl := [(102, .box (msgC mZ))])) ?_
   refine AOps.nil ?_
   refine AWp.ret ?_
   show Fin te Try.f25 _ _
   refine q_ret (0) [_, _] [_, _] ?_
   have hno : serO t a m = false := ser_2 h1_6
   rw [ser_none hno, hno]; rfl
  ·
   refine aC_ rfl rfl (q_pick) ?_
   refine aC_ rfl rfl (q_move) ?_
   refine AOps.gcons rfl rfl rfl rfl rfl (q_fa) ?_
   refine AOps.gcons rfl rfl rfl rfl rfl (q_load) ?_
   refine AOps.gcons rfl rfl rfl rfl rfl (q_len) ?_
   refine AOps.gdec rfl rfl rfl rfl rfl (q_neq) (fun h1_12 => ?_) (fun h1_12 => ?_)
   ·
    refine aC_ rfl rfl (q_pick) ?_
    refine aC_ rfl rfl (q_move) ?_
    refine aG_ rfl rfl rfl rfl rfl rfl rfl rfl ?_
    refine aG_ rfl rfl rfl rfl rfl rfl rfl rfl ?_
    refine aG_ rfl rfl rfl rfl rfl rfl rfl rfl ?_
    refine aG_ rfl rfl rfl rfl rfl rfl rfl rfl ?_
    refine aG_ rfl rfl rfl rfl rfl rfl rfl rfl ?_
    refine aG_ rfl rfl rfl rfl rfl rfl rfl rfl ?_
    refine aG_ rfl rfl rfl rfl rfl rfl rfl rfl ?_
    refine aC_ rfl rfl (q_pick) ?_
    refine AOps.nil ?_
    refine AWp.cond_t rfl ?_
    refine AWp.seq ?_
    refine AWp.region ?_
    refine aC_ rfl rfl (q_build []) ?_
    refine aC_ rfl rfl (q_store) ?_
    refine aC_ rfl rfl (q_assign) ?_
    refine AOps.weak (Weak.full 0 [] (t := [(7, tf false), (6, .ptr 102 0 0)]) (hl := [(102, .box (msgC mZ))])) ?_
    refine AOps.nil ?_
    refine AWp.ret ?_
    show Fin te Try.f25 _ _
    refine q_ret (0) [_, _] [_, _] ?_
    have hno : serO t a m = false := ser_3 h1_12
    rw [ser_none hno, hno]; rfl
   ·
    refine aC_ rfl rfl (q_pick) ?_
    refine aC_ rfl rfl (q_move) ?_
    refine AOps.gcons rfl rfl rfl rfl rfl (q_fa) ?_
    refine AOps.gcons rfl rfl rfl rfl rfl (q_load) ?_
    have hl1 : m.qs.length = 1 := by omega
    have hqn := hn.1 _ (getD_mem' (l := m.qs) (i := 0) (by omega))
    refine AOps.gcons rfl rfl rfl rfl rfl (q_ix) ?_
    refine AOps.gcons rfl rfl rfl rfl rfl (q_fa) ?_
    refine AOps.gcons rfl rfl rfl rfl rfl (q_load) ?_
    refine AOps.gbool rfl rfl rfl rfl rfl (q_call (0) (hc := (c_ciceroneref01_Can (m.qs.getD 0 default).nm (by omega)))) (fun h1_20 => ?_) (fun h1_20 => ?_)
    ·
     refine AOps.gcons rfl rfl rfl rfl rfl (q_not) ?_
     refine aC_ rfl rfl (q_pick) ?_
     refine AOps.nil ?_
     refine AWp.cond_f rfl ?_
     refine AWp.skip ?_
     refine AWp.seq ?_
     refine AWp.region ?_
     refine aC_ rfl rfl (q_fa) ?_
     refine aC_ rfl rfl (q_load) ?_
     refine aC_ rfl rfl (q_ix) ?_
     refine aC_ rfl rfl (q_load) ?_
     refine aC_ rfl rfl (q_alloc 404) ?_
     refine aC_ rfl rfl (q_store) ?_
     refine AOps.nil ?_
     refine AWp.seq ?_
     refine AWp.seq ?_
     refine AWp.region ?_
     refine aC_ rfl rfl (q_fa) ?_
     refine aC_ rfl rfl (q_load) ?_
     refine aC_ rfl rfl (q_len) ?_
     refine aC_ rfl rfl (q_move) ?_
     refine AOps.nil ?_
     refine AWp.block ?_
     refine AWp.loopR (α := Nat) [7, 10, 11, 12, 44, 45, 46, 47, 48, 49, 50, 51, 52, 53, 54, 55, 56, 57, 58, 59, 60, 61, 62, 63, 64, 65, 66, 67, 68, 69, 70, 71, 72, 73, 74, 75, 76, 77, 78, 79, 80, 81, 82, 83, 84, 85, 86, 87, 88, 89, 90, 91, 92, 93, 94, 95, 96, 97, 98, 99, 100, 101, 102, 103] (fun i => [(44, i64 i)]) (fun i => []) (fun i => i ≤ t.ss.length ∧ ∀ j, j < i → isAd a (t.ss.getD j default) = false) (fun i => t.ss.length - i) 0 ?_ (Back.mk' (HasT.cons HasT.nil) HasH.nil) ?_
     ·
      exact ⟨Nat.zero_le _, fun j hj => absurd hj (Nat.not_lt_zero j)⟩
     ·
      rintro i ⟨hi, hnone⟩
      refine AWp.seq ?_
      refine AWp.region ?_
      refine AOps.dec rfl rfl (q_lss) (fun h5_0 => ?_) (fun h5_0 => ?_)
      ·
       refine AOps.nil ?_
       refine AWp.seq ?_
       refine AWp.cond_t rfl ?_
       refine AWp.skip ?_
       refine AWp.seq ?_
       refine AWp.block ?_
       refine AWp.seq ?_
       refine AWp.region ?_
       refine aC_ rfl rfl (q_ix) ?_
       refine aC_ rfl rfl (q_load) ?_
       refine aC_ rfl rfl (q_alloc 702) ?_
       refine aC_ rfl rfl (q_store) ?_
       refine AOps.nil ?_
       refine AWp.seq ?_
       refine AWp.seq ?_
       refine AWp.region ?_
       refine aC_ rfl rfl (q_fa) ?_
       refine aC_ rfl rfl (q_load) ?_
       refine aC_ rfl rfl (q_move) ?_
       refine AOps.dec rfl rfl (q_neq) (fun h7_3 => ?_) (fun h7_3 => ?_)
       ·
        refine AOps.nil ?_
        refine AWp.cond_t rfl ?_
        refine AWp.exit ?_
        refine AWp.region ?_
        refine aC_ rfl rfl (q_add) ?_
        refine aC_ rfl rfl (q_move) ?_
        refine AOps.nil ?_
        refine ⟨i + 1, ?_, Back.mk' (HasT.cons HasT.nil) HasH.nil, ?_⟩
        ·
         refine ⟨by omega, fun j hj => ?_⟩
         rcases Nat.lt_or_ge j i with h2 | h2
         · exact hnone j h2
         · obtain rfl : j = i := by omega
           exact decide_eq_false h7_3
        ·
         first | omega | (simp; omega)
       ·
        refine AOps.nil ?_
        refine AWp.cond_f rfl ?_
        refine AWp.skip ?_
        refine AWp.seq ?_
        refine AWp.region ?_
        have hil : i < t.ss.length := by omega
        have hix : idx (isAd a) t.ss = i := idx_is hil hnone (decide_eq_true (Decidable.not_not.1 h7_3))
        have hSS : t.ss.getD (idx (isAd a) t.ss).toNat default = (t.ss.getD i default) := by rw [hix]; rfl
        have hyes := ser_yes (a := a) h1_1 h1_6 h1_12 h1_20 (by omega)
        have hcan := h1_1
        have hsm : (t.ss.getD i default) ∈ t.ss := getD_mem' hil
        have hin := srv_in hcan hsm
        have hszl := ht.2.2.2 _ hsm
        have hql := canN_le2 h1_20
        refine aC_ rfl rfl (q_load) ?_
        refine aC_ rfl rfl (q_bs 901 quc [(m.qs.getD 0 default)] [(_, _)]) ?_
        refine aC_ rfl rfl (q_build [(_, _)]) ?_
        refine aC_ rfl rfl (q_alloc 903) ?_
        refine aC_ rfl rfl (q_store) ?_
        refine AOps.nil ?_
        refine AWp.seq ?_
        refine AWp.draws [⟨0, [5], [101], some 55, _, []⟩,
 ⟨1, [55], [101], some 56, _, []⟩,
 ⟨2, [56], [101], some 57, _, []⟩,
 ⟨3, [5], [101], some 58, _, []⟩,
 ⟨4, [58], [101], some 59, _, []⟩,
 ⟨5, [59], [101], some 60, _, []⟩,
 ⟨6, [5], [101], some 61, _, []⟩,
 ⟨7, [61], [101], some 62, _, []⟩,
 ⟨8, [62], [101], some 63, _, []⟩,
 ⟨9, [11], [903], some 64, _, []⟩,
 ⟨10, [64], [903], some 65, _, []⟩,
 ⟨11, [57, 65], [903], none, _, [(903, _)]⟩,
 ⟨12, [11], [903], some 66, _, []⟩,
 ⟨13, [66], [903], some 67, _, []⟩,
 ⟨14, [67], [903], none, _, [(903, _)]⟩,
 ⟨15, [11], [903], some 68, _, []⟩,
 ⟨16, [68], [903], some 69, _, []⟩,
 ⟨17, [60, 69], [903], none, _, [(903, _)]⟩,
 ⟨18, [11], [903], some 70, _, []⟩,
 ⟨19, [70], [903], some 71, _, []⟩,
 ⟨20, [63, 71], [903], none, _, [(903, _)]⟩]
         [kN_ 0 [5] [101] 55,
 kN_ 1 [55] [101] 56,
 kN_ 2 [56] [101] 57,
 kN_ 3 [5] [101] 58,
 kN_ 4 [58] [101] 59,
 kN_ 5 [59] [101] 60,
 kN_ 6 [5] [101] 61,
 kN_ 7 [61] [101] 62,
 kN_ 8 [62] [101] 63,
 kN_ 9 [11] [903] 64,
 kN_ 10 [64] [903] 65,
 ⟨11, [57, 65], [903], none, .any, [(903, .box [])]⟩,
 kN_ 12 [11] [903] 66,
 kN_ 13 [66] [903] 67,
 ⟨14, [67], [903], none, .any, [(903, .box [])]⟩,
 kN_ 15 [11] [903] 68,
 kN_ 16 [68] [903] 69,
 ⟨17, [60, 69], [903], none, .any, [(903, .box [])]⟩,
 kN_ 18 [11] [903] 70,
 kN_ 19 [70] [903] 71,
 ⟨20, [63, 71], [903], none, .any, [(903, .box [])]⟩]
         mixed_ok rfl (by kernel_rfl) ⟨dK_ fun s0 => oG_ rfl rfl (q_fa),
 dK_ fun s0 => oG_ rfl rfl (q_fa),
 dK_ fun s0 => oG_ rfl rfl (q_load),
 dK_ fun s0 => oG_ rfl rfl (q_fa),
 dK_ fun s0 => oG_ rfl rfl (q_fa),
 dK_ fun s0 => oG_ rfl rfl (q_load),
 dK_ fun s0 => oG_ rfl rfl (q_fa),
 dK_ fun s0 => oG_ rfl rfl (q_fa),
 dK_ fun s0 => oG_ rfl rfl (q_load),
 dK_ fun s0 => oG_ rfl rfl (q_fa),
 dK_ fun s0 => oG_ rfl rfl (q_fa),
 dK_ fun s0 => oG_ rfl rfl (q_store),
 dK_ fun s0 => oG_ rfl rfl (q_fa),
 dK_ fun s0 => oG_ rfl rfl (q_fa),
 dK_ fun s0 => oG_ rfl rfl (q_store),
 dK_ fun s0 => oG_ rfl rfl (q_fa),
 dK_ fun s0 => oG_ rfl rfl (q_fa),
 dK_ fun s0 => oG_ rfl rfl (q_store),
 dK_ fun s0 => oG_ rfl rfl (q_fa),
 dK_ fun s0 => oG_ rfl rfl (q_fa),
 dK_ fun s0 => oG_ rfl rfl (q_store), trivial⟩ ?_
        dsimp only [final, DS.upd, AS.seto]
        refine AWp.seq ?_
        refine AWp.region ?_
        refine AOps.weak (Weak.full 0 [] (t := [(3, .ptr 100 0 0), (5, .ptr 101 0 0), (6, .ptr 102 0 0), (8, .ptr 404 0 0), (10, .ptr 702 0 0), (11, .ptr 903 0 0)]) (hl := [(100, .box (trC t)), (101, .box (msgC m)), (102, .box [.v (.int .i64 0), .v (.bool false), .v (.int .i64 0), .v (.bool false), .v (.bool false), .v (.bool false), .v (.bool false), .v (.int .i64 0), .v (.slice none 0 0), .v (.slice none 0 0), .v (.slice none 0 0), .v (.slice none 0 0)]), (404, .box (quc (m.qs.getD 0 default))), (702, .box (svC (t.ss.getD i default))), (903, .box [i64 m.h.id, tf true, i64 m.h.op, tf (false), .v (.bool false), tf m.h.rd, .v (.bool false), i64 (0), .fz 0 [(m.qs.getD 0 default)].length (cl quc [(m.qs.getD 0 default)]), .v (.slice none 0 0), .fz 0 (([] : List Rr)).length (cl rrc (([] : List Rr))), .fz 0 (([] : List Rr)).length (cl rrc (([] : List Rr)))])])) ?_
        refine aC_ rfl rfl (q_load) ?_
        refine aC_ rfl rfl (q_fa) ?_
        refine aC_ rfl rfl (q_load) ?_
        refine aC_ rfl rfl (q_fa) ?_
        refine aC_ rfl rfl (q_load) ?_
        refine aC_ rfl rfl (q_call (0) (hc := (c_ciceroneref18_nearest t (t.ss.getD i default).zs 0 (m.qs.getD 0 default).nm ht (by omega) hin (by omega)))) ?_
        refine aC_ rfl rfl (q_assign) ?_
        refine AOps.nil ?_
        refine AWp.seq ?_
        refine AWp.block ?_
        refine AWp.seq ?_
        refine AWp.region ?_
        refine aC_ rfl rfl (q_fa) ?_
        refine aC_ rfl rfl (q_fa) ?_
        refine aC_ rfl rfl (q_load) ?_
        refine AOps.dec rfl rfl (q_neq) (fun h12_3 => ?_) (fun h12_3 => ?_)
        ·
         refine aC_ rfl rfl (q_assign) ?_
         refine AOps.nil ?_
         refine AWp.cond_t rfl ?_
         refine AWp.region ?_
         refine aC_ rfl rfl (q_fa) ?_
         refine aC_ rfl rfl (q_fa) ?_
         refine aC_ rfl rfl (q_store) ?_
         refine AOps.nil ?_
         refine AWp.seq ?_
         refine AWp.region ?_
         refine AOps.weak (Weak.full 0 [] (t := [(6, .ptr 102 0 0), (11, .ptr 903 0 0)]) (hl := [(102, .box [.v (.int .i64 0), .v (.bool false), .v (.int .i64 0), .v (.bool false), .v (.bool false), .v (.bool false), .v (.bool false), .v (.int .i64 0), .v (.slice none 0 0), .v (.slice none 0 0), .v (.slice none 0 0), .v (.slice none 0 0)]), (903, .box [i64 m.h.id, tf true, i64 m.h.op, tf (false), .v (.bool false), tf m.h.rd, .v (.bool false), i64 (4), .fz 0 [(m.qs.getD 0 default)].length (cl quc [(m.qs.getD 0 default)]), .fz 0 (([] : List Rr)).length (cl rrc (([] : List Rr))), .fz 0 (([] : List Rr)).length (cl rrc (([] : List Rr))), .fz 0 (([] : List Rr)).length (cl rrc (([] : List Rr)))])])) ?_
         refine aC_ rfl rfl (q_load) ?_
         refine aC_ rfl rfl (q_store) ?_
         refine aC_ rfl rfl (q_assign) ?_
         refine AOps.nil ?_
         refine AWp.ret ?_
         show Fin te Try.f25 _ _
         refine q_ret (0) [_, _] [_, _] ?_
         rw [ser_some hyes, hyes, hSS, serR, if_pos h12_3]; rfl
        ·
         refine aC_ rfl rfl (q_assign) ?_
         refine AOps.nil ?_
         refine AWp.cond_f rfl ?_
         refine AWp.seq ?_
         refine AWp.region ?_
         refine aC_ rfl rfl (q_fa) ?_
         refine aC_ rfl rfl (q_load) ?_
         refine AOps.dec rfl rfl (q_neq) (fun h14_2 => ?_) (fun h14_2 => ?_)
         ·
          refine aC_ rfl rfl (q_move) ?_
          refine aG_ rfl rfl rfl rfl rfl rfl rfl rfl ?_
          refine aG_ rfl rfl rfl rfl rfl rfl rfl rfl ?_
          refine aC_ rfl rfl (q_pick) ?_
          refine aC_ rfl rfl (q_assign) ?_
          refine AOps.nil ?_
          refine AWp.cond_t rfl ?_
          refine AWp.region ?_
          refine aC_ rfl rfl (q_fa) ?_
          refine aC_ rfl rfl (q_fa) ?_
          refine aC_ rfl rfl (q_store) ?_
          refine AOps.nil ?_
          refine AWp.seq ?_
          refine AWp.region ?_
          refine AOps.weak (Weak.full 0 [] (t := [(6, .ptr 102 0 0), (11, .ptr 903 0 0)]) (hl := [(102, .box [.v (.int .i64 0), .v (.bool false), .v (.int .i64 0), .v (.bool false), .v (.bool false), .v (.bool false), .v (.bool false), .v (.int .i64 0), .v (.slice none 0 0), .v (.slice none 0 0), .v (.slice none 0 0), .v (.slice none 0 0)]), (903, .box [i64 m.h.id, tf true, i64 m.h.op, tf (false), .v (.bool false), tf m.h.rd, .v (.bool false), i64 (5), .fz 0 [(m.qs.getD 0 default)].length (cl quc [(m.qs.getD 0 default)]), .fz 0 (([] : List Rr)).length (cl rrc (([] : List Rr))), .fz 0 (([] : List Rr)).length (cl rrc (([] : List Rr))), .fz 0 (([] : List Rr)).length (cl rrc (([] : List Rr)))])])) ?_
          refine aC_ rfl rfl (q_load) ?_
          refine aC_ rfl rfl (q_store) ?_
          refine aC_ rfl rfl (q_assign) ?_
          refine AOps.nil ?_
          refine AWp.ret ?_
          show Fin te Try.f25 _ _
          refine q_ret (0) [_, _] [_, _] ?_
          rw [ser_some hyes, hyes, hSS, serR, if_neg h12_3, if_pos (.inl h14_2)]; rfl
         ·
          refine aC_ rfl rfl (q_move) ?_
          refine AOps.gcons rfl rfl rfl rfl rfl (q_move) ?_
          refine AOps.gdec rfl rfl rfl rfl rfl (q_lss) (fun h14_5 => ?_) (fun h14_5 => ?_)
          ·
           refine aC_ rfl rfl (q_pick) ?_
           refine aC_ rfl rfl (q_assign) ?_
           refine AOps.nil ?_
           refine AWp.cond_t rfl ?_
           refine AWp.region ?_
           refine aC_ rfl rfl (q_fa) ?_
           refine aC_ rfl rfl (q_fa) ?_
           refine aC_ rfl rfl (q_store) ?_
           refine AOps.nil ?_
           refine AWp.seq ?_
           refine AWp.region ?_
           refine AOps.weak (Weak.full 0 [] (t := [(6, .ptr 102 0 0), (11, .ptr 903 0 0)]) (hl := [(102, .box [.v (.int .i64 0), .v (.bool false), .v (.int .i64 0), .v (.bool false), .v (.bool false), .v (.bool false), .v (.bool false), .v (.int .i64 0), .v (.slice none 0 0), .v (.slice none 0 0), .v (.slice none 0 0), .v (.slice none 0 0)]), (903, .box [i64 m.h.id, tf true, i64 m.h.op, tf (false), .v (.bool false), tf m.h.rd, .v (.bool false), i64 (5), .fz 0 [(m.qs.getD 0 default)].length (cl quc [(m.qs.getD 0 default)]), .fz 0 (([] : List Rr)).length (cl rrc (([] : List Rr))), .fz 0 (([] : List Rr)).length (cl rrc (([] : List Rr))), .fz 0 (([] : List Rr)).length (cl rrc (([] : List Rr)))])])) ?_
           refine aC_ rfl rfl (q_load) ?_
           refine aC_ rfl rfl (q_store) ?_
           refine aC_ rfl rfl (q_assign) ?_
           refine AOps.nil ?_
           refine AWp.ret ?_
           show Fin te Try.f25 _ _
           refine q_ret (0) [_, _] [_, _] ?_
           rw [ser_some hyes, hyes, hSS, serR, if_neg h12_3, if_pos (.inr h14_5)]; rfl
          ·
           refine aC_ rfl rfl (q_pick) ?_
           refine aC_ rfl rfl (q_assign) ?_
           refine AOps.nil ?_
           refine AWp.cond_f rfl ?_
           have hhk := nearF_in (t := t) (p := fun z => withN (m.qs.getD 0 default).nm z.o) hin
           have hk0 : 0 ≤ homeT t (t.ss.getD i default).zs (m.qs.getD 0 default).nm ∧ homeT t (t.ss.getD i default).zs (m.qs.getD 0 default).nm < t.zs.length := ⟨by omega, hhk.2⟩
           have hzm := zAt_mem hk0
           have hzo := zo_ok ht hk0
           refine AWp.draws [⟨0, [3], [100], some 78, _, []⟩,
 ⟨1, [78], [100], some 79, _, []⟩,
 ⟨2, [12], [], some 80, _, []⟩,
 ⟨3, [79, 80], [], some 81, _, []⟩,
 ⟨4, [81], [], some 82, _, []⟩,
 ⟨5, [8], [404], some 83, _, []⟩,
 ⟨6, [11, 82, 83], [903], some 84, _, [(903, _)]⟩]
            [kN_ 0 [3] [100] 78,
 kN_ 1 [78] [100] 79,
 kN_ 2 [12] [] 80,
 kN_ 3 [79, 80] [] 81,
 kN_ 4 [81] [] 82,
 kN_ 5 [8] [404] 83,
 ⟨6, [11, 82, 83], [903], some 84, .any, [(903, .box [])]⟩]
            mixed_ok rfl (by kernel_rfl) ⟨dK_ fun s0 => oG_ rfl rfl (q_fa),
 dK_ fun s0 => oG_ rfl rfl (q_load),
 dK_ fun s0 => oG_ rfl rfl (q_move),
 dK_ fun s0 => oG_ rfl rfl (q_ix),
 dK_ fun s0 => oG_ rfl rfl (q_load),
 dK_ fun s0 => oG_ rfl rfl (q_load),
 dK_ fun s0 => oG_ rfl rfl (q_callB (0) [(0, 903)] [] [(_, _)] (hc := (c_ranswer ⟨m.h.id, true, m.h.op, false, false, m.h.rd, false, 0⟩ [(m.qs.getD 0 default)] (zAt t (homeT t (t.ss.getD i default).zs (m.qs.getD 0 default).nm)) (m.qs.getD 0 default) hzo (zs_small hcan hzm) (by omega) (zs_data hcan hzm)))), trivial⟩ ?_
           dsimp only [final, DS.upd, AS.seto]
           refine AWp.seq ?_
           refine AWp.region ?_
           refine aC_ rfl rfl (q_load) ?_
           refine aC_ rfl rfl (q_store) ?_
           refine aC_ rfl rfl (q_assign) ?_
           refine AOps.nil ?_
           refine AWp.ret ?_
           show Fin te Try.f25 _ _
           refine q_ret (0) [_, _] [_, _] ?_
           rw [ser_some hyes, hyes, hSS, serR, if_neg h12_3, if_neg (fun k => k.elim h14_2 h14_5)]; rfl
      ·
       refine AOps.nil ?_
       refine AWp.seq ?_
       refine AWp.cond_f rfl ?_
       refine AWp.exit ?_
       refine AWp.seq ?_
       refine AWp.region ?_
       refine aC_ rfl rfl (q_build []) ?_
       refine aC_ rfl rfl (q_store) ?_
       refine aC_ rfl rfl (q_assign) ?_
       refine AOps.weak (Weak.full 0 [] (t := [(7, tf false), (6, .ptr 102 0 0)]) (hl := [(102, .box (msgC mZ))])) ?_
       refine AOps.nil ?_
       refine AWp.ret ?_
       show Fin te Try.f25 _ _
       refine q_ret (0) [_, _] [_, _] ?_
       have hno : serO t a m = false := ser_5 (by rw [idx_no (fun j hj => hnone j (by omega))]; decide)
       rw [ser_none hno, hno]; rfl
    ·
     refine AOps.gcons rfl rfl rfl rfl rfl (q_not) ?_
     refine aC_ rfl rfl (q_pick) ?_
     refine AOps.nil ?_
     refine AWp.cond_t rfl ?_
     refine AWp.seq ?_
     refine AWp.region ?_
     refine aC_ rfl rfl (q_build []) ?_
     refine aC_ rfl rfl (q_store) ?_
     refine aC_ rfl rfl (q_assign) ?_
     refine AOps.weak (Weak.full 0 [] (t := [(7, tf false), (6, .ptr 102 0 0)]) (hl := [(102, .box (msgC mZ))])) ?_
     refine AOps.nil ?_
     refine AWp.ret ?_
     show Fin te Try.f25 _ _
     refine q_ret (0) [_, _] [_, _] ?_
     have hno : serO t a m = false := ser_4 h1_20
     rw [ser_none hno, hno]; rfl
 ·
  refine aC_ rfl rfl (q_not) ?_
  refine aC_ rfl rfl (q_move) ?_
  refine aG_ rfl rfl rfl rfl rfl rfl rfl rfl ?_
  refine aG_ rfl rfl rfl rfl rfl rfl rfl rfl ?_
  refine aG_ rfl rfl rfl rfl rfl rfl rfl rfl ?_
  refine aC_ rfl rfl (q_pick) ?_
  refine aC_ rfl rfl (q_move) ?_
  refine aG_ rfl rfl rfl rfl rfl rfl rfl rfl ?_
  refine aG_ rfl rfl rfl rfl rfl rfl rfl rfl ?_
  refine aG_ rfl rfl rfl rfl rfl rfl rfl rfl ?_
  refine aG_ rfl rfl rfl rfl rfl rfl rfl rfl ?_
  refine aC_ rfl rfl (q_pick) ?_
  refine aC_ rfl rfl (q_move) ?_
  refine aG_ rfl rfl rfl rfl rfl rfl rfl rfl ?_
  refine aG_ rfl rfl rfl rfl rfl rfl rfl rfl ?_
  refine aG_ rfl rfl rfl rfl rfl rfl rfl rfl ?_
  refine aG_ rfl rfl rfl rfl rfl rfl rfl rfl ?_
  refine aG_ rfl rfl rfl rfl rfl rfl rfl rfl ?_
  refine aG_ rfl rfl rfl rfl rfl rfl rfl rfl ?_
  refine aG_ rfl rfl rfl rfl rfl rfl rfl rfl ?_
  refine aC_ rfl rfl (q_pick) ?_
  refine AOps.nil ?_
  refine AWp.cond_t rfl ?_
  refine AWp.seq ?_
  refine AWp.region ?_
  refine aC_ rfl rfl (q_build []) ?_
  refine aC_ rfl rfl (q_store) ?_
  refine aC_ rfl rfl (q_assign) ?_
  refine AOps.weak (Weak.full 0 [] (t := [(7, tf false), (6, .ptr 102 0 0)]) (hl := [(102, .box (msgC mZ))])) ?_
  refine AOps.nil ?_
  refine AWp.ret ?_
  show Fin te Try.f25 _ _
  refine q_ret (0) [_, _] [_, _] ?_
  have hno : serO t a m = false := ser_1 h1_1
  rw [ser_none hno, hno]; rfl
end Go.Proofs.Ytokccoloholgaaa.Fw


set_option linter.unusedVariables false
set_option linter.unusedSimpArgs false
namespace Go.Proofs.Ytokccoloholgaaa.Fw
open Go.RowKit
end Go.Proofs.Ytokccoloholgaaa.Fw


set_option linter.unusedVariables false
set_option linter.unusedSimpArgs false
namespace Go.Proofs.Ytokccoloholgaaa.Fw
open Go.RowKit
def Of (z : Zo) (c : Nat) (l : List Rr) : Prop := l.length ≤ c ∧ ∀ r ∈ l, r ∈ z.rs
theorem of_at {z : Zo} (hs : z.rs.length ≤ 400) (n : List UInt8) (ty : Int) : Of z 400 (atZ z n ty) := ⟨at_len hs n ty, fun r hr => (at_mem hr).1⟩
theorem Of.app {z : Zo} {a b : Nat} {l k : List Rr} (h : Of z a l) (h2 : Of z b k) : Of z (a + b) (l ++ k) := ⟨by rw [List.length_append]; exact Nat.add_le_add h.1 h2.1, fun r hr => (List.mem_append.1 hr).elim (h.2 r) (h2.2 r)⟩
theorem Of.mono {z : Zo} {a b : Nat} {l : List Rr} (h : Of z a l) (hab : a ≤ b) : Of z b l := ⟨Nat.le_trans h.1 hab, h.2⟩
theorem of_nil {z : Zo} {a : Nat} : Of z a [] := ⟨Nat.zero_le _, fun r hr => by cases hr⟩
theorem of_glu {z : Zo} (hs : z.rs.length ≤ 400) {l : List Rr} (hl : l.length ≤ 400) : Of z 160000 (gluZ z l) := by
  refine ⟨?_, fun r hr => ?_⟩
  · have := nmF_small (g := fun n => atZ z n 1) (l := l) (c := 400) (fun r _ => at_len hs r.da 1) (Nat.le_refl l.length)
    unfold gluZ; omega
  · unfold gluZ nmF at hr
    obtain ⟨i, _, h2⟩ := List.mem_flatMap.1 hr
    exact (at_mem h2).1
theorem fil_of {z : Zo} {ty : Int} (hs : z.rs.length ≤ 400) : ∀ (k : Nat) (an : List Rr) (n : List UInt8) (aa : Bool) (v : Nat), 8 - an.length ≤ k → Of z 8 an → Of z 408 (fil z ty aa an n v).an ∧ Of z 400 (fil z ty aa an n v).au ∧ Of z 160000 (fil z ty aa an n v).ad := by
  intro k
  induction k with
  | zero =>
    intro an n aa v hk hA
    have h8 : ¬ an.length < 8 := by omega
    by_cases hc : cutZ z n ≠ []
    · rw [fil_cutn hc (by omega)]; exact ⟨hA.mono (by decide), of_nil, of_nil⟩
    · by_cases h1 : 0 < (atZ z n 5).length ∧ ty ≠ 5
      · rw [fil_stop hc h1 (fun h => by have := h.2; rw [List.length_append] at this; omega)]; exact ⟨(hA.app (of_at hs n 5)).mono (by decide), of_nil, of_nil⟩
      · by_cases h2 : 0 < (atZ z n ty).length
        · rw [fil_has hc h1 h2]; exact ⟨(hA.app (of_at hs n ty)).mono (by decide), of_nil, of_nil⟩
        · rw [fil_none hc h1 h2]; exact ⟨hA.mono (by decide), of_at hs _ _, of_nil⟩
  | succ k ih =>
    intro an n aa v hk hA
    by_cases hc : cutZ z n ≠ []
    · by_cases h0 : an.length = 0
      · rw [fil_cut0 hc h0]; exact ⟨hA.mono (by decide), of_at hs _ _, of_glu hs (at_len hs _ _)⟩
      · rw [fil_cutn hc h0]; exact ⟨hA.mono (by decide), of_nil, of_nil⟩
    · by_cases h1 : 0 < (atZ z n 5).length ∧ ty ≠ 5
      · by_cases h2 : withN ((atZ z n 5).getD 0 default).da z.o = true ∧ (an ++ atZ z n 5).length < 8
        · rw [fil_on hc h1 h2]
          have h3 := h2.2
          have h4 : (an ++ atZ z n 5).length = an.length + (atZ z n 5).length := List.length_append
          exact ih _ _ _ _ (by omega) ⟨by omega, (hA.app (of_at hs n 5)).2⟩
        · rw [fil_stop hc h1 h2]; exact ⟨(hA.app (of_at hs n 5)).mono (by decide), of_nil, of_nil⟩
      · by_cases h2 : 0 < (atZ z n ty).length
        · rw [fil_has hc h1 h2]; exact ⟨(hA.app (of_at hs n ty)).mono (by decide), of_nil, of_nil⟩
        · rw [fil_none hc h1 h2]; exact ⟨hA.mono (by decide), of_at hs _ _, of_nil⟩
theorem Of.ok {z : Zo} (hz : ZoOk z) {c : Nat} {l : List Rr} (h : Of z c l) (hc : c ≤ 160000) : RrsOk l := ⟨by have := h.1; omega, fun r hr => hz.2.1.2 r (h.2 r hr)⟩
theorem serV_ok {t : Tr} {a : Int} {m : Msg} (ht : TrOk t) (hm : MsgOk m) : MsgOk (serV t a m) := by
  have nil : RrsOk [] := ⟨by simp, fun x hx => by cases hx⟩
  have hz0 : MsgOk mZ := ⟨by simp [mZ], nil, nil, nil⟩
  unfold serV
  split
  · rename_i hso
    have hb : ∀ c, MsgOk (baseM m (m.qs.getD 0 default) c) := fun c => ⟨by show 1 * 32 ≤ _; decide, nil, nil, nil⟩
    unfold serR
    split
    · exact hb 4
    · split
      · exact hb 5
      · rename_i h1 h2
        unfold serO at hso
        simp only [Bool.and_eq_true, decide_eq_true_eq] at hso
        have hcan := hso.1.1.1.1
        have hin := srv_in hcan (getD_mem' (l := t.ss) (i := (idx (isAd a) t.ss).toNat) (idx_lt' (by omega)))
        have hhk := nearF_in (t := t) (p := fun z => withN (m.qs.getD 0 default).nm z.o) hin
        have hk0 : 0 ≤ homeT t (t.ss.getD (idx (isAd a) t.ss).toNat default).zs (m.qs.getD 0 default).nm ∧ homeT t (t.ss.getD (idx (isAd a) t.ss).toNat default).zs (m.qs.getD 0 default).nm < t.zs.length := ⟨by
          simp only [not_or] at h2
          omega, hhk.2⟩
        have hzm := zAt_mem hk0
        have hzo := zo_ok ht hk0
        obtain ⟨f1, f2, f3⟩ := fil_of (z := zAt t (homeT t (t.ss.getD (idx (isAd a) t.ss).toNat default).zs (m.qs.getD 0 default).nm)) (ty := (m.qs.getD 0 default).ty) (zs_small hcan hzm) 8 [] (m.qs.getD 0 default).nm false 0 (by simp) of_nil
        exact ⟨by show 1 * 32 ≤ _; decide, f1.ok hzo (by decide), f2.ok hzo (by decide), f3.ok hzo (by decide)⟩
  · exact hz0
noncomputable def zB : Code := Try.f7.body.getD .skip
noncomputable def z1 : Code := fC (sC zB)
noncomputable def z2 : Code := fC (sC (sC zB))
noncomputable def z3 : Code := fC (sC (sC (sC zB)))
noncomputable def z4 : Code := fC (sC (sC (sC (sC zB))))
noncomputable def z6 : Code := fC (sC (sC (sC (sC (sC zB)))))
noncomputable def z7 : Code := sC (sC (sC (sC (sC (sC zB)))))
section
variable (t : Tr) (a : Int) (m : Msg) (e f g k : Nat → Value → Prop)
def Y1 : AS := mkS [(1, i64 a), (3, .ptr 100 0 0), (5, .ptr 101 0 0), (7, .ptr 202 0 0)] [(100, .box (trC t)), (101, .box (msgC m)), (202, .box (msgC m))]
def Y2 : AS := mkS [(1, i64 a), (3, .ptr 1 0 0), (5, .ptr 2 0 0), (7, .ptr 3 0 0)] [(1, .box (wrapP e 0 (trC1 t))), (2, .box (wrapP f 0 (msgC1 m))), (3, .box (wrapP g 0 (msgC1 m)))]
def Y2b : AS := mkS [(1, i64 a), (3, .ptr 1 0 0), (5, .ptr 2 0 0), (7, .ptr 3 0 0), (8, .ptr 4 0 0), (9, tf (serO t a m))]
  [(1, .box (wrapP e 0 (trC1 t))), (2, .box (wrapP f 0 (msgC1 m))), (3, .box (wrapP g 0 (msgC1 m))), (4, .box (msgC (serV t a m)))]
def Y3 : AS := mkS [(1, i64 a), (3, .ptr 1 0 0), (5, .ptr 2 0 0), (7, .ptr 3 0 0), (8, .ptr 4 0 0), (9, tf (serO t a m))]
  [(1, .box (wrapP e 0 (trC t))), (2, .box (wrapP f 0 (msgC m))), (3, .box (wrapP g 0 (msgC m))), (4, .box (wrapP k 0 (blindC (msgC (serV t a m)))))]
def Y3b : AS := mkS [(1, i64 a), (3, .ptr 1 0 0), (5, .ptr 2 0 0), (7, .ptr 3 0 0), (8, .ptr 4 0 0), (9, tf (serO t a m)), (10, .ptr 407 0 0), (11, tf (serO t a m))]
  [(1, .box (wrapP e 0 (trC t))), (2, .box (wrapP f 0 (msgC m))), (3, .box (wrapP g 0 (msgC m))), (4, .box (wrapP k 0 (blindC (msgC (serV t a m))))), (407, .box (msgC (serV t a m)))]
def Y4 (D1 D2 : Value → Prop) : AS := mkS [(1, i64 a), (3, .ptr 1 0 0), (5, .ptr 2 0 0), (7, .ptr 3 0 0), (8, .ptr 4 0 0), (9, tf (serO t a m)), (10, .ptr 407 0 0), (11, tf (serO t a m))]
  [(1, .box (wrapP e 0 (trC t))), (2, .box (wrapP f 0 (msgC m))), (3, .box (wrapP g 0 (msgC m))), (4, .box (msgF D1 (serV t a m))), (407, .box (msgF D2 (serV t a m)))]
def Y6 (D1 D2 : Value → Prop) : AS := mkS [(1, i64 a), (3, .ptr 1 0 0), (5, .ptr 2 0 0), (8, .ptr 4 0 0), (10, .ptr 407 0 0)]
  [(1, .box (wrapP e 0 (trC t))), (2, .box (wrapP f 0 (msgC m))), (3, .box (wrapP g 0 (msgC m))), (4, .box (msgF D1 (serV t a m))), (407, .box (msgF D2 (serV t a m)))]
def Y7 : AS := mkS [(1, i64 a), (3, .ptr 100 0 0), (5, .ptr 101 0 0), (10, .ptr 407 0 0)] [(100, .box (trC t)), (101, .box (msgC m)), (307, .box (blindC (msgC (serV t a m)))), (407, .box (msgC (serV t a m)))]
variable (ht : TrOk t) (hm : MsgOk m) (hn : NmOk m)
set_option maxRecDepth 20000 in
set_option maxHeartbeats 2000000 in
theorem zr_2 (ht : TrOk t) (hm : MsgOk m) (hn : NmOk m) : AWp Try.prog Try.f7.ntmps z2 (fun x s => x = .normal ∧ Weak s (Y2b t a m e f g)) (Y2 t a m e f g) := by
  refine AWp.region ?_
  refine aC_ rfl rfl (q_load (z := .agg (wrapP e 0 (trC1 t))) (hy := rfl)) ?_
  refine aC_ rfl rfl q_move ?_
  refine aC_ rfl rfl (q_load (z := .agg (wrapP g 0 (msgC1 m))) (hy := rfl)) ?_
  refine aC_ rfl rfl (q_call (1) (hA := by exact ⟨fv_unW (e := e) (cs := trC1 t) rfl, fv_ok rfl, fv_unW (e := g) (cs := msgC1 m) rfl, trivial⟩) (hc := c_Serve1 t a m ht hm hn)) ?_
  refine aC_ rfl rfl q_move ?_
  refine aC_ rfl rfl q_extract ?_
  refine aC_ rfl rfl q_extract ?_
  refine aC_ rfl rfl (q_alloc 4) ?_
  refine aC_ rfl rfl q_store ?_
  refine aC_ rfl rfl q_assign ?_
  exact AOps.nil ⟨rfl, Weak.full 1 []⟩
set_option maxRecDepth 20000 in
set_option maxHeartbeats 2000000 in
theorem zr_3 (ht : TrOk t) (hm : MsgOk m) (hn : NmOk m) : AWp Try.prog Try.f7.ntmps z3 (fun x s => x = .normal ∧ Weak s (Y3b t a m e f g k)) (Y3 t a m e f g k) := by
  refine AWp.region ?_
  refine aC_ rfl rfl (q_load (z := .agg (wrapP e 0 (trC t))) (hy := rfl)) ?_
  refine aC_ rfl rfl q_move ?_
  refine aC_ rfl rfl (q_load (z := .agg (wrapP f 0 (msgC m))) (hy := rfl)) ?_
  refine aC_ rfl rfl (q_call (0) (hA := by exact ⟨fv_unW (e := e) (cs := trC t) rfl, fv_ok rfl, fv_unW (e := f) (cs := msgC m) rfl, trivial⟩) (hc := c_rServe t a m ht hm hn)) ?_
  refine aC_ rfl rfl q_move ?_
  refine aC_ rfl rfl q_extract ?_
  refine aC_ rfl rfl q_extract ?_
  refine aC_ rfl rfl (q_alloc 407) ?_
  refine aC_ rfl rfl q_store ?_
  refine aC_ rfl rfl q_assign ?_
  exact AOps.nil ⟨rfl, Weak.full 0 []⟩
set_option maxRecDepth 20000 in
set_option maxHeartbeats 2000000 in
theorem zr_4 (ht : TrOk t) (hm : MsgOk m) (D1 D2 : Value → Prop) : AWp Try.prog Try.f7.ntmps z4 (fun x s => x = .normal ∧ Weak s (Y6 t a m e f g D1 D2)) (Y4 t a m e f g D1 D2) := by
  have hs := serV_ok (a := a) ht hm
  refine AWp.seq ?_
  refine AWp.region ?_
  refine aC_ rfl rfl q_move ?_
  refine aC_ rfl rfl q_move ?_
  refine aC_ rfl rfl (OpOk.bool_is q_bneq (bne_self_eq_false _)) ?_
  refine aC_ rfl rfl q_move ?_
  refine AOps.gcons rfl rfl rfl rfl rfl (q_load (z := .agg (msgF D1 (serV t a m))) (hy := rfl)) ?_
  refine AOps.gcons rfl rfl rfl rfl rfl (q_load (z := .agg (msgF D2 (serV t a m))) (hy := rfl)) ?_
  refine AOps.gcons rfl rfl rfl rfl rfl (OpOk.bool_is (q_call (0) (hA := by exact ⟨fv_unF (D := D1) (m := serV t a m), fv_unF (D := D2) (m := serV t a m), trivial⟩) (hc := c_ciceroneplain_SameMessage (serV t a m) (serV t a m) hs hs)) (decide_eq_true rfl)) ?_
  refine AOps.gcons rfl rfl rfl rfl rfl q_not ?_
  refine aC_ rfl rfl q_pick ?_
  refine aC_ rfl rfl q_move ?_
  refine AOps.gcons rfl rfl rfl rfl rfl (q_load (z := .agg (wrapP g 0 (msgC m))) (hy := rfl)) ?_
  refine AOps.gcons rfl rfl rfl rfl rfl (q_load (z := .agg (wrapP f 0 (msgC m))) (hy := rfl)) ?_
  refine AOps.gcons rfl rfl rfl rfl rfl (OpOk.bool_is (q_call (0) (hA := by exact ⟨fv_unW (e := g) (cs := msgC m) rfl, fv_unW (e := f) (cs := msgC m) rfl, trivial⟩) (hc := c_ciceroneplain_SameMessage m m hm hm)) (decide_eq_true rfl)) ?_
  refine AOps.gcons rfl rfl rfl rfl rfl q_not ?_
  refine aC_ rfl rfl q_pick ?_
  refine AOps.nil ?_
  refine AWp.cond_f rfl ?_
  exact AWp.skip ⟨rfl, Weak.full 0 []⟩
set_option maxRecDepth 20000 in
set_option maxHeartbeats 2000000 in
theorem zr_7 (ht : TrOk t) (hm : MsgOk m) (hn : NmOk m) : AWp Try.prog Try.f7.ntmps z7 (Post te Try.f7 (Ret (tf true))) (Y7 t a m) := by
  have hs := serV_ok (a := a) ht hm
  refine AWp.seq ?_
  refine AWp.region ?_
  refine aC_ rfl rfl (q_load (z := .agg (trC t)) (hy := rfl)) ?_
  refine aC_ rfl rfl q_move ?_
  refine aC_ rfl rfl (q_load (z := .agg (msgC m)) (hy := rfl)) ?_
  refine aC_ rfl rfl (q_call (0) (hc := c_zone_Serve t a m ht hm hn)) ?_
  refine aC_ rfl rfl q_move ?_
  refine aC_ rfl rfl q_extract ?_
  refine aC_ rfl rfl q_extract ?_
  refine aC_ rfl rfl (q_alloc 807) ?_
  refine aC_ rfl rfl q_store ?_
  refine aC_ rfl rfl q_assign ?_
  refine AOps.nil ?_
  refine AWp.seq ?_
  refine AWp.region ?_
  refine aC_ rfl rfl (q_load (z := .agg (msgC (serV t a m))) (hy := rfl)) ?_
  refine aC_ rfl rfl (q_load (z := .agg (msgC (serV t a m))) (hy := rfl)) ?_
  refine aC_ rfl rfl (OpOk.bool_is (q_call (0) (hc := c_ciceroneplain_SameMessage (serV t a m) (serV t a m) hs hs)) (decide_eq_true rfl)) ?_
  refine aC_ rfl rfl q_move ?_
  refine AOps.gcons rfl rfl rfl rfl rfl (q_call (0) (hc := c_ciceronelaw18_Small)) ?_
  refine AOps.gcons rfl rfl rfl rfl rfl (OpOk.bool_is (q_call (0) (hc := c_zone_Can smT smT_ok)) smT_can) ?_
  refine aC_ rfl rfl q_pick ?_
  refine aC_ rfl rfl q_assign ?_
  refine AOps.nil ?_
  refine AWp.ret ?_
  show Fin te Try.f7 _ _
  refine q_ret (0) [_] [_] ?_
  rfl
end
end Go.Proofs.Ytokccoloholgaaa.Fw


set_option linter.unusedVariables false
set_option linter.unusedSimpArgs false
namespace Go.Proofs.Ytokccoloholgaaa.Fw
open Go.RowKit
def DP (P : Nat → Prop) (v : Value) : Prop := ∃ ad m cap, v = .slice ad m cap ∧ (0 < m → ∃ b o, ad = some ⟨b, o, none⟩ ∧ P b)
section
variable {w w' : World} {φ φ' : PMap} {Λ Λ' : Lent} {P : Nat → Prop}
theorem rep_toP {n : Nat} {l : List Rr} {v : Value} (hb : ∀ b, b < w.heap.size → may φ Λ 0 b → P b) (hl : ∀ l b, may φ Λ l b → may φ Λ' l b) (h : Rep w φ Λ (.fz 0 n (cl rrc l)) v) : Rep w φ Λ' (.fz 0 n (cl (rrF (DP P)) l)) v :=
  rep_cle (e := 5) (by decide) rrc5 rrF5 (fun b _ => hl 0 b) rrF_ok (fun x _ r c' c h1 h2 u hu => by
    match r, h1, h2 with
    | 0, h1, h2 => cases h1; cases h2; exact rep_v hu
    | 1, h1, h2 => cases h1; cases h2; exact rep_v hu
    | 2, h1, h2 => cases h1; cases h2; exact rep_v hu
    | 3, h1, h2 => cases h1; cases h2; exact rep_v hu
    | 4, h1, h2 =>
      cases h1
      cases h2
      obtain ⟨ad, cap, rfl, h3⟩ := bytes_at hu
      refine .p ⟨ad, _, cap, rfl, fun hp => ?_⟩ rfl (Rep.lent hl hu)
      obtain ⟨b, o, e1, e2, e3⟩ := h3 hp
      exact ⟨b, o, e1, hb b (cell?_lt (e3 0 hp)) e2⟩
    | r + 5, h1, _ => cases h1) h
theorem msg_toP (m : Msg) (hb : ∀ b, b < w.heap.size → may φ Λ 0 b → P b) (hl : ∀ l b, may φ Λ l b → may φ Λ' l b) : ∀ (j : Nat) (c c' : AV), (msgC m)[j]? = some c → (msgF (DP P) m)[j]? = some c' → ∀ v, Rep w φ Λ c v → Rep w φ Λ' c' v := fun j c c' h1 h2 v h =>
  msg_cases (P := fun c c' => ∀ u, Rep w φ Λ c u → Rep w φ Λ' c' u) m rrc (rrF (DP P)) (fun _ _ h => rep_v h) (fun u h => Rep.lent hl h) (fun l _ u h => rep_toP hb hl h) (msgC m) (msgF (DP P) m) rfl rfl j c c' h1 h2 v h
theorem rep_clw {α : Type} {f g : α → List AV} {l : List α} {e : Nat} {lv n : Nat} {v : Value} (he : 0 < e) (hf : ∀ x, (f x).length = e) (hg : ∀ x, (g x).length = e) (N : ∀ b o u, w.cell? ⟨b, o, none⟩ = some u → (∀ q, u ≠ .int .u8 q) → w'.cell? ⟨b, o, none⟩ = some u) (hmay : ∀ b, b < w.heap.size → may φ Λ lv b → may φ' Λ' lv b)
    (hN : ∀ x, ∀ c ∈ f x, J.NU c) (hok : ∀ x, ∀ c ∈ g x, c.ok lv = true) (h : ∀ x ∈ l, ∀ (r : Nat) (c' c : AV), (g x)[r]? = some c' → (f x)[r]? = some c → ∀ u, Rep w φ Λ c u → Rep w' φ' Λ' c' u) (hr : Rep w φ Λ (.fz lv n (cl f l)) v) : Rep w' φ' Λ' (.fz lv n (cl g l)) v := by
  have hlf := cl_length hf l
  have hlg := cl_length hg l
  generalize hcs : cl f l = cs at hr
  cases hr with
  | fz0 =>
    have : l = [] := List.eq_nil_of_length_eq_zero (by
      rw [hcs] at hlf
      simp only [List.length_nil] at hlf
      rcases Nat.mul_eq_zero.1 hlf.symm with h | h
      · exact h
      · omega)
    subst this
    exact .fz0
  | fz vf hm hn hok0 hc hr0 hp =>
    rw [hcs] at hlf
    refine .fz vf (hmay _ (cell?_lt (hc 0 hp)) hm) hn (fun c hc2 => cl_mem (p := fun c => c.ok lv = true) (fun x _ => hok x) c hc2) (fun j hj => ?_) (fun j c' hj => ?_) (by omega)
    · have hj2 : j < cs.length := by omega
      refine N _ _ _ (hc j hj2) (cl_mem (p := J.NU) (fun x _ => hN x) (cs[j]) (by rw [hcs]; exact List.getElem_mem hj2) _ _ _ _ (hr0 j _ (List.getElem?_eq_getElem hj2)))
    · obtain ⟨x, hx, r, h1, h2⟩ := cl_gete hf hg l j c' hj
      have hjl := (List.getElem?_eq_some_iff.1 hj).1
      rw [hcs, List.getElem?_eq_getElem (by omega)] at h2
      exact h x hx r c' _ h1 h2.symm _ (hr0 j _ (List.getElem?_eq_getElem (by omega)))
theorem nu_p {D : Value → Prop} {n : Nat} {cs : List AV} : J.NU (.p D (.fz 0 n cs)) := fun w φ Λ v h k e => by
  cases h with
  | p _ _ h => exact J.nu_fz w φ Λ v h k e
theorem bytes_w {D : Nat → Prop} {l : List UInt8} {v : Value} (hk : ∀ b, b < w.heap.size → D b → w'.heap[b]? = w.heap[b]?) (hmay : ∀ b, b < w.heap.size → may φ Λ 0 b → may φ' Λ' 0 b) (hd : DP D v) (hr : Rep w φ Λ (.fz 0 l.length (cl bc l)) v) : Rep w' φ' Λ' (.fz 0 l.length (cl bc l)) v := by
  generalize hn : l.length = n at hr ⊢
  generalize hcs : cl bc l = cs at hr ⊢
  cases hr with
  | fz0 => exact .fz0
  | @fz _ _ _ b o cap vf hm hn' hok hc hr hp =>
    have hbl : cs.length = l.length := by rw [← hcs, bs_length]
    obtain ⟨ad, mm, cap', e1, e2⟩ := hd
    cases e1
    obtain ⟨b', o', e3, e4⟩ := e2 (by omega)
    cases e3
    have hb := cell?_lt (hc 0 hp)
    refine .fz vf (hmay _ hb hm) hn' hok (fun j hj => ?_) (fun j c hj => ?_) hp
    · rw [World.cell?_of_block (hk _ hb e4)]
      exact hc j hj
    · have h2 := hr j c hj
      rw [← hcs, bs_map, List.getElem?_map, Option.map_eq_some_iff] at hj
      obtain ⟨x, _, rfl⟩ := hj
      exact rep_v h2
theorem rrs_w {n : Nat} {l : List Rr} {v : Value} (N : ∀ b o u, w.cell? ⟨b, o, none⟩ = some u → (∀ q, u ≠ .int .u8 q) → w'.cell? ⟨b, o, none⟩ = some u) (hk : ∀ b, b < w.heap.size → P b → w'.heap[b]? = w.heap[b]?) (hmay : ∀ b, b < w.heap.size → may φ Λ 0 b → may φ' Λ' 0 b)
    (h : Rep w φ Λ (.fz 0 n (cl (rrF (DP P)) l)) v) : Rep w' φ' Λ' (.fz 0 n (cl rrc l)) v :=
  rep_clw (e := 5) (by decide) rrF5 rrc5 N hmay (fun x c hc => by
    simp only [rrF, List.mem_cons, List.not_mem_nil, or_false] at hc
    rcases hc with rfl | rfl | rfl | rfl | rfl
    · exact J.nu_str
    · exact J.nu_int (by decide)
    · exact J.nu_int (by decide)
    · exact J.nu_int (by decide)
    · exact nu_p) rrc_ok (fun x _ r c' c h1 h2 u hu => by
    match r, h1, h2 with
    | 0, h1, h2 => cases h1; cases h2; exact rep_v hu
    | 1, h1, h2 => cases h1; cases h2; exact rep_v hu
    | 2, h1, h2 => cases h1; cases h2; exact rep_v hu
    | 3, h1, h2 => cases h1; cases h2; exact rep_v hu
    | 4, h1, h2 => cases h1; cases h2; exact bytes_w hk hmay (rep_pD hu) (rep_pX hu)
    | r + 5, h1, _ => cases h1) h
theorem qus_w {n : Nat} {l : List Qu} {v : Value} (N : ∀ b o u, w.cell? ⟨b, o, none⟩ = some u → (∀ q, u ≠ .int .u8 q) → w'.cell? ⟨b, o, none⟩ = some u) (hmay : ∀ b, b < w.heap.size → may φ Λ 0 b → may φ' Λ' 0 b)
    (h : Rep w φ Λ (.fz 0 n (cl quc l)) v) : Rep w' φ' Λ' (.fz 0 n (cl quc l)) v :=
  rep_clw (f := quc) (g := quc) (e := 3) (by decide) (fun _ => rfl) (fun _ => rfl) N hmay (fun x c hc => by
    simp only [quc, List.mem_cons, List.not_mem_nil, or_false] at hc
    rcases hc with rfl | rfl | rfl
    · exact J.nu_str
    · exact J.nu_int (by decide)
    · exact J.nu_int (by decide)) (fun _ => AV.oks_iff.1 rfl) (fun x _ r c' c h1 h2 u hu => by
    match r, h1, h2 with
    | 0, h1, h2 => cases h1; cases h2; exact rep_v hu
    | 1, h1, h2 => cases h1; cases h2; exact rep_v hu
    | 2, h1, h2 => cases h1; cases h2; exact rep_v hu
    | r + 3, h1, _ => cases h1) h
theorem msg_w (m : Msg) (N : ∀ b o u, w.cell? ⟨b, o, none⟩ = some u → (∀ q, u ≠ .int .u8 q) → w'.cell? ⟨b, o, none⟩ = some u) (hk : ∀ b, b < w.heap.size → P b → w'.heap[b]? = w.heap[b]?) (hmay : ∀ b, b < w.heap.size → may φ Λ 0 b → may φ' Λ' 0 b) :
    ∀ (j : Nat) (c c' : AV), (msgF (DP P) m)[j]? = some c → (msgC m)[j]? = some c' → ∀ v, Rep w φ Λ c v → Rep w' φ' Λ' c' v := fun j c c' h1 h2 v h =>
  msg_cases (P := fun c c' => ∀ u, Rep w φ Λ c u → Rep w' φ' Λ' c' u) m (rrF (DP P)) rrc (fun _ _ h => rep_v h) (fun u h => qus_w N hmay h) (fun l _ u h => rrs_w N hk hmay h) (msgF (DP P) m) (msgC m) rfl rfl j c c' h1 h2 v h
theorem rep_ptr_rn {i i' v o : Nat} {u : Value} (e : φ' i' = φ i) (h : Rep w φ Λ (.ptr i v o) u) : Rep w' φ' Λ' (.ptr i' v o) u := by
  cases h with
  | ptr h1 h2 h3 => exact .ptr (e.trans h1) h2 h3
  | ptrx h1 h2 => exact .ptrx (e.trans h1) h2
theorem BoxC.kept {arr : Array Value} {cs : List AV} {lv : Nat} (hok : AV.oks lv cs = true) (K : ∀ b, b < w.heap.size → ¬ owned φ b → w'.heap[b]? = w.heap[b]?) (M : ∀ l b, l ≤ lv → b < w.heap.size → may φ Λ l b → may φ' Λ' l b) (h : BoxC w φ Λ arr cs) : BoxC w' φ' Λ' arr cs :=
  h.map rfl fun j c c' h1 h2 v hv => by
    rw [h1] at h2
    cases h2
    exact Rep.kept K M hv (AV.oks_iff.1 hok c (List.mem_of_getElem? h1))
theorem BoxC.blind2 {arr : Array Value} {cs : List AV} (h : BoxC w φ Λ arr cs) : BoxC w' φ' Λ' arr (blindC cs) := ⟨by rw [blind_len]; exact h.1, fun j c' hj => by
  obtain ⟨c, k1, rfl⟩ := blind_get hj
  obtain ⟨v, e1, e2⟩ := h.2 j c k1
  refine ⟨v, e1, ?_⟩
  unfold bl1
  split
  · exact rep_v e2
  · exact .any⟩
theorem BoxC.wrapBlind {arr : Array Value} {cs : List AV} (h : BoxC w φ Λ arr cs) (h1 : cs.all AV.one = true) : BoxC w' φ' Λ' arr (wrapP (eqA arr) 0 (blindC cs)) := ⟨by rw [wrap_len, blind_len]; exact h.1, fun j c' hj => by
  obtain ⟨c1, k0, rfl⟩ := wrap_get hj
  obtain ⟨c, k1, rfl⟩ := blind_get k0
  obtain ⟨v, e1, e2⟩ := h.2 j c k1
  have h2 := e2.one (List.all_eq_true.1 h1 c (List.mem_of_getElem? k1))
  refine ⟨v, e1, ?_⟩
  unfold bl1
  split
  · exact rep_v e2
  · exact .p (by rw [Nat.zero_add]; exact e1) h2 .any⟩
def rnm (σ : IdMap) (φ : PMap) : PMap := fun c => match σ.get c with
  | some k => φ k
  | none => none
theorem rnm_some {σ : IdMap} {c : Nat} {l : Loc} (h : rnm σ φ c = some l) : ∃ k, σ.get c = some k ∧ φ k = some l := by
  unfold rnm at h
  cases hg : σ.get c with
  | none => rw [hg] at h; cases h
  | some k => rw [hg] at h; exact ⟨k, rfl, h⟩
theorem owned_rnm {σ : IdMap} {y : Nat} (h : owned (rnm σ φ) y) : owned φ y := by
  obtain ⟨c, l, o, h1, h2⟩ := h
  obtain ⟨k, _, h3⟩ := rnm_some h1
  exact ⟨k, l, o, h3, h2⟩
theorem get_keys : ∀ {σ : IdMap} {L : List (Nat × AObj)}, σ.map (·.1) = L.map (·.1) → ∀ c, hlook L c = none → σ.get c = none
  | [], [], _, c, _ => rfl
  | (k, x) :: r, (k', x') :: r', e, c, h => by
    simp only [List.map_cons, List.cons.injEq] at e
    obtain ⟨e1, e2⟩ := e
    subst e1
    simp only [hlook] at h
    simp only [IdMap.get]
    cases hb : Nat.beq c k with
    | true => rw [hb] at h; cases h
    | false => rw [hb] at h; exact get_keys e2 c h
  | [], _ :: _, e, _, _ => by simp at e
  | _ :: _, [], e, _, _ => by simp at e
theorem HSim.rn {h : Heap} {L : List (Nat × AObj)} (σ : IdMap) (hs : HSim w φ Λ h) (hwf : σ.wf = true) (hk : σ.map (·.1) = L.map (·.1)) (hlt : ∀ id l b o, φ id = some l → l.bo = some (b, o) → b < w'.heap.size ∧ ∀ k, ¬ Λ' k b) (hlent : ∀ k b, Λ' k b → b < w'.heap.size)
    (ho : ∀ p ∈ L, ∃ l, rnm σ φ p.1 = some l ∧ ObjRep w' (rnm σ φ) Λ' p.2 l) : HSim w' (rnm σ φ) Λ' (hlook L) where
  heap id ob e := ho _ (hlook_mem e)
  dom id e := by
    unfold rnm
    rw [get_keys hk id e]
  lt id l b o e1 e2 := by
    obtain ⟨k, _, e3⟩ := rnm_some e1
    exact hlt k l b o e3 e2
  inj id id' l l' b o o' e1 e2 e3 e4 := by
    obtain ⟨k, f1, f2⟩ := rnm_some e1
    obtain ⟨k', f3, f4⟩ := rnm_some e2
    have := hs.inj k k' l l' b o o' f2 f4 e3 e4
    subst this
    have g1 := IdMap.inv_of_get hwf f1
    rw [IdMap.inv_of_get hwf f3] at g1
    exact (Option.some.inj g1).symm
  lent := hlent
theorem HSim.of {L L0 : List (Nat × AObj)} (hs : HSim w φ Λ (hlook L0)) (hk : L0.map (·.1) = L.map (·.1)) (hlt : ∀ id l b o, φ id = some l → l.bo = some (b, o) → b < w'.heap.size ∧ ∀ k, ¬ Λ' k b) (hlent : ∀ k b, Λ' k b → b < w'.heap.size)
    (ho : ∀ p ∈ L, ∃ l, φ p.1 = some l ∧ ObjRep w' φ Λ' p.2 l) : HSim w' φ Λ' (hlook L) :=
  ⟨fun id ob e => ho _ (hlook_mem e), fun id e => hs.dom id (hlook_dom hk id e), hlt, hs.inj, hlent⟩
theorem own_stays {L L' : List (Nat × AObj)} (hs : HSim w φ Λ (hlook L)) (hs' : HSim w' φ' Λ' (hlook L')) (g : Goes w φ w' φ') (hb : ∀ p ∈ L, p.1 < 8 ∧ ∃ cs cs', p.2 = .box cs ∧ hlook L' p.1 = some (.box cs')) {y : Nat} (ho : owned φ y) : owned φ' y := by
  obtain ⟨id, l, o, h1, h2⟩ := ho
  cases hl : hlook L id with
  | none => rw [hs.dom id hl] at h1; cases h1
  | some ob =>
    obtain ⟨h8, cs, cs', e1, e2⟩ := hb _ (hlook_mem hl)
    simp only at e1 h8 e2
    subst e1
    obtain ⟨l0, k1, b0, arr0, T0, k2, k3, _⟩ := hs.heap id _ hl
    rw [h1] at k1
    cases k1
    obtain ⟨l', f1, f2, _⟩ := g.pin id l h8 h1
    obtain ⟨l1, m1, b1, arr1, T1, m2, m3, _⟩ := hs'.heap id _ e2
    rw [f1] at m1
    cases m1
    rcases f2 with f2 | f2
    · rw [f2] at f1; exact ⟨id, l, o, f1, h2⟩
    · omega
theorem BoxAt.to {w1 : World} {φ1 : PMap} {id id' b : Nat} {arr : Array Value} (h : BoxAt w φ id b arr) (e : φ1 id' = φ id) (hh : w1.heap[b]? = w.heap[b]?) : BoxAt w1 φ1 id' b arr := by
  obtain ⟨⟨l, h1, h2, h3⟩, ⟨T, h4⟩⟩ := h
  exact ⟨⟨l, e.trans h1, h2, h3⟩, ⟨T, hh.trans h4⟩⟩
theorem BoxAt.owned {id b : Nat} {arr : Array Value} (h : BoxAt w φ id b arr) : owned φ b := by
  obtain ⟨⟨l, h1, h2, _⟩, _⟩ := h
  exact ⟨id, l, 0, h1, h2⟩
end
theorem told_same {cs : List AV} : ∀ (j : Nat) (x : Value) (c : AV), cs[j]? = some (.v x) → cs[j]? = some c → c = .v x := fun j x c h1 h2 => by rw [h1] at h2; cases h2; rfl
theorem told_tr {t : Tr} : ∀ (j : Nat) (x : Value) (c : AV), (trC1 t)[j]? = some (.v x) → (trC t)[j]? = some c → c = .v x := fun j x c h1 h2 => by
  match j, h1, h2 with
  | 0, h1, _ => cases h1
  | 1, h1, _ => cases h1
  | j + 2, h1, _ => cases h1
theorem told_msg {m : Msg} : ∀ (j : Nat) (x : Value) (c : AV), (msgC1 m)[j]? = some (.v x) → (msgC m)[j]? = some c → c = .v x := fun j x c h1 h2 => by
  match j, h1, h2 with
  | 0, h1, h2 => cases h1; cases h2; rfl
  | 1, h1, h2 => cases h1; cases h2; rfl
  | 2, h1, h2 => cases h1; cases h2; rfl
  | 3, h1, h2 => cases h1; cases h2; rfl
  | 4, h1, h2 => cases h1; cases h2; rfl
  | 5, h1, h2 => cases h1; cases h2; rfl
  | 6, h1, h2 => cases h1; cases h2; rfl
  | 7, h1, h2 => cases h1; cases h2; rfl
  | 8, h1, _ => cases h1
  | 9, h1, _ => cases h1
  | 10, h1, _ => cases h1
  | 11, h1, _ => cases h1
  | j + 12, h1, _ => cases h1
theorem told_blind {cs : List AV} : ∀ (j : Nat) (x : Value) (c : AV), (blindC cs)[j]? = some (.v x) → cs[j]? = some c → c = .v x := fun j x c h1 h2 => by
  obtain ⟨c1, k1, k2⟩ := blind_get h1
  rw [h2] at k1
  cases k1
  unfold bl1 at k2
  split at k2
  · exact k2.symm
  · cases k2
end Go.Proofs.Ytokccoloholgaaa.Fw


set_option linter.unusedVariables false
set_option linter.unusedSimpArgs false
namespace Go.Proofs.Ytokccoloholgaaa.Fw
open Go.RowKit
def phA (φ : PMap) : PMap := rnm [(1, 100), (2, 101), (3, 202)] φ
def phZ (φ : PMap) : PMap := rnm [(100, 1), (101, 2), (307, 4), (407, 407)] φ
def LtA (w : World) (φ : PMap) (Λ : Lent) : Lent := fun k y => Λ k y ∨ (k = 1 ∧ y < w.heap.size ∧ ¬ owned φ y)
def Rg (w w1 : World) (y : Nat) : Prop := w.heap.size ≤ y ∧ y < w1.heap.size
def LtB (w w1 : World) (φ : PMap) (Λ : Lent) : Lent := fun k y => Λ k y ∨ (k = 5 ∧ Rg w w1 y ∧ ¬ owned φ y)
theorem BoxC.gone {w w' : World} {φ φa φ' : PMap} {Λ Λ' : Lent} {arr : Array Value} {cs : List AV} (hok : AV.oks 0 cs = true) (ho : ∀ b, owned φa b → owned φ b) (g : Goes w φa w' φ') (hl : ∀ k b, b < w.heap.size → Λ' k b → Λ k b) (h : BoxC w φ Λ arr cs) : BoxC w' φ' Λ' arr cs :=
  h.kept hok (fun b hb hn => g.keep b hb fun k => hn (ho b k)) fun l b _ hb hm => ⟨fun k => (g.own b k).elim (fun k => hm.1 (ho b k)) fun k => by omega, fun k hk hk2 => hm.2 k hk (hl k b hb hk2)⟩
section
variable {n : Nat} {t : Tr} {a : Int} {m : Msg} {w w1 w2 : World} {φ φ2 φ4 : PMap} {Λ : Lent} {x : Act} {arT arM arG arA : Array Value}
theorem owned_phA {b : Nat} (h : owned (phA φ) b) : owned φ b := owned_rnm h
set_option maxRecDepth 20000 in
theorem sw1 (hs : Sim n w φ Λ (Y1 t a m) x) : ∃ arT arM arG, BoxC w φ Λ arT (trC t) ∧ BoxC w φ Λ arM (msgC m) ∧ BoxC w φ Λ arG (msgC m) ∧ (∀ id, id < 8 → φ id = none) ∧ Sim n w (phA φ) (LtA w φ Λ) (Y2 t a m (eqA arT) (eqA arM) (eqA arG)) x := by
  obtain ⟨bT, arT, aT, cT⟩ := box_of hs.hs (id := 100) (cs := trC t) rfl
  obtain ⟨bM, arM, aM, cM⟩ := box_of hs.hs (id := 101) (cs := msgC m) rfl
  obtain ⟨bG, arG, aG, cG⟩ := box_of hs.hs (id := 202) (cs := msgC m) rfl
  have up : ∀ b, b < w.heap.size → may φ Λ 0 b → may (phA φ) (LtA w φ Λ) 1 b := fun b _ hm => ⟨fun k => hm.1 (owned_phA k), fun k hk hl => by
    rcases hl with hl | ⟨rfl, _⟩
    · exact hm.2 k (by omega) hl
    · omega⟩
  refine ⟨arT, arM, arG, cT, cM, cG, fun id hid => hs.hs.dom id ?_, hs.defs, hs.size, fun i => ?_, ?_⟩
  · match id, hid with
    | 0, _ => rfl
    | 1, _ => rfl
    | 2, _ => rfl
    | 3, _ => rfl
    | 4, _ => rfl
    | 5, _ => rfl
    | 6, _ => rfl
    | 7, _ => rfl
  · match i with
    | 0 => exact .any
    | 1 => exact rep_v (show Rep w φ Λ (i64 a) (x.tmps.getD 1 undef) from hs.tmps 1)
    | 2 => exact .any
    | 3 => exact rep_ptr_rn (i := 100) rfl (show Rep w φ Λ (.ptr 100 0 0) (x.tmps.getD 3 undef) from hs.tmps 3)
    | 4 => exact .any
    | 5 => exact rep_ptr_rn (i := 101) rfl (show Rep w φ Λ (.ptr 101 0 0) (x.tmps.getD 5 undef) from hs.tmps 5)
    | 6 => exact .any
    | 7 => exact rep_ptr_rn (i := 202) rfl (show Rep w φ Λ (.ptr 202 0 0) (x.tmps.getD 7 undef) from hs.tmps 7)
    | i + 8 => exact .any
  · refine HSim.rn [(1, 100), (2, 101), (3, 202)] hs.hs rfl rfl (fun id l b o e1 e2 => ⟨(hs.hs.lt id l b o e1 e2).1, fun k hk => ?_⟩) (fun k b hk => ?_) (fun p hp => ?_)
    · rcases hk with hk | hk
      · exact (hs.hs.lt id l b o e1 e2).2 k hk
      · exact hk.2.2 ⟨id, l, o, e1, e2⟩
    · rcases hk with hk | hk
      · exact hs.hs.lent k b hk
      · exact hk.2.1
    · simp only [List.mem_cons, List.not_mem_nil, or_false] at hp
      rcases hp with rfl | rfl | rfl
      · exact of_box (aT.to (id' := 1) rfl rfl) ((cT.map (cs' := trC1 t) rfl fun j c c' h1 h2 v hv => tr_upc up t j c c' h1 h2 v hv).wrap rfl)
      · exact of_box (aM.to (id' := 2) rfl rfl) ((cM.map (cs' := msgC1 m) rfl fun j c c' h1 h2 v hv => msg_upc up m j c c' h1 h2 v hv).wrap rfl)
      · exact of_box (aG.to (id' := 3) rfl rfl) ((cG.map (cs' := msgC1 m) rfl fun j c c' h1 h2 v hv => msg_upc up m j c c' h1 h2 v hv).wrap rfl)
theorem own_cov {L : List (Nat × AObj)} {h : Heap} {σ : IdMap} (hs : HSim w φ Λ h) (e : h = hlook L) (hc : ∀ p ∈ L, ∃ c, σ.get c = some p.1) {y : Nat} (ho : owned φ y) : owned (rnm σ φ) y := by
  subst e
  obtain ⟨id, l, o, h1, h2⟩ := ho
  cases hl : hlook L id with
  | none => rw [hs.dom id hl] at h1; cases h1
  | some ob =>
    obtain ⟨c, hc⟩ := hc _ (hlook_mem hl)
    exact ⟨c, l, o, by unfold rnm; rw [hc]; exact h1, h2⟩
theorem own_phA (hs : Sim n w φ Λ (Y1 t a m) x) {y : Nat} (ho : owned φ y) : owned (phA φ) y := by
  refine own_cov hs.hs (L := [(100, .box (trC t)), (101, .box (msgC m)), (202, .box (msgC m))]) rfl (fun p hp => ?_) ho
  simp only [List.mem_cons, List.not_mem_nil, or_false] at hp
  rcases hp with rfl | rfl | rfl
  · exact ⟨1, rfl⟩
  · exact ⟨2, rfl⟩
  · exact ⟨3, rfl⟩
set_option maxRecDepth 20000 in
theorem sw3 {x1 : Act} (cT : BoxC w φ Λ arT (trC t)) (cM : BoxC w φ Λ arM (msgC m)) (cG : BoxC w φ Λ arG (msgC m)) (cov : ∀ y, owned φ y → owned (phA φ) y) (hs2 : Sim n w (phA φ) (LtA w φ Λ) (Y2 t a m (eqA arT) (eqA arM) (eqA arG)) x) (hs : Sim n w1 φ2 (LtA w φ Λ) (Y2b t a m (eqA arT) (eqA arM) (eqA arG)) x1) (g : Goes w (phA φ) w1 φ2) :
    ∃ arA, BoxC w1 φ2 Λ arA (msgF (DP (Rg w w1)) (serV t a m)) ∧ Sim n w1 φ2 (LtB w w1 φ2 Λ) (Y3 t a m (eqA arT) (eqA arM) (eqA arG) (eqA arA)) x1 := by
  obtain ⟨b1, ar1, a1, c1⟩ := box_of hs.hs (id := 1) (cs := wrapP (eqA arT) 0 (trC1 t)) rfl
  obtain ⟨b2, ar2, a2, c2⟩ := box_of hs.hs (id := 2) (cs := wrapP (eqA arM) 0 (msgC1 m)) rfl
  obtain ⟨b3, ar3, a3, c3⟩ := box_of hs.hs (id := 3) (cs := wrapP (eqA arG) 0 (msgC1 m)) rfl
  obtain ⟨b4, arA, a4, c4⟩ := box_of hs.hs (id := 4) (cs := msgC (serV t a m)) rfl
  obtain rfl := c1.told cT rfl told_tr
  obtain rfl := c2.told cM rfl told_msg
  obtain rfl := c3.told cG rfl told_msg
  have old : ∀ k b, b < w.heap.size → LtB w w1 φ2 Λ k b → Λ k b := fun k b hb hk => by
    rcases hk with hk | ⟨_, hk, _⟩
    · exact hk
    · exact absurd hk.1 (by omega)
  have stay : ∀ y, owned (phA φ) y → owned φ2 y := fun y ho => by
    refine own_stays (L := [(1, .box (wrapP (eqA ar1) 0 (trC1 t))), (2, .box (wrapP (eqA ar2) 0 (msgC1 m))), (3, .box (wrapP (eqA ar3) 0 (msgC1 m)))])
      (L' := [(1, .box (wrapP (eqA ar1) 0 (trC1 t))), (2, .box (wrapP (eqA ar2) 0 (msgC1 m))), (3, .box (wrapP (eqA ar3) 0 (msgC1 m))), (4, .box (msgC (serV t a m)))]) hs2.hs hs.hs g (fun p hp => ?_) ho
    simp only [List.mem_cons, List.not_mem_nil, or_false] at hp
    rcases hp with rfl | rfl | rfl
    · exact ⟨Nat.le_of_ble_eq_true rfl, _, _, rfl, rfl⟩
    · exact ⟨Nat.le_of_ble_eq_true rfl, _, _, rfl, rfl⟩
    · exact ⟨Nat.le_of_ble_eq_true rfl, _, _, rfl, rfl⟩
  have fresh : ∀ b, b < w1.heap.size → may φ2 (LtA w φ Λ) 0 b → Rg w w1 b := fun b hb hm => ⟨Nat.le_of_not_lt fun hlt => hm.2 1 (by omega) (.inr ⟨rfl, hlt, fun ho => hm.1 (stay b (cov b ho))⟩), hb⟩
  have sub : ∀ l b, may φ2 (LtA w φ Λ) l b → may φ2 Λ l b := fun l b hm => ⟨hm.1, fun k hk hl => hm.2 k hk (.inl hl)⟩
  refine ⟨arA, c4.map rfl fun j c c' h1 h2 v hv => msg_toP (serV t a m) fresh sub j c c' h1 h2 v hv, hs.defs, hs.size, fun i => ?_, ?_⟩
  · match i with
    | 0 => exact .any
    | 1 => exact rep_v (show Rep w1 φ2 (LtA w φ Λ) (i64 a) (x1.tmps.getD 1 undef) from hs.tmps 1)
    | 2 => exact .any
    | 3 => exact rep_ptr_rn (i := 1) rfl (show Rep w1 φ2 (LtA w φ Λ) (.ptr 1 0 0) (x1.tmps.getD 3 undef) from hs.tmps 3)
    | 4 => exact .any
    | 5 => exact rep_ptr_rn (i := 2) rfl (show Rep w1 φ2 (LtA w φ Λ) (.ptr 2 0 0) (x1.tmps.getD 5 undef) from hs.tmps 5)
    | 6 => exact .any
    | 7 => exact rep_ptr_rn (i := 3) rfl (show Rep w1 φ2 (LtA w φ Λ) (.ptr 3 0 0) (x1.tmps.getD 7 undef) from hs.tmps 7)
    | 8 => exact rep_ptr_rn (i := 4) rfl (show Rep w1 φ2 (LtA w φ Λ) (.ptr 4 0 0) (x1.tmps.getD 8 undef) from hs.tmps 8)
    | 9 => exact rep_v (show Rep w1 φ2 (LtA w φ Λ) (tf (serO t a m)) (x1.tmps.getD 9 undef) from hs.tmps 9)
    | i + 10 => exact .any
  · refine HSim.of (L0 := [(1, .box (wrapP (eqA ar1) 0 (trC1 t))), (2, .box (wrapP (eqA ar2) 0 (msgC1 m))), (3, .box (wrapP (eqA ar3) 0 (msgC1 m))), (4, .box (msgC (serV t a m)))]) hs.hs rfl (fun id l b o e1 e2 => ⟨(hs.hs.lt id l b o e1 e2).1, fun k hk => ?_⟩) (fun k b hk => ?_) (fun p hp => ?_)
    · rcases hk with hk | hk
      · exact (hs.hs.lt id l b o e1 e2).2 k (.inl hk)
      · exact hk.2.2 ⟨id, l, o, e1, e2⟩
    · rcases hk with hk | hk
      · exact hs.hs.lent k b (.inl hk)
      · exact hk.2.1.2
    · simp only [List.mem_cons, List.not_mem_nil, or_false] at hp
      rcases hp with rfl | rfl | rfl | rfl
      · exact of_box a1 ((cT.gone rfl (fun _ => owned_phA) g old).wrap rfl)
      · exact of_box a2 ((cM.gone rfl (fun _ => owned_phA) g old).wrap rfl)
      · exact of_box a3 ((cG.gone rfl (fun _ => owned_phA) g old).wrap rfl)
      · exact of_box a4 (c4.wrapBlind rfl)
set_option maxRecDepth 20000 in
theorem sw4 {x1 x2 : Act} (cT : BoxC w φ Λ arT (trC t)) (cM : BoxC w φ Λ arM (msgC m)) (cG : BoxC w φ Λ arG (msgC m)) (cA : BoxC w1 φ2 Λ arA (msgF (DP (Rg w w1)) (serV t a m))) (hs3 : Sim n w1 φ2 (LtB w w1 φ2 Λ) (Y3 t a m (eqA arT) (eqA arM) (eqA arG) (eqA arA)) x1)
    (hs : Sim n w2 φ4 (LtB w w1 φ2 Λ) (Y3b t a m (eqA arT) (eqA arM) (eqA arG) (eqA arA)) x2) (g1 : Goes w (phA φ) w1 φ2) (g2 : Goes w1 φ2 w2 φ4) : Sim n w2 φ4 Λ (Y4 t a m (eqA arT) (eqA arM) (eqA arG) (DP (Rg w w1)) (DP fun y => ¬ Rg w w1 y)) x2 := by
  have g := g1.trans g2
  obtain ⟨b1, ar1, a1, c1⟩ := box_of hs.hs (id := 1) (cs := wrapP (eqA arT) 0 (trC t)) rfl
  obtain ⟨b2, ar2, a2, c2⟩ := box_of hs.hs (id := 2) (cs := wrapP (eqA arM) 0 (msgC m)) rfl
  obtain ⟨b3, ar3, a3, c3⟩ := box_of hs.hs (id := 3) (cs := wrapP (eqA arG) 0 (msgC m)) rfl
  obtain ⟨b4, ar4, a4, c4⟩ := box_of hs.hs (id := 4) (cs := wrapP (eqA arA) 0 (blindC (msgC (serV t a m)))) rfl
  obtain ⟨b5, ar5, a5, c5⟩ := box_of hs.hs (id := 407) (cs := msgC (serV t a m)) rfl
  obtain rfl := c1.told cT rfl told_same
  obtain rfl := c2.told cM rfl told_same
  obtain rfl := c3.told cG rfl told_same
  obtain rfl := c4.told cA rfl (told_blind (cs := msgF (DP (Rg w w1)) (serV t a m)))
  have stay : ∀ y, owned φ2 y → owned φ4 y := fun y ho => by
    refine own_stays (L := [(1, .box (wrapP (eqA ar1) 0 (trC t))), (2, .box (wrapP (eqA ar2) 0 (msgC m))), (3, .box (wrapP (eqA ar3) 0 (msgC m))), (4, .box (wrapP (eqA ar4) 0 (blindC (msgC (serV t a m)))))])
      (L' := [(1, .box (wrapP (eqA ar1) 0 (trC t))), (2, .box (wrapP (eqA ar2) 0 (msgC m))), (3, .box (wrapP (eqA ar3) 0 (msgC m))), (4, .box (wrapP (eqA ar4) 0 (blindC (msgC (serV t a m))))), (407, .box (msgC (serV t a m)))]) hs3.hs hs.hs g2 (fun p hp => ?_) ho
    simp only [List.mem_cons, List.not_mem_nil, or_false] at hp
    rcases hp with rfl | rfl | rfl | rfl
    · exact ⟨Nat.le_of_ble_eq_true rfl, _, _, rfl, rfl⟩
    · exact ⟨Nat.le_of_ble_eq_true rfl, _, _, rfl, rfl⟩
    · exact ⟨Nat.le_of_ble_eq_true rfl, _, _, rfl, rfl⟩
    · exact ⟨Nat.le_of_ble_eq_true rfl, _, _, rfl, rfl⟩
  have apart : ∀ b, b < w2.heap.size → may φ4 (LtB w w1 φ2 Λ) 0 b → ¬ Rg w w1 b := fun b hb hm hR => hm.2 5 (by omega) (.inr ⟨rfl, hR, fun ho => hm.1 (stay b ho)⟩)
  have sub : ∀ l b, may φ4 (LtB w w1 φ2 Λ) l b → may φ4 Λ l b := fun l b hm => ⟨hm.1, fun k hk hl => hm.2 k hk (.inl hl)⟩
  refine ⟨hs.defs, hs.size, fun i => ?_, ?_⟩
  · match i with
    | 0 => exact .any
    | 1 => exact rep_v (show Rep w2 φ4 (LtB w w1 φ2 Λ) (i64 a) (x2.tmps.getD 1 undef) from hs.tmps 1)
    | 2 => exact .any
    | 3 => exact rep_ptr_rn (i := 1) rfl (show Rep w2 φ4 (LtB w w1 φ2 Λ) (.ptr 1 0 0) (x2.tmps.getD 3 undef) from hs.tmps 3)
    | 4 => exact .any
    | 5 => exact rep_ptr_rn (i := 2) rfl (show Rep w2 φ4 (LtB w w1 φ2 Λ) (.ptr 2 0 0) (x2.tmps.getD 5 undef) from hs.tmps 5)
    | 6 => exact .any
    | 7 => exact rep_ptr_rn (i := 3) rfl (show Rep w2 φ4 (LtB w w1 φ2 Λ) (.ptr 3 0 0) (x2.tmps.getD 7 undef) from hs.tmps 7)
    | 8 => exact rep_ptr_rn (i := 4) rfl (show Rep w2 φ4 (LtB w w1 φ2 Λ) (.ptr 4 0 0) (x2.tmps.getD 8 undef) from hs.tmps 8)
    | 9 => exact rep_v (show Rep w2 φ4 (LtB w w1 φ2 Λ) (tf (serO t a m)) (x2.tmps.getD 9 undef) from hs.tmps 9)
    | 10 => exact rep_ptr_rn (i := 407) rfl (show Rep w2 φ4 (LtB w w1 φ2 Λ) (.ptr 407 0 0) (x2.tmps.getD 10 undef) from hs.tmps 10)
    | 11 => exact rep_v (show Rep w2 φ4 (LtB w w1 φ2 Λ) (tf (serO t a m)) (x2.tmps.getD 11 undef) from hs.tmps 11)
    | i + 12 => exact .any
  · refine HSim.of (L0 := [(1, .box (wrapP (eqA ar1) 0 (trC t))), (2, .box (wrapP (eqA ar2) 0 (msgC m))), (3, .box (wrapP (eqA ar3) 0 (msgC m))), (4, .box (wrapP (eqA ar4) 0 (blindC (msgC (serV t a m))))), (407, .box (msgC (serV t a m)))]) hs.hs rfl (fun id l b o e1 e2 => ⟨(hs.hs.lt id l b o e1 e2).1, fun k hk => (hs.hs.lt id l b o e1 e2).2 k (.inl hk)⟩) (fun k b hk => hs.hs.lent k b (.inl hk)) (fun p hp => ?_)
    simp only [List.mem_cons, List.not_mem_nil, or_false] at hp
    rcases hp with rfl | rfl | rfl | rfl | rfl
    · exact of_box a1 ((cT.gone rfl (fun _ => owned_phA) g (fun _ _ _ h => h)).wrap rfl)
    · exact of_box a2 ((cM.gone rfl (fun _ => owned_phA) g (fun _ _ _ h => h)).wrap rfl)
    · exact of_box a3 ((cG.gone rfl (fun _ => owned_phA) g (fun _ _ _ h => h)).wrap rfl)
    · exact of_box a4 (cA.gone rfl (fun _ h => h) g2 (fun _ _ _ h => h))
    · exact of_box a5 (c5.map rfl fun j c c' h1 h2 v hv => msg_toP (serV t a m) apart sub j c c' h1 h2 v hv)
end
end Go.Proofs.Ytokccoloholgaaa.Fw


set_option linter.unusedVariables false
set_option linter.unusedSimpArgs false
namespace Go.Proofs.Ytokccoloholgaaa.Fw
open Go.RowKit
def JR (P : Nat → Prop) (w : World) (φ : PMap) (b o : Nat) : Prop := P b ∧ ¬ owned φ b ∧ ∃ c : UInt8, w.cell? ⟨b, o, none⟩ = some (.int .u8 c.toNat)
section
variable {P : Nat → Prop} {w : World} {φ : PMap} {Λ : Lent} {v : Value}
theorem rep_toJR {n : Nat} {l : List Rr} (hl : ∀ x ∈ l, x.da.length ≤ 140737488355328) (h : Rep w φ Λ (.fz 0 n (cl (rrF (DP P)) l)) v) : Rep w (fun _ => none) NoL (.fz 0 n (cl (@J.rrJ ⟨JR P w φ⟩) l)) v :=
  rep_cl5 rrF5 (fun _ => rfl) (fun b _ => ⟨fun h => owned_none h, fun _ _ h => h.elim⟩) (fun x => AV.oks_iff.1 rfl) (fun x hx r c' c h1 h2 u hu => by
    match r, h1, h2 with
    | 0, h1, h2 => cases h1; cases h2; exact rep_v hu
    | 1, h1, h2 => cases h1; cases h2; exact rep_v hu
    | 2, h1, h2 => cases h1; cases h2; exact rep_v hu
    | 3, h1, h2 => cases h1; cases h2; exact rep_v hu
    | 4, h1, h2 =>
      cases h1
      cases h2
      obtain ⟨ad, m, cap, e1, e2⟩ := rep_pD hu
      obtain ⟨ad', cap', e3, e4⟩ := bytes_at (rep_pX hu)
      rw [e3] at e1
      cases e1
      subst e3
      refine .p ⟨x.da.length, hl x hx, ad, cap, rfl, fun hp => ?_⟩ rfl .any
      obtain ⟨b, o, f1, f2⟩ := e2 hp
      obtain ⟨b', o', f3, f4, f5⟩ := e4 hp
      rw [f1] at f3
      cases f3
      exact ⟨b, o, f1, fun j hj => ⟨f2, f4.1, _, f5 j hj⟩⟩
    | r + 5, h1, _ => cases h1) h
theorem msg_toJR {m : Msg} (hm : MsgOk m) (h : Rep w φ Λ (.agg (msgF (DP P) m)) v) : Rep w (fun _ => none) NoL (.agg (@J.msgJ ⟨JR P w φ⟩ m)) v := by
  have hd : ∀ x, x ∈ m.an ∨ x ∈ m.au ∨ x ∈ m.ad → x.da.length ≤ 140737488355328 := fun x hx => by
    rcases hx with hx | hx | hx
    · have := hm.2.1.2 x hx; omega
    · have := hm.2.2.1.2 x hx; omega
    · have := hm.2.2.2.2 x hx; omega
  exact agg_of (cs := msgF (DP P) m) (cs' := @J.msgJ ⟨JR P w φ⟩ m) rfl (msg_cases (P := fun c c' => ∀ u, Rep w φ Λ c u → Rep w (fun _ => none) NoL c' u) m (rrF (DP P)) (@J.rrJ ⟨JR P w φ⟩) (fun _ _ h => rep_v h)
    (fun u h => h.move (lv := 0) (fun _ _ _ _ _ => ⟨fun h => owned_none h, fun _ _ h => h.elim⟩) rfl) (fun l hl u h => rep_toJR (fun x hx => hd x (hl x hx)) h) _ _ rfl rfl) h
end
section
variable {n : Nat} {t : Tr} {a : Int} {m : Msg} {w w1 w4 w5 : World} {φ φ7 : PMap} {Λ : Lent} {x : Act} {arT arM arG : Array Value}
theorem owned_phZ {b : Nat} (h : owned (phZ φ) b) : owned φ b := owned_rnm h
theorem sw7 (P : Nat → Prop) (hP : ∀ b, b < w.heap.size → ¬ P b) (cT : BoxC w φ Λ arT (trC t)) (cM : BoxC w φ Λ arM (msgC m)) (hlt : w.heap.size ≤ w4.heap.size) {d : Nat} {u v : Value} {y : AV} (hd1 : d ≠ 1) (hd3 : d ≠ 3) (hd5 : d ≠ 5) (hd10 : d ≠ 10) (ha : a = a)
    (hs : Sim n w4 φ7 Λ ((Y6 t a m (eqA arT) (eqA arM) (eqA arG) (DP P) (DP fun y => ¬ P y)).put (some 45) y) x) (g : Goes w (phA φ) w4 φ7)
    (keep : ∀ b, b < w4.heap.size → (∀ o, ¬ JR P w4 φ7 b o) → w5.heap[b]? = w4.heap[b]?) (kc : ∀ b o u, ¬ JR P w4 φ7 b o → w4.cell? ⟨b, o, none⟩ = some u → w5.cell? ⟨b, o, none⟩ = some u) (hsz : w4.heap.size ≤ w5.heap.size) :
    Sim n w5 (phZ φ7) Λ (Y7 t a m) (x.put (some d) v) := by
  have hh : HSim w4 φ7 Λ (hlook [(1, .box (wrapP (eqA arT) 0 (trC t))), (2, .box (wrapP (eqA arM) 0 (msgC m))), (3, .box (wrapP (eqA arG) 0 (msgC m))), (4, .box (msgF (DP P) (serV t a m))), (407, .box (msgF (DP fun y => ¬ P y) (serV t a m)))]) := hs.hs
  obtain ⟨b1, ar1, a1, c1⟩ := box_of hh (id := 1) (cs := wrapP (eqA arT) 0 (trC t)) rfl
  obtain ⟨b2, ar2, a2, c2⟩ := box_of hh (id := 2) (cs := wrapP (eqA arM) 0 (msgC m)) rfl
  obtain ⟨b4, ar4, a4, c4⟩ := box_of hh (id := 4) (cs := msgF (DP P) (serV t a m)) rfl
  obtain ⟨b5, ar5, a5, c5⟩ := box_of hh (id := 407) (cs := msgF (DP fun y => ¬ P y) (serV t a m)) rfl
  obtain rfl := c1.told cT rfl told_same
  obtain rfl := c2.told cM rfl told_same
  have own : ∀ b, owned φ7 b → w5.heap[b]? = w4.heap[b]? := fun b ho => keep b (by
    obtain ⟨id, l, o, e1, e2⟩ := ho
    exact (hh.lt id l b o e1 e2).1) fun o hj => hj.2.1 ho
  have old : ∀ b, b < w.heap.size → ¬ owned φ b → w5.heap[b]? = w.heap[b]? := fun b hb ho => by
    rw [keep b (by omega) fun o hj => hP b hb hj.1, g.keep b hb fun k => ho (owned_phA k)]
  have M : ∀ l b, l ≤ 0 → b < w.heap.size → may φ Λ l b → may (phZ φ7) Λ l b := fun l b _ hb hm => ⟨fun k => (g.own b (owned_phZ k)).elim (fun k => hm.1 (owned_phA k)) fun k => by omega, hm.2⟩
  have ev : ∀ i, i ≠ d → (x.put (some d) v).tmps.getD i undef = x.tmps.getD i undef := fun i hi => put_get (by simpa using fun e => hi e.symm)
  refine ⟨hs.defs, by have := hs.size; simpa [Act.put] using this, fun i => ?_, ?_⟩
  · match i with
    | 0 => exact .any
    | 1 => rw [ev 1 (Ne.symm hd1)]; exact rep_v (show Rep w4 φ7 Λ (i64 a) (x.tmps.getD 1 undef) from hs.tmps 1)
    | 2 => exact .any
    | 3 => rw [ev 3 (Ne.symm hd3)]; exact rep_ptr_rn (i := 1) rfl (show Rep w4 φ7 Λ (.ptr 1 0 0) (x.tmps.getD 3 undef) from hs.tmps 3)
    | 4 => exact .any
    | 5 => rw [ev 5 (Ne.symm hd5)]; exact rep_ptr_rn (i := 2) rfl (show Rep w4 φ7 Λ (.ptr 2 0 0) (x.tmps.getD 5 undef) from hs.tmps 5)
    | 6 => exact .any
    | 7 => exact .any
    | 8 => exact .any
    | 9 => exact .any
    | 10 => rw [ev 10 (Ne.symm hd10)]; exact rep_ptr_rn (φ := φ7) (φ' := phZ φ7) (i := 407) rfl (show Rep w4 φ7 Λ (.ptr 407 0 0) (x.tmps.getD 10 undef) from hs.tmps 10)
    | i + 11 => exact .any
  · refine HSim.rn (w' := w5) (Λ' := Λ) [(100, 1), (101, 2), (307, 4), (407, 407)] hh rfl rfl (fun id l b o e1 e2 => ⟨Nat.lt_of_lt_of_le (hh.lt id l b o e1 e2).1 hsz, (hh.lt id l b o e1 e2).2⟩) (fun k b hk => Nat.lt_of_lt_of_le (hh.lent k b hk) hsz) (fun p hp => ?_)
    simp only [List.mem_cons, List.not_mem_nil, or_false] at hp
    rcases hp with rfl | rfl | rfl | rfl
    · exact of_box (a1.to (id' := 100) rfl (own b1 a1.owned)) (cT.kept rfl old M)
    · exact of_box (a2.to (id' := 101) rfl (own b2 a2.owned)) (cM.kept rfl old M)
    · exact of_box (a4.to (id' := 307) rfl (own b4 a4.owned)) (BoxC.blind2 (cs := msgF (DP P) (serV t a m)) c4)
    · refine of_box (a5.to (id' := 407) rfl (own b5 a5.owned)) (c5.map rfl fun j c c' h1 h2 v hv => msg_w (P := fun y => ¬ P y) (serV t a m) (fun b o u hc hu => kc b o u (fun hj => ?_) hc) (fun b hb hn => keep b hb fun o hj => hn hj.1) (fun b _ hm => ⟨fun k => hm.1 (owned_phZ k), hm.2⟩) j c c' h1 h2 v hv)
      obtain ⟨_, _, k, hk⟩ := hj
      rw [hk] at hc
      cases hc
      exact hu _ rfl
theorem goZ (P : Nat → Prop) (hP : ∀ b, b < w.heap.size → ¬ P b) (h8 : ∀ id, id < 8 → φ id = none) (g : Goes w (phA φ) w4 φ7) (keep : ∀ b, b < w4.heap.size → (∀ o, ¬ JR P w4 φ7 b o) → w5.heap[b]? = w4.heap[b]?) (hsz : w4.heap.size ≤ w5.heap.size)
    (ho : w5.os = w4.os) (ht : w5.tape = w4.tape) (hu : w5.output = w4.output) (hf : Fro w4 w5) : Goes w φ w5 (phZ φ7) :=
  ⟨fun b hb hn => by rw [keep b (Nat.lt_of_lt_of_le hb g.size) fun o hj => hP b hb hj.1, g.keep b hb fun k => hn (owned_phA k)], Nat.le_trans g.size hsz, fun b hb => (g.own b (owned_phZ hb)).imp owned_phA id, ho.trans g.os, ht.trans g.tape, hu.trans g.output, Pin.none _ _ h8, g.fro.trans hf⟩
end
section
variable (t : Tr) (a : Int) (m : Msg)
set_option maxRecDepth 20000 in
set_option maxHeartbeats 2000000 in
theorem zr_mid (ht : TrOk t) (hm : MsgOk m) (hn : NmOk m) : AWp Try.prog Try.f7.ntmps (.seq z2 (.seq z3 (.seq z4 (.seq z6 z7)))) (Post te Try.f7 (Ret (tf true))) (Y1 t a m) := by
  intro Λ w φ x hs QQ hQ
  have hsv := serV_ok (a := a) ht hm
  obtain ⟨arT, arM, arG, cT, cM, cG, h8, hs2⟩ := sw1 hs
  refine wp_seq (zr_2 t a m _ _ _ ht hm hn _ w _ x hs2 _ ?_)
  rintro ae s' w1' φ1 x1 ⟨rfl, hW⟩ hs' g1
  obtain ⟨φ2, hs2b, g2⟩ := hW _ _ w1' φ1 x1 hs'
  obtain ⟨arA, cA, hs3⟩ := sw3 cT cM cG (fun y => own_phA hs) hs2 hs2b (g1.trans g2)
  refine wp_seq (zr_3 t a m _ _ _ _ ht hm hn _ w1' φ2 x1 hs3 _ ?_)
  rintro ae s3' w2' φ3 x2 ⟨rfl, hW3⟩ hs3' g3
  obtain ⟨φ4, hs3b, g4⟩ := hW3 _ _ w2' φ3 x2 hs3'
  have hs4 := sw4 cT cM cG cA hs3 hs3b (g1.trans g2) (g3.trans g4)
  refine wp_seq (zr_4 t a m _ _ _ ht hm _ _ Λ w2' φ4 x2 hs4 _ ?_)
  rintro ae s4' w3' φ5 x3 ⟨rfl, hW4⟩ hs4' g5
  obtain ⟨φ6, hs6, g6⟩ := hW4 _ Λ w3' φ5 x3 hs4'
  refine wp_seq (wp_region ?_)
  change wpOps Try.prog (oC z6) _ [0, 1] x3 w3'
  refine wpOps_ok (o := (oC z6)[0]!) (s' := (Y6 t a m (eqA arT) (eqA arM) (eqA arG) (DP (Rg w w1')) (DP fun y => ¬ Rg w w1' y)).put (some 45) (.agg (msgF (DP (Rg w w1')) (serV t a m)))) rfl rfl (q_load (hy := rfl)) hs6 fun w4' φ7 x4 hs7 g7 => ?_
  have gt : Goes w (phA φ) w4' φ7 := ((((((g1.trans g2).trans g3).trans g4).trans g5).trans g6).trans g7)
  have hno : ∀ y, ¬ owned (fun _ => none : PMap) y := fun y h => owned_none h
  have hP : ∀ b, b < w.heap.size → ¬ Rg w w1' b := fun b hb h => absurd h.1 (by omega)
  have hJ : @J.JInv ⟨JR (Rg w w1') w4' φ7⟩ w4' (fun _ => none) := fun y o hx => ⟨hno y, gt.fro trivial y (fun h => absurd h (by have := hx.1.1; omega)), hx.2.2⟩
  have hv : Rep w4' φ7 Λ (.agg (msgF (DP (Rg w w1')) (serV t a m))) (x4.eval (.tmp 45)) := hs7.tmps 45
  have spoil := @J.cj_SpoilMessage ⟨JR (Rg w w1') w4' φ7⟩ (serV t a m) hsv
  obtain ⟨⟨fn, c, hbd⟩, hcall⟩ := spoil
  refine wpOps_call hbd (o := (oC z6)[1]!) rfl rfl rfl rfl ?_
  refine hcall w4' (fun _ => none) _ ⟨(fun id ob h => by cases h), fun _ _ => rfl, (fun id l x o h => by cases h), (fun id id' l l' x o o' h => by cases h), fun k x h => h.elim⟩ ⟨by simp, fun j c hj => ?_⟩ hJ _ ?_
  · match j, hj with
    | 0, hj => cases hj; exact ⟨x4.eval (.tmp 45), by simp, msg_toJR hsv hv⟩
  · intro r h' w5 φ' v hR hs' jg hj' hr
    letI : HasJ := ⟨JR (Rg w w1') w4' φ7⟩
    have hd : ((oC z6)[1]!).dst = some 46 := rfl
    show wpOps Try.prog (oC z6) _ [] (x4.put ((oC z6)[1]!).dst v) w5
    rw [hd]
    have keep : ∀ b, b < w4'.heap.size → (∀ o, ¬ JR (Rg w w1') w4' φ7 b o) → w5.heap[b]? = w4'.heap[b]? := fun b hb hj => jg.keep b hb (hno b) hj
    have kc : ∀ b o u, ¬ JR (Rg w w1') w4' φ7 b o → w4'.cell? ⟨b, o, none⟩ = some u → w5.cell? ⟨b, o, none⟩ = some u := fun b o u hj hc => jg.kc b o u (hno b) hj hc
    have gw := goZ (Rg w w1') hP h8 gt keep jg.size jg.os jg.tape jg.output jg.fro
    have hs8 : Sim Try.f7.ntmps w5 (phZ φ7) Λ (Y7 t a m) (x4.put (some 46) v) := sw7 (Rg w w1') hP cT cM gt.size (u := v) (by decide) (by decide) (by decide) (by decide) rfl hs7 gt keep kc jg.size
    exact zr_7 t a m ht hm hn Λ w5 (phZ φ7) _ hs8 QQ fun ae s' w' φ' a' q hs' g => hQ ae s' w' φ' a' q hs' (gw.trans g)
end
end Go.Proofs.Ytokccoloholgaaa.Fw


set_option linter.unusedVariables false
set_option linter.unusedSimpArgs false
namespace Go.Proofs.Ytokccoloholgaaa.Fw
open Go.RowKit
set_option maxRecDepth 20000 in
set_option maxHeartbeats 2000000 in
theorem c_ciceronelaw18_ZoneServes (t : Tr) (a : Int) (m : Msg) (ht : TrOk t) (hm : MsgOk m) (hn : NmOk m) : AC Try.prog 7 [.agg (trC t), i64 a, .agg (msgC m)] emp (Ret (tf true)) := by
  refine AC.intro te_ok (fn := Try.f7) ⟨Try.func7, rfl, rfl⟩ (Nat.le_of_ble_eq_true rfl) ?_
  refine AWp.seq ?_
  refine AWp.region ?_
  refine aC_ rfl rfl (q_box 100) ?_
  refine aC_ rfl rfl (q_box 101) ?_
  refine aC_ rfl rfl q_assign ?_
  refine AOps.nil ?_
  refine AWp.seq ?_
  refine AWp.region ?_
  refine aC_ rfl rfl (q_load (z := .agg (msgC m)) (hy := rfl)) ?_
  refine aC_ rfl rfl (q_call (0) (hc := c_ciceroneplain_Message m hm)) ?_
  refine aC_ rfl rfl (q_alloc 202) ?_
  refine aC_ rfl rfl q_store ?_
  refine AOps.nil ?_
  exact AWp.weak (Weak.full 0 []) (zr_mid t a m ht hm hn)
end Go.Proofs.Ytokccoloholgaaa.Fw


