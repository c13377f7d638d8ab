/- The texts W03, W03b, W03c, M0, M1, M2, Ws, Q8, Q9, Q10, Q11, Q12, W18, Q13, Q14, Q15, W18b, W18c, one behind the other: what the walks and plain laws need; conditions stand with each theorem. -/
import Derived.Laws.MakeOwn
import Derived.MapKept
import Derived.ScopeJumps
import Derived.Test.YtokccoloholgaaaCat2
set_option linter.unusedVariables false
set_option linter.unusedSimpArgs false
namespace Go.Proofs.Ytokccoloholgaaa.Fw
open Go.RowKit
def txtW (b : List UInt8) : Bool := if h : 0 < b.length then (if 1 + (b.getD 0 default).toNat ≤ b.length then txtW (b.drop (1 + (b.getD 0 default).toNat)) else false) else true
termination_by b.length
decreasing_by simp; omega
def txtR (b : List UInt8) : Bool := decide (0 < b.length) && txtW b
def optK (b : List UInt8) : Nat := 4 + ((b.getD 2 default).toNat * 256 + (b.getD 3 default).toNat)
def optR (b : List UInt8) : Bool := if h : 0 < b.length then (if 4 ≤ b.length ∧ optK b ≤ b.length then optR (b.drop (optK b)) else false) else true
termination_by b.length
decreasing_by simp [optK]; omega
theorem txtW_end {b : List UInt8} (h : b.length = 0) : txtW b = true := by rw [txtW, dif_neg (by omega)]
theorem txtW_step {b : List UInt8} (h : 0 < b.length) (h2 : 1 + (b.getD 0 default).toNat ≤ b.length) : txtW b = txtW (b.drop (1 + (b.getD 0 default).toNat)) := by rw [txtW, dif_pos h, if_pos h2]
theorem txtW_no {b : List UInt8} (h : 0 < b.length) (h2 : b.length < 1 + (b.getD 0 default).toNat) : txtW b = false := by rw [txtW, dif_pos h, if_neg (by omega)]
theorem optR_end {b : List UInt8} (h : b.length = 0) : optR b = true := by rw [optR, dif_neg (by omega)]
theorem optR_step {b : List UInt8} (h : 0 < b.length) (h4 : 4 ≤ b.length) (h2 : optK b ≤ b.length) : optR b = optR (b.drop (optK b)) := by rw [optR, dif_pos h, if_pos ⟨h4, h2⟩]
theorem optR_no {b : List UInt8} (h : 0 < b.length) (h2 : b.length < 4 ∨ b.length < optK b) : optR b = false := by rw [optR, dif_pos h, if_neg (by omega)]
def canR (t : Int) (d : List UInt8) : Bool :=
  if t < 0 ∨ 65535 < t ∨ 65535 < d.length then false else if t = 1 then decide (d.length = 4) else if t = 28 then decide (d.length = 16) else if t = 2 ∨ t = 5 ∨ t = 12 then canN d
  else if t = 15 then decide (2 < d.length) && canN (d.drop 2) else if t = 16 then txtR d else if t = 41 then optR d else true
theorem canR_15 {t : Int} {b : List UInt8} (e : t = 15) (h : canR t b = true) : 2 < b.length := by
  subst e
  simp [canR] at h
  omega
def namR (t : Int) (d : List UInt8) : List (List UInt8) := if canR t d then (if t = 2 ∨ t = 5 ∨ t = 12 then [d] else if t = 15 then [d.drop 2] else []) else []
set_option maxRecDepth 20000 in
set_option maxHeartbeats 2000000 in
theorem c_rdata_whole (b : List UInt8) (lv : Nat) (h : b.length ≤ 140737488351232) : AC Try.prog 106 [.fz lv b.length (cl bc b)] emp (Ret (tf (canN b))) := by
 refine AC.intro te_ok (fn := Try.f106) ⟨Try.func106, rfl, rfl⟩ (Nat.le_of_ble_eq_true rfl) ?_
 refine AWp.seq ?_
 refine AWp.region ?_
 refine aC_ rfl rfl (q_assign) ?_
 refine AOps.nil ?_
 refine AWp.seq ?_
 refine AWp.region ?_
 refine aC_ rfl rfl (q_move) ?_
 refine aC_ rfl rfl (by first | exact q_conv_zs | exact q_conv_ls) ?_
 refine aC_ rfl rfl (q_call (0) (hc := c_name_Can _ (by first | assumption | omega | decide | (simp; omega) | (simp [*]; done)))) ?_
 refine aC_ rfl rfl (q_assign) ?_
 refine AOps.nil ?_
 refine AWp.ret ?_
 show Fin te Try.f106 _ _
 refine q_ret (0) [_] [_] ?_
 first | rfl | (simp; done)
set_option maxRecDepth 20000 in
set_option maxHeartbeats 2000000 in
theorem c_rdata_mail (b : List UInt8) (lv : Nat) (h : b.length ≤ 140737488351232) : AC Try.prog 107 [.fz lv b.length (cl bc b)] emp (Ret (tf (decide (2 < b.length) && canN (b.drop 2)))) := by
 refine AC.intro te_ok (fn := Try.f107) ⟨Try.func107, rfl, rfl⟩ (Nat.le_of_ble_eq_true rfl) ?_
 refine AWp.seq ?_
 refine AWp.region ?_
 refine aC_ rfl rfl (q_assign) ?_
 refine AOps.nil ?_
 refine AWp.seq ?_
 refine AWp.region ?_
 refine aC_ rfl rfl (q_move) ?_
 refine aC_ rfl rfl (q_len) ?_
 refine AOps.dec rfl rfl (q_gtr) (fun h1_2 => ?_) (fun h1_2 => ?_)
 ·
  refine aC_ rfl rfl (q_move) ?_
  refine AOps.gcons rfl rfl rfl rfl rfl (q_move) ?_
  refine AOps.gcons rfl rfl rfl rfl rfl (q_sl) ?_
  refine AOps.gcons rfl rfl rfl rfl rfl (q_call (lv) (hc := c_rdata_whole _ _ (by first | assumption | omega | decide | (simp; omega) | (simp [*]; done)))) ?_
  refine aC_ rfl rfl (q_pick) ?_
  refine aC_ rfl rfl (q_assign) ?_
  refine AOps.nil ?_
  refine AWp.ret ?_
  show Fin te Try.f107 _ _
  refine q_ret (0) [_] [_] ?_
  rw [decide_eq_true (show 2 < b.length by omega)]; rfl
 ·
  refine aC_ rfl rfl (q_move) ?_
  refine aG_ rfl rfl rfl rfl rfl rfl rfl rfl ?_
  refine aG_ rfl rfl rfl rfl rfl rfl rfl rfl ?_
  refine aG_ rfl rfl rfl rfl rfl rfl rfl rfl ?_
  refine aC_ rfl rfl (q_pick) ?_
  refine aC_ rfl rfl (q_assign) ?_
  refine AOps.nil ?_
  refine AWp.ret ?_
  show Fin te Try.f107 _ _
  refine q_ret (0) [_] [_] ?_
  rw [decide_eq_false (show ¬ 2 < b.length by omega)]; rfl
set_option maxRecDepth 20000 in
set_option maxHeartbeats 2000000 in
theorem c_rdata_texts (b : List UInt8) (lv : Nat) (h : b.length ≤ 140737488351232) : AC Try.prog 108 [.fz lv b.length (cl bc b)] emp (Ret (tf (txtR b))) := by
 refine AC.intro te_ok (fn := Try.f108) ⟨Try.func108, rfl, rfl⟩ (Nat.le_of_ble_eq_true rfl) ?_
 refine AWp.seq ?_
 refine AWp.region ?_
 refine aC_ rfl rfl (q_assign) ?_
 refine AOps.nil ?_
 refine AWp.seq ?_
 refine AWp.region ?_
 refine aC_ rfl rfl (q_move) ?_
 refine aC_ rfl rfl (q_len) ?_
 refine aC_ rfl rfl (q_gtr) ?_
 refine aC_ rfl rfl (q_assign) ?_
 refine AOps.nil ?_
 refine AWp.seq ?_
 refine AWp.block ?_
 refine AWp.loopR (α := List UInt8) [0, 2, 4, 8, 9, 10, 11, 12, 13, 14, 15, 16, 17, 18, 19, 20, 21, 22] (fun c => [(0, .fz lv c.length (cl bc c))]) (fun c => []) (fun c => txtW c = txtW b ∧ c.length ≤ b.length) (fun c => c.length) b ?_ (Back.mk' (HasT.cons HasT.nil) HasH.nil) ?_
 ·
  exact ⟨rfl, Nat.le_refl _⟩
 ·
  rintro c ⟨hc, hl⟩
  refine AWp.seq ?_
  refine AWp.seq ?_
  refine AWp.region ?_
  refine aC_ rfl rfl (q_move) ?_
  refine aC_ rfl rfl (q_len) ?_
  refine AOps.dec rfl rfl (q_gtr) (fun h2_2 => ?_) (fun h2_2 => ?_)
  ·
   refine AOps.nil ?_
   refine AWp.cond_t rfl ?_
   refine AWp.skip ?_
   refine AWp.block ?_
   refine AWp.seq ?_
   refine AWp.region ?_
   have hk := (c.getD 0 default).toNat_lt
   have he : (c.getD (Int.toNat 0) default).toNat = (c.getD 0 default).toNat := rfl
   have hs : (c[0]?.getD default).toNat = (c.getD 0 default).toNat := congrArg UInt8.toNat (List.getD_eq_getElem?_getD).symm
   refine aC_ rfl rfl (q_move) ?_
   refine aC_ rfl rfl (q_ix) ?_
   refine aC_ rfl rfl (q_load) ?_
   refine aC_ rfl rfl (q_conv_8i) ?_
   refine aC_ rfl rfl (q_add) ?_
   refine aC_ rfl rfl (q_assign) ?_
   refine AOps.nil ?_
   refine AWp.seq ?_
   refine AWp.seq ?_
   refine AWp.region ?_
   refine aC_ rfl rfl (q_move) ?_
   refine aC_ rfl rfl (q_move) ?_
   refine aC_ rfl rfl (q_len) ?_
   refine AOps.dec rfl rfl (q_gtr) (fun h4_3 => ?_) (fun h4_3 => ?_)
   ·
    refine AOps.nil ?_
    refine AWp.cond_t rfl ?_
    refine AWp.seq ?_
    refine AWp.region ?_
    refine aC_ rfl rfl (q_assign) ?_
    refine AOps.nil ?_
    refine AWp.ret ?_
    show Fin te Try.f108 _ _
    refine q_ret (0) [_] [_] ?_
    rw [txtR, ← hc, txtW_no (by omega) (by omega), Bool.and_false]; rfl
   ·
    refine AOps.nil ?_
    refine AWp.cond_f rfl ?_
    refine AWp.skip ?_
    refine AWp.region ?_
    refine aC_ rfl rfl (q_move) ?_
    refine aC_ rfl rfl (q_move) ?_
    refine aC_ rfl rfl (q_sl) ?_
    refine aC_ rfl rfl (q_assign) ?_
    refine AOps.nil ?_
    have e1 : ((1 : Int) + ((c.getD (Int.toNat 0) default).toNat : Int)).toNat = 1 + (c.getD 0 default).toNat := by omega
    refine ⟨_, ?_, Back.mk' (HasT.cons HasT.nil) HasH.nil, ?_⟩
    ·
     rw [e1]; exact ⟨(txtW_step (by omega) (by omega)).symm.trans hc, by rw [List.length_drop]; omega⟩
    ·
     rw [e1, List.length_drop]; omega
  ·
   refine AOps.nil ?_
   refine AWp.cond_f rfl ?_
   refine AWp.exit ?_
   refine AWp.seq ?_
   refine AWp.region ?_
   refine aC_ rfl rfl (q_move) ?_
   refine aC_ rfl rfl (q_assign) ?_
   refine AOps.nil ?_
   refine AWp.ret ?_
   show Fin te Try.f108 _ _
   refine q_ret (0) [_] [_] ?_
   rw [txtR, ← hc, txtW_end (by omega), Bool.and_true]; exact congrArg tf (decide_eq_decide.2 (by omega))
set_option maxRecDepth 20000 in
set_option maxHeartbeats 2000000 in
theorem c_rdata_options (b : List UInt8) (lv : Nat) (h : b.length ≤ 140737488351232) : AC Try.prog 109 [.fz lv b.length (cl bc b)] emp (Ret (tf (optR b))) := by
 refine AC.intro te_ok (fn := Try.f109) ⟨Try.func109, rfl, rfl⟩ (Nat.le_of_ble_eq_true rfl) ?_
 refine AWp.seq ?_
 refine AWp.region ?_
 refine aC_ rfl rfl (q_assign) ?_
 refine AOps.nil ?_
 refine AWp.seq ?_
 refine AWp.block ?_
 refine AWp.loopR (α := List UInt8) [0, 2, 3, 4, 5, 6, 7, 8, 9, 10, 11, 12, 13, 14, 15, 16, 17, 18, 19, 20, 21, 22, 23, 24, 25, 26, 27] (fun c => [(0, .fz lv c.length (cl bc c))]) (fun c => []) (fun c => optR c = optR b ∧ c.length ≤ b.length) (fun c => c.length) b ?_ (Back.mk' (HasT.cons HasT.nil) HasH.nil) ?_
 ·
  exact ⟨rfl, Nat.le_refl _⟩
 ·
  rintro c ⟨hc, hl⟩
  refine AWp.seq ?_
  refine AWp.seq ?_
  refine AWp.region ?_
  refine aC_ rfl rfl (q_move) ?_
  refine aC_ rfl rfl (q_len) ?_
  refine AOps.dec rfl rfl (q_gtr) (fun h1_2 => ?_) (fun h1_2 => ?_)
  ·
   refine AOps.nil ?_
   refine AWp.cond_t rfl ?_
   refine AWp.skip ?_
   refine AWp.block ?_
   refine AWp.seq ?_
   refine AWp.seq ?_
   refine AWp.region ?_
   refine aC_ rfl rfl (q_move) ?_
   refine aC_ rfl rfl (q_len) ?_
   refine AOps.dec rfl rfl (q_lss) (fun h2_2 => ?_) (fun h2_2 => ?_)
   ·
    refine AOps.nil ?_
    refine AWp.cond_t rfl ?_
    refine AWp.seq ?_
    refine AWp.region ?_
    refine aC_ rfl rfl (q_assign) ?_
    refine AOps.nil ?_
    refine AWp.ret ?_
    show Fin te Try.f109 _ _
    refine q_ret (0) [_] [_] ?_
    rw [← hc, optR_no (by omega) (by omega)]; rfl
   ·
    refine AOps.nil ?_
    refine AWp.cond_f rfl ?_
    refine AWp.skip ?_
    refine AWp.seq ?_
    have hk2 := (c.getD 2 default).toNat_lt
    have hk3 := (c.getD 3 default).toNat_lt
    have he2 : (c.getD (Int.toNat 2) default).toNat = (c.getD 2 default).toNat := rfl
    have he3 : (c.getD (Int.toNat 3) default).toNat = (c.getD 3 default).toNat := rfl
    have hs2 : (c[2]?.getD default).toNat = (c.getD 2 default).toNat := congrArg UInt8.toNat (List.getD_eq_getElem?_getD).symm
    have hs3 : (c[3]?.getD default).toNat = (c.getD 3 default).toNat := congrArg UInt8.toNat (List.getD_eq_getElem?_getD).symm
    refine AWp.draws [⟨0, [0], [], some 10, _, none⟩,
 ⟨1, [10], [], some 11, _, none⟩,
 ⟨2, [11], [], some 12, _, none⟩,
 ⟨3, [12], [], some 13, _, none⟩,
 ⟨4, [13], [], some 14, _, none⟩,
 ⟨5, [0], [], some 15, _, none⟩,
 ⟨6, [15], [], some 16, _, none⟩,
 ⟨7, [16], [], some 17, _, none⟩,
 ⟨8, [17], [], some 18, _, none⟩,
 ⟨9, [14, 18], [], some 19, _, none⟩,
 ⟨10, [19], [], some 20, _, none⟩,
 ⟨11, [20], [], some 3, _, none⟩]
     [kN_ 0 [0] [] 10,
 kN_ 1 [10] [] 11,
 kN_ 2 [11] [] 12,
 kN_ 3 [12] [] 13,
 kN_ 4 [13] [] 14,
 kN_ 5 [0] [] 15,
 kN_ 6 [15] [] 16,
 kN_ 7 [16] [] 17,
 kN_ 8 [17] [] 18,
 kN_ 9 [14, 18] [] 19,
 kN_ 10 [19] [] 20,
 kN_ 11 [20] [] 3]
     mixed_ok rfl (by kernel_rfl) ⟨dK_ fun s0 => oG_ rfl rfl (q_move),
 dK_ fun s0 => oG_ rfl rfl (q_ix),
 dK_ fun s0 => oG_ rfl rfl (q_load),
 dK_ fun s0 => oG_ rfl rfl (q_conv_8i),
 dK_ fun s0 => oG_ rfl rfl (q_shl 8),
 dK_ fun s0 => oG_ rfl rfl (q_move),
 dK_ fun s0 => oG_ rfl rfl (q_ix),
 dK_ fun s0 => oG_ rfl rfl (q_load),
 dK_ fun s0 => oG_ rfl rfl (q_conv_8i),
 dK_ fun s0 => oG_ rfl rfl (q_orb),
 dK_ fun s0 => oG_ rfl rfl (q_add),
 dK_ fun s0 => oG_ rfl rfl (q_assign), trivial⟩ ?_
    dsimp only [final, DS.upd, AS.seto]
    refine AWp.seq ?_
    refine AWp.seq ?_
    refine AWp.region ?_
    refine aC_ rfl rfl (q_move) ?_
    refine aC_ rfl rfl (q_move) ?_
    refine aC_ rfl rfl (q_len) ?_
    refine AOps.dec rfl rfl (q_gtr) (fun h5_3 => ?_) (fun h5_3 => ?_)
    ·
     refine AOps.nil ?_
     refine AWp.cond_t rfl ?_
     refine AWp.seq ?_
     refine AWp.region ?_
     refine aC_ rfl rfl (q_assign) ?_
     refine AOps.nil ?_
     refine AWp.ret ?_
     show Fin te Try.f109 _ _
     refine q_ret (0) [_] [_] ?_
     rw [← hc, optR_no (by omega) (Or.inr (by unfold optK; omega))]; rfl
    ·
     refine AOps.nil ?_
     refine AWp.cond_f rfl ?_
     refine AWp.skip ?_
     refine AWp.region ?_
     refine aC_ rfl rfl (q_move) ?_
     refine aC_ rfl rfl (q_move) ?_
     refine aC_ rfl rfl (q_sl) ?_
     refine aC_ rfl rfl (q_assign) ?_
     refine AOps.nil ?_
     have e1 : (4 + (((c.getD (Int.toNat 2) default).toNat : Int) * 256 + ((c.getD (Int.toNat 3) default).toNat : Int))).toNat = optK c := by unfold optK; omega
     refine ⟨_, ?_, Back.mk' (HasT.cons HasT.nil) HasH.nil, ?_⟩
     ·
      rw [e1]; exact ⟨(optR_step (by omega) (by omega) (by unfold optK; omega)).symm.trans hc, by rw [List.length_drop]; omega⟩
     ·
      rw [e1, List.length_drop]; unfold optK; omega
  ·
   refine AOps.nil ?_
   refine AWp.cond_f rfl ?_
   refine AWp.exit ?_
   refine AWp.seq ?_
   refine AWp.region ?_
   refine aC_ rfl rfl (q_assign) ?_
   refine AOps.nil ?_
   refine AWp.ret ?_
   show Fin te Try.f109 _ _
   refine q_ret (0) [_] [_] ?_
   rw [← hc, optR_end (by omega)]; rfl
set_option maxRecDepth 20000 in
set_option maxHeartbeats 2000000 in
theorem c_rdata_Can (t : Int) (b : List UInt8) (lv : Nat) (h : b.length ≤ 140737488351232) (ht : t ≠ 6) : AC Try.prog 79 [i64 t, .fz lv b.length (cl bc b)] emp (Ret (tf (canR t b))) := by
 refine AC.intro te_ok (fn := Try.f79) ⟨Try.func79, rfl, rfl⟩ (Nat.le_of_ble_eq_true rfl) ?_
 refine AWp.seq ?_
 refine AWp.region ?_
 refine aC_ rfl rfl (q_assign) ?_
 refine AOps.nil ?_
 refine AWp.seq ?_
 refine AWp.seq ?_
 refine AWp.region ?_
 refine aC_ rfl rfl (q_move) ?_
 refine AOps.dec rfl rfl (q_lss) (fun h1_1 => ?_) (fun h1_1 => ?_)
 ·
  refine aC_ rfl rfl (q_move) ?_
  refine aG_ rfl rfl rfl rfl rfl rfl rfl rfl ?_
  refine aG_ rfl rfl rfl rfl rfl rfl rfl rfl ?_
  refine aC_ rfl rfl (q_pick) ?_
  refine aC_ rfl rfl (q_move) ?_
  refine aG_ rfl rfl rfl rfl rfl rfl rfl rfl ?_
  refine aG_ rfl rfl rfl rfl rfl rfl rfl rfl ?_
  refine aG_ rfl rfl rfl rfl rfl rfl rfl rfl ?_
  refine aC_ rfl rfl (q_pick) ?_
  refine AOps.nil ?_
  refine AWp.cond_t rfl ?_
  refine AWp.seq ?_
  refine AWp.region ?_
  refine aC_ rfl rfl (q_assign) ?_
  refine AOps.nil ?_
  refine AWp.ret ?_
  show Fin te Try.f79 _ _
  refine q_ret (0) [_] [_] ?_
  rw [canR, if_pos (by omega)]; rfl
 ·
  refine aC_ rfl rfl (q_move) ?_
  refine AOps.gcons rfl rfl rfl rfl rfl (q_move) ?_
  refine AOps.gdec rfl rfl rfl rfl rfl (q_gtr) (fun h1_4 => ?_) (fun h1_4 => ?_)
  ·
   refine aC_ rfl rfl (q_pick) ?_
   refine aC_ rfl rfl (q_move) ?_
   refine aG_ rfl rfl rfl rfl rfl rfl rfl rfl ?_
   refine aG_ rfl rfl rfl rfl rfl rfl rfl rfl ?_
   refine aG_ rfl rfl rfl rfl rfl rfl rfl rfl ?_
   refine aC_ rfl rfl (q_pick) ?_
   refine AOps.nil ?_
   refine AWp.cond_t rfl ?_
   refine AWp.seq ?_
   refine AWp.region ?_
   refine aC_ rfl rfl (q_assign) ?_
   refine AOps.nil ?_
   refine AWp.ret ?_
   show Fin te Try.f79 _ _
   refine q_ret (0) [_] [_] ?_
   rw [canR, if_pos (by omega)]; rfl
  ·
   refine aC_ rfl rfl (q_pick) ?_
   refine aC_ rfl rfl (q_move) ?_
   refine AOps.gcons rfl rfl rfl rfl rfl (q_move) ?_
   refine AOps.gcons rfl rfl rfl rfl rfl (q_len) ?_
   refine AOps.gdec rfl rfl rfl rfl rfl (q_gtr) (fun h1_9 => ?_) (fun h1_9 => ?_)
   ·
    refine aC_ rfl rfl (q_pick) ?_
    refine AOps.nil ?_
    refine AWp.cond_t rfl ?_
    refine AWp.seq ?_
    refine AWp.region ?_
    refine aC_ rfl rfl (q_assign) ?_
    refine AOps.nil ?_
    refine AWp.ret ?_
    show Fin te Try.f79 _ _
    refine q_ret (0) [_] [_] ?_
    rw [canR, if_pos (by omega)]; rfl
   ·
    refine aC_ rfl rfl (q_pick) ?_
    refine AOps.nil ?_
    refine AWp.cond_f rfl ?_
    refine AWp.skip ?_
    refine AWp.seq ?_
    refine AWp.seq ?_
    refine AWp.region ?_
    refine aC_ rfl rfl (q_move) ?_
    refine AOps.nil ?_
    refine AWp.block ?_
    refine AWp.seq ?_
    refine AWp.region ?_
    refine AOps.dec rfl rfl (q_eql) (fun h4_0 => ?_) (fun h4_0 => ?_)
    ·
     refine aC_ rfl rfl (q_assign) ?_
     refine AOps.nil ?_
     refine AWp.cond_t rfl ?_
     refine AWp.seq ?_
     refine AWp.region ?_
     refine aC_ rfl rfl (q_move) ?_
     refine aC_ rfl rfl (q_len) ?_
     refine aC_ rfl rfl (q_eql) ?_
     refine aC_ rfl rfl (q_assign) ?_
     refine AOps.nil ?_
     refine AWp.ret ?_
     show Fin te Try.f79 _ _
     refine q_ret (0) [_] [_] ?_
     rw [canR, if_neg (by omega), if_pos h4_0]; exact congrArg tf (decide_eq_decide.2 (by omega))
    ·
     refine aC_ rfl rfl (q_assign) ?_
     refine AOps.nil ?_
     refine AWp.cond_f rfl ?_
     refine AWp.seq ?_
     refine AWp.region ?_
     refine AOps.dec rfl rfl (q_eql) (fun h6_0 => ?_) (fun h6_0 => ?_)
     ·
      refine aC_ rfl rfl (q_assign) ?_
      refine AOps.nil ?_
      refine AWp.cond_t rfl ?_
      refine AWp.seq ?_
      refine AWp.region ?_
      refine aC_ rfl rfl (q_move) ?_
      refine aC_ rfl rfl (q_len) ?_
      refine aC_ rfl rfl (q_eql) ?_
      refine aC_ rfl rfl (q_assign) ?_
      refine AOps.nil ?_
      refine AWp.ret ?_
      show Fin te Try.f79 _ _
      refine q_ret (0) [_] [_] ?_
      rw [canR, if_neg (by omega), if_neg h4_0, if_pos h6_0]; exact congrArg tf (decide_eq_decide.2 (by omega))
     ·
      refine aC_ rfl rfl (q_assign) ?_
      refine AOps.nil ?_
      refine AWp.cond_f rfl ?_
      refine AWp.seq ?_
      refine AWp.seq ?_
      refine AWp.region ?_
      refine AOps.dec rfl rfl (q_eql) (fun h8_0 => ?_) (fun h8_0 => ?_)
      ·
       refine aC_ rfl rfl (q_assign) ?_
       refine AOps.nil ?_
       refine AWp.cond_t rfl ?_
       refine AWp.skip ?_
       refine AWp.cond_t rfl ?_
       refine AWp.seq ?_
       refine AWp.region ?_
       refine aC_ rfl rfl (q_move) ?_
       refine aC_ rfl rfl (q_call (lv) (hc := c_rdata_whole _ _ (by first | assumption | omega | decide | (simp; omega) | (simp [*]; done)))) ?_
       refine aC_ rfl rfl (q_assign) ?_
       refine AOps.nil ?_
       refine AWp.ret ?_
       show Fin te Try.f79 _ _
       refine q_ret (0) [_] [_] ?_
       rw [canR, if_neg (by omega), if_neg h4_0, if_neg h6_0, if_pos (by omega)]; rfl
      ·
       refine aC_ rfl rfl (q_assign) ?_
       refine AOps.nil ?_
       refine AWp.cond_f rfl ?_
       refine AWp.seq ?_
       refine AWp.region ?_
       refine AOps.dec rfl rfl (q_eql) (fun h9_0 => ?_) (fun h9_0 => ?_)
       ·
        refine aC_ rfl rfl (q_assign) ?_
        refine AOps.nil ?_
        refine AWp.cond_t rfl ?_
        refine AWp.skip ?_
        refine AWp.cond_t rfl ?_
        refine AWp.seq ?_
        refine AWp.region ?_
        refine aC_ rfl rfl (q_move) ?_
        refine aC_ rfl rfl (q_call (lv) (hc := c_rdata_whole _ _ (by first | assumption | omega | decide | (simp; omega) | (simp [*]; done)))) ?_
        refine aC_ rfl rfl (q_assign) ?_
        refine AOps.nil ?_
        refine AWp.ret ?_
        show Fin te Try.f79 _ _
        refine q_ret (0) [_] [_] ?_
        rw [canR, if_neg (by omega), if_neg h4_0, if_neg h6_0, if_pos (by omega)]; rfl
       ·
        refine aC_ rfl rfl (q_assign) ?_
        refine AOps.nil ?_
        refine AWp.cond_f rfl ?_
        refine AWp.region ?_
        refine AOps.dec rfl rfl (q_eql) (fun h10_0 => ?_) (fun h10_0 => ?_)
        ·
         refine aC_ rfl rfl (q_assign) ?_
         refine AOps.nil ?_
         refine AWp.cond_t rfl ?_
         refine AWp.seq ?_
         refine AWp.region ?_
         refine aC_ rfl rfl (q_move) ?_
         refine aC_ rfl rfl (q_call (lv) (hc := c_rdata_whole _ _ (by first | assumption | omega | decide | (simp; omega) | (simp [*]; done)))) ?_
         refine aC_ rfl rfl (q_assign) ?_
         refine AOps.nil ?_
         refine AWp.ret ?_
         show Fin te Try.f79 _ _
         refine q_ret (0) [_] [_] ?_
         rw [canR, if_neg (by omega), if_neg h4_0, if_neg h6_0, if_pos (by omega)]; rfl
        ·
         refine aC_ rfl rfl (q_assign) ?_
         refine AOps.nil ?_
         refine AWp.cond_f rfl ?_
         refine AWp.seq ?_
         refine AWp.region ?_
         refine AOps.dec rfl rfl (q_eql) (fun h12_0 => ?_) (fun h12_0 => ?_)
         ·
          refine aC_ rfl rfl (q_assign) ?_
          refine AOps.nil ?_
          refine AWp.cond_t rfl ?_
          refine AWp.seq ?_
          refine AWp.region ?_
          refine aC_ rfl rfl (q_move) ?_
          refine aC_ rfl rfl (q_call (lv) (hc := c_rdata_mail _ _ (by first | assumption | omega | decide | (simp; omega) | (simp [*]; done)))) ?_
          refine aC_ rfl rfl (q_assign) ?_
          refine AOps.nil ?_
          refine AWp.ret ?_
          show Fin te Try.f79 _ _
          refine q_ret (0) [_] [_] ?_
          rw [canR, if_neg (by omega), if_neg h4_0, if_neg h6_0, if_neg (by omega), if_pos h12_0]; rfl
         ·
          refine aC_ rfl rfl (q_assign) ?_
          refine AOps.nil ?_
          refine AWp.cond_f rfl ?_
          refine AWp.seq ?_
          refine AWp.region ?_
          refine AOps.dec rfl rfl (q_eql) (fun h14_0 => ?_) (fun h14_0 => ?_)
          ·
           refine aC_ rfl rfl (q_assign) ?_
           refine AOps.nil ?_
           refine AWp.cond_t rfl ?_
           refine AWp.seq ?_
           refine AWp.region ?_
           refine aC_ rfl rfl (q_move) ?_
           refine aC_ rfl rfl (q_call (lv) (hc := c_rdata_texts _ _ (by first | assumption | omega | decide | (simp; omega) | (simp [*]; done)))) ?_
           refine aC_ rfl rfl (q_assign) ?_
           refine AOps.nil ?_
           refine AWp.ret ?_
           show Fin te Try.f79 _ _
           refine q_ret (0) [_] [_] ?_
           rw [canR, if_neg (by omega), if_neg h4_0, if_neg h6_0, if_neg (by omega), if_neg h12_0, if_pos h14_0]; rfl
          ·
           refine aC_ rfl rfl (q_assign) ?_
           refine AOps.nil ?_
           refine AWp.cond_f rfl ?_
           refine AWp.seq ?_
           refine AWp.region ?_
           refine AOps.dec rfl rfl (q_eql) (fun h16_0 => ?_) (fun h16_0 => ?_)
           ·
            refine aC_ rfl rfl (q_assign) ?_
            refine AOps.nil ?_
            refine AWp.cond_t rfl ?_
            refine AWp.seq ?_
            refine AWp.region ?_
            refine aC_ rfl rfl (q_move) ?_
            refine aC_ rfl rfl (q_call (lv) (hc := c_rdata_options _ _ (by first | assumption | omega | decide | (simp; omega) | (simp [*]; done)))) ?_
            refine aC_ rfl rfl (q_assign) ?_
            refine AOps.nil ?_
            refine AWp.ret ?_
            show Fin te Try.f79 _ _
            refine q_ret (0) [_] [_] ?_
            rw [canR, if_neg (by omega), if_neg h4_0, if_neg h6_0, if_neg (by omega), if_neg h12_0, if_neg h14_0, if_pos h16_0]; rfl
           ·
            refine aC_ rfl rfl (q_assign) ?_
            refine AOps.nil ?_
            refine AWp.cond_f rfl ?_
            refine AWp.seq ?_
            refine AWp.region ?_
            refine AOps.dec rfl rfl (q_eql) (fun h18_0 => ?_) (fun h18_0 => ?_)
            ·
             exfalso; omega
            ·
             refine aC_ rfl rfl (q_assign) ?_
             refine AOps.nil ?_
             refine AWp.cond_f rfl ?_
             refine AWp.skip ?_
             refine AWp.seq ?_
             refine AWp.region ?_
             refine aC_ rfl rfl (q_assign) ?_
             refine AOps.nil ?_
             refine AWp.ret ?_
             show Fin te Try.f79 _ _
             refine q_ret (0) [_] [_] ?_
             rw [canR, if_neg (by omega), if_neg h4_0, if_neg h6_0, if_neg (by omega), if_neg h12_0, if_neg h14_0, if_neg h16_0]; rfl
end Go.Proofs.Ytokccoloholgaaa.Fw


set_option linter.unusedVariables false
set_option linter.unusedSimpArgs false
namespace Go.Proofs.Ytokccoloholgaaa.Fw
open Go.RowKit
def zer (b : List UInt8) (i : Nat) : Nat := if h : i < b.length ∧ ¬ (b.getD i default).toNat = 0 then zer b (i + 1 + (b.getD i default).toNat) else i
termination_by b.length - i
decreasing_by omega
theorem zer_step {b : List UInt8} {i : Nat} (h : i < b.length) (h2 : ¬ (b.getD i default).toNat = 0) : zer b i = zer b (i + 1 + (b.getD i default).toNat) := by rw [zer, dif_pos ⟨h, h2⟩]
theorem zer_end {b : List UInt8} {i : Nat} (h : ¬ (i < b.length ∧ ¬ (b.getD i default).toNat = 0)) : zer b i = i := by rw [zer, dif_neg h]
def cutO (b : List UInt8) : Bool := decide (zer b 0 < b.length) && canN (b.take (zer b 0 + 1))
def cutM (b : List UInt8) : List UInt8 := if cutO b then b.take (zer b 0 + 1) else []
def cutR (b : List UInt8) : List UInt8 := if cutO b then b.drop (zer b 0 + 1) else []
theorem cut_no {b : List UInt8} (h : cutO b = false) : cutM b = [] ∧ cutR b = [] := by simp [cutM, cutR, h]
theorem cut_len (b : List UInt8) : (cutM b).length ≤ 255 ∧ (cutR b).length ≤ b.length := by
  cases h : cutO b with
  | false => simp [cut_no h]
  | true =>
    have h2 := h
    simp only [cutO, Bool.and_eq_true] at h2
    rw [cutM, cutR, if_pos h, if_pos h]
    exact ⟨canN_len h2.2, by simp⟩
theorem zer_join : ∀ {ls : List (List UInt8)} {b r : List UInt8} {i : Nat}, GoodN ls → b.drop i = joinN ls ++ r → zer b i + 1 = i + (joinN ls).length
  | [], b, r, i, _, h => by
    have hl := congrArg List.length h
    simp [joinN_nil] at hl
    have hi : i < b.length := by omega
    rw [List.drop_eq_getElem_cons hi, joinN_nil, List.singleton_append] at h
    have e : (b.getD i default).toNat = 0 := by
      rw [List.getD_eq_getElem?_getD, List.getElem?_eq_getElem hi, Option.getD_some, (List.cons.inj h).1]; rfl
    rw [zer_end (by omega)]
    rfl
  | l :: ls, b, r, i, g, h => by
    have hl := congrArg List.length h
    have hb := byte_len g.head.2
    have hh := g.head
    simp [joinN_cons] at hl
    have hi : i < b.length := by omega
    have h2 := h
    rw [List.drop_eq_getElem_cons hi, joinN_cons, List.cons_append, List.append_assoc] at h2
    obtain ⟨e1, e2⟩ := List.cons.inj h2
    have e : (b.getD i default).toNat = l.length := by
      rw [List.getD_eq_getElem?_getD, List.getElem?_eq_getElem hi, Option.getD_some, e1]; exact hb
    have e3 : b.drop (i + 1 + l.length) = joinN ls ++ r := by rw [← List.drop_drop, e2, List.drop_left]
    rw [zer_step hi (by omega), e, zer_join g.tail e3, joinN_cons]
    simp
    omega
theorem cut_at {b : List UInt8} {k : Nat} (hk : k ≤ b.length) (h : canN (b.take k) = true) : cutO b = true ∧ cutM b = b.take k ∧ cutR b = b.drop k := by
  obtain ⟨ls, g, e, hl⟩ := canN_iff.1 h
  have hz : zer b 0 + 1 = k := by
    have hd : b.drop 0 = joinN ls ++ b.drop k := by rw [← e, List.take_append_drop, List.drop_zero]
    have := zer_join g hd
    have hlen := congrArg List.length e
    rw [List.length_take] at hlen
    omega
  have ho : cutO b = true := by rw [cutO, hz, h, decide_eq_true (by omega)]; rfl
  rw [cutM, cutR, if_pos ho, if_pos ho, hz]
  exact ⟨ho, rfl, rfl⟩
theorem cut_none {b : List UInt8} (h : ∀ j, 1 ≤ j → j ≤ b.length → j ≤ 255 → canN (b.take j) = false) : cutO b = false := by
  cases ho : cutO b with
  | false => rfl
  | true =>
    have h2 := ho
    simp only [cutO, Bool.and_eq_true, decide_eq_true_eq] at h2
    have h3 := canN_len h2.2
    rw [List.length_take] at h3
    rw [h (zer b 0 + 1) (by omega) (by omega) (by omega)] at h2
    cases h2.2
def num (l : List UInt8) : Int := l.foldl (fun a x => a * 256 + (x.toNat : Int)) 0
theorem num_snoc (l : List UInt8) (x : UInt8) : num (l ++ [x]) = num l * 256 + x.toNat := by simp [num, List.foldl_append]
theorem num_step {l : List UInt8} {k : Nat} (h : k < l.length) : num (l.take (k + 1)) = num (l.take k) * 256 + (l.getD k default).toNat := by
  rw [List.take_succ_eq_append_getElem h, num_snoc, List.getD_eq_getElem?_getD, List.getElem?_eq_getElem h]
  rfl
theorem num_le : ∀ (k : Nat) (l : List UInt8), l.length = k → 0 ≤ num l ∧ num l < 256 ^ k
  | 0, l, h => by
    obtain rfl := List.eq_nil_of_length_eq_zero h
    simp [num]
  | k + 1, l, h => by
    have hs : l = l.take k ++ [l.getD k default] := by
      rw [List.getD_eq_getElem?_getD, List.getElem?_eq_getElem (by omega), Option.getD_some, ← List.take_succ_eq_append_getElem (by omega), List.take_of_length_le (by omega)]
    have := num_le k (l.take k) (by rw [List.length_take]; omega)
    have hx := (l.getD k default).toNat_lt
    rw [hs, num_snoc, Int.pow_succ]
    omega
theorem num_24 {l : List UInt8} {k : Nat} (h : k < 4) (hl : l.length = k) : 0 ≤ num l ∧ num l ≤ 16777215 := by
  have := num_le k l hl
  have e : k = 0 ∨ k = 1 ∨ k = 2 ∨ k = 3 := by omega
  rcases e with rfl | rfl | rfl | rfl <;> simp at this <;> omega
def dg (c : List UInt8) (j : Nat) : List UInt8 := (c.take (4 * (j : Int) + 4).toNat).drop (4 * (j : Int)).toNat
theorem dg_len {c : List UInt8} {j : Nat} (hc : c.length = 20) (hj : j < 5) : (dg c j).length = 4 := by rw [dg, List.length_drop, List.length_take]; omega
def wd (c : List UInt8) (j i : Nat) : Int := if j < i then num ((dg c j).take 4) else 0
structure Soa where
  m : List UInt8
  r : List UInt8
  n1 : Int
  n2 : Int
  n3 : Int
  n4 : Int
  n5 : Int
def soaA (x : Soa) : AV := .agg [str x.m, str x.r, i64 x.n1, i64 x.n2, i64 x.n3, i64 x.n4, i64 x.n5]
def soaO (b : List UInt8) : Bool := cutO b && (cutO (cutR b) && decide ((cutR (cutR b)).length = 20))
def soaV (b : List UInt8) : Soa := if soaO b then ⟨cutM b, cutM (cutR b), wd (cutR (cutR b)) 0 5, wd (cutR (cutR b)) 1 5, wd (cutR (cutR b)) 2 5, wd (cutR (cutR b)) 3 5, wd (cutR (cutR b)) 4 5⟩ else ⟨[], [], 0, 0, 0, 0, 0⟩
theorem soaV_no {b : List UInt8} (h : soaO b = false) : soaV b = ⟨[], [], 0, 0, 0, 0, 0⟩ := by rw [soaV, if_neg (by simp [h])]
theorem four_num {c : List UInt8} {j : Nat} (hc : c.length = 20) (hj : j < 5) : (((((c.getD (4 * j) default).toNat : Int) * 256 + ((c.getD (4 * j + 1) default).toNat : Int)) * 256 + ((c.getD (4 * j + 2) default).toNat : Int)) * 256 + ((c.getD (4 * j + 3) default).toNat : Int)) = wd c j 5 := by
  have hl := dg_len hc hj
  have hg : ∀ k, k < 4 → (dg c j).getD k default = c.getD (4 * j + k) default := by
    intro k hk
    rw [dg, List.getD_eq_getElem?_getD, List.getD_eq_getElem?_getD, List.getElem?_drop, List.getElem?_take, if_pos (by omega)]
    congr 2 <;> omega
  rw [wd, if_pos hj, num_step (by omega), num_step (by omega), num_step (by omega), num_step (by omega), hg 0 (by omega), hg 1 (by omega), hg 2 (by omega), hg 3 (by omega)]
  simp [num]
set_option maxRecDepth 20000 in
set_option maxHeartbeats 2000000 in
theorem c_rdata_cut (b : List UInt8) (lv : Nat) (h : b.length ≤ 140737488351232) : AC Try.prog 119 [.fz lv b.length (cl bc b)] emp (Ret (.tup [str (cutM b), .fz lv (cutR b).length (cl bc (cutR b)), tf (cutO b)])) := by
 refine AC.intro te_ok (fn := Try.f119) ⟨Try.func119, rfl, rfl⟩ (Nat.le_of_ble_eq_true rfl) ?_
 refine AWp.seq ?_
 refine AWp.region ?_
 refine aC_ rfl rfl (q_assign) ?_
 refine aC_ rfl rfl (q_nilz (lv) bc) ?_
 refine aC_ rfl rfl (q_assign) ?_
 refine AOps.nil ?_
 refine AWp.seq ?_
 refine AWp.region ?_
 refine aC_ rfl rfl (q_assign) ?_
 refine AOps.nil ?_
 refine AWp.seq ?_
 refine AWp.block ?_
 refine AWp.loopR (α := Nat) [5, 6, 7, 8, 9, 10, 11, 12, 13, 14, 15, 16, 17, 18, 19, 20, 21, 22, 23, 24] (fun i => [(5, i64 i)]) (fun i => []) (fun i => zer b i = zer b 0 ∧ i ≤ b.length + 255) (fun i => b.length - i) 0 ?_ (Back.mk' (HasT.cons HasT.nil) HasH.nil) ?_
 ·
  exact ⟨rfl, Nat.zero_le _⟩
 ·
  rintro i ⟨hz, hi⟩
  refine AWp.seq ?_
  refine AWp.seq ?_
  refine AWp.region ?_
  refine aC_ rfl rfl (q_move) ?_
  refine aC_ rfl rfl (q_move) ?_
  refine aC_ rfl rfl (q_len) ?_
  refine AOps.dec rfl rfl (q_lss) (fun h2_3 => ?_) (fun h2_3 => ?_)
  ·
   refine aC_ rfl rfl (q_move) ?_
   refine AOps.gcons rfl rfl rfl rfl rfl (q_move) ?_
   refine AOps.gcons rfl rfl rfl rfl rfl (q_move) ?_
   refine AOps.gcons rfl rfl rfl rfl rfl (q_ix) ?_
   refine AOps.gcons rfl rfl rfl rfl rfl (q_load) ?_
   refine AOps.gdec rfl rfl rfl rfl rfl (q_neq) (fun h2_9 => ?_) (fun h2_9 => ?_)
   ·
    refine aC_ rfl rfl (q_pick) ?_
    refine AOps.nil ?_
    refine AWp.cond_t rfl ?_
    refine AWp.skip ?_
    refine AWp.block ?_
    refine AWp.region ?_
    have hk := (b.getD i default).toNat_lt
    have he : (b.getD (i : Int).toNat default).toNat = (b.getD i default).toNat := rfl
    have k9 : ¬ (b.getD i default).toNat = 0 := fun e => h2_9 (by show ((b.getD i default).toNat : Int) = 0; omega)
    refine aC_ rfl rfl (q_move) ?_
    refine aC_ rfl rfl (q_move) ?_
    refine aC_ rfl rfl (q_move) ?_
    refine aC_ rfl rfl (q_ix) ?_
    refine aC_ rfl rfl (q_load) ?_
    refine aC_ rfl rfl (q_conv_8i) ?_
    refine aC_ rfl rfl (q_add) ?_
    refine aC_ rfl rfl (q_add) ?_
    refine aC_ rfl rfl (q_assign) ?_
    refine AOps.nil ?_
    refine ⟨i + 1 + (b.getD i default).toNat, ?_, Back.mk' (HasT.cons HasT.nil (h1 := by exact i64_eq (by show (i : Int) + (1 + ((b.getD i default).toNat : Int)) = ((i + 1 + (b.getD i default).toNat : Nat) : Int); omega)) ) HasH.nil, ?_⟩
    ·
     exact ⟨(zer_step (by omega) k9).symm.trans hz, by omega⟩
    ·
     omega
   ·
    refine aC_ rfl rfl (q_pick) ?_
    refine AOps.nil ?_
    refine AWp.cond_f rfl ?_
    refine AWp.exit ?_
    refine AWp.seq ?_
    refine AWp.seq ?_
    refine AWp.region ?_
    have k9 : ((b.getD i default).toNat : Int) = 0 := Classical.not_not.1 h2_9
    have hz0 : zer b 0 = i := by rw [← hz]; exact zer_end (by omega)
    refine aC_ rfl rfl (q_move) ?_
    refine aC_ rfl rfl (q_move) ?_
    refine aC_ rfl rfl (q_len) ?_
    refine AOps.dec rfl rfl (q_geq) (fun h4_3 => ?_) (fun h4_3 => ?_)
    ·
     exfalso; omega
    ·
     refine aC_ rfl rfl (q_move) ?_
     have ei : ((i : Int) + 1).toNat = i + 1 := by omega
     refine AOps.gcons rfl rfl rfl rfl rfl (q_move) ?_
     refine AOps.gcons rfl rfl rfl rfl rfl (q_move) ?_
     refine AOps.gcons rfl rfl rfl rfl rfl (q_add) ?_
     refine AOps.gcons rfl rfl rfl rfl rfl (q_sl) ?_
     refine AOps.gcons rfl rfl rfl rfl rfl (by first | exact q_conv_zs | exact q_conv_ls) ?_
     refine AOps.gbool rfl rfl rfl rfl rfl (q_call (lv) (hc := c_name_Can _ (by first | assumption | omega | decide | (simp; omega) | (simp [*]; done)))) (fun h4_10 => ?_) (fun h4_10 => ?_)
     ·
      refine AOps.gcons rfl rfl rfl rfl rfl (q_not) ?_
      refine aC_ rfl rfl (q_pick) ?_
      refine AOps.nil ?_
      refine AWp.cond_f rfl ?_
      refine AWp.skip ?_
      refine AWp.seq ?_
      refine AWp.draws [⟨0, [0], [], some 38, _, none⟩,
 ⟨1, [5], [], some 39, _, none⟩,
 ⟨2, [39], [], some 40, _, none⟩,
 ⟨3, [38, 40], [], some 41, _, none⟩,
 ⟨4, [41], [], some 42, _, none⟩,
 ⟨5, [0], [], some 43, _, none⟩,
 ⟨6, [5], [], some 44, _, none⟩,
 ⟨7, [44], [], some 45, _, none⟩,
 ⟨8, [43, 45], [], some 46, _, none⟩,
 ⟨9, [42], [], some 2, _, none⟩,
 ⟨10, [46], [], some 3, _, none⟩,
 ⟨11, [], [], some 4, _, none⟩]
       [kN_ 0 [0] [] 38,
 kN_ 1 [5] [] 39,
 kN_ 2 [39] [] 40,
 kN_ 3 [38, 40] [] 41,
 kN_ 4 [41] [] 42,
 kN_ 5 [0] [] 43,
 kN_ 6 [5] [] 44,
 kN_ 7 [44] [] 45,
 kN_ 8 [43, 45] [] 46,
 kN_ 9 [42] [] 2,
 kN_ 10 [46] [] 3,
 kN_ 11 [] [] 4]
       mixed_ok rfl (by kernel_rfl) ⟨dK_ fun s0 => oG_ rfl rfl (q_move),
 dK_ fun s0 => oG_ rfl rfl (q_move),
 dK_ fun s0 => oG_ rfl rfl (q_add),
 dK_ fun s0 => oG_ rfl rfl (q_sl),
 dK_ fun s0 => oG_ rfl rfl (by first | exact q_conv_zs | exact q_conv_ls),
 dK_ fun s0 => oG_ rfl rfl (q_move),
 dK_ fun s0 => oG_ rfl rfl (q_move),
 dK_ fun s0 => oG_ rfl rfl (q_add),
 dK_ fun s0 => oG_ rfl rfl (q_sl),
 dK_ fun s0 => oG_ rfl rfl (q_assign),
 dK_ fun s0 => oG_ rfl rfl (q_assign),
 dK_ fun s0 => oG_ rfl rfl (q_assign), trivial⟩ ?_
      dsimp only [final, DS.upd, AS.seto]
      refine AWp.ret ?_
      show Fin te Try.f119 _ _
      refine q_ret (lv) [_, _, _] [_, _, _] ?_
      rw [ei] at h4_10
      obtain ⟨q1, q2, q3⟩ := cut_at (b := b) (k := i + 1) (by omega) h4_10
      rw [q1, q2, q3, ei]; rfl
     ·
      refine AOps.gcons rfl rfl rfl rfl rfl (q_not) ?_
      refine aC_ rfl rfl (q_pick) ?_
      refine AOps.nil ?_
      refine AWp.cond_t rfl ?_
      refine AWp.seq ?_
      refine AWp.region ?_
      refine aC_ rfl rfl (q_assign) ?_
      refine aC_ rfl rfl (q_nilz (lv) bc) ?_
      refine aC_ rfl rfl (q_assign) ?_
      refine AOps.nil ?_
      refine AWp.ret ?_
      show Fin te Try.f119 _ _
      refine q_ret (lv) [_, _, _] [_, _, _] ?_
      have ho : cutO b = false := by rw [ei] at h4_10; rw [cutO, hz0, h4_10, Bool.and_false]
      rw [(cut_no ho).1, (cut_no ho).2, ho]; rfl
  ·
   refine aC_ rfl rfl (q_move) ?_
   refine aG_ rfl rfl rfl rfl rfl rfl rfl rfl ?_
   refine aG_ rfl rfl rfl rfl rfl rfl rfl rfl ?_
   refine aG_ rfl rfl rfl rfl rfl rfl rfl rfl ?_
   refine aG_ rfl rfl rfl rfl rfl rfl rfl rfl ?_
   refine aG_ rfl rfl rfl rfl rfl rfl rfl rfl ?_
   refine aC_ rfl rfl (q_pick) ?_
   refine AOps.nil ?_
   refine AWp.cond_f rfl ?_
   refine AWp.exit ?_
   refine AWp.seq ?_
   refine AWp.seq ?_
   refine AWp.region ?_
   have hz0 : zer b 0 = i := by rw [← hz]; exact zer_end (by omega)
   refine aC_ rfl rfl (q_move) ?_
   refine aC_ rfl rfl (q_move) ?_
   refine aC_ rfl rfl (q_len) ?_
   refine AOps.dec rfl rfl (q_geq) (fun h4_3 => ?_) (fun h4_3 => ?_)
   ·
    refine aC_ rfl rfl (q_move) ?_
    have ei : ((i : Int) + 1).toNat = i + 1 := by omega
    refine aG_ rfl rfl rfl rfl rfl rfl rfl rfl ?_
    refine aG_ rfl rfl rfl rfl rfl rfl rfl rfl ?_
    refine aG_ rfl rfl rfl rfl rfl rfl rfl rfl ?_
    refine aG_ rfl rfl rfl rfl rfl rfl rfl rfl ?_
    refine aG_ rfl rfl rfl rfl rfl rfl rfl rfl ?_
    refine aG_ rfl rfl rfl rfl rfl rfl rfl rfl ?_
    refine aG_ rfl rfl rfl rfl rfl rfl rfl rfl ?_
    refine aC_ rfl rfl (q_pick) ?_
    refine AOps.nil ?_
    refine AWp.cond_t rfl ?_
    refine AWp.seq ?_
    refine AWp.region ?_
    refine aC_ rfl rfl (q_assign) ?_
    refine aC_ rfl rfl (q_nilz (lv) bc) ?_
    refine aC_ rfl rfl (q_assign) ?_
    refine AOps.nil ?_
    refine AWp.ret ?_
    show Fin te Try.f119 _ _
    refine q_ret (lv) [_, _, _] [_, _, _] ?_
    have ho : cutO b = false := by rw [cutO, hz0, decide_eq_false (by omega)]; rfl
    rw [(cut_no ho).1, (cut_no ho).2, ho]; rfl
   ·
    exfalso; omega
set_option maxRecDepth 20000 in
set_option maxHeartbeats 2000000 in
theorem c_rdata_SOA (b : List UInt8) (lv : Nat) (h : b.length ≤ 140737488351232) : AC Try.prog 110 [.fz lv b.length (cl bc b)] emp (Ret (.tup [soaA (soaV b), tf (soaO b)])) := by
 have hc1 := cut_len b
 have hc2 := cut_len (cutR b)
 refine AC.intro te_ok (fn := Try.f110) ⟨Try.func110, rfl, rfl⟩ (Nat.le_of_ble_eq_true rfl) ?_
 refine AWp.seq ?_
 refine AWp.region ?_
 refine aC_ rfl rfl (q_alloc 100) ?_
 refine aC_ rfl rfl (q_assign) ?_
 refine AOps.nil ?_
 refine AWp.seq ?_
 refine AWp.region ?_
 refine aC_ rfl rfl (q_alloc 200) ?_
 refine AOps.nil ?_
 refine AWp.seq ?_
 refine AWp.region ?_
 refine aC_ rfl rfl (q_assign) ?_
 refine AOps.nil ?_
 refine AWp.seq ?_
 refine AWp.region ?_
 refine aC_ rfl rfl (q_move) ?_
 refine aC_ rfl rfl (q_assign) ?_
 refine AOps.nil ?_
 refine AWp.seq ?_
 refine AWp.seq ?_
 refine AWp.region ?_
 refine aC_ rfl rfl (q_move) ?_
 refine aC_ rfl rfl (q_call (lv) (hc := c_rdata_cut _ _ (by first | assumption | omega | decide | (simp; omega) | (simp [*]; done)))) ?_
 refine aC_ rfl rfl (q_move) ?_
 refine aC_ rfl rfl (q_extract) ?_
 refine aC_ rfl rfl (q_extract) ?_
 refine AOps.bool rfl rfl (q_extract) (fun h4_5 => ?_) (fun h4_5 => ?_)
 ·
  refine aC_ rfl rfl (q_fa) ?_
  refine aC_ rfl rfl (q_store) ?_
  refine aC_ rfl rfl (q_assign) ?_
  refine aC_ rfl rfl (q_assign) ?_
  refine AOps.nil ?_
  refine AWp.seq ?_
  refine AWp.region ?_
  refine aC_ rfl rfl (q_move) ?_
  refine aC_ rfl rfl (q_not) ?_
  refine AOps.nil ?_
  refine AWp.cond_f rfl ?_
  refine AWp.skip ?_
  refine AWp.seq ?_
  refine AWp.seq ?_
  refine AWp.region ?_
  refine aC_ rfl rfl (q_move) ?_
  refine aC_ rfl rfl (q_call (lv) (hc := c_rdata_cut _ _ (by first | assumption | omega | decide | (simp; omega) | (simp [*]; done)))) ?_
  refine aC_ rfl rfl (q_move) ?_
  refine aC_ rfl rfl (q_extract) ?_
  refine aC_ rfl rfl (q_extract) ?_
  refine AOps.bool rfl rfl (q_extract) (fun h7_5 => ?_) (fun h7_5 => ?_)
  ·
   refine aC_ rfl rfl (q_fa) ?_
   refine aC_ rfl rfl (q_store) ?_
   refine aC_ rfl rfl (q_assign) ?_
   refine aC_ rfl rfl (q_assign) ?_
   refine AOps.nil ?_
   refine AWp.seq ?_
   refine AWp.region ?_
   refine aC_ rfl rfl (q_move) ?_
   refine aC_ rfl rfl (q_not) ?_
   refine aC_ rfl rfl (q_move) ?_
   refine AOps.gcons rfl rfl rfl rfl rfl (q_move) ?_
   refine AOps.gcons rfl rfl rfl rfl rfl (q_len) ?_
   refine AOps.gdec rfl rfl rfl rfl rfl (q_neq) (fun h8_5 => ?_) (fun h8_5 => ?_)
   ·
    refine aC_ rfl rfl (q_pick) ?_
    refine AOps.nil ?_
    refine AWp.cond_t rfl ?_
    refine AWp.seq ?_
    refine AWp.region ?_
    refine aC_ rfl rfl (q_build []) ?_
    refine aC_ rfl rfl (q_store) ?_
    refine aC_ rfl rfl (q_assign) ?_
    refine AOps.nil ?_
    refine AWp.ret ?_
    show Fin te Try.f110 _ _
    refine q_ret (0) [_, _] [_, _] ?_
    have ho : soaO b = false := by rw [soaO, decide_eq_false (by omega), Bool.and_false, Bool.and_false]
    rw [soaV_no ho, ho]; rfl
   ·
    refine aC_ rfl rfl (q_pick) ?_
    refine AOps.nil ?_
    refine AWp.cond_f rfl ?_
    refine AWp.skip ?_
    refine AWp.seq ?_
    refine AWp.seq ?_
    refine AWp.region ?_
    have hc20 : (cutR (cutR b)).length = 20 := by omega
    have hL5 : ([2, 3, 4, 5, 6] : List Nat).length = 5 := rfl
    refine aC_ rfl rfl (q_fa) ?_
    refine aC_ rfl rfl (q_fa) ?_
    refine aC_ rfl rfl (q_fa) ?_
    refine aC_ rfl rfl (q_fa) ?_
    refine aC_ rfl rfl (q_fa) ?_
    refine aC_ rfl rfl (q_bs 1105 (fun k => [AV.ptr 200 0 k]) [2, 3, 4, 5, 6] [(_, _), (_, _), (_, _), (_, _), (_, _)]) ?_
    refine aC_ rfl rfl (q_len) ?_
    refine aC_ rfl rfl (q_move) ?_
    refine AOps.nil ?_
    refine AWp.block ?_
    refine AWp.loopR (α := Nat) [7, 8, 10, 44, 45, 46, 47, 48, 49, 50, 51, 52, 53, 54, 55, 56, 57, 58, 59, 60, 61, 62, 63, 64, 65, 66, 67, 68, 69, 70, 71] (fun i => [(44, i64 i)]) (fun i => [(200, .box [str (cutM b), str (cutM (cutR b)), i64 (wd (cutR (cutR b)) 0 i), i64 (wd (cutR (cutR b)) 1 i), i64 (wd (cutR (cutR b)) 2 i), i64 (wd (cutR (cutR b)) 3 i), i64 (wd (cutR (cutR b)) 4 i)])]) (fun i => i ≤ 5) (fun i => 5 - i) 0 ?_ (Back.mk' (HasT.cons HasT.nil) (HasH.cons HasH.nil)) ?_
    ·
     exact Nat.zero_le _
    ·
     rintro i hi
     refine AWp.seq ?_
     refine AWp.region ?_
     refine AOps.dec rfl rfl (q_lss) (fun h11_0 => ?_) (fun h11_0 => ?_)
     ·
      refine AOps.nil ?_
      refine AWp.seq ?_
      refine AWp.cond_t rfl ?_
      refine AWp.skip ?_
      refine AWp.seq ?_
      refine AWp.block ?_
      refine AWp.seq ?_
      refine AWp.region ?_
      obtain rfl | rfl | rfl | rfl | rfl : i = 0 ∨ i = 1 ∨ i = 2 ∨ i = 3 ∨ i = 4 := by omega
      ·
       refine aC_ rfl rfl (q_move) ?_
       refine aC_ rfl rfl (q_ix) ?_
       refine aC_ rfl rfl (q_load (z := .ptr 200 0 2) (hy := rfl)) ?_
       refine aC_ rfl rfl (q_assign) ?_
       refine aC_ rfl rfl (q_assign) ?_
       refine AOps.nil ?_
       refine AWp.seq ?_
       refine AWp.region ?_
       refine aC_ rfl rfl (q_move) ?_
       refine aC_ rfl rfl (q_move) ?_
       refine aC_ rfl rfl (q_mul) ?_
       refine aC_ rfl rfl (q_move) ?_
       refine aC_ rfl rfl (q_mul) ?_
       refine aC_ rfl rfl (q_add) ?_
       refine aC_ rfl rfl (q_sl) ?_
       refine aC_ rfl rfl (q_len) ?_
       refine aC_ rfl rfl (q_move) ?_
       refine AOps.nil ?_
       refine AWp.block ?_
       refine AWp.loopR (α := Nat) [10, 57, 58, 59, 60, 61, 62, 63, 64, 65, 66, 67, 68, 69, 70] (fun k => [(57, i64 k)]) (fun k => [(200, .box [str (cutM b), str (cutM (cutR b)), i64 (num ((dg (cutR (cutR b)) 0).take k)), i64 (wd (cutR (cutR b)) 1 0), i64 (wd (cutR (cutR b)) 2 0), i64 (wd (cutR (cutR b)) 3 0), i64 (wd (cutR (cutR b)) 4 0)])]) (fun k => k ≤ 4) (fun k => 4 - k) 0 ?_ (Back.mk' (HasT.cons HasT.nil) (HasH.cons HasH.nil)) ?_
       ·
        exact Nat.zero_le _
       ·
        rintro k hk
        have hD := dg_len (j := 0) hc20 (by omega)
        have hn : k < 4 → 0 ≤ num ((dg (cutR (cutR b)) 0).take k) ∧ num ((dg (cutR (cutR b)) 0).take k) ≤ 16777215 := fun h4 => num_24 h4 (by rw [List.length_take]; omega)
        have hDl : ((dg (cutR (cutR b)) 0).length : Int) = 4 := by omega
        have hDl2 : ((List.drop (4 * ((0 : Nat) : Int)).toNat (List.take (4 * ((0 : Nat) : Int) + 4).toNat (cutR (cutR b)))).length : Int) = 4 := hDl
        have hby : ((List.drop (4 * ((0 : Nat) : Int)).toNat (List.take (4 * ((0 : Nat) : Int) + 4).toNat (cutR (cutR b)))).getD (k : Int).toNat default).toNat < 256 := ((dg (cutR (cutR b)) 0).getD k default).toNat_lt
        refine AWp.seq ?_
        refine AWp.region ?_
        refine AOps.dec rfl rfl (q_lss) (fun h14_0 => ?_) (fun h14_0 => ?_)
        ·
         refine AOps.nil ?_
         refine AWp.seq ?_
         refine AWp.cond_t rfl ?_
         refine AWp.skip ?_
         refine AWp.seq ?_
         refine AWp.block ?_
         refine AWp.seq ?_
         refine AWp.region ?_
         refine aC_ rfl rfl (q_ix) ?_
         refine aC_ rfl rfl (q_load) ?_
         refine aC_ rfl rfl (q_assign) ?_
         refine AOps.nil ?_
         refine AWp.region ?_
         refine aC_ rfl rfl (q_move) ?_
         refine aC_ rfl rfl (q_move) ?_
         refine aC_ rfl rfl (q_nil) ?_
         refine aC_ rfl rfl (q_load) ?_
         refine aC_ rfl rfl (q_shl 8) ?_
         refine aC_ rfl rfl (q_move) ?_
         refine aC_ rfl rfl (q_conv_8i) ?_
         refine aC_ rfl rfl (q_orb) ?_
         refine aC_ rfl rfl (q_nil) ?_
         refine aC_ rfl rfl (q_store) ?_
         refine AOps.nil ?_
         refine AWp.region ?_
         refine aC_ rfl rfl (q_add) ?_
         refine aC_ rfl rfl (q_move) ?_
         refine AOps.nil ?_
         have hst := num_step (l := dg (cutR (cutR b)) 0) (k := k) (by omega)
         refine ⟨k + 1, ?_, Back.mk' (HasT.cons HasT.nil) (HasH.cons HasH.nil (h1 := by rw [hst]; rfl) ), ?_⟩
         ·
          omega
         ·
          omega
        ·
         refine AOps.nil ?_
         refine AWp.seq ?_
         refine AWp.cond_f rfl ?_
         refine AWp.exit ?_
         refine AWp.region ?_
         obtain rfl : k = 4 := by omega
         refine aC_ rfl rfl (q_add) ?_
         refine aC_ rfl rfl (q_move) ?_
         refine AOps.nil ?_
         refine ⟨1, ?_, Back.mk' (HasT.cons HasT.nil) (HasH.cons HasH.nil), ?_⟩
         ·
          omega
         ·
          omega
      ·
       refine aC_ rfl rfl (q_move) ?_
       refine aC_ rfl rfl (q_ix) ?_
       refine aC_ rfl rfl (q_load (z := .ptr 200 0 3) (hy := rfl)) ?_
       refine aC_ rfl rfl (q_assign) ?_
       refine aC_ rfl rfl (q_assign) ?_
       refine AOps.nil ?_
       refine AWp.seq ?_
       refine AWp.region ?_
       refine aC_ rfl rfl (q_move) ?_
       refine aC_ rfl rfl (q_move) ?_
       refine aC_ rfl rfl (q_mul) ?_
       refine aC_ rfl rfl (q_move) ?_
       refine aC_ rfl rfl (q_mul) ?_
       refine aC_ rfl rfl (q_add) ?_
       refine aC_ rfl rfl (q_sl) ?_
       refine aC_ rfl rfl (q_len) ?_
       refine aC_ rfl rfl (q_move) ?_
       refine AOps.nil ?_
       refine AWp.block ?_
       refine AWp.loopR (α := Nat) [10, 57, 58, 59, 60, 61, 62, 63, 64, 65, 66, 67, 68, 69, 70] (fun k => [(57, i64 k)]) (fun k => [(200, .box [str (cutM b), str (cutM (cutR b)), i64 (wd (cutR (cutR b)) 0 1), i64 (num ((dg (cutR (cutR b)) 1).take k)), i64 (wd (cutR (cutR b)) 2 1), i64 (wd (cutR (cutR b)) 3 1), i64 (wd (cutR (cutR b)) 4 1)])]) (fun k => k ≤ 4) (fun k => 4 - k) 0 ?_ (Back.mk' (HasT.cons HasT.nil) (HasH.cons HasH.nil)) ?_
       ·
        exact Nat.zero_le _
       ·
        rintro k hk
        have hD := dg_len (j := 1) hc20 (by omega)
        have hn : k < 4 → 0 ≤ num ((dg (cutR (cutR b)) 1).take k) ∧ num ((dg (cutR (cutR b)) 1).take k) ≤ 16777215 := fun h4 => num_24 h4 (by rw [List.length_take]; omega)
        have hDl : ((dg (cutR (cutR b)) 1).length : Int) = 4 := by omega
        have hDl2 : ((List.drop (4 * ((1 : Nat) : Int)).toNat (List.take (4 * ((1 : Nat) : Int) + 4).toNat (cutR (cutR b)))).length : Int) = 4 := hDl
        have hby : ((List.drop (4 * ((1 : Nat) : Int)).toNat (List.take (4 * ((1 : Nat) : Int) + 4).toNat (cutR (cutR b)))).getD (k : Int).toNat default).toNat < 256 := ((dg (cutR (cutR b)) 1).getD k default).toNat_lt
        refine AWp.seq ?_
        refine AWp.region ?_
        refine AOps.dec rfl rfl (q_lss) (fun h14_0 => ?_) (fun h14_0 => ?_)
        ·
         refine AOps.nil ?_
         refine AWp.seq ?_
         refine AWp.cond_t rfl ?_
         refine AWp.skip ?_
         refine AWp.seq ?_
         refine AWp.block ?_
         refine AWp.seq ?_
         refine AWp.region ?_
         refine aC_ rfl rfl (q_ix) ?_
         refine aC_ rfl rfl (q_load) ?_
         refine aC_ rfl rfl (q_assign) ?_
         refine AOps.nil ?_
         refine AWp.region ?_
         refine aC_ rfl rfl (q_move) ?_
         refine aC_ rfl rfl (q_move) ?_
         refine aC_ rfl rfl (q_nil) ?_
         refine aC_ rfl rfl (q_load) ?_
         refine aC_ rfl rfl (q_shl 8) ?_
         refine aC_ rfl rfl (q_move) ?_
         refine aC_ rfl rfl (q_conv_8i) ?_
         refine aC_ rfl rfl (q_orb) ?_
         refine aC_ rfl rfl (q_nil) ?_
         refine aC_ rfl rfl (q_store) ?_
         refine AOps.nil ?_
         refine AWp.region ?_
         refine aC_ rfl rfl (q_add) ?_
         refine aC_ rfl rfl (q_move) ?_
         refine AOps.nil ?_
         have hst := num_step (l := dg (cutR (cutR b)) 1) (k := k) (by omega)
         refine ⟨k + 1, ?_, Back.mk' (HasT.cons HasT.nil) (HasH.cons HasH.nil (h1 := by rw [hst]; rfl) ), ?_⟩
         ·
          omega
         ·
          omega
        ·
         refine AOps.nil ?_
         refine AWp.seq ?_
         refine AWp.cond_f rfl ?_
         refine AWp.exit ?_
         refine AWp.region ?_
         obtain rfl : k = 4 := by omega
         refine aC_ rfl rfl (q_add) ?_
         refine aC_ rfl rfl (q_move) ?_
         refine AOps.nil ?_
         refine ⟨2, ?_, Back.mk' (HasT.cons HasT.nil) (HasH.cons HasH.nil), ?_⟩
         ·
          omega
         ·
          omega
      ·
       refine aC_ rfl rfl (q_move) ?_
       refine aC_ rfl rfl (q_ix) ?_
       refine aC_ rfl rfl (q_load (z := .ptr 200 0 4) (hy := rfl)) ?_
       refine aC_ rfl rfl (q_assign) ?_
       refine aC_ rfl rfl (q_assign) ?_
       refine AOps.nil ?_
       refine AWp.seq ?_
       refine AWp.region ?_
       refine aC_ rfl rfl (q_move) ?_
       refine aC_ rfl rfl (q_move) ?_
       refine aC_ rfl rfl (q_mul) ?_
       refine aC_ rfl rfl (q_move) ?_
       refine aC_ rfl rfl (q_mul) ?_
       refine aC_ rfl rfl (q_add) ?_
       refine aC_ rfl rfl (q_sl) ?_
       refine aC_ rfl rfl (q_len) ?_
       refine aC_ rfl rfl (q_move) ?_
       refine AOps.nil ?_
       refine AWp.block ?_
       refine AWp.loopR (α := Nat) [10, 57, 58, 59, 60, 61, 62, 63, 64, 65, 66, 67, 68, 69, 70] (fun k => [(57, i64 k)]) (fun k => [(200, .box [str (cutM b), str (cutM (cutR b)), i64 (wd (cutR (cutR b)) 0 2), i64 (wd (cutR (cutR b)) 1 2), i64 (num ((dg (cutR (cutR b)) 2).take k)), i64 (wd (cutR (cutR b)) 3 2), i64 (wd (cutR (cutR b)) 4 2)])]) (fun k => k ≤ 4) (fun k => 4 - k) 0 ?_ (Back.mk' (HasT.cons HasT.nil) (HasH.cons HasH.nil)) ?_
       ·
        exact Nat.zero_le _
       ·
        rintro k hk
        have hD := dg_len (j := 2) hc20 (by omega)
        have hn : k < 4 → 0 ≤ num ((dg (cutR (cutR b)) 2).take k) ∧ num ((dg (cutR (cutR b)) 2).take k) ≤ 16777215 := fun h4 => num_24 h4 (by rw [List.length_take]; omega)
        have hDl : ((dg (cutR (cutR b)) 2).length : Int) = 4 := by omega
        have hDl2 : ((List.drop (4 * ((2 : Nat) : Int)).toNat (List.take (4 * ((2 : Nat) : Int) + 4).toNat (cutR (cutR b)))).length : Int) = 4 := hDl
        have hby : ((List.drop (4 * ((2 : Nat) : Int)).toNat (List.take (4 * ((2 : Nat) : Int) + 4).toNat (cutR (cutR b)))).getD (k : Int).toNat default).toNat < 256 := ((dg (cutR (cutR b)) 2).getD k default).toNat_lt
        refine AWp.seq ?_
        refine AWp.region ?_
        refine AOps.dec rfl rfl (q_lss) (fun h14_0 => ?_) (fun h14_0 => ?_)
        ·
         refine AOps.nil ?_
         refine AWp.seq ?_
         refine AWp.cond_t rfl ?_
         refine AWp.skip ?_
         refine AWp.seq ?_
         refine AWp.block ?_
         refine AWp.seq ?_
         refine AWp.region ?_
         refine aC_ rfl rfl (q_ix) ?_
         refine aC_ rfl rfl (q_load) ?_
         refine aC_ rfl rfl (q_assign) ?_
         refine AOps.nil ?_
         refine AWp.region ?_
         refine aC_ rfl rfl (q_move) ?_
         refine aC_ rfl rfl (q_move) ?_
         refine aC_ rfl rfl (q_nil) ?_
         refine aC_ rfl rfl (q_load) ?_
         refine aC_ rfl rfl (q_shl 8) ?_
         refine aC_ rfl rfl (q_move) ?_
         refine aC_ rfl rfl (q_conv_8i) ?_
         refine aC_ rfl rfl (q_orb) ?_
         refine aC_ rfl rfl (q_nil) ?_
         refine aC_ rfl rfl (q_store) ?_
         refine AOps.nil ?_
         refine AWp.region ?_
         refine aC_ rfl rfl (q_add) ?_
         refine aC_ rfl rfl (q_move) ?_
         refine AOps.nil ?_
         have hst := num_step (l := dg (cutR (cutR b)) 2) (k := k) (by omega)
         refine ⟨k + 1, ?_, Back.mk' (HasT.cons HasT.nil) (HasH.cons HasH.nil (h1 := by rw [hst]; rfl) ), ?_⟩
         ·
          omega
         ·
          omega
        ·
         refine AOps.nil ?_
         refine AWp.seq ?_
         refine AWp.cond_f rfl ?_
         refine AWp.exit ?_
         refine AWp.region ?_
         obtain rfl : k = 4 := by omega
         refine aC_ rfl rfl (q_add) ?_
         refine aC_ rfl rfl (q_move) ?_
         refine AOps.nil ?_
         refine ⟨3, ?_, Back.mk' (HasT.cons HasT.nil) (HasH.cons HasH.nil), ?_⟩
         ·
          omega
         ·
          omega
      ·
       refine aC_ rfl rfl (q_move) ?_
       refine aC_ rfl rfl (q_ix) ?_
       refine aC_ rfl rfl (q_load (z := .ptr 200 0 5) (hy := rfl)) ?_
       refine aC_ rfl rfl (q_assign) ?_
       refine aC_ rfl rfl (q_assign) ?_
       refine AOps.nil ?_
       refine AWp.seq ?_
       refine AWp.region ?_
       refine aC_ rfl rfl (q_move) ?_
       refine aC_ rfl rfl (q_move) ?_
       refine aC_ rfl rfl (q_mul) ?_
       refine aC_ rfl rfl (q_move) ?_
       refine aC_ rfl rfl (q_mul) ?_
       refine aC_ rfl rfl (q_add) ?_
       refine aC_ rfl rfl (q_sl) ?_
       refine aC_ rfl rfl (q_len) ?_
       refine aC_ rfl rfl (q_move) ?_
       refine AOps.nil ?_
       refine AWp.block ?_
       refine AWp.loopR (α := Nat) [10, 57, 58, 59, 60, 61, 62, 63, 64, 65, 66, 67, 68, 69, 70] (fun k => [(57, i64 k)]) (fun k => [(200, .box [str (cutM b), str (cutM (cutR b)), i64 (wd (cutR (cutR b)) 0 3), i64 (wd (cutR (cutR b)) 1 3), i64 (wd (cutR (cutR b)) 2 3), i64 (num ((dg (cutR (cutR b)) 3).take k)), i64 (wd (cutR (cutR b)) 4 3)])]) (fun k => k ≤ 4) (fun k => 4 - k) 0 ?_ (Back.mk' (HasT.cons HasT.nil) (HasH.cons HasH.nil)) ?_
       ·
        exact Nat.zero_le _
       ·
        rintro k hk
        have hD := dg_len (j := 3) hc20 (by omega)
        have hn : k < 4 → 0 ≤ num ((dg (cutR (cutR b)) 3).take k) ∧ num ((dg (cutR (cutR b)) 3).take k) ≤ 16777215 := fun h4 => num_24 h4 (by rw [List.length_take]; omega)
        have hDl : ((dg (cutR (cutR b)) 3).length : Int) = 4 := by omega
        have hDl2 : ((List.drop (4 * ((3 : Nat) : Int)).toNat (List.take (4 * ((3 : Nat) : Int) + 4).toNat (cutR (cutR b)))).length : Int) = 4 := hDl
        have hby : ((List.drop (4 * ((3 : Nat) : Int)).toNat (List.take (4 * ((3 : Nat) : Int) + 4).toNat (cutR (cutR b)))).getD (k : Int).toNat default).toNat < 256 := ((dg (cutR (cutR b)) 3).getD k default).toNat_lt
        refine AWp.seq ?_
        refine AWp.region ?_
        refine AOps.dec rfl rfl (q_lss) (fun h14_0 => ?_) (fun h14_0 => ?_)
        ·
         refine AOps.nil ?_
         refine AWp.seq ?_
         refine AWp.cond_t rfl ?_
         refine AWp.skip ?_
         refine AWp.seq ?_
         refine AWp.block ?_
         refine AWp.seq ?_
         refine AWp.region ?_
         refine aC_ rfl rfl (q_ix) ?_
         refine aC_ rfl rfl (q_load) ?_
         refine aC_ rfl rfl (q_assign) ?_
         refine AOps.nil ?_
         refine AWp.region ?_
         refine aC_ rfl rfl (q_move) ?_
         refine aC_ rfl rfl (q_move) ?_
         refine aC_ rfl rfl (q_nil) ?_
         refine aC_ rfl rfl (q_load) ?_
         refine aC_ rfl rfl (q_shl 8) ?_
         refine aC_ rfl rfl (q_move) ?_
         refine aC_ rfl rfl (q_conv_8i) ?_
         refine aC_ rfl rfl (q_orb) ?_
         refine aC_ rfl rfl (q_nil) ?_
         refine aC_ rfl rfl (q_store) ?_
         refine AOps.nil ?_
         refine AWp.region ?_
         refine aC_ rfl rfl (q_add) ?_
         refine aC_ rfl rfl (q_move) ?_
         refine AOps.nil ?_
         have hst := num_step (l := dg (cutR (cutR b)) 3) (k := k) (by omega)
         refine ⟨k + 1, ?_, Back.mk' (HasT.cons HasT.nil) (HasH.cons HasH.nil (h1 := by rw [hst]; rfl) ), ?_⟩
         ·
          omega
         ·
          omega
        ·
         refine AOps.nil ?_
         refine AWp.seq ?_
         refine AWp.cond_f rfl ?_
         refine AWp.exit ?_
         refine AWp.region ?_
         obtain rfl : k = 4 := by omega
         refine aC_ rfl rfl (q_add) ?_
         refine aC_ rfl rfl (q_move) ?_
         refine AOps.nil ?_
         refine ⟨4, ?_, Back.mk' (HasT.cons HasT.nil) (HasH.cons HasH.nil), ?_⟩
         ·
          omega
         ·
          omega
      ·
       refine aC_ rfl rfl (q_move) ?_
       refine aC_ rfl rfl (q_ix) ?_
       refine aC_ rfl rfl (q_load (z := .ptr 200 0 6) (hy := rfl)) ?_
       refine aC_ rfl rfl (q_assign) ?_
       refine aC_ rfl rfl (q_assign) ?_
       refine AOps.nil ?_
       refine AWp.seq ?_
       refine AWp.region ?_
       refine aC_ rfl rfl (q_move) ?_
       refine aC_ rfl rfl (q_move) ?_
       refine aC_ rfl rfl (q_mul) ?_
       refine aC_ rfl rfl (q_move) ?_
       refine aC_ rfl rfl (q_mul) ?_
       refine aC_ rfl rfl (q_add) ?_
       refine aC_ rfl rfl (q_sl) ?_
       refine aC_ rfl rfl (q_len) ?_
       refine aC_ rfl rfl (q_move) ?_
       refine AOps.nil ?_
       refine AWp.block ?_
       refine AWp.loopR (α := Nat) [10, 57, 58, 59, 60, 61, 62, 63, 64, 65, 66, 67, 68, 69, 70] (fun k => [(57, i64 k)]) (fun k => [(200, .box [str (cutM b), str (cutM (cutR b)), i64 (wd (cutR (cutR b)) 0 4), i64 (wd (cutR (cutR b)) 1 4), i64 (wd (cutR (cutR b)) 2 4), i64 (wd (cutR (cutR b)) 3 4), i64 (num ((dg (cutR (cutR b)) 4).take k))])]) (fun k => k ≤ 4) (fun k => 4 - k) 0 ?_ (Back.mk' (HasT.cons HasT.nil) (HasH.cons HasH.nil)) ?_
       ·
        exact Nat.zero_le _
       ·
        rintro k hk
        have hD := dg_len (j := 4) hc20 (by omega)
        have hn : k < 4 → 0 ≤ num ((dg (cutR (cutR b)) 4).take k) ∧ num ((dg (cutR (cutR b)) 4).take k) ≤ 16777215 := fun h4 => num_24 h4 (by rw [List.length_take]; omega)
        have hDl : ((dg (cutR (cutR b)) 4).length : Int) = 4 := by omega
        have hDl2 : ((List.drop (4 * ((4 : Nat) : Int)).toNat (List.take (4 * ((4 : Nat) : Int) + 4).toNat (cutR (cutR b)))).length : Int) = 4 := hDl
        have hby : ((List.drop (4 * ((4 : Nat) : Int)).toNat (List.take (4 * ((4 : Nat) : Int) + 4).toNat (cutR (cutR b)))).getD (k : Int).toNat default).toNat < 256 := ((dg (cutR (cutR b)) 4).getD k default).toNat_lt
        refine AWp.seq ?_
        refine AWp.region ?_
        refine AOps.dec rfl rfl (q_lss) (fun h14_0 => ?_) (fun h14_0 => ?_)
        ·
         refine AOps.nil ?_
         refine AWp.seq ?_
         refine AWp.cond_t rfl ?_
         refine AWp.skip ?_
         refine AWp.seq ?_
         refine AWp.block ?_
         refine AWp.seq ?_
         refine AWp.region ?_
         refine aC_ rfl rfl (q_ix) ?_
         refine aC_ rfl rfl (q_load) ?_
         refine aC_ rfl rfl (q_assign) ?_
         refine AOps.nil ?_
         refine AWp.region ?_
         refine aC_ rfl rfl (q_move) ?_
         refine aC_ rfl rfl (q_move) ?_
         refine aC_ rfl rfl (q_nil) ?_
         refine aC_ rfl rfl (q_load) ?_
         refine aC_ rfl rfl (q_shl 8) ?_
         refine aC_ rfl rfl (q_move) ?_
         refine aC_ rfl rfl (q_conv_8i) ?_
         refine aC_ rfl rfl (q_orb) ?_
         refine aC_ rfl rfl (q_nil) ?_
         refine aC_ rfl rfl (q_store) ?_
         refine AOps.nil ?_
         refine AWp.region ?_
         refine aC_ rfl rfl (q_add) ?_
         refine aC_ rfl rfl (q_move) ?_
         refine AOps.nil ?_
         have hst := num_step (l := dg (cutR (cutR b)) 4) (k := k) (by omega)
         refine ⟨k + 1, ?_, Back.mk' (HasT.cons HasT.nil) (HasH.cons HasH.nil (h1 := by rw [hst]; rfl) ), ?_⟩
         ·
          omega
         ·
          omega
        ·
         refine AOps.nil ?_
         refine AWp.seq ?_
         refine AWp.cond_f rfl ?_
         refine AWp.exit ?_
         refine AWp.region ?_
         obtain rfl : k = 4 := by omega
         refine aC_ rfl rfl (q_add) ?_
         refine aC_ rfl rfl (q_move) ?_
         refine AOps.nil ?_
         refine ⟨5, ?_, Back.mk' (HasT.cons HasT.nil) (HasH.cons HasH.nil), ?_⟩
         ·
          omega
         ·
          omega
     ·
      refine AOps.nil ?_
      refine AWp.seq ?_
      refine AWp.cond_f rfl ?_
      refine AWp.exit ?_
      refine AWp.seq ?_
      refine AWp.region ?_
      obtain rfl : i = 5 := by omega
      have ho : soaO b = true := by rw [soaO, h4_5, h7_5, decide_eq_true (by omega)]; rfl
      have hv : soaV b = ⟨cutM b, cutM (cutR b), wd (cutR (cutR b)) 0 5, wd (cutR (cutR b)) 1 5, wd (cutR (cutR b)) 2 5, wd (cutR (cutR b)) 3 5, wd (cutR (cutR b)) 4 5⟩ := by rw [soaV, if_pos ho]
      refine aC_ rfl rfl (q_load) ?_
      refine aC_ rfl rfl (q_store) ?_
      refine aC_ rfl rfl (q_assign) ?_
      refine AOps.nil ?_
      refine AWp.ret ?_
      show Fin te Try.f110 _ _
      refine q_ret (0) [_, _] [_, _] ?_
      rw [hv, ho]; rfl
  ·
   refine aC_ rfl rfl (q_fa) ?_
   refine aC_ rfl rfl (q_store) ?_
   refine aC_ rfl rfl (q_assign) ?_
   refine aC_ rfl rfl (q_assign) ?_
   refine AOps.nil ?_
   refine AWp.seq ?_
   refine AWp.region ?_
   refine aC_ rfl rfl (q_move) ?_
   refine aC_ rfl rfl (q_not) ?_
   refine aC_ rfl rfl (q_move) ?_
   refine aG_ rfl rfl rfl rfl rfl rfl rfl rfl ?_
   refine aG_ rfl rfl rfl rfl rfl rfl rfl rfl ?_
   refine aG_ rfl rfl rfl rfl rfl rfl rfl rfl ?_
   refine aC_ rfl rfl (q_pick) ?_
   refine AOps.nil ?_
   refine AWp.cond_t rfl ?_
   refine AWp.seq ?_
   refine AWp.region ?_
   refine aC_ rfl rfl (q_build []) ?_
   refine aC_ rfl rfl (q_store) ?_
   refine aC_ rfl rfl (q_assign) ?_
   refine AOps.nil ?_
   refine AWp.ret ?_
   show Fin te Try.f110 _ _
   refine q_ret (0) [_, _] [_, _] ?_
   have ho : soaO b = false := by rw [soaO, h7_5, Bool.false_and, Bool.and_false]
   rw [soaV_no ho, ho]; rfl
 ·
  refine aC_ rfl rfl (q_fa) ?_
  refine aC_ rfl rfl (q_store) ?_
  refine aC_ rfl rfl (q_assign) ?_
  refine aC_ rfl rfl (q_assign) ?_
  refine AOps.nil ?_
  refine AWp.seq ?_
  refine AWp.region ?_
  refine aC_ rfl rfl (q_move) ?_
  refine aC_ rfl rfl (q_not) ?_
  refine AOps.nil ?_
  refine AWp.cond_t rfl ?_
  refine AWp.seq ?_
  refine AWp.region ?_
  refine aC_ rfl rfl (q_build []) ?_
  refine aC_ rfl rfl (q_store) ?_
  refine aC_ rfl rfl (q_assign) ?_
  refine AOps.nil ?_
  refine AWp.ret ?_
  show Fin te Try.f110 _ _
  refine q_ret (0) [_, _] [_, _] ?_
  have ho : soaO b = false := by rw [soaO, h4_5]; rfl
  rw [soaV_no ho, ho]; rfl
end Go.Proofs.Ytokccoloholgaaa.Fw


set_option linter.unusedVariables false
set_option linter.unusedSimpArgs false
namespace Go.Proofs.Ytokccoloholgaaa.Fw
open Go.RowKit
def fourR (b : List UInt8) : Int := (((((b.getD 0 default).toNat : Int) * 256 + ((b.getD 1 default).toNat : Int)) * 256 + ((b.getD 2 default).toNat : Int)) * 256 + ((b.getD 3 default).toNat : Int))
theorem fourR_drop {c : List UInt8} {j : Nat} (hc : c.length = 20) (hj : j < 5) : fourR (c.drop (4 * j)) = wd c j 5 := by
  rw [← four_num hc hj, fourR]
  have e : ∀ k, (c.drop (4 * j)).getD k default = c.getD (4 * j + k) default := fun k => by rw [List.getD_eq_getElem?_getD, List.getD_eq_getElem?_getD, List.getElem?_drop]
  rw [e 0, e 1, e 2, e 3]
  rfl
def canS (t : Int) (d : List UInt8) : Bool := if t = 6 then decide (d.length ≤ 65535) && soaO d else canR t d
def namS (t : Int) (d : List UInt8) : List (List UInt8) := if t = 6 then (if canS 6 d then [(soaV d).m, (soaV d).r] else []) else namR t d
theorem canS_ne {t : Int} {d : List UInt8} (h : t ≠ 6) : canS t d = canR t d := if_neg h
theorem namS_ne {t : Int} {d : List UInt8} (h : t ≠ 6) : namS t d = namR t d := if_neg h
theorem canS_6 {d : List UInt8} (h : d.length ≤ 65535) : canS 6 d = soaO d := by rw [canS, if_pos rfl, decide_eq_true h, Bool.true_and]
theorem canS_6n {d : List UInt8} (h : ¬ d.length ≤ 65535) : canS 6 d = false := by rw [canS, if_pos rfl, decide_eq_false h, Bool.false_and]
set_option maxRecDepth 20000 in
set_option maxHeartbeats 2000000 in
theorem c_bytes_Clone (l : List UInt8) (lv : Nat) (h : l.length ≤ 140737488351232) : AC Try.prog 97 [.fz lv l.length (cl bc l)] emp (Ret (.fz 0 l.length (cl bc l))) := by
 refine AC.intro te_ok (fn := Try.f97) ⟨Try.func97, rfl, rfl⟩ (Nat.le_of_ble_eq_true rfl) ?_
 refine AWp.seq ?_
 refine AWp.region ?_
 refine aC_ rfl rfl (q_nilz (0) bc) ?_
 refine AOps.nil ?_
 refine AWp.seq ?_
 refine AWp.seq ?_
 refine AWp.region ?_
 refine aC_ rfl rfl (q_move) ?_
 refine AOps.snil (fun h1_1 => ?_) ?_
 ·
  refine AOps.nil ?_
  refine AWp.cond_t rfl ?_
  refine AWp.seq ?_
  refine AWp.region ?_
  refine aC_ rfl rfl (q_nilz (0) bc) ?_
  refine AOps.nil ?_
  refine AWp.ret ?_
  show Fin te Try.f97 _ _
  refine q_ret (0) [_] [_] ?_
  obtain rfl := List.eq_nil_of_length_eq_zero h1_1
  rfl
 ·
  refine AOps.nil ?_
  refine AWp.cond_f rfl ?_
  refine AWp.skip ?_
  refine AWp.seq ?_
  refine AWp.region ?_
  refine aC_ rfl rfl (q_bs 400 bc [] []) ?_
  refine aC_ rfl rfl (q_move) ?_
  refine aC_ rfl rfl (q_app) ?_
  refine aC_ rfl rfl (q_assign) ?_
  refine AOps.nil ?_
  refine AWp.ret ?_
  show Fin te Try.f97 _ _
  refine q_ret (0) [_] [_] ?_
  rfl
set_option maxRecDepth 20000 in
set_option maxHeartbeats 2000000 in
theorem c_ciceroneref03_First (b : List UInt8) (lv : Nat) (h : b.length ≤ 140737488351232) : AC Try.prog 120 [.fz lv b.length (cl bc b)] emp (Ret (.tup [str (cutM b), .fz lv (cutR b).length (cl bc (cutR b)), tf (cutO b)])) := by
 refine AC.intro te_ok (fn := Try.f120) ⟨Try.func120, rfl, rfl⟩ (Nat.le_of_ble_eq_true rfl) ?_
 refine AWp.seq ?_
 refine AWp.region ?_
 refine aC_ rfl rfl (q_assign) ?_
 refine aC_ rfl rfl (q_nilz (lv) bc) ?_
 refine aC_ rfl rfl (q_assign) ?_
 refine AOps.nil ?_
 refine AWp.seq ?_
 refine AWp.seq ?_
 refine AWp.region ?_
 refine aC_ rfl rfl (q_assign) ?_
 refine AOps.nil ?_
 refine AWp.block ?_
 refine AWp.loopR (α := Nat) [2, 3, 4, 5, 6, 7, 8, 9, 10, 11, 12, 13, 14, 15, 16, 17, 18, 19, 20, 21, 22, 23, 24, 25, 26, 27] (fun k => [(5, i64 k)]) (fun k => []) (fun k => 1 ≤ k ∧ k ≤ 256 ∧ ∀ j, 1 ≤ j → j < k → canN (b.take j) = false) (fun k => 256 - k) 1 ?_ (Back.mk' (HasT.cons HasT.nil) HasH.nil) ?_
 ·
  exact ⟨by omega, by omega, fun j h1 h2 => by omega⟩
 ·
  rintro k ⟨hk1, hk2, hk⟩
  refine AWp.seq ?_
  refine AWp.seq ?_
  refine AWp.region ?_
  refine aC_ rfl rfl (q_move) ?_
  refine aC_ rfl rfl (q_move) ?_
  refine aC_ rfl rfl (q_len) ?_
  refine AOps.dec rfl rfl (q_leq) (fun h2_3 => ?_) (fun h2_3 => ?_)
  ·
   refine aC_ rfl rfl (q_move) ?_
   refine AOps.gcons rfl rfl rfl rfl rfl (q_move) ?_
   refine AOps.gdec rfl rfl rfl rfl rfl (q_leq) (fun h2_6 => ?_) (fun h2_6 => ?_)
   ·
    refine aC_ rfl rfl (q_pick) ?_
    refine AOps.nil ?_
    refine AWp.cond_t rfl ?_
    refine AWp.skip ?_
    refine AWp.seq ?_
    refine AWp.block ?_
    refine AWp.seq ?_
    refine AWp.region ?_
    refine aC_ rfl rfl (q_move) ?_
    refine aC_ rfl rfl (q_move) ?_
    refine aC_ rfl rfl (q_sl) ?_
    refine aC_ rfl rfl (by first | exact q_conv_zs | exact q_conv_ls) ?_
    refine AOps.bool rfl rfl (q_call (lv) (hc := c_ciceroneref01_Can _ (by first | assumption | omega | decide | (simp; omega) | (simp [*]; done)))) (fun h4_4 => ?_) (fun h4_4 => ?_)
    ·
     refine AOps.nil ?_
     refine AWp.cond_t rfl ?_
     refine AWp.seq ?_
     refine AWp.draws [⟨0, [0], [], some 21, _, none⟩,
 ⟨1, [5], [], some 22, _, none⟩,
 ⟨2, [21, 22], [], some 23, _, none⟩,
 ⟨3, [23], [], some 24, _, none⟩,
 ⟨4, [0], [], some 25, _, none⟩,
 ⟨5, [5], [], some 26, _, none⟩,
 ⟨6, [25, 26], [], some 27, _, none⟩,
 ⟨7, [24], [], some 2, _, none⟩,
 ⟨8, [27], [], some 3, _, none⟩,
 ⟨9, [], [], some 4, _, none⟩]
      [kN_ 0 [0] [] 21,
 kN_ 1 [5] [] 22,
 kN_ 2 [21, 22] [] 23,
 kN_ 3 [23] [] 24,
 kN_ 4 [0] [] 25,
 kN_ 5 [5] [] 26,
 kN_ 6 [25, 26] [] 27,
 kN_ 7 [24] [] 2,
 kN_ 8 [27] [] 3,
 kN_ 9 [] [] 4]
      mixed_ok rfl (by kernel_rfl) ⟨dK_ fun s0 => oG_ rfl rfl (q_move),
 dK_ fun s0 => oG_ rfl rfl (q_move),
 dK_ fun s0 => oG_ rfl rfl (q_sl),
 dK_ fun s0 => oG_ rfl rfl (by first | exact q_conv_zs | exact q_conv_ls),
 dK_ fun s0 => oG_ rfl rfl (q_move),
 dK_ fun s0 => oG_ rfl rfl (q_move),
 dK_ fun s0 => oG_ rfl rfl (q_sl),
 dK_ fun s0 => oG_ rfl rfl (q_assign),
 dK_ fun s0 => oG_ rfl rfl (q_assign),
 dK_ fun s0 => oG_ rfl rfl (q_assign), trivial⟩ ?_
     dsimp only [final, DS.upd, AS.seto]
     refine AWp.ret ?_
     show Fin te Try.f120 _ _
     refine q_ret (lv) [_, _, _] [_, _, _] ?_
     obtain ⟨q1, q2, q3⟩ := cut_at (b := b) (k := k) (by omega) h4_4
     rw [q1, q2, q3]; rfl
    ·
     refine AOps.nil ?_
     refine AWp.cond_f rfl ?_
     refine AWp.skip ?_
     refine AWp.region ?_
     refine aC_ rfl rfl (q_move) ?_
     refine aC_ rfl rfl (q_add) ?_
     refine aC_ rfl rfl (q_assign) ?_
     refine AOps.nil ?_
     refine ⟨k + 1, ?_, Back.mk' (HasT.cons HasT.nil) HasH.nil, ?_⟩
     ·
      refine ⟨by omega, by omega, fun j h1 h2 => ?_⟩
      by_cases e : j = k
      · subst e; exact h4_4
      · exact hk j h1 (by omega)
     ·
      omega
   ·
    refine aC_ rfl rfl (q_pick) ?_
    refine AOps.nil ?_
    refine AWp.cond_f rfl ?_
    refine AWp.exit ?_
    refine AWp.seq ?_
    refine AWp.region ?_
    refine aC_ rfl rfl (q_assign) ?_
    refine aC_ rfl rfl (q_nilz (lv) bc) ?_
    refine aC_ rfl rfl (q_assign) ?_
    refine AOps.nil ?_
    refine AWp.ret ?_
    show Fin te Try.f120 _ _
    refine q_ret (lv) [_, _, _] [_, _, _] ?_
    have ho := cut_none (b := b) (fun j h1 h2 h3 => hk j h1 (by omega))
    rw [(cut_no ho).1, (cut_no ho).2, ho]; rfl
  ·
   refine aC_ rfl rfl (q_move) ?_
   refine aG_ rfl rfl rfl rfl rfl rfl rfl rfl ?_
   refine aG_ rfl rfl rfl rfl rfl rfl rfl rfl ?_
   refine aC_ rfl rfl (q_pick) ?_
   refine AOps.nil ?_
   refine AWp.cond_f rfl ?_
   refine AWp.exit ?_
   refine AWp.seq ?_
   refine AWp.region ?_
   refine aC_ rfl rfl (q_assign) ?_
   refine aC_ rfl rfl (q_nilz (lv) bc) ?_
   refine aC_ rfl rfl (q_assign) ?_
   refine AOps.nil ?_
   refine AWp.ret ?_
   show Fin te Try.f120 _ _
   refine q_ret (lv) [_, _, _] [_, _, _] ?_
   have ho := cut_none (b := b) (fun j h1 h2 h3 => hk j h1 (by omega))
   rw [(cut_no ho).1, (cut_no ho).2, ho]; rfl
set_option maxRecDepth 20000 in
set_option maxHeartbeats 2000000 in
theorem c_ciceroneref03_four (b : List UInt8) (lv : Nat) (h : b.length ≤ 140737488351232) (h4 : 4 ≤ b.length) : AC Try.prog 121 [.fz lv b.length (cl bc b)] emp (Ret (i64 (fourR b))) := by
 have f0 := (b.getD (Int.toNat 0) default).toNat_lt
 have g0 := (b[0]?.getD default).toNat_lt
 have f1 := (b.getD (Int.toNat 1) default).toNat_lt
 have g1 := (b[1]?.getD default).toNat_lt
 have f2 := (b.getD (Int.toNat 2) default).toNat_lt
 have g2 := (b[2]?.getD default).toNat_lt
 have f3 := (b.getD (Int.toNat 3) default).toNat_lt
 have g3 := (b[3]?.getD default).toNat_lt
 refine AC.intro te_ok (fn := Try.f121) ⟨Try.func121, rfl, rfl⟩ (Nat.le_of_ble_eq_true rfl) ?_
 refine AWp.seq ?_
 refine AWp.region ?_
 refine aC_ rfl rfl (q_assign) ?_
 refine AOps.nil ?_
 refine AWp.seq ?_
 refine AWp.draws [⟨0, [0], [], some 3, _, none⟩,
 ⟨1, [3], [], some 4, _, none⟩,
 ⟨2, [4], [], some 5, _, none⟩,
 ⟨3, [5], [], some 6, _, none⟩,
 ⟨4, [6], [], some 7, _, none⟩,
 ⟨5, [0], [], some 8, _, none⟩,
 ⟨6, [8], [], some 9, _, none⟩,
 ⟨7, [9], [], some 10, _, none⟩,
 ⟨8, [10], [], some 11, _, none⟩,
 ⟨9, [7, 11], [], some 12, _, none⟩,
 ⟨10, [12], [], some 13, _, none⟩,
 ⟨11, [0], [], some 14, _, none⟩,
 ⟨12, [14], [], some 15, _, none⟩,
 ⟨13, [15], [], some 16, _, none⟩,
 ⟨14, [16], [], some 17, _, none⟩,
 ⟨15, [13, 17], [], some 18, _, none⟩,
 ⟨16, [18], [], some 19, _, none⟩,
 ⟨17, [0], [], some 20, _, none⟩,
 ⟨18, [20], [], some 21, _, none⟩,
 ⟨19, [21], [], some 22, _, none⟩,
 ⟨20, [22], [], some 23, _, none⟩,
 ⟨21, [19, 23], [], some 24, _, none⟩,
 ⟨22, [24], [], some 2, _, none⟩]
  [kN_ 0 [0] [] 3,
 kN_ 1 [3] [] 4,
 kN_ 2 [4] [] 5,
 kN_ 3 [5] [] 6,
 kN_ 4 [6] [] 7,
 kN_ 5 [0] [] 8,
 kN_ 6 [8] [] 9,
 kN_ 7 [9] [] 10,
 kN_ 8 [10] [] 11,
 kN_ 9 [7, 11] [] 12,
 kN_ 10 [12] [] 13,
 kN_ 11 [0] [] 14,
 kN_ 12 [14] [] 15,
 kN_ 13 [15] [] 16,
 kN_ 14 [16] [] 17,
 kN_ 15 [13, 17] [] 18,
 kN_ 16 [18] [] 19,
 kN_ 17 [0] [] 20,
 kN_ 18 [20] [] 21,
 kN_ 19 [21] [] 22,
 kN_ 20 [22] [] 23,
 kN_ 21 [19, 23] [] 24,
 kN_ 22 [24] [] 2]
  mixed_ok rfl (by kernel_rfl) ⟨dK_ fun s0 => oG_ rfl rfl (q_move),
 dK_ fun s0 => oG_ rfl rfl (q_ix),
 dK_ fun s0 => oG_ rfl rfl (q_load),
 dK_ fun s0 => oG_ rfl rfl (q_conv_8i),
 dK_ fun s0 => oG_ rfl rfl (q_mul),
 dK_ fun s0 => oG_ rfl rfl (q_move),
 dK_ fun s0 => oG_ rfl rfl (q_ix),
 dK_ fun s0 => oG_ rfl rfl (q_load),
 dK_ fun s0 => oG_ rfl rfl (q_conv_8i),
 dK_ fun s0 => oG_ rfl rfl (q_add),
 dK_ fun s0 => oG_ rfl rfl (q_mul),
 dK_ fun s0 => oG_ rfl rfl (q_move),
 dK_ fun s0 => oG_ rfl rfl (q_ix),
 dK_ fun s0 => oG_ rfl rfl (q_load),
 dK_ fun s0 => oG_ rfl rfl (q_conv_8i),
 dK_ fun s0 => oG_ rfl rfl (q_add),
 dK_ fun s0 => oG_ rfl rfl (q_mul),
 dK_ fun s0 => oG_ rfl rfl (q_move),
 dK_ fun s0 => oG_ rfl rfl (q_ix),
 dK_ fun s0 => oG_ rfl rfl (q_load),
 dK_ fun s0 => oG_ rfl rfl (q_conv_8i),
 dK_ fun s0 => oG_ rfl rfl (q_add),
 dK_ fun s0 => oG_ rfl rfl (q_assign), trivial⟩ ?_
 dsimp only [final, DS.upd, AS.seto]
 refine AWp.ret ?_
 show Fin te Try.f121 _ _
 refine q_ret (0) [_] [_] ?_
 rfl
set_option maxRecDepth 20000 in
set_option maxHeartbeats 2000000 in
theorem c_ciceroneref03_SOA (b : List UInt8) (lv : Nat) (h : b.length ≤ 140737488351232) : AC Try.prog 113 [.fz lv b.length (cl bc b)] emp (Ret (.tup [soaA (soaV b), tf (soaO b)])) := by
 have hc1 := cut_len b
 have hc2 := cut_len (cutR b)
 refine AC.intro te_ok (fn := Try.f113) ⟨Try.func113, rfl, rfl⟩ (Nat.le_of_ble_eq_true rfl) ?_
 refine AWp.seq ?_
 refine AWp.region ?_
 refine aC_ rfl rfl (q_alloc 100) ?_
 refine aC_ rfl rfl (q_assign) ?_
 refine AOps.nil ?_
 refine AWp.seq ?_
 refine AWp.region ?_
 refine aC_ rfl rfl (q_move) ?_
 refine aC_ rfl rfl (q_call (lv) (hc := c_ciceroneref03_First _ _ (by first | assumption | omega | decide | (simp; omega) | (simp [*]; done)))) ?_
 refine aC_ rfl rfl (q_move) ?_
 refine aC_ rfl rfl (q_extract) ?_
 refine aC_ rfl rfl (q_extract) ?_
 refine AOps.bool rfl rfl (q_extract) (fun h1_5 => ?_) (fun h1_5 => ?_)
 ·
  refine aC_ rfl rfl (q_assign) ?_
  refine aC_ rfl rfl (q_assign) ?_
  refine aC_ rfl rfl (q_assign) ?_
  refine AOps.nil ?_
  refine AWp.seq ?_
  refine AWp.seq ?_
  refine AWp.region ?_
  refine aC_ rfl rfl (q_move) ?_
  refine aC_ rfl rfl (q_not) ?_
  refine AOps.nil ?_
  refine AWp.cond_f rfl ?_
  refine AWp.skip ?_
  refine AWp.seq ?_
  refine AWp.region ?_
  refine aC_ rfl rfl (q_move) ?_
  refine aC_ rfl rfl (q_call (lv) (hc := c_ciceroneref03_First _ _ (by first | assumption | omega | decide | (simp; omega) | (simp [*]; done)))) ?_
  refine aC_ rfl rfl (q_move) ?_
  refine aC_ rfl rfl (q_extract) ?_
  refine aC_ rfl rfl (q_extract) ?_
  refine AOps.bool rfl rfl (q_extract) (fun h4_5 => ?_) (fun h4_5 => ?_)
  ·
   refine aC_ rfl rfl (q_assign) ?_
   refine aC_ rfl rfl (q_assign) ?_
   refine aC_ rfl rfl (q_assign) ?_
   refine AOps.nil ?_
   refine AWp.seq ?_
   refine AWp.seq ?_
   refine AWp.region ?_
   refine aC_ rfl rfl (q_move) ?_
   refine aC_ rfl rfl (q_not) ?_
   refine aC_ rfl rfl (q_move) ?_
   refine AOps.gcons rfl rfl rfl rfl rfl (q_move) ?_
   refine AOps.gcons rfl rfl rfl rfl rfl (q_len) ?_
   refine AOps.gdec rfl rfl rfl rfl rfl (q_neq) (fun h5_5 => ?_) (fun h5_5 => ?_)
   ·
    refine aC_ rfl rfl (q_pick) ?_
    refine AOps.nil ?_
    refine AWp.cond_t rfl ?_
    refine AWp.seq ?_
    refine AWp.region ?_
    refine aC_ rfl rfl (q_build []) ?_
    refine aC_ rfl rfl (q_store) ?_
    refine aC_ rfl rfl (q_assign) ?_
    refine AOps.nil ?_
    refine AWp.ret ?_
    show Fin te Try.f113 _ _
    refine q_ret (0) [_, _] [_, _] ?_
    have ho : soaO b = false := by rw [soaO, decide_eq_false (by omega), Bool.and_false, Bool.and_false]
    rw [soaV_no ho, ho]; rfl
   ·
    refine aC_ rfl rfl (q_pick) ?_
    refine AOps.nil ?_
    refine AWp.cond_f rfl ?_
    refine AWp.skip ?_
    refine AWp.seq ?_
    have hc20 : (cutR (cutR b)).length = 20 := by omega
    have ho : soaO b = true := by rw [soaO, h1_5, h4_5, decide_eq_true (by omega)]; rfl
    have hv : soaV b = ⟨cutM b, cutM (cutR b), wd (cutR (cutR b)) 0 5, wd (cutR (cutR b)) 1 5, wd (cutR (cutR b)) 2 5, wd (cutR (cutR b)) 3 5, wd (cutR (cutR b)) 4 5⟩ := by rw [soaV, if_pos ho]
    have e0 : fourR (cutR (cutR b)) = wd (cutR (cutR b)) 0 5 := fourR_drop (j := 0) hc20 (by omega)
    have e1 : fourR ((cutR (cutR b)).drop (Int.toNat 4)) = wd (cutR (cutR b)) 1 5 := fourR_drop (j := 1) hc20 (by omega)
    have e2 : fourR ((cutR (cutR b)).drop (Int.toNat 8)) = wd (cutR (cutR b)) 2 5 := fourR_drop (j := 2) hc20 (by omega)
    have e3 : fourR ((cutR (cutR b)).drop (Int.toNat 12)) = wd (cutR (cutR b)) 3 5 := fourR_drop (j := 3) hc20 (by omega)
    have e4 : fourR ((cutR (cutR b)).drop (Int.toNat 16)) = wd (cutR (cutR b)) 4 5 := fourR_drop (j := 4) hc20 (by omega)
    refine AWp.draws [⟨0, [4], [], some 31, _, none⟩,
 ⟨1, [7], [], some 32, _, none⟩,
 ⟨2, [5], [], some 33, _, none⟩,
 ⟨3, [33], [], some 34, _, none⟩,
 ⟨4, [5], [], some 35, _, none⟩,
 ⟨5, [35], [], some 36, _, none⟩,
 ⟨6, [36], [], some 37, _, none⟩,
 ⟨7, [5], [], some 38, _, none⟩,
 ⟨8, [38], [], some 39, _, none⟩,
 ⟨9, [39], [], some 40, _, none⟩,
 ⟨10, [5], [], some 41, _, none⟩,
 ⟨11, [41], [], some 42, _, none⟩,
 ⟨12, [42], [], some 43, _, none⟩,
 ⟨13, [5], [], some 44, _, none⟩,
 ⟨14, [44], [], some 45, _, none⟩,
 ⟨15, [45], [], some 46, _, none⟩,
 ⟨16, [31, 32, 34, 37, 40, 43, 46], [], some 47, _, none⟩,
 ⟨17, [2, 47], [100], none, _, some (100, _)⟩,
 ⟨18, [], [], some 3, _, none⟩]
     [kN_ 0 [4] [] 31,
 kN_ 1 [7] [] 32,
 kN_ 2 [5] [] 33,
 kN_ 3 [33] [] 34,
 kN_ 4 [5] [] 35,
 kN_ 5 [35] [] 36,
 kN_ 6 [36] [] 37,
 kN_ 7 [5] [] 38,
 kN_ 8 [38] [] 39,
 kN_ 9 [39] [] 40,
 kN_ 10 [5] [] 41,
 kN_ 11 [41] [] 42,
 kN_ 12 [42] [] 43,
 kN_ 13 [5] [] 44,
 kN_ 14 [44] [] 45,
 kN_ 15 [45] [] 46,
 kN_ 16 [31, 32, 34, 37, 40, 43, 46] [] 47,
 ⟨17, [2, 47], [100], none, .any, some (100, .box [])⟩,
 kN_ 18 [] [] 3]
     mixed_ok rfl (by kernel_rfl) ⟨dK_ fun s0 => oG_ rfl rfl (q_move),
 dK_ fun s0 => oG_ rfl rfl (q_move),
 dK_ fun s0 => oG_ rfl rfl (q_move),
 dK_ fun s0 => oG_ rfl rfl (q_call (lv) (hc := c_ciceroneref03_four _ _ (by first | assumption | omega | decide | (simp; omega) | (simp [*]; done)) (by first | assumption | omega | decide | (simp; omega) | (simp [*]; done)))),
 dK_ fun s0 => oG_ rfl rfl (q_move),
 dK_ fun s0 => oG_ rfl rfl (q_sl),
 dK_ fun s0 => oG_ rfl rfl (q_call (lv) (hc := c_ciceroneref03_four _ _ (by first | assumption | omega | decide | (simp; omega) | (simp [*]; done)) (by first | assumption | omega | decide | (simp; omega) | (simp [*]; done)))),
 dK_ fun s0 => oG_ rfl rfl (q_move),
 dK_ fun s0 => oG_ rfl rfl (q_sl),
 dK_ fun s0 => oG_ rfl rfl (q_call (lv) (hc := c_ciceroneref03_four _ _ (by first | assumption | omega | decide | (simp; omega) | (simp [*]; done)) (by first | assumption | omega | decide | (simp; omega) | (simp [*]; done)))),
 dK_ fun s0 => oG_ rfl rfl (q_move),
 dK_ fun s0 => oG_ rfl rfl (q_sl),
 dK_ fun s0 => oG_ rfl rfl (q_call (lv) (hc := c_ciceroneref03_four _ _ (by first | assumption | omega | decide | (simp; omega) | (simp [*]; done)) (by first | assumption | omega | decide | (simp; omega) | (simp [*]; done)))),
 dK_ fun s0 => oG_ rfl rfl (q_move),
 dK_ fun s0 => oG_ rfl rfl (q_sl),
 dK_ fun s0 => oG_ rfl rfl (q_call (lv) (hc := c_ciceroneref03_four _ _ (by first | assumption | omega | decide | (simp; omega) | (simp [*]; done)) (by first | assumption | omega | decide | (simp; omega) | (simp [*]; done)))),
 dK_ fun s0 => oG_ rfl rfl (q_build [(_, _), (_, _), (_, _), (_, _), (_, _), (_, _), (_, _)]),
 dK_ fun s0 => oG_ rfl rfl (q_store),
 dK_ fun s0 => oG_ rfl rfl (q_assign), trivial⟩ ?_
    dsimp only [final, DS.upd, AS.seto]
    refine AWp.ret ?_
    show Fin te Try.f113 _ _
    refine q_ret (0) [_, _] [_, _] ?_
    rw [e0, e1, e2, e3, e4, hv, ho]; rfl
  ·
   refine aC_ rfl rfl (q_assign) ?_
   refine aC_ rfl rfl (q_assign) ?_
   refine aC_ rfl rfl (q_assign) ?_
   refine AOps.nil ?_
   refine AWp.seq ?_
   refine AWp.seq ?_
   refine AWp.region ?_
   refine aC_ rfl rfl (q_move) ?_
   refine aC_ rfl rfl (q_not) ?_
   refine aC_ rfl rfl (q_move) ?_
   refine aG_ rfl rfl rfl rfl rfl rfl rfl rfl ?_
   refine aG_ rfl rfl rfl rfl rfl rfl rfl rfl ?_
   refine aG_ rfl rfl rfl rfl rfl rfl rfl rfl ?_
   refine aC_ rfl rfl (q_pick) ?_
   refine AOps.nil ?_
   refine AWp.cond_t rfl ?_
   refine AWp.seq ?_
   refine AWp.region ?_
   refine aC_ rfl rfl (q_build []) ?_
   refine aC_ rfl rfl (q_store) ?_
   refine aC_ rfl rfl (q_assign) ?_
   refine AOps.nil ?_
   refine AWp.ret ?_
   show Fin te Try.f113 _ _
   refine q_ret (0) [_, _] [_, _] ?_
   have ho : soaO b = false := by rw [soaO, h4_5, Bool.false_and, Bool.and_false]
   rw [soaV_no ho, ho]; rfl
 ·
  refine aC_ rfl rfl (q_assign) ?_
  refine aC_ rfl rfl (q_assign) ?_
  refine aC_ rfl rfl (q_assign) ?_
  refine AOps.nil ?_
  refine AWp.seq ?_
  refine AWp.seq ?_
  refine AWp.region ?_
  refine aC_ rfl rfl (q_move) ?_
  refine aC_ rfl rfl (q_not) ?_
  refine AOps.nil ?_
  refine AWp.cond_t rfl ?_
  refine AWp.seq ?_
  refine AWp.region ?_
  refine aC_ rfl rfl (q_build []) ?_
  refine aC_ rfl rfl (q_store) ?_
  refine aC_ rfl rfl (q_assign) ?_
  refine AOps.nil ?_
  refine AWp.ret ?_
  show Fin te Try.f113 _ _
  refine q_ret (0) [_, _] [_, _] ?_
  have ho : soaO b = false := by rw [soaO, h1_5]; rfl
  rw [soaV_no ho, ho]; rfl
set_option maxRecDepth 20000 in
set_option maxHeartbeats 2000000 in
theorem c_ciceroneref03_texts (b : List UInt8) (lv : Nat) (h : b.length ≤ 140737488351232) : AC Try.prog 114 [.fz lv b.length (cl bc b)] emp (Ret (tf (txtR b))) := by
 refine AC.intro te_ok (fn := Try.f114) ⟨Try.func114, rfl, rfl⟩ (Nat.le_of_ble_eq_true rfl) ?_
 refine AWp.seq ?_
 refine AWp.region ?_
 refine aC_ rfl rfl (q_assign) ?_
 refine AOps.nil ?_
 refine AWp.seq ?_
 refine AWp.seq ?_
 refine AWp.region ?_
 refine aC_ rfl rfl (q_move) ?_
 refine aC_ rfl rfl (q_len) ?_
 refine AOps.dec rfl rfl (q_eql) (fun h1_2 => ?_) (fun h1_2 => ?_)
 ·
  refine AOps.nil ?_
  refine AWp.cond_t rfl ?_
  refine AWp.seq ?_
  refine AWp.region ?_
  refine aC_ rfl rfl (q_assign) ?_
  refine AOps.nil ?_
  refine AWp.ret ?_
  show Fin te Try.f114 _ _
  refine q_ret (0) [_] [_] ?_
  rw [txtR, decide_eq_false (by omega)]; rfl
 ·
  refine AOps.nil ?_
  refine AWp.cond_f rfl ?_
  refine AWp.skip ?_
  refine AWp.seq ?_
  refine AWp.block ?_
  refine AWp.loopR (α := List UInt8) [0, 2, 3, 7, 8, 9, 10, 11, 12, 13, 14, 15, 16, 17, 18, 19, 20, 21, 22] (fun c => [(0, .fz lv c.length (cl bc c))]) (fun c => []) (fun c => txtW c = txtW b ∧ c.length ≤ b.length) (fun c => c.length) b ?_ (Back.mk' (HasT.cons HasT.nil) HasH.nil) ?_
  ·
   exact ⟨rfl, Nat.le_refl _⟩
  ·
   rintro c ⟨hc, hl⟩
   refine AWp.seq ?_
   refine AWp.seq ?_
   refine AWp.region ?_
   refine aC_ rfl rfl (q_move) ?_
   refine aC_ rfl rfl (q_len) ?_
   refine AOps.dec rfl rfl (q_gtr) (fun h3_2 => ?_) (fun h3_2 => ?_)
   ·
    refine AOps.nil ?_
    refine AWp.cond_t rfl ?_
    refine AWp.skip ?_
    refine AWp.block ?_
    refine AWp.seq ?_
    refine AWp.region ?_
    have hk := (c.getD 0 default).toNat_lt
    have he : (c.getD (Int.toNat 0) default).toNat = (c.getD 0 default).toNat := rfl
    have hs : (c[0]?.getD default).toNat = (c.getD 0 default).toNat := congrArg UInt8.toNat (List.getD_eq_getElem?_getD).symm
    refine aC_ rfl rfl (q_move) ?_
    refine aC_ rfl rfl (q_ix) ?_
    refine aC_ rfl rfl (q_load) ?_
    refine aC_ rfl rfl (q_conv_8i) ?_
    refine aC_ rfl rfl (q_assign) ?_
    refine AOps.nil ?_
    refine AWp.seq ?_
    refine AWp.seq ?_
    refine AWp.region ?_
    refine aC_ rfl rfl (q_move) ?_
    refine aC_ rfl rfl (q_len) ?_
    refine aC_ rfl rfl (q_move) ?_
    refine aC_ rfl rfl (q_add) ?_
    refine AOps.dec rfl rfl (q_lss) (fun h5_4 => ?_) (fun h5_4 => ?_)
    ·
     refine AOps.nil ?_
     refine AWp.cond_t rfl ?_
     refine AWp.seq ?_
     refine AWp.region ?_
     refine aC_ rfl rfl (q_assign) ?_
     refine AOps.nil ?_
     refine AWp.ret ?_
     show Fin te Try.f114 _ _
     refine q_ret (0) [_] [_] ?_
     rw [txtR, ← hc, txtW_no (by omega) (by omega), Bool.and_false]; rfl
    ·
     refine AOps.nil ?_
     refine AWp.cond_f rfl ?_
     refine AWp.skip ?_
     refine AWp.region ?_
     refine aC_ rfl rfl (q_move) ?_
     refine aC_ rfl rfl (q_move) ?_
     refine aC_ rfl rfl (q_add) ?_
     refine aC_ rfl rfl (q_sl) ?_
     refine aC_ rfl rfl (q_assign) ?_
     refine AOps.nil ?_
     have e1 : ((1 : Int) + ((c.getD (Int.toNat 0) default).toNat : Int)).toNat = 1 + (c.getD 0 default).toNat := by omega
     refine ⟨_, ?_, Back.mk' (HasT.cons HasT.nil) HasH.nil, ?_⟩
     ·
      rw [e1]; exact ⟨(txtW_step (by omega) (by omega)).symm.trans hc, by rw [List.length_drop]; omega⟩
     ·
      rw [e1, List.length_drop]; omega
   ·
    refine AOps.nil ?_
    refine AWp.cond_f rfl ?_
    refine AWp.exit ?_
    refine AWp.seq ?_
    refine AWp.region ?_
    refine aC_ rfl rfl (q_assign) ?_
    refine AOps.nil ?_
    refine AWp.ret ?_
    show Fin te Try.f114 _ _
    refine q_ret (0) [_] [_] ?_
    rw [txtR, ← hc, txtW_end (by omega), Bool.and_true, decide_eq_true (by omega)]; rfl
set_option maxRecDepth 20000 in
set_option maxHeartbeats 2000000 in
theorem c_ciceroneref03_options (b : List UInt8) (lv : Nat) (h : b.length ≤ 140737488351232) : AC Try.prog 115 [.fz lv b.length (cl bc b)] emp (Ret (tf (optR b))) := by
 refine AC.intro te_ok (fn := Try.f115) ⟨Try.func115, rfl, rfl⟩ (Nat.le_of_ble_eq_true rfl) ?_
 refine AWp.seq ?_
 refine AWp.region ?_
 refine aC_ rfl rfl (q_assign) ?_
 refine AOps.nil ?_
 refine AWp.seq ?_
 refine AWp.block ?_
 refine AWp.loopR (α := List UInt8) [0, 2, 3, 4, 5, 6, 7, 8, 9, 10, 11, 12, 13, 14, 15, 16, 17, 18, 19, 20, 21, 22, 23, 24, 25, 26, 27, 28] (fun c => [(0, .fz lv c.length (cl bc c))]) (fun c => []) (fun c => optR c = optR b ∧ c.length ≤ b.length) (fun c => c.length) b ?_ (Back.mk' (HasT.cons HasT.nil) HasH.nil) ?_
 ·
  exact ⟨rfl, Nat.le_refl _⟩
 ·
  rintro c ⟨hc, hl⟩
  refine AWp.seq ?_
  refine AWp.seq ?_
  refine AWp.region ?_
  refine aC_ rfl rfl (q_move) ?_
  refine aC_ rfl rfl (q_len) ?_
  refine AOps.dec rfl rfl (q_gtr) (fun h1_2 => ?_) (fun h1_2 => ?_)
  ·
   refine AOps.nil ?_
   refine AWp.cond_t rfl ?_
   refine AWp.skip ?_
   refine AWp.block ?_
   refine AWp.seq ?_
   refine AWp.seq ?_
   refine AWp.region ?_
   refine aC_ rfl rfl (q_move) ?_
   refine aC_ rfl rfl (q_len) ?_
   refine AOps.dec rfl rfl (q_lss) (fun h2_2 => ?_) (fun h2_2 => ?_)
   ·
    refine AOps.nil ?_
    refine AWp.cond_t rfl ?_
    refine AWp.seq ?_
    refine AWp.region ?_
    refine aC_ rfl rfl (q_assign) ?_
    refine AOps.nil ?_
    refine AWp.ret ?_
    show Fin te Try.f115 _ _
    refine q_ret (0) [_] [_] ?_
    rw [← hc, optR_no (by omega) (by omega)]; rfl
   ·
    refine AOps.nil ?_
    refine AWp.cond_f rfl ?_
    refine AWp.skip ?_
    refine AWp.seq ?_
    have hk2 := (c.getD 2 default).toNat_lt
    have hk3 := (c.getD 3 default).toNat_lt
    have he2 : (c.getD (Int.toNat 2) default).toNat = (c.getD 2 default).toNat := rfl
    have he3 : (c.getD (Int.toNat 3) default).toNat = (c.getD 3 default).toNat := rfl
    have hs2 : (c[2]?.getD default).toNat = (c.getD 2 default).toNat := congrArg UInt8.toNat (List.getD_eq_getElem?_getD).symm
    have hs3 : (c[3]?.getD default).toNat = (c.getD 3 default).toNat := congrArg UInt8.toNat (List.getD_eq_getElem?_getD).symm
    refine AWp.draws [⟨0, [0], [], some 10, _, none⟩,
 ⟨1, [10], [], some 11, _, none⟩,
 ⟨2, [11], [], some 12, _, none⟩,
 ⟨3, [12], [], some 13, _, none⟩,
 ⟨4, [13], [], some 14, _, none⟩,
 ⟨5, [0], [], some 15, _, none⟩,
 ⟨6, [15], [], some 16, _, none⟩,
 ⟨7, [16], [], some 17, _, none⟩,
 ⟨8, [17], [], some 18, _, none⟩,
 ⟨9, [14, 18], [], some 19, _, none⟩,
 ⟨10, [19], [], some 3, _, none⟩]
     [kN_ 0 [0] [] 10,
 kN_ 1 [10] [] 11,
 kN_ 2 [11] [] 12,
 kN_ 3 [12] [] 13,
 kN_ 4 [13] [] 14,
 kN_ 5 [0] [] 15,
 kN_ 6 [15] [] 16,
 kN_ 7 [16] [] 17,
 kN_ 8 [17] [] 18,
 kN_ 9 [14, 18] [] 19,
 kN_ 10 [19] [] 3]
     mixed_ok rfl (by kernel_rfl) ⟨dK_ fun s0 => oG_ rfl rfl (q_move),
 dK_ fun s0 => oG_ rfl rfl (q_ix),
 dK_ fun s0 => oG_ rfl rfl (q_load),
 dK_ fun s0 => oG_ rfl rfl (q_conv_8i),
 dK_ fun s0 => oG_ rfl rfl (q_mul),
 dK_ fun s0 => oG_ rfl rfl (q_move),
 dK_ fun s0 => oG_ rfl rfl (q_ix),
 dK_ fun s0 => oG_ rfl rfl (q_load),
 dK_ fun s0 => oG_ rfl rfl (q_conv_8i),
 dK_ fun s0 => oG_ rfl rfl (q_add),
 dK_ fun s0 => oG_ rfl rfl (q_assign), trivial⟩ ?_
    dsimp only [final, DS.upd, AS.seto]
    refine AWp.seq ?_
    refine AWp.seq ?_
    refine AWp.region ?_
    refine aC_ rfl rfl (q_move) ?_
    refine aC_ rfl rfl (q_len) ?_
    refine aC_ rfl rfl (q_move) ?_
    refine aC_ rfl rfl (q_add) ?_
    refine AOps.dec rfl rfl (q_lss) (fun h5_4 => ?_) (fun h5_4 => ?_)
    ·
     refine AOps.nil ?_
     refine AWp.cond_t rfl ?_
     refine AWp.seq ?_
     refine AWp.region ?_
     refine aC_ rfl rfl (q_assign) ?_
     refine AOps.nil ?_
     refine AWp.ret ?_
     show Fin te Try.f115 _ _
     refine q_ret (0) [_] [_] ?_
     rw [← hc, optR_no (by omega) (Or.inr (by unfold optK; omega))]; rfl
    ·
     refine AOps.nil ?_
     refine AWp.cond_f rfl ?_
     refine AWp.skip ?_
     refine AWp.region ?_
     refine aC_ rfl rfl (q_move) ?_
     refine aC_ rfl rfl (q_move) ?_
     refine aC_ rfl rfl (q_add) ?_
     refine aC_ rfl rfl (q_sl) ?_
     refine aC_ rfl rfl (q_assign) ?_
     refine AOps.nil ?_
     have e1 : (4 + (((c.getD (Int.toNat 2) default).toNat : Int) * 256 + ((c.getD (Int.toNat 3) default).toNat : Int))).toNat = optK c := by unfold optK; omega
     refine ⟨_, ?_, Back.mk' (HasT.cons HasT.nil) HasH.nil, ?_⟩
     ·
      rw [e1]; exact ⟨(optR_step (by omega) (by omega) (by unfold optK; omega)).symm.trans hc, by rw [List.length_drop]; omega⟩
     ·
      rw [e1, List.length_drop]; unfold optK; omega
  ·
   refine AOps.nil ?_
   refine AWp.cond_f rfl ?_
   refine AWp.exit ?_
   refine AWp.seq ?_
   refine AWp.region ?_
   refine aC_ rfl rfl (q_assign) ?_
   refine AOps.nil ?_
   refine AWp.ret ?_
   show Fin te Try.f115 _ _
   refine q_ret (0) [_] [_] ?_
   rw [← hc, optR_end (by omega)]; rfl
set_option maxRecDepth 20000 in
set_option maxHeartbeats 2000000 in
theorem c_Can6 (b : List UInt8) (lv : Nat) (h : b.length ≤ 140737488351232) : AC Try.prog 79 [i64 6, .fz lv b.length (cl bc b)] emp (Ret (tf (canS 6 b))) := by
 refine AC.intro te_ok (fn := Try.f79) ⟨Try.func79, rfl, rfl⟩ (Nat.le_of_ble_eq_true rfl) ?_
 refine AWp.seq ?_
 refine AWp.region ?_
 refine aC_ rfl rfl (q_assign) ?_
 refine AOps.nil ?_
 refine AWp.seq ?_
 refine AWp.seq ?_
 refine AWp.region ?_
 refine aC_ rfl rfl (q_move) ?_
 refine AOps.dec rfl rfl (q_lss) (fun h1_1 => ?_) (fun h1_1 => ?_)
 ·
  exfalso; omega
 ·
  refine aC_ rfl rfl (q_move) ?_
  refine AOps.gcons rfl rfl rfl rfl rfl (q_move) ?_
  refine AOps.gdec rfl rfl rfl rfl rfl (q_gtr) (fun h1_4 => ?_) (fun h1_4 => ?_)
  ·
   exfalso; omega
  ·
   refine aC_ rfl rfl (q_pick) ?_
   refine aC_ rfl rfl (q_move) ?_
   refine AOps.gcons rfl rfl rfl rfl rfl (q_move) ?_
   refine AOps.gcons rfl rfl rfl rfl rfl (q_len) ?_
   refine AOps.gdec rfl rfl rfl rfl rfl (q_gtr) (fun h1_9 => ?_) (fun h1_9 => ?_)
   ·
    refine aC_ rfl rfl (q_pick) ?_
    refine AOps.nil ?_
    refine AWp.cond_t rfl ?_
    refine AWp.seq ?_
    refine AWp.region ?_
    refine aC_ rfl rfl (q_assign) ?_
    refine AOps.nil ?_
    refine AWp.ret ?_
    show Fin te Try.f79 _ _
    refine q_ret (0) [_] [_] ?_
    rw [canS_6n (by omega)]; rfl
   ·
    refine aC_ rfl rfl (q_pick) ?_
    refine AOps.nil ?_
    refine AWp.cond_f rfl ?_
    refine AWp.skip ?_
    refine AWp.seq ?_
    refine AWp.seq ?_
    refine AWp.region ?_
    refine aC_ rfl rfl (q_move) ?_
    refine AOps.nil ?_
    refine AWp.block ?_
    refine AWp.seq ?_
    refine AWp.region ?_
    refine AOps.dec rfl rfl (q_eql) (fun h4_0 => ?_) (fun h4_0 => ?_)
    ·
     exfalso; omega
    ·
     refine aC_ rfl rfl (q_assign) ?_
     refine AOps.nil ?_
     refine AWp.cond_f rfl ?_
     refine AWp.seq ?_
     refine AWp.region ?_
     refine AOps.dec rfl rfl (q_eql) (fun h6_0 => ?_) (fun h6_0 => ?_)
     ·
      exfalso; omega
     ·
      refine aC_ rfl rfl (q_assign) ?_
      refine AOps.nil ?_
      refine AWp.cond_f rfl ?_
      refine AWp.seq ?_
      refine AWp.seq ?_
      refine AWp.region ?_
      refine AOps.dec rfl rfl (q_eql) (fun h8_0 => ?_) (fun h8_0 => ?_)
      ·
       exfalso; omega
      ·
       refine aC_ rfl rfl (q_assign) ?_
       refine AOps.nil ?_
       refine AWp.cond_f rfl ?_
       refine AWp.seq ?_
       refine AWp.region ?_
       refine AOps.dec rfl rfl (q_eql) (fun h9_0 => ?_) (fun h9_0 => ?_)
       ·
        exfalso; omega
       ·
        refine aC_ rfl rfl (q_assign) ?_
        refine AOps.nil ?_
        refine AWp.cond_f rfl ?_
        refine AWp.region ?_
        refine AOps.dec rfl rfl (q_eql) (fun h10_0 => ?_) (fun h10_0 => ?_)
        ·
         exfalso; omega
        ·
         refine aC_ rfl rfl (q_assign) ?_
         refine AOps.nil ?_
         refine AWp.cond_f rfl ?_
         refine AWp.seq ?_
         refine AWp.region ?_
         refine AOps.dec rfl rfl (q_eql) (fun h12_0 => ?_) (fun h12_0 => ?_)
         ·
          exfalso; omega
         ·
          refine aC_ rfl rfl (q_assign) ?_
          refine AOps.nil ?_
          refine AWp.cond_f rfl ?_
          refine AWp.seq ?_
          refine AWp.region ?_
          refine AOps.dec rfl rfl (q_eql) (fun h14_0 => ?_) (fun h14_0 => ?_)
          ·
           exfalso; omega
          ·
           refine aC_ rfl rfl (q_assign) ?_
           refine AOps.nil ?_
           refine AWp.cond_f rfl ?_
           refine AWp.seq ?_
           refine AWp.region ?_
           refine AOps.dec rfl rfl (q_eql) (fun h16_0 => ?_) (fun h16_0 => ?_)
           ·
            exfalso; omega
           ·
            refine aC_ rfl rfl (q_assign) ?_
            refine AOps.nil ?_
            refine AWp.cond_f rfl ?_
            refine AWp.seq ?_
            refine AWp.region ?_
            refine AOps.dec rfl rfl (q_eql) (fun h18_0 => ?_) (fun h18_0 => ?_)
            ·
             refine aC_ rfl rfl (q_assign) ?_
             refine AOps.nil ?_
             refine AWp.cond_t rfl ?_
             refine AWp.seq ?_
             refine AWp.region ?_
             refine aC_ rfl rfl (q_move) ?_
             refine aC_ rfl rfl (q_call (lv) (hc := c_rdata_SOA _ _ (by first | assumption | omega | decide | (simp; omega) | (simp [*]; done)))) ?_
             refine aC_ rfl rfl (q_move) ?_
             refine aC_ rfl rfl (q_extract) ?_
             refine aC_ rfl rfl (q_extract) ?_
             refine aC_ rfl rfl (q_alloc 2005) ?_
             refine aC_ rfl rfl (q_store) ?_
             refine aC_ rfl rfl (q_assign) ?_
             refine AOps.nil ?_
             refine AWp.seq ?_
             refine AWp.region ?_
             refine aC_ rfl rfl (q_move) ?_
             refine aC_ rfl rfl (q_assign) ?_
             refine AOps.nil ?_
             refine AWp.ret ?_
             show Fin te Try.f79 _ _
             refine q_ret (0) [_] [_] ?_
             rw [canS_6 (by omega)]; rfl
            ·
             exfalso; omega
end Go.Proofs.Ytokccoloholgaaa.Fw


set_option linter.unusedVariables false
set_option linter.unusedSimpArgs false
namespace Go.Proofs.Ytokccoloholgaaa.Fw
open Go.RowKit
structure Rr where
  nm : List UInt8
  ty : Int
  cs : Int
  ttl : Int
  da : List UInt8
  deriving Inhabited, DecidableEq
structure Qu where
  nm : List UInt8
  ty : Int
  cs : Int
  deriving Inhabited, DecidableEq
structure Hdr where
  id : Int
  resp : Bool
  op : Int
  aa : Bool
  tc : Bool
  rd : Bool
  ra : Bool
  code : Int
  deriving Inhabited, DecidableEq
structure Msg where
  h : Hdr
  qs : List Qu
  an : List Rr
  au : List Rr
  ad : List Rr
  deriving Inhabited, DecidableEq
def rrc (x : Rr) : List AV := [str x.nm, i64 x.ty, i64 x.cs, i64 x.ttl, .fz 0 x.da.length (cl bc x.da)]
def quc (x : Qu) : List AV := [str x.nm, i64 x.ty, i64 x.cs]
def msgC (m : Msg) : List AV := [i64 m.h.id, tf m.h.resp, i64 m.h.op, tf m.h.aa, tf m.h.tc, tf m.h.rd, tf m.h.ra, i64 m.h.code, .fz 0 m.qs.length (cl quc m.qs), .fz 0 m.an.length (cl rrc m.an), .fz 0 m.au.length (cl rrc m.au), .fz 0 m.ad.length (cl rrc m.ad)]
def RrsOk (l : List Rr) : Prop := l.length * 64 ≤ 140737488351232 ∧ ∀ x ∈ l, x.da.length ≤ 140737488351232
def MsgOk (m : Msg) : Prop := m.qs.length * 32 ≤ 140737488351232 ∧ RrsOk m.an ∧ RrsOk m.au ∧ RrsOk m.ad
theorem quV (x y : Qu) : eqV ((quc x).map unv) ((quc y).map unv) = decide (x = y) := by
  cases x; cases y
  simp [quc, eqV, eq1, unv]
theorem eq_step' {α : Type} [Inhabited α] {a b : List α} {i : Nat} (ha : i < a.length) (hb : i < b.length) (h : a.take i = b.take i) (e : a.getD i default = b.getD i default) : a.take (i + 1) = b.take (i + 1) := by
  rw [List.take_succ_eq_append_getElem ha, List.take_succ_eq_append_getElem hb, h]
  rw [List.getD_eq_getElem?_getD, List.getD_eq_getElem?_getD, List.getElem?_eq_getElem ha, List.getElem?_eq_getElem hb, Option.getD_some, Option.getD_some] at e
  rw [e]
theorem take_step' {α : Type} [Inhabited α] {l : List α} {i : Nat} (hi : i < l.length) : l.take (i + 1) = l.take i ++ [l.getD i default] := by
  have := take_map_step (fun y => y) (l := l) hi
  simpa using this
set_option maxRecDepth 20000 in
set_option maxHeartbeats 2000000 in
theorem c_Equal_qu (a b : List Qu) (lv lw : Nat) (ha : a.length ≤ 140737488351232) : AC Try.prog 65 [.fz lv a.length (cl quc a), .fz lw b.length (cl quc b)] emp (Ret (tf (decide (a = b)))) := by
 refine AC.intro te_ok (fn := Try.f65) ⟨Try.func65, rfl, rfl⟩ (Nat.le_of_ble_eq_true rfl) ?_
 refine AWp.seq ?_
 refine AWp.region ?_
 refine aC_ rfl rfl (q_assign) ?_
 refine AOps.nil ?_
 refine AWp.seq ?_
 refine AWp.seq ?_
 refine AWp.region ?_
 refine aC_ rfl rfl (q_move) ?_
 refine aC_ rfl rfl (q_len) ?_
 refine aC_ rfl rfl (q_move) ?_
 refine aC_ rfl rfl (q_len) ?_
 refine AOps.dec rfl rfl (q_neq) (fun h1_4 => ?_) (fun h1_4 => ?_)
 ·
  refine AOps.nil ?_
  refine AWp.cond_t rfl ?_
  refine AWp.seq ?_
  refine AWp.region ?_
  refine aC_ rfl rfl (q_assign) ?_
  refine AOps.nil ?_
  refine AWp.ret ?_
  show Fin te Try.f65 _ _
  refine q_ret (0) [_] [_] ?_
  rw [decide_eq_false (fun e => h1_4 (by rw [e]))]; rfl
 ·
  refine AOps.nil ?_
  refine AWp.cond_f rfl ?_
  refine AWp.skip ?_
  refine AWp.seq ?_
  refine AWp.seq ?_
  refine AWp.region ?_
  refine aC_ rfl rfl (q_move) ?_
  refine aC_ rfl rfl (q_len) ?_
  refine aC_ rfl rfl (q_move) ?_
  refine AOps.nil ?_
  refine AWp.block ?_
  refine AWp.loopR (α := Nat) [4, 5, 13, 14, 15, 16, 17, 18, 19, 20, 21, 22, 23, 24, 25] (fun i => [(13, i64 i)]) (fun i => []) (fun i => i ≤ a.length ∧ a.take i = b.take i) (fun i => a.length - i) 0 ?_ (Back.mk' (HasT.cons HasT.nil) HasH.nil) ?_
  ·
   exact ⟨Nat.zero_le _, rfl⟩
  ·
   rintro i ⟨hi, hI⟩
   have hlen : a.length = b.length := by omega
   refine AWp.seq ?_
   refine AWp.region ?_
   refine AOps.dec rfl rfl (q_lss) (fun h4_0 => ?_) (fun h4_0 => ?_)
   ·
    refine AOps.nil ?_
    refine AWp.seq ?_
    refine AWp.cond_t rfl ?_
    refine AWp.skip ?_
    refine AWp.seq ?_
    refine AWp.block ?_
    refine AWp.seq ?_
    refine AWp.region ?_
    refine aC_ rfl rfl (q_move) ?_
    refine aC_ rfl rfl (q_assign) ?_
    refine AOps.nil ?_
    refine AWp.seq ?_
    by_cases he : a.getD i default = b.getD i default
    ·
     refine AWp.draws [⟨0, [0], [], some 16, _, none⟩,
 ⟨1, [5], [], some 17, _, none⟩,
 ⟨2, [16, 17], [], some 18, _, none⟩,
 ⟨3, [18], [], some 19, _, none⟩,
 ⟨4, [1], [], some 20, _, none⟩,
 ⟨5, [5], [], some 21, _, none⟩,
 ⟨6, [20, 21], [], some 22, _, none⟩,
 ⟨7, [22], [], some 23, _, none⟩,
 ⟨8, [19, 23], [], some 24, _, none⟩]
      [kN_ 0 [0] [] 16,
 kN_ 1 [5] [] 17,
 kN_ 2 [16, 17] [] 18,
 kN_ 3 [18] [] 19,
 kN_ 4 [1] [] 20,
 kN_ 5 [5] [] 21,
 kN_ 6 [20, 21] [] 22,
 kN_ 7 [22] [] 23,
 kN_ 8 [19, 23] [] 24]
      mixed_ok rfl (by kernel_rfl) ⟨dK_ fun s0 => oG_ rfl rfl (q_move),
 dK_ fun s0 => oG_ rfl rfl (q_move),
 dK_ fun s0 => oG_ rfl rfl (q_ix),
 dK_ fun s0 => oG_ rfl rfl (q_load),
 dK_ fun s0 => oG_ rfl rfl (q_move),
 dK_ fun s0 => oG_ rfl rfl (q_move),
 dK_ fun s0 => oG_ rfl rfl (q_ix),
 dK_ fun s0 => oG_ rfl rfl (q_load),
 dK_ fun s0 => oG_ rfl rfl ((OpOk.bool_is (c := false) (q_eqp) ((congrArg (! ·) ((quV (a.getD i default) (b.getD i default)).trans (decide_eq_true he)))))), trivial⟩ ?_
     dsimp only [final, DS.upd, AS.seto]
     refine AWp.cond_f rfl ?_
     refine AWp.skip ?_
     refine AWp.region ?_
     refine aC_ rfl rfl (q_add) ?_
     refine aC_ rfl rfl (q_move) ?_
     refine AOps.nil ?_
     refine ⟨i + 1, ?_, Back.mk' (HasT.cons HasT.nil) HasH.nil, ?_⟩
     ·
      exact ⟨by omega, eq_step' (by omega) (by omega) hI he⟩
     ·
      first | omega | (simp; omega)
    ·
     refine AWp.draws [⟨0, [0], [], some 16, _, none⟩,
 ⟨1, [5], [], some 17, _, none⟩,
 ⟨2, [16, 17], [], some 18, _, none⟩,
 ⟨3, [18], [], some 19, _, none⟩,
 ⟨4, [1], [], some 20, _, none⟩,
 ⟨5, [5], [], some 21, _, none⟩,
 ⟨6, [20, 21], [], some 22, _, none⟩,
 ⟨7, [22], [], some 23, _, none⟩,
 ⟨8, [19, 23], [], some 24, _, none⟩]
      [kN_ 0 [0] [] 16,
 kN_ 1 [5] [] 17,
 kN_ 2 [16, 17] [] 18,
 kN_ 3 [18] [] 19,
 kN_ 4 [1] [] 20,
 kN_ 5 [5] [] 21,
 kN_ 6 [20, 21] [] 22,
 kN_ 7 [22] [] 23,
 kN_ 8 [19, 23] [] 24]
      mixed_ok rfl (by kernel_rfl) ⟨dK_ fun s0 => oG_ rfl rfl (q_move),
 dK_ fun s0 => oG_ rfl rfl (q_move),
 dK_ fun s0 => oG_ rfl rfl (q_ix),
 dK_ fun s0 => oG_ rfl rfl (q_load),
 dK_ fun s0 => oG_ rfl rfl (q_move),
 dK_ fun s0 => oG_ rfl rfl (q_move),
 dK_ fun s0 => oG_ rfl rfl (q_ix),
 dK_ fun s0 => oG_ rfl rfl (q_load),
 dK_ fun s0 => oG_ rfl rfl ((OpOk.bool_is (c := true) (q_eqp) ((congrArg (! ·) ((quV (a.getD i default) (b.getD i default)).trans (decide_eq_false he)))))), trivial⟩ ?_
     dsimp only [final, DS.upd, AS.seto]
     refine AWp.cond_t rfl ?_
     refine AWp.seq ?_
     refine AWp.region ?_
     refine aC_ rfl rfl (q_assign) ?_
     refine AOps.nil ?_
     refine AWp.ret ?_
     show Fin te Try.f65 _ _
     refine q_ret (0) [_] [_] ?_
     rw [decide_eq_false (fun e => he (by rw [e]))]; rfl
   ·
    refine AOps.nil ?_
    refine AWp.seq ?_
    refine AWp.cond_f rfl ?_
    refine AWp.exit ?_
    refine AWp.seq ?_
    refine AWp.region ?_
    refine aC_ rfl rfl (q_assign) ?_
    refine AOps.nil ?_
    refine AWp.ret ?_
    show Fin te Try.f65 _ _
    refine q_ret (0) [_] [_] ?_
    have e : a = b := by rw [List.take_of_length_le (by omega), List.take_of_length_le (by omega)] at hI; exact hI
    rw [decide_eq_true e]; rfl
end Go.Proofs.Ytokccoloholgaaa.Fw


set_option linter.unusedVariables false
set_option linter.unusedSimpArgs false
namespace Go.Proofs.Ytokccoloholgaaa.Fw
open Go.RowKit
end Go.Proofs.Ytokccoloholgaaa.Fw


set_option linter.unusedVariables false
set_option linter.unusedSimpArgs false
namespace Go.Proofs.Ytokccoloholgaaa.Fw
open Go.RowKit
section
variable {d : Nat} {s n b u : TypeId} {is in' ib iu : TI}
theorem has_hdr {t : TypeId} {it : TI} {cs : List AV} (h : Has te (d + 1) t cs) (ht : te.get t = some it) (kt : it.k = .struct [(0, n), (1, b), (2, n), (3, b), (4, b), (5, b), (6, b), (7, n)]) (hn : te.get n = some in') (kn : in'.k = .int .i64) (hb : te.get b = some ib) (kb : ib.k = .bool) :
    ∃ x : Hdr, cs = [i64 x.id, tf x.resp, i64 x.op, tf x.aa, tf x.tc, tf x.rd, tf x.ra, i64 x.code] ∧ (-9223372036854775808 ≤ x.id ∧ x.id ≤ 9223372036854775807) ∧ (-9223372036854775808 ≤ x.op ∧ x.op ≤ 9223372036854775807) ∧ (-9223372036854775808 ≤ x.code ∧ x.code ≤ 9223372036854775807) := by
  obtain ⟨_, w, rfl, q, hh⟩ := has_struct h ht kt
  obtain ⟨a1, rfl, b1⟩ := has_int q hn kn
  obtain ⟨_, w, rfl, q, hh⟩ := hh
  obtain ⟨a2, rfl⟩ := has_bool q hb kb
  obtain ⟨_, w, rfl, q, hh⟩ := hh
  obtain ⟨a3, rfl, b3⟩ := has_int q hn kn
  obtain ⟨_, w, rfl, q, hh⟩ := hh
  obtain ⟨a4, rfl⟩ := has_bool q hb kb
  obtain ⟨_, w, rfl, q, hh⟩ := hh
  obtain ⟨a5, rfl⟩ := has_bool q hb kb
  obtain ⟨_, w, rfl, q, hh⟩ := hh
  obtain ⟨a6, rfl⟩ := has_bool q hb kb
  obtain ⟨_, w, rfl, q, hh⟩ := hh
  obtain ⟨a7, rfl⟩ := has_bool q hb kb
  obtain ⟨_, w, rfl, q, hh⟩ := hh
  obtain ⟨a8, rfl, b8⟩ := has_int q hn kn
  cases hh
  exact ⟨⟨a1, a2, a3, a4, a5, a6, a7, a8⟩, rfl, b1, b3, b8⟩
end
end Go.Proofs.Ytokccoloholgaaa.Fw


set_option linter.unusedVariables false
set_option linter.unusedSimpArgs false
namespace Go.Proofs.Ytokccoloholgaaa.Fw
open Go.RowKit
def idx {α : Type} (g : α → Bool) : List α → Int
  | [] => -1
  | a :: l => if g a then 0 else if idx g l = -1 then -1 else idx g l + 1
theorem idx_ge {α : Type} (g : α → Bool) : ∀ l, -1 ≤ idx g l
  | [] => by simp [idx]
  | a :: l => by
    have := idx_ge g l
    simp only [idx]
    split
    · omega
    · split <;> omega
theorem idx_none {α : Type} {g : α → Bool} : ∀ {l : List α}, (∀ x ∈ l, g x = false) → idx g l = -1
  | [], _ => rfl
  | a :: l, h => by
    simp [idx, h a (by simp), idx_none (l := l) fun x hx => h x (by simp [hx])]
theorem idx_at {α : Type} [Inhabited α] {g : α → Bool} : ∀ {l : List α} {i : Nat}, i < l.length → (∀ x ∈ l.take i, g x = false) → g (l.getD i default) = true → idx g l = i
  | [], i, h, _, _ => by simp at h
  | a :: l, 0, _, _, h => by
    have : g a = true := by simpa using h
    simp [idx, this]
  | a :: l, i + 1, h, h1, h2 => by
    have h3 : g a = false := h1 a (by simp)
    have h4 := idx_at (l := l) (i := i) (g := g) (by simpa using h) (fun x hx => h1 x (by simp [hx])) (by simpa using h2)
    simp only [idx, h3, Bool.false_eq_true, if_false, h4]
    rw [if_neg (by omega)]
    omega
theorem idx_step {α : Type} [Inhabited α] {g : α → Bool} {l : List α} {i : Nat} (h : i < l.length) (h1 : ∀ x ∈ l.take i, g x = false) (h2 : g (l.getD i default) = false) : ∀ x ∈ l.take (i + 1), g x = false := by
  intro x hx
  rw [List.take_succ_eq_append_getElem h] at hx
  rcases List.mem_append.1 hx with hx | hx
  · exact h1 x hx
  · simp only [List.mem_singleton] at hx
    subst hx
    simpa [List.getD_eq_getElem?_getD, List.getElem?_eq_getElem h] using h2
theorem idx_any_iff {α : Type} {g : α → Bool} : ∀ {l : List α}, 0 ≤ idx g l ↔ l.any g = true
  | [] => by simp [idx]
  | a :: l => by
    have h1 := idx_ge g l
    have h2 := idx_any_iff (g := g) (l := l)
    unfold idx
    rw [List.any_cons]
    by_cases ha : g a = true
    · simp [ha]
    · rw [if_neg ha]
      simp only [Bool.not_eq_true] at ha
      rw [ha, Bool.false_or, ← h2]
      split <;> omega
theorem idx_any {α : Type} {g : α → Bool} {l : List α} : decide (0 ≤ idx g l) = l.any g := by
  rw [Bool.eq_iff_iff, decide_eq_true_iff]
  exact idx_any_iff
theorem fvs_caps {h : Heap} {lo hi l : Nat} {a b : AV} {caps : List AV} (e : FVal h lo hi a b) (hl : l ≤ lo) (hc : AV.oks l caps = true) : FVals h lo hi (a :: caps) (b :: caps) := ⟨e, fvs_ok (AV.oks_mono hl hc)⟩
set_option maxRecDepth 20000 in
set_option maxHeartbeats 2000000 in
theorem c_IndexFunc_int (l : List (Int)) (lv lv' lw : Nat) (caps : List AV) (g : Int → Bool) {fid : Nat} (hl : l.length ≤ 140737488351232) (hcaps : AV.oks lw caps = true) (hg : ∀ x ∈ l, AC Try.prog fid (i64 x :: caps) emp (Ret (tf (g x)))) : AC Try.prog 103 [.fz lv l.length (cl (ic) l), .fn (.func fid) [] caps] emp (Ret (i64 (idx g l))) := by
 refine AC.intro te_ok (fn := Try.f103) ⟨Try.func103, rfl, rfl⟩ (Nat.le_of_ble_eq_true rfl) ?_
 refine AWp.seq ?_
 refine AWp.region ?_
 refine aC_ rfl rfl (q_assign) ?_
 refine AOps.nil ?_
 refine AWp.seq ?_
 refine AWp.seq ?_
 refine AWp.region ?_
 refine aC_ rfl rfl (q_move) ?_
 refine aC_ rfl rfl (q_len) ?_
 refine aC_ rfl rfl (q_move) ?_
 refine AOps.nil ?_
 refine AWp.block ?_
 refine AWp.loopR (α := Nat) [4, 5, 8, 9, 10, 11, 12, 13, 14, 15, 16, 17, 18] (fun i => [(8, i64 i)]) (fun i => []) (fun i => i ≤ l.length ∧ ∀ x ∈ l.take i, g x = false) (fun i => l.length - i) 0 ?_ (Back.mk' (HasT.cons HasT.nil) HasH.nil) ?_
 ·
  exact ⟨Nat.zero_le _, by simp⟩
 ·
  rintro i ⟨hi, hI⟩
  refine AWp.seq ?_
  refine AWp.region ?_
  refine AOps.dec rfl rfl (q_lss) (fun h2_0 => ?_) (fun h2_0 => ?_)
  ·
   refine AOps.nil ?_
   refine AWp.seq ?_
   refine AWp.cond_t rfl ?_
   refine AWp.skip ?_
   refine AWp.seq ?_
   refine AWp.block ?_
   refine AWp.seq ?_
   refine AWp.region ?_
   refine aC_ rfl rfl (q_move) ?_
   refine aC_ rfl rfl (q_assign) ?_
   refine AOps.nil ?_
   refine AWp.seq ?_
   refine AWp.region ?_
   refine aC_ rfl rfl (q_move) ?_
   refine aC_ rfl rfl (q_move) ?_
   refine aC_ rfl rfl (q_move) ?_
   refine aC_ rfl rfl (q_ix) ?_
   refine aC_ rfl rfl (q_load) ?_
   refine AOps.bool rfl rfl (q_call (lv + lv' + lw) (hA := by exact fvs_caps (l := lw) (fv_okb rfl (by first | rfl | exact ble_of (by omega) | (simp [AV.ok, AV.oks]; done))) (by omega) hcaps) (hc := (hg _ (getD_mem (i := i) (by omega))))) (fun h4_5 => ?_) (fun h4_5 => ?_)
   ·
    refine AOps.nil ?_
    refine AWp.cond_t rfl ?_
    refine AWp.seq ?_
    refine AWp.region ?_
    refine aC_ rfl rfl (q_move) ?_
    refine aC_ rfl rfl (q_assign) ?_
    refine AOps.nil ?_
    refine AWp.ret ?_
    show Fin te Try.f103 _ _
    refine q_ret (0) [_] [_] ?_
    exact i64_eq (idx_at (by omega) hI h4_5).symm
   ·
    refine AOps.nil ?_
    refine AWp.cond_f rfl ?_
    refine AWp.skip ?_
    refine AWp.region ?_
    refine aC_ rfl rfl (q_add) ?_
    refine aC_ rfl rfl (q_move) ?_
    refine AOps.nil ?_
    refine ⟨i + 1, ?_, Back.mk' (HasT.cons HasT.nil) HasH.nil, ?_⟩
    ·
     exact ⟨by omega, idx_step (by omega) hI h4_5⟩
    ·
     first | omega | (simp; omega)
  ·
   refine AOps.nil ?_
   refine AWp.seq ?_
   refine AWp.cond_f rfl ?_
   refine AWp.exit ?_
   refine AWp.seq ?_
   refine AWp.region ?_
   refine aC_ rfl rfl (q_assign) ?_
   refine AOps.nil ?_
   refine AWp.ret ?_
   show Fin te Try.f103 _ _
   refine q_ret (0) [_] [_] ?_
   exact i64_eq (idx_none (by rwa [List.take_of_length_le (by omega)] at hI)).symm
set_option maxRecDepth 20000 in
set_option maxHeartbeats 2000000 in
theorem c_ContainsFunc_int (l : List (Int)) (lv lv' lw : Nat) (caps : List AV) (g : Int → Bool) {fid : Nat} (hl : l.length ≤ 140737488351232) (hcaps : AV.oks lw caps = true) (hg : ∀ x ∈ l, AC Try.prog fid (i64 x :: caps) emp (Ret (tf (g x)))) : AC Try.prog 74 [.fz lv l.length (cl (ic) l), .fn (.func fid) [] caps] emp (Ret (tf (l.any g))) := by
 refine AC.intro te_ok (fn := Try.f74) ⟨Try.func74, rfl, rfl⟩ (Nat.le_of_ble_eq_true rfl) ?_
 refine AWp.seq ?_
 refine AWp.region ?_
 refine aC_ rfl rfl (q_assign) ?_
 refine AOps.nil ?_
 refine AWp.seq ?_
 refine AWp.region ?_
 refine aC_ rfl rfl (q_move) ?_
 refine aC_ rfl rfl (q_move) ?_
 refine aC_ rfl rfl (q_call (lv + lv' + lw) (hA := by exact ⟨fv_okb rfl (ble_of (by omega)), fv_okb (b := .fn (.func fid) [] caps) rfl (by simp [AV.ok, AV.oks, AV.oks_mono (show lw ≤ lv + lv' + lw by omega) hcaps]), trivial⟩) (hc := (c_IndexFunc_int l lv lv' lw caps g hl hcaps hg))) ?_
 refine aC_ rfl rfl (q_geq) ?_
 refine aC_ rfl rfl (q_assign) ?_
 refine AOps.nil ?_
 refine AWp.ret ?_
 show Fin te Try.f74 _ _
 refine q_ret (0) [_] [_] ?_
 exact congrArg tf idx_any
end Go.Proofs.Ytokccoloholgaaa.Fw


set_option linter.unusedVariables false
set_option linter.unusedSimpArgs false
namespace Go.Proofs.Ytokccoloholgaaa.Fw
open Go.RowKit
end Go.Proofs.Ytokccoloholgaaa.Fw


set_option linter.unusedVariables false
set_option linter.unusedSimpArgs false
namespace Go.Proofs.Ytokccoloholgaaa.Fw
open Go.RowKit
section
variable {n : Nat} {s : AS} {o : Oper} {d : Option Tmp}
end
end Go.Proofs.Ytokccoloholgaaa.Fw


set_option linter.unusedVariables false
set_option linter.unusedSimpArgs false
namespace Go.Proofs.Ytokccoloholgaaa.Fw
open Go.RowKit
section
variable {n : Nat} {s : AS} {o : Oper} {d : Option Tmp}
theorem ok_make {P : Program} {te : TE} (hte : TEok P te) {t e : TypeId} {x y : Operand} {k k' : IntKind} {c id : Nat} {ti tj : TI} (ho : o.op = .makeSlice t x y) (hx : s.ev x = .v (.int k c)) (hy : s.ev y = .v (.int k' c))
    (ht : te.get t = some ti) (hk : ti.k = .slice e) (he : te.get e = some tj) (hid : s.h id = none) (hz : Nat.beq tj.zero.length tj.size = true) (hb : tj.bytes * c ≤ 140737488351232) (h63 : c ≤ 9223372036854775807)
    (hdd : o.dst = d) (hd : d.all (Nat.blt · n) = true) : OpOk P n o s ((s.seth id (some (.row (repZ tj.zero c) tj.size 0))).put d (.sl id 0 0 c tj.size)) :=
  .chg hdd hd fun Λ w φ a hs => by
    have hu := (hte.tells ht).slice hk
    obtain ⟨f, z, z1, z2, z3, z4, z5, z6, z7⟩ := (hte.tells he).info
    have hzl := Nat.eq_of_beq_eq_true hz
    have hb' : (f.bytes : Int) * (c : Int) ≤ 281474976710656 := by
      have : ((f.bytes * c : Nat) : Int) ≤ 281474976710656 := by rw [z3]; omega
      rwa [Int.natCast_mul] at this
    have hrun := run_make (P := P) w t e f z hu z1 z4 k k' (c : Int) (c : Int) (by omega) (Int.le_refl _) hb' (by omega)
    simp only [Int.toNat_natCast] at hrun
    have hrep : ListRep w φ Λ (madeCells z.cells (c * f.size)) (repZ tj.zero c) := zeros_many z5 c _ (by rw [z2, hzl])
    have hc := Chg.alloc hs.hs hid (.cells (madeCells z.cells (c * f.size)) e) 0 0
    have hsz : (madeCells z.cells (c * f.size)).size = c * f.size := size_madeCells _ _
    refine ⟨_, _, _, ?_, hc, objRep_row (w0 := w) (by rw [repZ_length, hzl, hsz, z2]; exact Nat.le_refl _) (fun j q hj => ?_), .slice (some ⟨w.heap.size, 0, none⟩) c c, .inl rfl, ?_⟩
    · simp [execOp, ho, ev_v hs hx, ev_v hs hy, hrun]
    · obtain ⟨v, hv, hr⟩ := hrep.2 j q hj
      rw [Nat.zero_add] at hv
      exact ⟨v, hv, hc.rep hr⟩
    · have hcs : (madeCells z.cells (c * f.size)).size = c * tj.size := by rw [hsz, z2]
      exact Rep.sl (off := 0) (upd_same _ _ _) rfl rfl (heap_alloc_new w _) (by omega) (Nat.le_refl _)
theorem repZ_cl {α : Type} {f : α → List AV} {a : α} {zs : List ZC} (h : zs.map (fun z => AV.v z.val) = f a) : ∀ c, repZ zs c = cl f (List.replicate c a)
  | 0 => rfl
  | c + 1 => by rw [repZ, repZ_cl h c, h]; rfl
theorem q_make (id : Nat) {α : Type} (f : α → List AV) (a : α) (c : Nat) {t e : TypeId} {x y : Operand} {k k' : IntKind} {ti tj : TI} (ho : o.op = .makeSlice t x y := by exact rfl) (hx : s.ev x = .v (.int k c) := by exact rfl) (hy : s.ev y = .v (.int k' c) := by exact rfl)
    (ht : te.get t = some ti := by exact rfl) (hk : ti.k = .slice e := by exact rfl) (he : te.get e = some tj := by exact rfl) (hid : s.h id = none := by exact rfl) (hz : Nat.beq tj.zero.length tj.size = true := by exact rfl)
    (hf : tj.zero.map (fun z => AV.v z.val) = f a := by exact rfl) (hb : tj.bytes * c ≤ 140737488351232 := by first | omega | (simp; omega)) (h63 : c ≤ 9223372036854775807 := by omega)
    (hdd : o.dst = d := by conv => lhs; whnf) (hd : d.all (Nat.blt · n) = true := by exact rfl) : OpOk Try.prog n o s ((s.seth id (some (.row (cl f (List.replicate c a)) tj.size 0))).put d (.sl id 0 0 (List.replicate c a).length tj.size)) := by
  rw [List.length_replicate, ← repZ_cl hf]
  exact ok_make te_ok ho hx hy ht hk he hid hz hb h63 hdd hd
end
end Go.Proofs.Ytokccoloholgaaa.Fw


set_option linter.unusedVariables false
set_option linter.unusedSimpArgs false
namespace Go.Proofs.Ytokccoloholgaaa.Fw
open Go.RowKit
section
variable {n : Nat} {s : AS} {o : Oper} {d : Option Tmp}
theorem OpOk.weak {P : Program} {s1 s2 : AS} (h : OpOk P n o s s1) (hw : Weak s1 s2) : OpOk P n o s s2 := by
  intro Λ w φ a hs next QQ hn
  refine h Λ w φ a hs next QQ fun w' φ' a' hs' g => ?_
  obtain ⟨φ2, hs2, g2⟩ := hw n Λ w' φ' a' hs'
  exact hn w' φ2 a' hs2 (g.trans g2)
theorem Weak.kill (d id ver esz : Nat) {α : Type} {f : α → List AV} {l : List α} (hd : s.t d = .sl id ver 0 l.length esz) (hob : s.h id = some (.row (cl f l) esz ver)) (hf : ∀ x, (f x).length = esz) (h5 : 0 < esz)
    (h3 : ∀ x, AV.oks 0 (f x) = true) : Weak s ((s.seth id (some (.row [] esz (ver + 1)))).put (some d) (.fz 0 l.length (cl f l))) := by
  intro n Λ w φ a hs
  obtain ⟨l0, hl0, hv0⟩ := hs.hs.ver (ver := ver) (cells := cl f l) hob (by simp [AObj.at])
  have hc : Chg w φ Λ s.h id ⟨none, ver + 1⟩ w := ⟨hs.hs, Nat.le_refl _, rfl, rfl, rfl, fun _ _ _ => rfl, (fun b' o' h => by cases h), (fun l hl => .inr (by rw [hl0] at hl; cases hl; show l0.ver < ver + 1; omega)), (fun l hl e => by rw [hl0] at hl; cases hl; subst e; simp at hv0)⟩
  have h1 : HSim w (upd φ id (some ⟨none, ver + 1⟩)) Λ (upd s.h id (some (.row [] esz (ver + 1)))) := hc.hsim ⟨rfl, .inl ⟨rfl, rfl⟩⟩
  refine ⟨upd φ id (some ⟨none, ver + 1⟩), ⟨hs.defs, hs.size, fun i => ?_, h1⟩, hc.goes⟩
  show Rep w _ Λ (upd s.t d (.fz 0 l.length (cl f l)) i) _
  by_cases hi : i = d
  · subst hi
    rw [upd_same]
    have hr := hs.tmps i
    rw [hd] at hr
    by_cases hz : l = []
    · subst hz
      obtain ⟨ad, cap, e⟩ := rep_len hr rfl
      rw [e]
      exact .fz0
    · have hpos : 0 < l.length := List.length_pos_iff.2 hz
      have hcl : (cl f l).length = l.length * esz := cl_length hf l
      have hcp : 0 < (cl f l).length := by rw [hcl]; exact Nat.mul_pos hpos h5
      obtain ⟨l1, b0, oo0, arr, T, lo, hi, g1, g2, g3, g4, g5, g6, g7⟩ := hs.hs.at (ver := ver) (cells := cl f l) hob (by simp [AObj.at]) hcp
      generalize hv : a.tmps.getD i undef = v at hr ⊢
      generalize hL : l.length = L at hr ⊢
      cases hr with
      | slx e1 e2 => rw [g1] at e1; cases e1; omega
      | sl0 e1 e2 => omega
      | sl e1 e2 e3 e4 e5 e6 =>
        rw [g1] at e1
        cases e1
        rw [g3] at e3
        cases e3
        refine .fz (fun j => arr.getD (oo0 + 0 + j) undef) ⟨?_, fun k hk => (hs.hs.lt id l1 b0 oo0 g1 g3).2 k⟩ e6 (cl_mem fun x _ => AV.oks_iff.1 (h3 x)) (fun j hj => ?_) (fun j c hj => ?_) hcp
        · rintro ⟨id', l', o', q1, q2⟩
          by_cases e : id' = id
          · subst e; rw [upd_same] at q1; cases q1; cases q2
          · rw [upd_other _ _ _ _ e] at q1
            exact e (hs.hs.inj id' id l' l1 b0 o' oo0 q1 g1 q2 g3)
        · have : oo0 + 0 + j < arr.size := by omega
          simp only [World.cell?, g4, Array.getD, this, dif_pos, getElem?_pos]
          rfl
        · obtain ⟨u, q1, q2⟩ := g7 j c hj
          have q3 : arr[oo0 + 0 + j]? = some u := q1
          rw [Array.getD_eq_getD_getElem?, q3]
          exact hc.rep q2
  · rw [upd_other _ _ _ _ hi]
    exact hc.rep (hs.tmps i)
theorem seth_seth (s : AS) (id : Nat) (a b : Option AObj) : (s.seth id a).seth id b = s.seth id b := by
  simp only [AS.seth]
  congr 1
  funext i
  by_cases h : i = id
  · subst h; rw [upd_same, upd_same]
  · rw [upd_other _ _ _ _ h, upd_other _ _ _ _ h, upd_other _ _ _ _ h]
theorem put_put (s : AS) (d : Nat) (x y : AV) : (s.put (some d) x).put (some d) y = s.put (some d) y := by
  simp only [AS.put]
  congr 1
  funext i
  by_cases h : i = d
  · subst h; rw [upd_same, upd_same]
  · rw [upd_other _ _ _ _ h, upd_other _ _ _ _ h, upd_other _ _ _ _ h]
theorem q_appz {dd : Nat} {t t2 e : TypeId} {x y : Operand} {id ver esz bt : Nat} {α : Type} {f : α → List AV} {l m : List α} {ti tj tk : TI} (ho : o.op = .call { callee := .builtin .append, args := #[x, y], argTypes := #[t, t2] } := by exact rfl)
    (hx : s.ev x = .sl id ver 0 l.length esz := by exact rfl) (hob : s.h id = some (.row (cl f l) esz ver) := by exact rfl) (ht : te.get t = some ti := by exact rfl) (hk : ti.k = .slice e := by exact rfl) (he : te.get e = some tj := by exact rfl)
    (hesz : tj.size = esz := by exact rfl) (hbt : tj.bytes = bt := by conv => lhs; whnf) (ht2 : te.get t2 = some tk := by exact rfl) (hk2 : (match tk.k with | .slice _ | .str => true | _ => false) = true := by exact rfl)
    (hsrc : SrcTo s y f esz m := by first | exact .sl rfl rfl .row (fun _ => rfl) | exact .fz rfl (fun _ => rfl) | exact .str rfl | exact .nil rfl) (hf : ∀ x, (f x).length = esz := by exact fun _ => rfl) (h1 : ∀ x, (f x).all AV.one = true := by exact fun _ => rfl)
    (h3 : ∀ x, AV.oks 0 (f x) = true := by exact fun _ => rfl) (h5 : 0 < esz := by exact Nat.le_of_ble_eq_true rfl)
    (hb : (l.length + m.length) * bt ≤ 140737488355328 := by first | omega | (simp; omega)) (hbp : 0 < bt := by exact Nat.le_of_ble_eq_true rfl)
    (hdd : o.dst = some dd := by conv => lhs; whnf) (hd : (some dd).all (Nat.blt · n) = true := by exact rfl) :
    OpOk Try.prog n o s ((s.seth id (some (.row [] esz (ver + 2)))).put (some dd) (.fz 0 (l ++ m).length (cl f (l ++ m)))) := by
  have h := q_app (n := n) (d := some dd) ho hx hob ht hk he hesz hbt ht2 hk2 hsrc hf h1 hb hbp hdd hd
  have h2 := h.weak (Weak.kill (s := (s.seth id (some (.row (cl f (l ++ m)) esz (ver + 1)))).put (some dd) (.sl id (ver + 1) 0 (l ++ m).length esz)) dd id (ver + 1) esz (f := f) (l := l ++ m) (upd_same _ _ _) (upd_same _ _ _) hf h5 h3)
  have e : ∀ (a b : Option AObj) (u v : AV), (((s.seth id a).put (some dd) u).seth id b).put (some dd) v = (s.seth id b).put (some dd) v := by
    intro a b u v
    have e1 : ((s.seth id a).put (some dd) u).seth id b = ((s.seth id a).seth id b).put (some dd) u := rfl
    rw [e1, seth_seth, put_put]
  rwa [e] at h2
end
end Go.Proofs.Ytokccoloholgaaa.Fw


set_option linter.unusedVariables false
set_option linter.unusedSimpArgs false
set_option linter.unusedSectionVars false
namespace Go.Proofs.Ytokccoloholgaaa.Fw
open Go.RowKit
section pure
variable {κ β : Type} [DecidableEq κ]
def mget : List (κ × β) → κ → Option β
  | [], _ => none
  | (a, b) :: m, k => if a = k then some b else mget m k
def mput : List (κ × β) → κ → β → List (κ × β)
  | [], k, v => [(k, v)]
  | (a, b) :: m, k, v => if a = k then (k, v) :: m else (a, b) :: mput m k v
def mdel : List (κ × β) → κ → List (κ × β)
  | [], _ => []
  | (a, b) :: m, k => if a = k then m else (a, b) :: mdel m k
def MNd (m : List (κ × β)) : Prop := (m.map (·.1)).Nodup
theorem mget_put (m : List (κ × β)) (k k' : κ) (v : β) : mget (mput m k v) k' = if k = k' then some v else mget m k' := by
  induction m with
  | nil => simp [mput, mget]
  | cons p m ih =>
    obtain ⟨a, b⟩ := p
    simp only [mput]
    split
    · rename_i h; subst h
      simp only [mget]
      split <;> rfl
    · rename_i h
      simp only [mget, ih]
      by_cases h1 : a = k'
      · subst h1
        rw [if_pos rfl, if_neg (fun e => h e.symm), if_pos rfl]
      · rw [if_neg h1, if_neg h1]
theorem mget_none {m : List (κ × β)} {k : κ} (h : k ∉ m.map (·.1)) : mget m k = none := by
  induction m with
  | nil => rfl
  | cons p m ih =>
    obtain ⟨a, b⟩ := p
    simp only [List.map_cons, List.mem_cons, not_or] at h
    rw [mget, if_neg (fun e => h.1 e.symm), ih h.2]
theorem mget_del {m : List (κ × β)} (hn : MNd m) (k k' : κ) : mget (mdel m k) k' = if k = k' then none else mget m k' := by
  induction m with
  | nil => simp [mdel, mget]
  | cons p m ih =>
    obtain ⟨a, b⟩ := p
    have hn' : a ∉ m.map (·.1) ∧ MNd m := by simpa [MNd] using hn
    simp only [mdel]
    split
    · rename_i h; subst h
      by_cases h1 : a = k'
      · subst h1; rw [if_pos rfl]; exact mget_none hn'.1
      · rw [if_neg h1, mget, if_neg h1]
    · rename_i h
      simp only [mget, ih hn'.2]
      by_cases h1 : a = k'
      · subst h1
        rw [if_pos rfl, if_neg (fun e => h e.symm), if_pos rfl]
      · rw [if_neg h1, if_neg h1]
theorem mput_mem {m : List (κ × β)} {k x : κ} {v : β} (h : x ∈ (mput m k v).map (·.1)) : x = k ∨ x ∈ m.map (·.1) := by
  induction m with
  | nil => simp [mput] at h; exact .inl h
  | cons p m ih =>
    obtain ⟨a, b⟩ := p
    simp only [mput] at h
    split at h
    · rename_i e; subst e; exact .inr (by simpa using h)
    · simp only [List.map_cons, List.mem_cons] at h ⊢
      rcases h with h | h
      · exact .inr (.inl h)
      · rcases ih h with h | h
        · exact .inl h
        · exact .inr (.inr h)
theorem MNd.put {m : List (κ × β)} (hn : MNd m) (k : κ) (v : β) : MNd (mput m k v) := by
  induction m with
  | nil => simp [mput, MNd]
  | cons p m ih =>
    obtain ⟨a, b⟩ := p
    have hn' : a ∉ m.map (·.1) ∧ MNd m := by simpa [MNd] using hn
    simp only [mput]
    split
    · rename_i e; subst e; exact hn
    · rename_i e
      show ((a, b) :: mput m k v |>.map (·.1)).Nodup
      rw [List.map_cons, List.nodup_cons]
      refine ⟨fun h => ?_, ih hn'.2⟩
      rcases mput_mem h with h | h
      · exact e h
      · exact hn'.1 h
theorem mdel_mem {m : List (κ × β)} {k x : κ} (h : x ∈ (mdel m k).map (·.1)) : x ∈ m.map (·.1) := by
  induction m with
  | nil => exact h
  | cons p m ih =>
    obtain ⟨a, b⟩ := p
    simp only [mdel] at h
    split at h
    · simp only [List.map_cons, List.mem_cons]; exact .inr h
    · simp only [List.map_cons, List.mem_cons] at h ⊢
      exact h.imp_right ih
theorem MNd.del {m : List (κ × β)} (hn : MNd m) (k : κ) : MNd (mdel m k) := by
  induction m with
  | nil => exact hn
  | cons p m ih =>
    obtain ⟨a, b⟩ := p
    have hn' : a ∉ m.map (·.1) ∧ MNd m := by simpa [MNd] using hn
    simp only [mdel]
    split
    · exact hn'.2
    · show ((a, b) :: mdel m k |>.map (·.1)).Nodup
      rw [List.map_cons, List.nodup_cons]
      exact ⟨fun h => hn'.1 (mdel_mem h), ih hn'.2⟩
theorem MNd.nil : MNd ([] : List (κ × β)) := by simp [MNd]
theorem mfind (m : List (κ × β)) (k : κ) : (mget m k = none ∧ (∀ (i : Nat) (q : κ × β), m[i]? = some q → q.1 ≠ k) ∧ (∀ v, mput m k v = m ++ [(k, v)]) ∧ mdel m k = m) ∨
    ∃ j p, m[j]? = some p ∧ p.1 = k ∧ (∀ (i : Nat) (q : κ × β), i < j → m[i]? = some q → q.1 ≠ k) ∧ mget m k = some p.2 ∧ (∀ v, mput m k v = m.set j (k, v)) ∧ mdel m k = m.eraseIdx j := by
  induction m with
  | nil => exact .inl ⟨rfl, by simp, fun v => rfl, rfl⟩
  | cons p m ih =>
    obtain ⟨a, b⟩ := p
    by_cases h : a = k
    · refine .inr ⟨0, (a, b), rfl, h, by simp, by rw [mget, if_pos h], fun v => by rw [mput, if_pos h]; rfl, by rw [mdel, if_pos h]; rfl⟩
    · rcases ih with ⟨h1, h2, h3, h4⟩ | ⟨j, p, h1, h2, h3, h4, h5, h6⟩
      · refine .inl ⟨by rw [mget, if_neg h, h1], fun i q hq => ?_, fun v => by rw [mput, if_neg h, h3]; rfl, by rw [mdel, if_neg h, h4]⟩
        cases i with
        | zero => simp at hq; subst hq; exact h
        | succ i => exact h2 i q (by simpa using hq)
      · refine .inr ⟨j + 1, p, by simpa using h1, h2, fun i q hi hq => ?_, by rw [mget, if_neg h, h4], fun v => by rw [mput, if_neg h, h5]; rfl, by rw [mdel, if_neg h, h6]; rfl⟩
        cases i with
        | zero => simp at hq; subst hq; exact h
        | succ i => exact h3 i q (by omega) (by simpa using hq)
end pure
structure MKey (κ : Type) where
  kv : κ → Value
  d : TypeDesc
  isKey : ∀ k, MapKept.IsKey d (kv k)
  inj : ∀ a b, kv a = kv b → a = b
  same : ∀ k, Instr.sameBits 10000 (kv k) (kv k) = true
def MInt : MKey Int := ⟨fun k => .int .i64 k, .int .i64, fun _ => rfl, fun a b h => by cases h; rfl, fun k => by simp [Instr.sameBits]⟩
def MStr : MKey (List UInt8) := ⟨fun k => .string ⟨⟨k⟩⟩, .string, fun _ => trivial, fun a b h => by cases h; rfl, fun k => MapKept.sameBits_self (d := .string) (show MapKept.IsKey .string (.string ⟨⟨k⟩⟩) from trivial) 10000⟩
theorem findNow_none {d : TypeDesc} {kk : Value} (hk : MapKept.IsKey d kk) : ∀ (l : List MapEntry) (i : Nat), (∀ e ∈ l, MapKept.IsKey d e.key ∧ e.key ≠ kk) → Instr.findNow d kk l i = some none
  | [], _, _ => rfl
  | e :: l, i, h => by
    obtain ⟨r, hr, hiff⟩ := MapKept.sameNow_of_keys hk (h e (by simp)).1
    cases r with
    | true => exact absurd (hiff.1 rfl).symm (h e (by simp)).2
    | false =>
      simp only [Instr.findNow, hr]
      exact findNow_none hk l (i + 1) fun e he => h e (by simp [he])
theorem findNow_some {d : TypeDesc} {kk : Value} (hk : MapKept.IsKey d kk) : ∀ (l : List MapEntry) (i j : Nat) (e : MapEntry), l[j]? = some e → e.key = kk → (∀ i' e', i' < j → l[i']? = some e' → MapKept.IsKey d e'.key ∧ e'.key ≠ kk) →
    Instr.findNow d kk l i = some (some (i + j, e.val))
  | [], _, _, _, h, _, _ => by simp at h
  | x :: l, i, 0, e, h, he, _ => by
    simp at h; subst h
    obtain ⟨r, hr, hiff⟩ := MapKept.sameNow_of_keys hk (he ▸ hk : MapKept.IsKey d x.key)
    have : r = true := hiff.2 he.symm
    subst this
    simp [Instr.findNow, hr]
  | x :: l, i, j + 1, e, h, he, hb => by
    have h0 := hb 0 x (by omega) rfl
    obtain ⟨r, hr, hiff⟩ := MapKept.sameNow_of_keys hk h0.1
    cases r with
    | true => exact absurd (hiff.1 rfl).symm h0.2
    | false =>
      simp only [Instr.findNow, hr]
      have := findNow_some hk l (i + 1) j e (by simpa using h) he fun i' e' hi he' => hb (i' + 1) e' (by omega) (by simpa using he')
      rw [this]
      congr 3; omega
section rules
variable {n : Nat} {s : AS} {o : Oper} {d : Option Tmp} {κ β : Type} [DecidableEq κ]
def me (K : MKey κ) (f : β → AV) (m : List (κ × β)) : List (Value × AV) := m.map fun p => (K.kv p.1, f p.2)
structure MEnts (w : World) (φ : PMap) (Λ : Lent) (K : MKey κ) (f : β → AV) (m : List (κ × β)) (ents : Array MapEntry) : Prop where
  size : ents.size = m.length
  at' : ∀ (j : Nat) p, m[j]? = some p → ∃ e, ents[j]? = some e ∧ e.key = K.kv p.1 ∧ Rep w φ Λ (f p.2) e.val
theorem map_at {w : World} {φ : PMap} {Λ : Lent} {h : Heap} (hs : HSim w φ Λ h) {id : Nat} {K : MKey κ} {f : β → AV} {m : List (κ × β)} (hob : h id = some (.map (me K f m))) :
    ∃ l b ents clock, φ id = some l ∧ l.bo = some (b, 0) ∧ l.ver = 0 ∧ w.heap[b]? = some (.map ents clock) ∧ MEnts w φ Λ K f m ents := by
  obtain ⟨l, hl, b, ents, clock, h1, h2, h3, h4, h5⟩ := hs.heap id _ hob
  refine ⟨l, b, ents, clock, hl, h1, h2, h3, by rw [h4, me, List.length_map], fun j p hp => ?_⟩
  exact h5 j (K.kv p.1, f p.2) (by rw [me, List.getElem?_map, hp]; rfl)
theorem MEnts.key {w : World} {φ : PMap} {Λ : Lent} {K : MKey κ} {f : β → AV} {m : List (κ × β)} {ents : Array MapEntry} (h : MEnts w φ Λ K f m ents) {i : Nat} {e : MapEntry} (he : ents[i]? = some e) : ∃ p, m[i]? = some p ∧ e.key = K.kv p.1 := by
  have hlt : i < m.length := by
    have := (Array.getElem?_eq_some_iff.1 he).1
    rw [← h.size]; exact this
  obtain ⟨e', h1, h2, _⟩ := h.at' i m[i] (List.getElem?_eq_getElem hlt)
  rw [he] at h1; cases h1
  exact ⟨_, List.getElem?_eq_getElem hlt, h2⟩
theorem MEnts.none {w : World} {φ : PMap} {Λ : Lent} {K : MKey κ} {f : β → AV} {m : List (κ × β)} {ents : Array MapEntry} (h : MEnts w φ Λ K f m ents) {k : κ} (hk : ∀ (i : Nat) (q : κ × β), m[i]? = some q → q.1 ≠ k) :
    Instr.findNow K.d (K.kv k) ents.toList 0 = some none := by
  refine findNow_none (K.isKey k) _ 0 fun e he => ?_
  obtain ⟨i, hi, rfl⟩ := List.getElem_of_mem he
  obtain ⟨p, h1, h2⟩ := h.key (i := i) (e := ents.toList[i]) (by rw [← Array.getElem?_toList, List.getElem?_eq_getElem hi])
  rw [h2]
  exact ⟨K.isKey _, fun e => hk i p h1 (K.inj _ _ e)⟩
theorem MEnts.some {w : World} {φ : PMap} {Λ : Lent} {K : MKey κ} {f : β → AV} {m : List (κ × β)} {ents : Array MapEntry} (h : MEnts w φ Λ K f m ents) {k : κ} {j : Nat} {p : κ × β} (h1 : m[j]? = some p) (h2 : p.1 = k) (hk : ∀ (i : Nat) (q : κ × β), i < j → m[i]? = some q → q.1 ≠ k) :
    ∃ e, ents[j]? = some e ∧ e.key = K.kv k ∧ Rep w φ Λ (f p.2) e.val ∧ Instr.findNow K.d (K.kv k) ents.toList 0 = some (some (j, e.val)) := by
  obtain ⟨e, q1, q2, q3⟩ := h.at' j p h1
  refine ⟨e, q1, by rw [q2, h2], q3, ?_⟩
  have := findNow_some (K.isKey k) ents.toList 0 j e (by rw [Array.getElem?_toList, q1]) (by rw [q2, h2]) fun i' e' hi he' => ?_
  · rwa [Nat.zero_add] at this
  · rw [Array.getElem?_toList] at he'
    obtain ⟨p', g1, g2⟩ := h.key he'
    rw [g2]
    exact ⟨K.isKey _, fun e => hk i' p' hi g1 (K.inj _ _ e)⟩
theorem rep_mp {w : World} {φ : PMap} {Λ : Lent} {id : Nat} {l : Loc} {b : Nat} {v : Value} (h : Rep w φ Λ (.mp id 0) v) (hl : φ id = some l) (hv : l.ver = 0) (hb : l.bo = some (b, 0)) : v = .map (some b) := by
  cases h with
  | mp h1 h2 h3 => rw [hl] at h1; cases h1; rw [hb] at h3; cases h3; rfl
  | mpx h1 h2 => rw [hl] at h1; cases h1; omega
def mres (f : β → AV) (z : AV) : Option β → AV
  | some b => f b
  | none => z
theorem mres_tf (x : Option Bool) : mres (fun b => tf b) (tf false) x = tf (x.getD false) := by cases x <;> rfl
theorem mres_int (x : Option Int) : mres (fun b => i64 b) (i64 0) x = i64 (x.getD 0) := by cases x <;> rfl
theorem objIn_me {S : Nat → Bool} {K : MKey κ} {f : β → AV} {m : List (κ × β)} (h : ∀ b, (f b).refs S = true) : ObjIn S (.map (me K f m)) := by
  intro p hp
  rw [me, List.mem_map] at hp
  obtain ⟨q, _, rfl⟩ := hp
  exact h q.2
theorem q_makeMap (id : Nat) (K : MKey κ) (f : β → AV) {t : TypeId} (ho : o.op = .makeMap t none := by exact rfl) (hid : s.h id = none := by exact rfl)
    (hdd : o.dst = d := by conv => lhs; whnf) (hd : d.all (Nat.blt · n) = true := by exact rfl) : OpOk Try.prog n o s ((s.seth id (some (.map (me K f [])))).put d (.mp id 0)) :=
  .chg hdd hd fun Λ w φ a hs => by
    have hc := Chg.alloc hs.hs hid (.map #[] 0) 0 0
    refine ⟨_, _, _, ?_, hc, ?_, .map (some w.heap.size), .inl rfl, .mp (upd_same _ _ _) rfl rfl⟩
    · simp [execOp, ho, Instr.makeMap]
    · exact ⟨w.heap.size, #[], 0, rfl, rfl, (MapKept.heap_alloc w _).1, rfl, fun j p hp => by simp [me] at hp⟩
theorem run_lookup {P : Program} {w : World} {φ : PMap} {Λ : Lent} {K : MKey κ} {f : β → AV} {m : List (κ × β)} {ents : Array MapEntry} {b clock : Nat} {t kt et : TypeId} {z : Value} {k : κ} {ok : Bool} (hu : P.underlying t = some (.map kt et)) (hd : P.underlying kt = some K.d)
    (hz : (zeroValue et).run P w = .ok z w) (hb : w.heap[b]? = some (.map ents clock)) (hm : MEnts w φ Λ K f m ents) {za : AV} (hza : Rep w φ Λ za z) :
    ∃ v, Rep w φ Λ (mres f za (mget m k)) v ∧ (Instr.lookup t (.map (some b)) (K.kv k) ok).run P w = .ok (if ok then .tuple #[v, .bool (mget m k).isSome] else v) w := by
  have hck := MapKept.run_checkKey (w := w) hd (K.isKey k) ents.isEmpty 9999
  rcases mfind m k with ⟨h1, h2, _, _⟩ | ⟨j, p, h1, h2, h3, h4, _, _⟩
  · have hf := MapKept.run_findKey (w := w) hd (hm.none h2)
    refine ⟨z, by rw [h1]; exact hza, ?_⟩
    rw [h1]
    simp [Instr.lookup, run_underlying hu, MapKept.run_getObj_map hb, hck, hf, hz, Result.andThen]
  · obtain ⟨e, e1, e2, e3, e4⟩ := hm.some h1 h2 h3
    have hf := MapKept.run_findKey (w := w) hd e4
    refine ⟨e.val, by rw [h4]; exact e3, ?_⟩
    rw [h4]
    simp [Instr.lookup, run_underlying hu, MapKept.run_getObj_map hb, hck, hf, Result.andThen]
theorem q_lookup {t kt et : TypeId} {x y : Operand} {id : Nat} (K : MKey κ) {f : β → AV} {m : List (κ × β)} {k : κ} {ti tj : TI} {r : AV} (ho : o.op = .lookup t x y false := by exact rfl) (hx : s.ev x = .mp id 0 := by exact rfl) (hy : s.ev y = .v (K.kv k) := by exact rfl)
    (hob : s.h id = some (.map (me K f m)) := by exact rfl) (ht : te.get t = some ti := by exact rfl) (hk : ti.k = .map kt et := by exact rfl) (hkd : Try.prog.underlying kt = some K.d := by exact rfl) (he : te.get et = some tj := by exact rfl) (ha : tj.k.agg = false := by exact rfl)
    (hr : mres f (.v ((tj.zero.map ZC.val).headD undef)) (mget m k) = r := by first | exact mres_tf _ | exact mres_int _ | exact rfl)
    (hdd : o.dst = d := by conv => lhs; whnf) (hd : d.all (Nat.blt · n) = true := by exact rfl) : OpOk Try.prog n o s (s.put d r) :=
  .val hdd hd fun Λ w φ a hs => by
    obtain ⟨l, b, ents, clock, h1, h2, h3, h4, h5⟩ := map_at hs.hs hob
    have hxv := hs.ev x
    rw [hx] at hxv
    have e1 := rep_mp hxv h1 h3 h2
    have e2 := ev_v hs hy
    obtain ⟨z, z1, z2, z3⟩ := (te_ok.tells he).run_zero w
    rw [ha] at z3
    obtain ⟨v, v1, v2⟩ := run_lookup (P := Try.prog) (k := k) (ok := false) ((te_ok.tells ht).map hk) hkd z1 h4 h5 (za := .v ((tj.zero.map ZC.val).headD undef)) (by rw [z3]; exact .v)
    exact ⟨v, by simp [execOp, ho, e1, e2, v2], hr ▸ v1⟩
theorem Chg.map {w : World} {φ : PMap} {Λ : Lent} {h : Heap} (hs : HSim w φ Λ h) {id b : Nat} {l : Loc} {ents : Array MapEntry} {clock : Nat} (hl : φ id = some l) (hbo : l.bo = some (b, 0)) (hb : w.heap[b]? = some (.map ents clock)) (ob : Obj) :
    Chg w φ Λ h id l { w with heap := w.heap.setIfInBounds b ob } where
  hs := hs
  size := by simp
  os := rfl
  tape := rfl
  output := rfl
  other k hk hne := (MapKept.heap_set hb).2 k (hne l b 0 hl hbo)
  loc b' o' h' := by
    rw [hbo] at h'; cases h'
    exact ⟨by have := (Array.getElem?_eq_some_iff.1 hb).1; simpa using this, .inr ⟨l, 0, hl, hbo⟩⟩
  ver l0 h0 := by rw [hl] at h0; cases h0; exact .inl rfl
  sizes l0 h0 _ b0 o0 arr T mm hb0 hh := by
    rw [hl] at h0; cases h0
    rw [hbo] at hb0; cases hb0
    rw [hb] at hh; cases hh
theorem q_mapUpdate {t kt et : TypeId} {x y z : Operand} {id : Nat} (K : MKey κ) {f : β → AV} {m : List (κ × β)} {k : κ} (v : β) {ti : TI} (ho : o.op = .mapUpdate t x y z := by exact rfl) (hx : s.ev x = .mp id 0 := by exact rfl) (hy : s.ev y = .v (K.kv k) := by exact rfl)
    (hob : s.h id = some (.map (me K f m)) := by exact rfl) (hz : s.ev z = f v := by exact rfl) (ht : te.get t = some ti := by exact rfl) (hk : ti.k = .map kt et := by exact rfl) (hkd : Try.prog.underlying kt = some K.d := by exact rfl)
    (hdd : o.dst = d := by conv => lhs; whnf) (hd : d.all (Nat.blt · n) = true := by exact rfl) : OpOk Try.prog n o s ((s.seth id (some (.map (me K f (mput m k v))))).put d (.v undef)) :=
  .chg hdd hd fun Λ w φ a hs => by
    obtain ⟨l, b, ents, clock, h1, h2, h3, h4, h5⟩ := map_at hs.hs hob
    have hxv := hs.ev x
    rw [hx] at hxv
    have e1 := rep_mp hxv h1 h3 h2
    have e2 := ev_v hs hy
    have e3 := hs.ev z
    rw [hz] at e3
    have hu := (te_ok.tells ht).map hk
    have hck := MapKept.run_checkKey (w := w) hkd (K.isKey k) false 9999
    rcases mfind m k with ⟨g1, g2, g3, _⟩ | ⟨j, p, g1, g2, g3, g4, g5, _⟩
    · have hf := MapKept.run_findKey (w := w) hkd (h5.none g2)
      have hc := Chg.map hs.hs h1 h2 h4 (.map (ents.push { key := K.kv k, val := a.eval z, born := clock }) (clock + 1))
      refine ⟨.skip, _, l, ?_, hc, ⟨b, _, _, h2, h3, (MapKept.heap_set h4).1, ?_, fun q r hq => ?_⟩, undef, .inr ⟨rfl, rfl⟩, .v⟩
      · simp [execOp, ho, e1, e2, Instr.mapUpdate, run_underlying hu, MapKept.run_getObj_map h4, hck, hf, Result.andThen, MapKept.run_setObj_map _ h4]
      · rw [g3]; simp [me, h5.size]
      · rw [g3, me, List.getElem?_map, Option.map_eq_some_iff] at hq
        obtain ⟨p, hp, rfl⟩ := hq
        by_cases hlt : q < m.length
        · rw [List.getElem?_append_left hlt] at hp
          obtain ⟨e, q1, q2, q3⟩ := h5.at' q p hp
          exact ⟨e, by rw [Array.getElem?_push, if_neg (by rw [h5.size]; omega)]; exact q1, q2, hc.rep q3⟩
        · rw [List.getElem?_append_right (by omega)] at hp
          have hq0 : q - m.length = 0 := by
            have := (List.getElem?_eq_some_iff.1 hp).1
            simp at this; omega
          rw [hq0] at hp
          simp at hp; subst hp
          exact ⟨{ key := K.kv k, val := a.eval z, born := clock }, by rw [Array.getElem?_push, if_pos (by rw [h5.size]; omega)], rfl, hc.rep e3⟩
    · obtain ⟨e, q1, q2, q3, q4⟩ := h5.some g1 g2 g3
      have hf := MapKept.run_findKey (w := w) hkd q4
      have hc := Chg.map hs.hs h1 h2 h4 (.map (ents.modify j fun e => { e with key := K.kv k, val := a.eval z }) clock)
      refine ⟨.skip, _, l, ?_, hc, ⟨b, _, _, h2, h3, (MapKept.heap_set h4).1, ?_, fun q r hq => ?_⟩, undef, .inr ⟨rfl, rfl⟩, .v⟩
      · simp [execOp, ho, e1, e2, Instr.mapUpdate, run_underlying hu, MapKept.run_getObj_map h4, hck, hf, Result.andThen, MapKept.run_setObj_map _ h4, q1, q2, Instr.keyThatStays, K.same]
      · rw [g5]; simp [me, h5.size]
      · rw [g5, me, List.getElem?_map, Option.map_eq_some_iff] at hq
        obtain ⟨p', hp, rfl⟩ := hq
        rw [List.getElem?_set] at hp
        by_cases hjq : j = q
        · subst hjq
          have hlt := (List.getElem?_eq_some_iff.1 g1).1
          simp [hlt] at hp; subst hp
          exact ⟨{ e with key := K.kv k, val := a.eval z }, by rw [Array.getElem?_modify, if_pos rfl, q1]; rfl, rfl, hc.rep e3⟩
        · rw [if_neg hjq] at hp
          obtain ⟨e', r1, r2, r3⟩ := h5.at' q p' hp
          exact ⟨e', by rw [Array.getElem?_modify, if_neg hjq]; exact r1, r2, hc.rep r3⟩
theorem q_delete {t t2 kt et : TypeId} {x y : Operand} {id : Nat} (K : MKey κ) {f : β → AV} {m : List (κ × β)} {k : κ} {ti : TI} (ho : o.op = .call { callee := .builtin .delete, args := #[x, y], argTypes := #[t, t2] } := by exact rfl) (hx : s.ev x = .mp id 0 := by exact rfl) (hy : s.ev y = .v (K.kv k) := by exact rfl)
    (hob : s.h id = some (.map (me K f m)) := by exact rfl) (ht : te.get t = some ti := by exact rfl) (hk : ti.k = .map kt et := by exact rfl) (hkd : Try.prog.underlying kt = some K.d := by exact rfl)
    (hdd : o.dst = d := by conv => lhs; whnf) (hd : d.all (Nat.blt · n) = true := by exact rfl) : OpOk Try.prog n o s ((s.seth id (some (.map (me K f (mdel m k))))).put d (.tup [])) :=
  .chg hdd hd fun Λ w φ a hs => by
    obtain ⟨l, b, ents, clock, h1, h2, h3, h4, h5⟩ := map_at hs.hs hob
    have hxv := hs.ev x
    rw [hx] at hxv
    have e1 := rep_mp hxv h1 h3 h2
    have e2 := ev_v hs hy
    have hu := (te_ok.tells ht).map hk
    have hck := MapKept.run_checkKey (w := w) hkd (K.isKey k) ents.isEmpty 9999
    have ht0 : ∀ (w' : World) φ', Rep w' φ' Λ (.tup []) (.tuple #[]) := fun w' φ' => .tup (fun _ => undef) rfl (fun j hj => by simp at hj) (fun j c hj => by simp at hj)
    rcases mfind m k with ⟨g1, g2, _, g3⟩ | ⟨j, p, g1, g2, g3, g4, _, g5⟩
    · have hf := MapKept.run_findKey (w := w) hkd (h5.none g2)
      have hc := Chg.map hs.hs h1 h2 h4 (.map ents clock)
      refine ⟨.value (.tuple #[]), _, l, ?_, hc, ⟨b, _, _, h2, h3, (MapKept.heap_set h4).1, ?_, fun q r hq => ?_⟩, .tuple #[], .inl rfl, ht0 _ _⟩
      · simp [execOp, ho, resolve, invoke, builtin, e1, e2, Builtin.delete_, run_underlying hu, MapKept.run_getObj_map h4, hck, hf, Result.andThen, MapKept.run_setObj_map _ h4]
      · rw [g3]; simp [me, h5.size]
      · rw [g3, me, List.getElem?_map, Option.map_eq_some_iff] at hq
        obtain ⟨p, hp, rfl⟩ := hq
        obtain ⟨e, q1, q2, q3⟩ := h5.at' q p hp
        exact ⟨e, q1, q2, hc.rep q3⟩
    · obtain ⟨e, q1, q2, q3, q4⟩ := h5.some g1 g2 g3
      have hf := MapKept.run_findKey (w := w) hkd q4
      have hc := Chg.map hs.hs h1 h2 h4 (.map (ents.eraseIdxIfInBounds j) clock)
      have hjl : j < ents.size := (Array.getElem?_eq_some_iff.1 q1).1
      have hl : (ents.eraseIdxIfInBounds j).toList = ents.toList.eraseIdx j := by
        simp [Array.eraseIdxIfInBounds, hjl]
      refine ⟨.value (.tuple #[]), _, l, ?_, hc, ⟨b, _, _, h2, h3, (MapKept.heap_set h4).1, ?_, fun q r hq => ?_⟩, .tuple #[], .inl rfl, ht0 _ _⟩
      · simp [execOp, ho, resolve, invoke, builtin, e1, e2, Builtin.delete_, run_underlying hu, MapKept.run_getObj_map h4, hck, hf, Result.andThen, MapKept.run_setObj_map _ h4]
      · rw [g5, ← Array.length_toList, hl]; simp [me, List.length_eraseIdx, h5.size]
      · rw [g5, me, List.getElem?_map, Option.map_eq_some_iff] at hq
        obtain ⟨p', hp, rfl⟩ := hq
        rw [List.getElem?_eraseIdx] at hp
        rw [← Array.getElem?_toList, hl, List.getElem?_eraseIdx]
        split at hp
        · rename_i hlt
          rw [if_pos hlt, Array.getElem?_toList]
          obtain ⟨e', r1, r2, r3⟩ := h5.at' q p' hp
          exact ⟨e', r1, r2, hc.rep r3⟩
        · rename_i hlt
          rw [if_neg hlt, Array.getElem?_toList]
          obtain ⟨e', r1, r2, r3⟩ := h5.at' (q + 1) p' hp
          exact ⟨e', r1, r2, hc.rep r3⟩
end rules
end Go.Proofs.Ytokccoloholgaaa.Fw


set_option linter.unusedVariables false
set_option linter.unusedSimpArgs false
namespace Go.Proofs.Ytokccoloholgaaa.Fw
open Go.RowKit
structure Zo where
  o : List UInt8
  rs : List Rr
  deriving Inhabited, DecidableEq
structure Sv where
  ad : Int
  zs : List Int
  deriving Inhabited, DecidableEq
structure Tr where
  zs : List Zo
  ss : List Sv
  deriving Inhabited
def zoC (z : Zo) : List AV := [str z.o, .fz 0 z.rs.length (cl rrc z.rs)]
def svC (s : Sv) : List AV := [i64 s.ad, .fz 0 s.zs.length (cl ic s.zs)]
def trC (t : Tr) : List AV := [.fz 0 t.zs.length (cl zoC t.zs), .fz 0 t.ss.length (cl svC t.ss)]
def ZoOk (z : Zo) : Prop := z.o.length ≤ 140737488351232 ∧ RrsOk z.rs ∧ ∀ r ∈ z.rs, r.nm.length ≤ 140737488351232
def TrOk (t : Tr) : Prop := t.zs.length * 40 ≤ 140737488351232 ∧ (∀ z ∈ t.zs, ZoOk z) ∧ t.ss.length * 32 ≤ 140737488351232 ∧ ∀ s ∈ t.ss, s.zs.length * 8 ≤ 140737488351232
theorem filter_step {α : Type} [Inhabited α] {p : α → Bool} {l : List α} {i : Nat} (h : i < l.length) : (l.take (i + 1)).filter p = (l.take i).filter p ++ (if p (l.getD i default) then [l.getD i default] else []) := by
  rw [take_step' h, List.filter_append]
  congr 1
  generalize l.getD i default = x
  cases hp : p x <;> simp [List.filter, hp]
theorem filter_yes {α : Type} [Inhabited α] {p : α → Bool} {l : List α} {i : Nat} (h : i < l.length) (hp : p (l.getD i default) = true) : (l.take (i + 1)).filter p = (l.take i).filter p ++ [l.getD i default] := by rw [filter_step h, if_pos hp]
theorem filter_no {α : Type} [Inhabited α] {p : α → Bool} {l : List α} {i : Nat} (h : i < l.length) (hp : p (l.getD i default) = false) : (l.take (i + 1)).filter p = (l.take i).filter p := by rw [filter_step h, hp]; simp
theorem foldl_step {α β : Type} [Inhabited α] {f : β → α → β} {b : β} {l : List α} {i : Nat} (h : i < l.length) : (l.take (i + 1)).foldl f b = f ((l.take i).foldl f b) (l.getD i default) := by
  rw [take_step' h, List.foldl_append]; rfl
theorem filter_len_le {α : Type} (p : α → Bool) (l : List α) (i : Nat) : ((l.take i).filter p).length ≤ l.length := by
  have h1 := List.length_filter_le p (l.take i)
  have h2 := List.length_take (i := i) (l := l)
  omega
def atP (n : List UInt8) (t : Int) (r : Rr) : Bool := decide (r.ty = t) && sameN r.nm n
def atZ (z : Zo) (n : List UInt8) (t : Int) : List Rr := z.rs.filter (atP n t)
def cutP (z : Zo) (n : List UInt8) (r : Rr) : Bool := decide (r.ty = 2) && !sameN r.nm z.o && withN r.nm z.o && withN n r.nm
def cutS (z : Zo) (n : List UInt8) (b : List UInt8) (r : Rr) : List UInt8 := if cutP z n r && (decide (b = []) || decide (cntN r.nm < cntN b)) then r.nm else b
def cutZ (z : Zo) (n : List UInt8) : List UInt8 := z.rs.foldl (cutS z n) []
def hidZ (z : Zo) (n : List UInt8) : Bool := decide (cutZ z n ≠ []) && !sameN (cutZ z n) n
def thP (z : Zo) (n : List UInt8) (r : Rr) : Bool := withN r.nm n && !hidZ z r.nm
def theZ (z : Zo) (n : List UInt8) : Bool := !hidZ z n && z.rs.any (thP z n)
theorem withN_can {a b : List UInt8} (h : withN a b = true) : canN a = true ∧ canN b = true := by
  unfold withN at h
  simp only [Bool.and_eq_true] at h
  exact ⟨h.1.1.1, h.1.1.2⟩
theorem canN_ne {n : List UInt8} (h : canN n = true) : n ≠ [] := by
  intro e; subst e
  obtain ⟨ls, g, e, _⟩ := canN_iff.1 h
  have := joinN_length ls
  rw [← e] at this; simp at this
theorem withN_ne {a b : List UInt8} (h : withN a b = true) : a ≠ [] := canN_ne (withN_can h).1
theorem cutS_no {z : Zo} {n b : List UInt8} {r : Rr} (h : cutP z n r = false) : cutS z n b r = b := by rw [cutS, h]; rfl
theorem cutS_keep {z : Zo} {n b : List UInt8} {r : Rr} (h : b ≠ []) (h2 : ¬ cntN r.nm < cntN b) : cutS z n b r = b := by rw [cutS, decide_eq_false h, decide_eq_false h2]; simp
theorem cutS_take {z : Zo} {n b : List UInt8} {r : Rr} (h : cutP z n r = true) (h2 : b = [] ∨ cntN r.nm < cntN b) : cutS z n b r = r.nm := by
  rw [cutS, h]; rcases h2 with h2 | h2 <;> simp [h2]
section
variable {z : Zo} {n : List UInt8} {r : Rr}
theorem cutP_no1 (h : ¬ r.ty = 2) : cutP z n r = false := by simp [cutP, h]
theorem cutP_no2 (h : sameN r.nm z.o = true) : cutP z n r = false := by simp [cutP, h]
theorem cutP_no3 (h : withN r.nm z.o = false) : cutP z n r = false := by simp [cutP, h]
theorem cutP_no4 (h : withN n r.nm = false) : cutP z n r = false := by simp [cutP, h]
theorem cutP_yes (h1 : ¬ ¬ r.ty = 2) (h2 : sameN r.nm z.o = false) (h3 : withN r.nm z.o = true) (h4 : withN n r.nm = true) : cutP z n r = true := by
  rw [Decidable.not_not] at h1
  simp [cutP, h1, h2, h3, h4]
end
theorem cut_mem (z : Zo) (n : List UInt8) : ∀ (l : List Rr) (b : List UInt8), l.foldl (cutS z n) b = b ∨ ∃ r ∈ l, l.foldl (cutS z n) b = r.nm ∧ cutP z n r = true
  | [], b => .inl rfl
  | r :: l, b => by
    have h1 := cut_mem z n l (cutS z n b r)
    rw [List.foldl_cons]
    rcases h1 with h1 | ⟨q, h2, h3, h4⟩
    · by_cases hc : (cutP z n r && (decide (b = []) || decide (cntN r.nm < cntN b))) = true
      · right
        refine ⟨r, by simp, ?_, by simp only [Bool.and_eq_true] at hc; exact hc.1⟩
        rw [h1, cutS, if_pos hc]
      · left; rw [h1, cutS, if_neg hc]
    · exact .inr ⟨q, by simp [h2], h3, h4⟩
theorem cutZ_mem {z : Zo} {n : List UInt8} (h : cutZ z n ≠ []) : ∃ r ∈ z.rs, cutZ z n = r.nm ∧ cutP z n r = true := (cut_mem z n z.rs []).resolve_left h
theorem cutZ_len {z : Zo} (hz : ZoOk z) (n : List UInt8) : (cutZ z n).length ≤ 140737488351232 := by
  by_cases h : cutZ z n = []
  · rw [h]; decide
  · obtain ⟨r, h1, h2, _⟩ := cutZ_mem h
    rw [h2]; exact hz.2.2 r h1
theorem cut_take_len {z : Zo} (hz : ZoOk z) (n : List UInt8) (i : Nat) : ((z.rs.take i).foldl (cutS z n) []).length ≤ 140737488351232 := by
  rcases cut_mem z n (z.rs.take i) [] with h | ⟨r, h1, h2, _⟩
  · rw [h]; decide
  · rw [h2]; exact hz.2.2 r (List.mem_of_mem_take h1)
theorem RrsOk.filter {l : List Rr} (h : RrsOk l) (p : Rr → Bool) : RrsOk (l.filter p) := ⟨by have := List.length_filter_le p l; have := h.1; omega, fun x hx => h.2 x (List.mem_filter.1 hx).1⟩
theorem atZ_ok {z : Zo} (hz : ZoOk z) (n : List UInt8) (t : Int) : RrsOk (atZ z n t) := hz.2.1.filter _
theorem at_step_ok {z : Zo} {n : List UInt8} {t : Int} {i : Nat} {acc : List Rr} (ha : acc = (z.rs.take i).filter (atP n t)) : acc.length ≤ i := by
  have h1 := List.length_filter_le (atP n t) (z.rs.take i)
  have h2 := List.length_take_le i z.rs
  rw [ha]; omega
set_option maxRecDepth 20000 in
set_option maxHeartbeats 2000000 in
theorem c_IndexFunc_rr (l : List (Rr)) (lv lv' lw : Nat) (caps : List AV) (g : Rr → Bool) {fid : Nat} (hl : l.length ≤ 140737488351232) (hcaps : AV.oks lw caps = true) (hg : ∀ x ∈ l, AC Try.prog fid (.agg (rrc x) :: caps) emp (Ret (tf (g x)))) : AC Try.prog 78 [.fz lv l.length (cl (rrc) l), .fn (.func fid) [] caps] emp (Ret (i64 (idx g l))) := by
 refine AC.intro te_ok (fn := Try.f78) ⟨Try.func78, rfl, rfl⟩ (Nat.le_of_ble_eq_true rfl) ?_
 refine AWp.seq ?_
 refine AWp.region ?_
 refine aC_ rfl rfl (q_assign) ?_
 refine AOps.nil ?_
 refine AWp.seq ?_
 refine AWp.seq ?_
 refine AWp.region ?_
 refine aC_ rfl rfl (q_move) ?_
 refine aC_ rfl rfl (q_len) ?_
 refine aC_ rfl rfl (q_move) ?_
 refine AOps.nil ?_
 refine AWp.block ?_
 refine AWp.loopR (α := Nat) [4, 5, 8, 9, 10, 11, 12, 13, 14, 15, 16, 17, 18] (fun i => [(8, i64 i)]) (fun i => []) (fun i => i ≤ l.length ∧ ∀ x ∈ l.take i, g x = false) (fun i => l.length - i) 0 ?_ (Back.mk' (HasT.cons HasT.nil) HasH.nil) ?_
 ·
  exact ⟨Nat.zero_le _, by simp⟩
 ·
  rintro i ⟨hi, hI⟩
  refine AWp.seq ?_
  refine AWp.region ?_
  refine AOps.dec rfl rfl (q_lss) (fun h2_0 => ?_) (fun h2_0 => ?_)
  ·
   refine AOps.nil ?_
   refine AWp.seq ?_
   refine AWp.cond_t rfl ?_
   refine AWp.skip ?_
   refine AWp.seq ?_
   refine AWp.block ?_
   refine AWp.seq ?_
   refine AWp.region ?_
   refine aC_ rfl rfl (q_move) ?_
   refine aC_ rfl rfl (q_assign) ?_
   refine AOps.nil ?_
   refine AWp.seq ?_
   refine AWp.region ?_
   refine aC_ rfl rfl (q_move) ?_
   refine aC_ rfl rfl (q_move) ?_
   refine aC_ rfl rfl (q_move) ?_
   refine aC_ rfl rfl (q_ix) ?_
   refine aC_ rfl rfl (q_load) ?_
   refine AOps.bool rfl rfl (q_call (lv + lv' + lw) (hA := by exact fvs_caps (l := lw) (fv_okb rfl (by first | rfl | exact ble_of (by omega) | (simp [AV.ok, AV.oks]; done))) (by omega) hcaps) (hc := (hg _ (getD_mem (i := i) (by omega))))) (fun h4_5 => ?_) (fun h4_5 => ?_)
   ·
    refine AOps.nil ?_
    refine AWp.cond_t rfl ?_
    refine AWp.seq ?_
    refine AWp.region ?_
    refine aC_ rfl rfl (q_move) ?_
    refine aC_ rfl rfl (q_assign) ?_
    refine AOps.nil ?_
    refine AWp.ret ?_
    show Fin te Try.f78 _ _
    refine q_ret (0) [_] [_] ?_
    exact i64_eq (idx_at (by omega) hI h4_5).symm
   ·
    refine AOps.nil ?_
    refine AWp.cond_f rfl ?_
    refine AWp.skip ?_
    refine AWp.region ?_
    refine aC_ rfl rfl (q_add) ?_
    refine aC_ rfl rfl (q_move) ?_
    refine AOps.nil ?_
    refine ⟨i + 1, ?_, Back.mk' (HasT.cons HasT.nil) HasH.nil, ?_⟩
    ·
     exact ⟨by omega, idx_step (by omega) hI h4_5⟩
    ·
     first | omega | (simp; omega)
  ·
   refine AOps.nil ?_
   refine AWp.seq ?_
   refine AWp.cond_f rfl ?_
   refine AWp.exit ?_
   refine AWp.seq ?_
   refine AWp.region ?_
   refine aC_ rfl rfl (q_assign) ?_
   refine AOps.nil ?_
   refine AWp.ret ?_
   show Fin te Try.f78 _ _
   refine q_ret (0) [_] [_] ?_
   exact i64_eq (idx_none (by rwa [List.take_of_length_le (by omega)] at hI)).symm
set_option maxRecDepth 20000 in
set_option maxHeartbeats 2000000 in
theorem c_ContainsFunc_rr (l : List (Rr)) (lv lv' lw : Nat) (caps : List AV) (g : Rr → Bool) {fid : Nat} (hl : l.length ≤ 140737488351232) (hcaps : AV.oks lw caps = true) (hg : ∀ x ∈ l, AC Try.prog fid (.agg (rrc x) :: caps) emp (Ret (tf (g x)))) : AC Try.prog 34 [.fz lv l.length (cl (rrc) l), .fn (.func fid) [] caps] emp (Ret (tf (l.any g))) := by
 refine AC.intro te_ok (fn := Try.f34) ⟨Try.func34, rfl, rfl⟩ (Nat.le_of_ble_eq_true rfl) ?_
 refine AWp.seq ?_
 refine AWp.region ?_
 refine aC_ rfl rfl (q_assign) ?_
 refine AOps.nil ?_
 refine AWp.seq ?_
 refine AWp.region ?_
 refine aC_ rfl rfl (q_move) ?_
 refine aC_ rfl rfl (q_move) ?_
 refine aC_ rfl rfl (q_call (lv + lv' + lw) (hA := by exact ⟨fv_okb rfl (ble_of (by omega)), fv_okb (b := .fn (.func fid) [] caps) rfl (by simp [AV.ok, AV.oks, AV.oks_mono (show lw ≤ lv + lv' + lw by omega) hcaps]), trivial⟩) (hc := (c_IndexFunc_rr l lv lv' lw caps g hl hcaps hg))) ?_
 refine aC_ rfl rfl (q_geq) ?_
 refine aC_ rfl rfl (q_assign) ?_
 refine AOps.nil ?_
 refine AWp.ret ?_
 show Fin te Try.f34 _ _
 refine q_ret (0) [_] [_] ?_
 exact congrArg tf idx_any
set_option maxRecDepth 20000 in
set_option maxHeartbeats 2000000 in
theorem c_zone_own (l : List Rr) (lv : Nat) (h : RrsOk l) : AC Try.prog 82 [.fz lv l.length (cl rrc l)] emp (Ret (.fz 0 l.length (cl rrc l))) := by
 obtain ⟨hb, hd⟩ := id h
 refine AC.intro te_ok (fn := Try.f82) ⟨Try.func82, rfl, rfl⟩ (Nat.le_of_ble_eq_true rfl) ?_
 refine AWp.seq ?_
 refine AWp.region ?_
 refine aC_ rfl rfl (q_nilz (0) rrc) ?_
 refine AOps.nil ?_
 refine AWp.seq ?_
 refine AWp.region ?_
 refine aC_ rfl rfl (q_nilrow 200 5 rrc) ?_
 refine AOps.nil ?_
 refine AWp.seq ?_
 refine AWp.seq ?_
 refine AWp.region ?_
 refine aC_ rfl rfl (q_move) ?_
 refine aC_ rfl rfl (q_len) ?_
 refine aC_ rfl rfl (q_move) ?_
 refine AOps.nil ?_
 refine AWp.block ?_
 refine AWp.loopR (α := Nat × List Rr × Nat) [3, 5, 8, 9, 10, 11, 12, 13, 14, 15, 16, 17, 18, 19, 20] (fun x_ => [(8, i64 (x_.1)), (3, .sl 200 (x_.2.2) 0 (x_.2.1).length 5)]) (fun x_ => [(200, .row (cl rrc (x_.2.1)) 5 (x_.2.2))]) (fun x_ => (x_.1) ≤ l.length ∧ (x_.2.1) = l.take (x_.1)) (fun x_ => l.length - (x_.1)) (0, [], 0) ?_ (Back.mk' (HasT.cons (HasT.cons HasT.nil)) (HasH.cons HasH.nil)) ?_
 ·
  exact ⟨Nat.zero_le _, rfl⟩
 ·
  rintro ⟨i, acc, v⟩ hI3
  change i ≤ l.length ∧ acc = l.take i at hI3
  obtain ⟨hi, hacc⟩ := hI3
  refine AWp.as (s' := AS.over _ [3, 5, 8, 9, 10, 11, 12, 13, 14, 15, 16, 17, 18, 19, 20] [(8, i64 i), (3, .sl 200 v 0 acc.length 5)] [(200, .row (cl rrc acc) 5 v)]) rfl ?_
  have hal : acc.length = i := by rw [hacc, List.length_take]; omega
  refine AWp.seq ?_
  refine AWp.region ?_
  refine AOps.dec rfl rfl (q_lss) (fun h3_0 => ?_) (fun h3_0 => ?_)
  ·
   refine AOps.nil ?_
   refine AWp.seq ?_
   refine AWp.cond_t rfl ?_
   refine AWp.skip ?_
   refine AWp.seq ?_
   refine AWp.block ?_
   refine AWp.seq ?_
   refine AWp.region ?_
   have hdi : (l.getD i default).da.length ≤ 140737488351232 := hd _ (getD_mem' (by omega))
   refine aC_ rfl rfl (q_ix) ?_
   refine aC_ rfl rfl (q_load) ?_
   refine aC_ rfl rfl (q_alloc 502) ?_
   refine aC_ rfl rfl (q_store) ?_
   refine AOps.nil ?_
   refine AWp.seq ?_
   refine AWp.region ?_
   refine aC_ rfl rfl (q_fa) ?_
   refine aC_ rfl rfl (q_load) ?_
   refine aC_ rfl rfl (q_call (0) (hc := c_bytes_Clone _ _ (by first | assumption | omega | decide | (simp; omega) | (simp [*]; done)))) ?_
   refine aC_ rfl rfl (q_fa) ?_
   refine aC_ rfl rfl (q_store) ?_
   refine AOps.nil ?_
   refine AWp.region ?_
   refine aC_ rfl rfl (q_move) ?_
   refine aC_ rfl rfl (q_load) ?_
   refine aC_ rfl rfl (q_bs 702 rrc [_] [(_, _)]) ?_
   refine aC_ rfl rfl (q_app) ?_
   refine aC_ rfl rfl (q_assign) ?_
   refine AOps.nil ?_
   refine AWp.region ?_
   refine aC_ rfl rfl (q_add) ?_
   refine aC_ rfl rfl (q_move) ?_
   refine AOps.nil ?_
   refine ⟨(i + 1, _, _), ?_, Back.mk' (HasT.cons (HasT.cons HasT.nil)) (HasH.cons HasH.nil), ?_⟩
   ·
    try dsimp only
    exact ⟨by omega, by rw [take_step' (by omega), ← hacc]; rfl⟩
   ·
    try dsimp only
    first | omega | (simp; omega)
  ·
   refine AOps.nil ?_
   refine AWp.seq ?_
   refine AWp.cond_f rfl ?_
   refine AWp.exit ?_
   refine AWp.seq ?_
   refine AWp.region ?_
   refine aC_ rfl rfl (q_move) ?_
   refine aC_ rfl rfl (q_assign) ?_
   refine AOps.nil ?_
   refine AWp.ret ?_
   show Fin te Try.f82 _ _
   obtain rfl : acc = l := by rw [hacc, List.take_of_length_le (by omega)]
   refine q_ret (0) [_] [_] ?_
   rfl
set_option maxRecDepth 20000 in
set_option maxHeartbeats 2000000 in
theorem c_zone_at_1 (r : Rr) (n : List UInt8) (t : Int) (lv : Nat) (hr : r.nm.length ≤ 140737488351232) (hn : n.length ≤ 140737488351232) : AC Try.prog 81 [.agg (rrc r), .fp lv [i64 t], .fp lv [str n]] emp (Ret (tf (atP n t r))) := by
 refine AC.intro te_ok (fn := Try.f81) ⟨Try.func81, rfl, rfl⟩ (Nat.le_of_ble_eq_true rfl) ?_
 refine AWp.seq ?_
 refine AWp.region ?_
 refine aC_ rfl rfl (q_box 100) ?_
 refine aC_ rfl rfl (q_assign) ?_
 refine AOps.nil ?_
 refine AWp.seq ?_
 refine AWp.region ?_
 refine aC_ rfl rfl (q_fa) ?_
 refine aC_ rfl rfl (q_load) ?_
 refine aC_ rfl rfl (q_load) ?_
 refine AOps.dec rfl rfl (q_eql) (fun h1_3 => ?_) (fun h1_3 => ?_)
 ·
  refine aC_ rfl rfl (q_move) ?_
  refine AOps.gcons rfl rfl rfl rfl rfl (q_fa) ?_
  refine AOps.gcons rfl rfl rfl rfl rfl (q_load) ?_
  refine AOps.gcons rfl rfl rfl rfl rfl (q_load) ?_
  refine AOps.gcons rfl rfl rfl rfl rfl (q_call (0) (hc := (c_name_Same r.nm n (by omega) (by omega)))) ?_
  refine aC_ rfl rfl (q_pick) ?_
  refine aC_ rfl rfl (q_assign) ?_
  refine AOps.nil ?_
  refine AWp.ret ?_
  show Fin te Try.f81 _ _
  refine q_ret (0) [_] [_] ?_
  exact congrArg tf (by simp [atP, *])
 ·
  refine aC_ rfl rfl (q_move) ?_
  refine aG_ rfl rfl rfl rfl rfl rfl rfl rfl ?_
  refine aG_ rfl rfl rfl rfl rfl rfl rfl rfl ?_
  refine aG_ rfl rfl rfl rfl rfl rfl rfl rfl ?_
  refine aG_ rfl rfl rfl rfl rfl rfl rfl rfl ?_
  refine aC_ rfl rfl (q_pick) ?_
  refine aC_ rfl rfl (q_assign) ?_
  refine AOps.nil ?_
  refine AWp.ret ?_
  show Fin te Try.f81 _ _
  refine q_ret (0) [_] [_] ?_
  exact congrArg tf (by simp [atP, *])
set_option maxRecDepth 20000 in
set_option maxHeartbeats 2000000 in
theorem c_zone_at (z : Zo) (n : List UInt8) (t : Int) (hz : ZoOk z) (hn : n.length ≤ 140737488351232) : AC Try.prog 37 [.agg (zoC z), str n, i64 t] emp (Ret (.fz 0 (atZ z n t).length (cl rrc (atZ z n t)))) := by
 have hrl : z.rs.length * 64 ≤ 140737488351232 := hz.2.1.1
 have hol := hz.1
 refine AC.intro te_ok (fn := Try.f37) ⟨Try.func37, rfl, rfl⟩ (Nat.le_of_ble_eq_true rfl) ?_
 refine AWp.seq ?_
 refine AWp.region ?_
 refine aC_ rfl rfl (q_box 100) ?_
 refine aC_ rfl rfl (q_box 101) ?_
 refine aC_ rfl rfl (q_box 102) ?_
 refine aC_ rfl rfl (q_assign) ?_
 refine AOps.nil ?_
 refine AWp.seq ?_
 refine AWp.region ?_
 refine aC_ rfl rfl (q_makeFunc [] [_, _]) ?_
 refine aC_ rfl rfl (q_assign) ?_
 refine AOps.nil ?_
 refine AWp.seq ?_
 refine AWp.region ?_
 refine aC_ rfl rfl (q_nilrow 300 5 rrc) ?_
 refine AOps.nil ?_
 refine AWp.seq ?_
 refine AWp.seq ?_
 refine AWp.region ?_
 refine aC_ rfl rfl (q_fa) ?_
 refine aC_ rfl rfl (q_load) ?_
 refine aC_ rfl rfl (q_len) ?_
 refine aC_ rfl rfl (q_move) ?_
 refine AOps.nil ?_
 refine AWp.block ?_
 refine AWp.loopR (α := Nat × List Rr × Nat) [8, 10, 15, 16, 17, 18, 19, 20, 21, 22, 23, 24, 25, 26] (fun x_ => [(15, i64 (x_.1)), (8, .sl 300 (x_.2.2) 0 (x_.2.1).length 5)]) (fun x_ => [(300, .row (cl rrc (x_.2.1)) 5 (x_.2.2))]) (fun x_ => (x_.1) ≤ z.rs.length ∧ (x_.2.1) = (z.rs.take (x_.1)).filter (atP n t)) (fun x_ => z.rs.length - (x_.1)) (0, [], 0) ?_ (Back.mk' (HasT.cons (HasT.cons HasT.nil)) (HasH.cons HasH.nil)) ?_
 ·
  exact ⟨Nat.zero_le _, rfl⟩
 ·
  rintro ⟨i, acc, v⟩ hI4
  change i ≤ z.rs.length ∧ acc = (z.rs.take i).filter (atP n t) at hI4
  obtain ⟨hi, ha⟩ := hI4
  refine AWp.as (s' := AS.over _ [8, 10, 15, 16, 17, 18, 19, 20, 21, 22, 23, 24, 25, 26] [(15, i64 i), (8, .sl 300 v 0 acc.length 5)] [(300, .row (cl rrc acc) 5 v)]) rfl ?_
  have hal := at_step_ok ha
  refine AWp.seq ?_
  refine AWp.region ?_
  refine AOps.dec rfl rfl (q_lss) (fun h4_0 => ?_) (fun h4_0 => ?_)
  ·
   refine AOps.nil ?_
   refine AWp.seq ?_
   refine AWp.cond_t rfl ?_
   refine AWp.skip ?_
   refine AWp.seq ?_
   refine AWp.block ?_
   refine AWp.seq ?_
   refine AWp.region ?_
   have hr := hz.2.2 _ (getD_mem' (l := z.rs) (i := i) (by omega))
   have hrd := hz.2.1.2 _ (getD_mem' (l := z.rs) (i := i) (by omega))
   refine aC_ rfl rfl (q_ix) ?_
   refine aC_ rfl rfl (q_load) ?_
   refine aC_ rfl rfl (q_alloc 602) ?_
   refine aC_ rfl rfl (q_store) ?_
   refine AOps.nil ?_
   refine AWp.seq ?_
   refine AWp.region ?_
   refine aC_ rfl rfl (q_move) ?_
   refine aC_ rfl rfl (q_load) ?_
   refine AOps.bool rfl rfl (q_call (0) (hc := (c_zone_at_1 (z.rs.getD i default) n t 1 hr hn))) (fun h6_2 => ?_) (fun h6_2 => ?_)
   ·
    refine AOps.nil ?_
    refine AWp.cond_t rfl ?_
    refine AWp.region ?_
    refine aC_ rfl rfl (q_move) ?_
    refine aC_ rfl rfl (q_load) ?_
    refine aC_ rfl rfl (q_bs 802 rrc [_] [(_, _)]) ?_
    refine aC_ rfl rfl (q_app) ?_
    refine aC_ rfl rfl (q_assign) ?_
    refine AOps.nil ?_
    refine AWp.region ?_
    refine aC_ rfl rfl (q_add) ?_
    refine aC_ rfl rfl (q_move) ?_
    refine AOps.nil ?_
    refine ⟨(i + 1, acc ++ [z.rs.getD i default], v + 1), ?_, Back.mk' (HasT.cons (HasT.cons HasT.nil)) (HasH.cons HasH.nil), ?_⟩
    ·
     try dsimp only
     exact ⟨by omega, by rw [filter_yes (by omega) h6_2, ← ha]⟩
    ·
     try dsimp only
     first | omega | (simp; omega)
   ·
    refine AOps.nil ?_
    refine AWp.cond_f rfl ?_
    refine AWp.skip ?_
    refine AWp.region ?_
    refine aC_ rfl rfl (q_add) ?_
    refine aC_ rfl rfl (q_move) ?_
    refine AOps.nil ?_
    refine ⟨(i + 1, acc, v), ?_, Back.mk' (HasT.cons (HasT.cons HasT.nil)) (HasH.cons HasH.nil), ?_⟩
    ·
     try dsimp only
     exact ⟨by omega, by rw [filter_no (by omega) h6_2, ← ha]⟩
    ·
     try dsimp only
     first | omega | (simp; omega)
  ·
   refine AOps.nil ?_
   refine AWp.seq ?_
   refine AWp.cond_f rfl ?_
   refine AWp.exit ?_
   refine AWp.seq ?_
   refine AWp.region ?_
   obtain rfl : i = z.rs.length := by omega
   rw [List.take_length] at ha
   obtain rfl : acc = atZ z n t := ha
   refine aC_ rfl rfl (q_move) ?_
   refine aC_ rfl rfl (q_call (0) (hc := (c_zone_own (atZ z n t) 1 (atZ_ok hz n t)))) ?_
   refine aC_ rfl rfl (q_assign) ?_
   refine AOps.nil ?_
   refine AWp.ret ?_
   show Fin te Try.f37 _ _
   refine q_ret (0) [_] [_] ?_
   rfl
set_option maxRecDepth 20000 in
set_option maxHeartbeats 2000000 in
theorem c_zone_cut (z : Zo) (n : List UInt8) (hz : ZoOk z) (hn : n.length ≤ 140737488351232) : AC Try.prog 80 [.agg (zoC z), str n] emp (Ret (.tup [str (cutZ z n), tf (decide (cutZ z n ≠ []))])) := by
 have hrl : z.rs.length * 64 ≤ 140737488351232 := hz.2.1.1
 have hol := hz.1
 refine AC.intro te_ok (fn := Try.f80) ⟨Try.func80, rfl, rfl⟩ (Nat.le_of_ble_eq_true rfl) ?_
 refine AWp.seq ?_
 refine AWp.region ?_
 refine aC_ rfl rfl (q_box 100) ?_
 refine aC_ rfl rfl (q_assign) ?_
 refine aC_ rfl rfl (q_assign) ?_
 refine AOps.nil ?_
 refine AWp.seq ?_
 refine AWp.region ?_
 refine aC_ rfl rfl (q_assign) ?_
 refine aC_ rfl rfl (q_assign) ?_
 refine AOps.nil ?_
 refine AWp.seq ?_
 refine AWp.seq ?_
 refine AWp.region ?_
 refine aC_ rfl rfl (q_fa) ?_
 refine aC_ rfl rfl (q_load) ?_
 refine aC_ rfl rfl (q_len) ?_
 refine aC_ rfl rfl (q_move) ?_
 refine AOps.nil ?_
 refine AWp.block ?_
 refine AWp.loopR (α := Nat × List UInt8) [6, 7, 9, 13, 14, 15, 16, 17, 18, 19, 20, 21, 22, 23, 24, 25, 26, 27, 28, 29, 30, 31, 32, 33, 34, 35, 36, 37, 38, 39, 40, 41, 42, 43, 44, 45, 46, 47, 48, 49, 50, 51, 52, 53, 54] (fun x_ => [(13, i64 (x_.1)), (6, str (x_.2)), (7, tf (decide ((x_.2) ≠ [])))]) (fun x_ => []) (fun x_ => (x_.1) ≤ z.rs.length ∧ (z.rs.take (x_.1)).foldl (cutS z n) [] = (x_.2)) (fun x_ => z.rs.length - (x_.1)) (0, []) ?_ (Back.mk' (HasT.cons (HasT.cons (HasT.cons HasT.nil))) HasH.nil) ?_
 ·
  exact ⟨Nat.zero_le _, rfl⟩
 ·
  rintro ⟨i, b⟩ hI3
  change i ≤ z.rs.length ∧ (z.rs.take i).foldl (cutS z n) [] = b at hI3
  obtain ⟨hi, hb⟩ := hI3
  refine AWp.as (s' := AS.over _ [6, 7, 9, 13, 14, 15, 16, 17, 18, 19, 20, 21, 22, 23, 24, 25, 26, 27, 28, 29, 30, 31, 32, 33, 34, 35, 36, 37, 38, 39, 40, 41, 42, 43, 44, 45, 46, 47, 48, 49, 50, 51, 52, 53, 54] [(13, i64 i), (6, str b), (7, tf (decide (b ≠ [])))] []) rfl ?_
  have hbl := cut_take_len hz n i
  rw [hb] at hbl
  refine AWp.seq ?_
  refine AWp.region ?_
  refine AOps.dec rfl rfl (q_lss) (fun h3_0 => ?_) (fun h3_0 => ?_)
  ·
   refine AOps.nil ?_
   refine AWp.seq ?_
   refine AWp.cond_t rfl ?_
   refine AWp.skip ?_
   refine AWp.seq ?_
   refine AWp.block ?_
   refine AWp.seq ?_
   refine AWp.region ?_
   have hr := hz.2.2 _ (getD_mem' (l := z.rs) (i := i) (by omega))
   have hrd := hz.2.1.2 _ (getD_mem' (l := z.rs) (i := i) (by omega))
   refine aC_ rfl rfl (q_ix) ?_
   refine aC_ rfl rfl (q_load) ?_
   refine aC_ rfl rfl (q_alloc 502) ?_
   refine aC_ rfl rfl (q_store) ?_
   refine AOps.nil ?_
   refine AWp.seq ?_
   refine AWp.seq ?_
   refine AWp.region ?_
   refine aC_ rfl rfl (q_fa) ?_
   refine aC_ rfl rfl (q_load) ?_
   refine AOps.dec rfl rfl (q_neq) (fun h5_2 => ?_) (fun h5_2 => ?_)
   ·
    refine aC_ rfl rfl (q_move) ?_
    refine aG_ rfl rfl rfl rfl rfl rfl rfl rfl ?_
    refine aG_ rfl rfl rfl rfl rfl rfl rfl rfl ?_
    refine aG_ rfl rfl rfl rfl rfl rfl rfl rfl ?_
    refine aG_ rfl rfl rfl rfl rfl rfl rfl rfl ?_
    refine aG_ rfl rfl rfl rfl rfl rfl rfl rfl ?_
    refine aC_ rfl rfl (q_pick) ?_
    refine aC_ rfl rfl (q_move) ?_
    refine aG_ rfl rfl rfl rfl rfl rfl rfl rfl ?_
    refine aG_ rfl rfl rfl rfl rfl rfl rfl rfl ?_
    refine aG_ rfl rfl rfl rfl rfl rfl rfl rfl ?_
    refine aG_ rfl rfl rfl rfl rfl rfl rfl rfl ?_
    refine aG_ rfl rfl rfl rfl rfl rfl rfl rfl ?_
    refine aG_ rfl rfl rfl rfl rfl rfl rfl rfl ?_
    refine aC_ rfl rfl (q_pick) ?_
    refine aC_ rfl rfl (q_move) ?_
    refine aG_ rfl rfl rfl rfl rfl rfl rfl rfl ?_
    refine aG_ rfl rfl rfl rfl rfl rfl rfl rfl ?_
    refine aG_ rfl rfl rfl rfl rfl rfl rfl rfl ?_
    refine aG_ rfl rfl rfl rfl rfl rfl rfl rfl ?_
    refine aG_ rfl rfl rfl rfl rfl rfl rfl rfl ?_
    refine aC_ rfl rfl (q_pick) ?_
    refine AOps.nil ?_
    refine AWp.cond_t rfl ?_
    refine AWp.exit ?_
    refine AWp.region ?_
    refine aC_ rfl rfl (q_add) ?_
    refine aC_ rfl rfl (q_move) ?_
    refine AOps.nil ?_
    refine ⟨(i + 1, b), ?_, Back.mk' (HasT.cons (HasT.cons (HasT.cons HasT.nil))) HasH.nil, ?_⟩
    ·
     try dsimp only
     exact ⟨by omega, by rw [foldl_step (by omega), hb]; exact cutS_no (cutP_no1 h5_2)⟩
    ·
     try dsimp only
     first | omega | (simp; omega)
   ·
    refine aC_ rfl rfl (q_move) ?_
    refine AOps.gcons rfl rfl rfl rfl rfl (q_fa) ?_
    refine AOps.gcons rfl rfl rfl rfl rfl (q_load) ?_
    refine AOps.gcons rfl rfl rfl rfl rfl (q_fa) ?_
    refine AOps.gcons rfl rfl rfl rfl rfl (q_load) ?_
    refine AOps.gbool rfl rfl rfl rfl rfl (q_call (0) (hc := (c_name_Same (z.rs.getD i default).nm z.o (by omega) (by omega)))) (fun h5_8 => ?_) (fun h5_8 => ?_)
    ·
     refine aC_ rfl rfl (q_pick) ?_
     refine aC_ rfl rfl (q_move) ?_
     refine aG_ rfl rfl rfl rfl rfl rfl rfl rfl ?_
     refine aG_ rfl rfl rfl rfl rfl rfl rfl rfl ?_
     refine aG_ rfl rfl rfl rfl rfl rfl rfl rfl ?_
     refine aG_ rfl rfl rfl rfl rfl rfl rfl rfl ?_
     refine aG_ rfl rfl rfl rfl rfl rfl rfl rfl ?_
     refine aG_ rfl rfl rfl rfl rfl rfl rfl rfl ?_
     refine aC_ rfl rfl (q_pick) ?_
     refine aC_ rfl rfl (q_move) ?_
     refine aG_ rfl rfl rfl rfl rfl rfl rfl rfl ?_
     refine aG_ rfl rfl rfl rfl rfl rfl rfl rfl ?_
     refine aG_ rfl rfl rfl rfl rfl rfl rfl rfl ?_
     refine aG_ rfl rfl rfl rfl rfl rfl rfl rfl ?_
     refine aG_ rfl rfl rfl rfl rfl rfl rfl rfl ?_
     refine aC_ rfl rfl (q_pick) ?_
     refine AOps.nil ?_
     refine AWp.cond_t rfl ?_
     refine AWp.exit ?_
     refine AWp.region ?_
     refine aC_ rfl rfl (q_add) ?_
     refine aC_ rfl rfl (q_move) ?_
     refine AOps.nil ?_
     refine ⟨(i + 1, b), ?_, Back.mk' (HasT.cons (HasT.cons (HasT.cons HasT.nil))) HasH.nil, ?_⟩
     ·
      try dsimp only
      exact ⟨by omega, by rw [foldl_step (by omega), hb]; exact cutS_no (cutP_no2 h5_8)⟩
     ·
      try dsimp only
      first | omega | (simp; omega)
    ·
     refine aC_ rfl rfl (q_pick) ?_
     refine aC_ rfl rfl (q_move) ?_
     refine AOps.gcons rfl rfl rfl rfl rfl (q_fa) ?_
     refine AOps.gcons rfl rfl rfl rfl rfl (q_load) ?_
     refine AOps.gcons rfl rfl rfl rfl rfl (q_fa) ?_
     refine AOps.gcons rfl rfl rfl rfl rfl (q_load) ?_
     refine AOps.gbool rfl rfl rfl rfl rfl (q_call (0) (hc := (c_name_Within (z.rs.getD i default).nm z.o (by omega) (by omega)))) (fun h5_15 => ?_) (fun h5_15 => ?_)
     ·
      refine AOps.gcons rfl rfl rfl rfl rfl (q_not) ?_
      refine aC_ rfl rfl (q_pick) ?_
      refine aC_ rfl rfl (q_move) ?_
      refine AOps.gcons rfl rfl rfl rfl rfl (q_move) ?_
      refine AOps.gcons rfl rfl rfl rfl rfl (q_fa) ?_
      refine AOps.gcons rfl rfl rfl rfl rfl (q_load) ?_
      refine AOps.gbool rfl rfl rfl rfl rfl (q_call (0) (hc := (c_name_Within n (z.rs.getD i default).nm (by omega) (by omega)))) (fun h5_22 => ?_) (fun h5_22 => ?_)
      ·
       refine AOps.gcons rfl rfl rfl rfl rfl (q_not) ?_
       refine aC_ rfl rfl (q_pick) ?_
       refine AOps.nil ?_
       refine AWp.cond_f rfl ?_
       refine AWp.skip ?_
       refine AWp.seq ?_
       refine AWp.region ?_
       have hP : cutP z n (z.rs.getD i default) = true := cutP_yes h5_2 h5_8 h5_15 h5_22
       have hne := withN_ne h5_15
       refine AOps.bool rfl rfl (q_move) (fun h6_0 => ?_) (fun h6_0 => ?_)
       ·
        refine aC_ rfl rfl (q_not) ?_
        refine aC_ rfl rfl (q_move) ?_
        refine AOps.gcons rfl rfl rfl rfl rfl (q_fa) ?_
        refine AOps.gcons rfl rfl rfl rfl rfl (q_load) ?_
        refine AOps.gcons rfl rfl rfl rfl rfl (q_call (0) (hc := (c_name_Count (z.rs.getD i default).nm (by omega)))) ?_
        refine AOps.gcons rfl rfl rfl rfl rfl (q_move) ?_
        refine AOps.gcons rfl rfl rfl rfl rfl (q_call (0) (hc := (c_name_Count b (by omega)))) ?_
        refine AOps.gdec rfl rfl rfl rfl rfl (q_lss) (fun h6_8 => ?_) (fun h6_8 => ?_)
        ·
         refine aC_ rfl rfl (q_pick) ?_
         refine AOps.nil ?_
         refine AWp.cond_t rfl ?_
         refine AWp.region ?_
         refine aC_ rfl rfl (q_fa) ?_
         refine aC_ rfl rfl (q_load) ?_
         refine aC_ rfl rfl (q_assign) ?_
         refine aC_ rfl rfl (q_assign) ?_
         refine AOps.nil ?_
         refine AWp.region ?_
         refine aC_ rfl rfl (q_add) ?_
         refine aC_ rfl rfl (q_move) ?_
         refine AOps.nil ?_
         refine ⟨(i + 1, (z.rs.getD i default).nm), ?_, Back.mk' (HasT.cons (HasT.cons (HasT.cons HasT.nil (h1 := by exact congrArg tf (decide_eq_true hne).symm) ))) HasH.nil, ?_⟩
         ·
          try dsimp only
          exact ⟨by omega, by rw [foldl_step (by omega), hb]; exact cutS_take hP (.inr h6_8)⟩
         ·
          try dsimp only
          first | omega | (simp; omega)
        ·
         refine aC_ rfl rfl (q_pick) ?_
         refine AOps.nil ?_
         refine AWp.cond_f rfl ?_
         refine AWp.skip ?_
         refine AWp.region ?_
         refine aC_ rfl rfl (q_add) ?_
         refine aC_ rfl rfl (q_move) ?_
         refine AOps.nil ?_
         refine ⟨(i + 1, b), ?_, Back.mk' (HasT.cons (HasT.cons (HasT.cons HasT.nil))) HasH.nil, ?_⟩
         ·
          try dsimp only
          exact ⟨by omega, by rw [foldl_step (by omega), hb]; exact cutS_keep (by simpa using h6_0) h6_8⟩
         ·
          try dsimp only
          first | omega | (simp; omega)
       ·
        refine aC_ rfl rfl (q_not) ?_
        refine aC_ rfl rfl (q_move) ?_
        refine aG_ rfl rfl rfl rfl rfl rfl rfl rfl ?_
        refine aG_ rfl rfl rfl rfl rfl rfl rfl rfl ?_
        refine aG_ rfl rfl rfl rfl rfl rfl rfl rfl ?_
        refine aG_ rfl rfl rfl rfl rfl rfl rfl rfl ?_
        refine aG_ rfl rfl rfl rfl rfl rfl rfl rfl ?_
        refine aG_ rfl rfl rfl rfl rfl rfl rfl rfl ?_
        refine aC_ rfl rfl (q_pick) ?_
        refine AOps.nil ?_
        refine AWp.cond_t rfl ?_
        refine AWp.region ?_
        refine aC_ rfl rfl (q_fa) ?_
        refine aC_ rfl rfl (q_load) ?_
        refine aC_ rfl rfl (q_assign) ?_
        refine aC_ rfl rfl (q_assign) ?_
        refine AOps.nil ?_
        refine AWp.region ?_
        refine aC_ rfl rfl (q_add) ?_
        refine aC_ rfl rfl (q_move) ?_
        refine AOps.nil ?_
        refine ⟨(i + 1, (z.rs.getD i default).nm), ?_, Back.mk' (HasT.cons (HasT.cons (HasT.cons HasT.nil (h1 := by exact congrArg tf (decide_eq_true hne).symm) ))) HasH.nil, ?_⟩
        ·
         try dsimp only
         exact ⟨by omega, by rw [foldl_step (by omega), hb]; exact cutS_take hP (.inl (by simpa using h6_0))⟩
        ·
         try dsimp only
         first | omega | (simp; omega)
      ·
       refine AOps.gcons rfl rfl rfl rfl rfl (q_not) ?_
       refine aC_ rfl rfl (q_pick) ?_
       refine AOps.nil ?_
       refine AWp.cond_t rfl ?_
       refine AWp.exit ?_
       refine AWp.region ?_
       refine aC_ rfl rfl (q_add) ?_
       refine aC_ rfl rfl (q_move) ?_
       refine AOps.nil ?_
       refine ⟨(i + 1, b), ?_, Back.mk' (HasT.cons (HasT.cons (HasT.cons HasT.nil))) HasH.nil, ?_⟩
       ·
        try dsimp only
        exact ⟨by omega, by rw [foldl_step (by omega), hb]; exact cutS_no (cutP_no4 h5_22)⟩
       ·
        try dsimp only
        first | omega | (simp; omega)
     ·
      refine AOps.gcons rfl rfl rfl rfl rfl (q_not) ?_
      refine aC_ rfl rfl (q_pick) ?_
      refine aC_ rfl rfl (q_move) ?_
      refine aG_ rfl rfl rfl rfl rfl rfl rfl rfl ?_
      refine aG_ rfl rfl rfl rfl rfl rfl rfl rfl ?_
      refine aG_ rfl rfl rfl rfl rfl rfl rfl rfl ?_
      refine aG_ rfl rfl rfl rfl rfl rfl rfl rfl ?_
      refine aG_ rfl rfl rfl rfl rfl rfl rfl rfl ?_
      refine aC_ rfl rfl (q_pick) ?_
      refine AOps.nil ?_
      refine AWp.cond_t rfl ?_
      refine AWp.exit ?_
      refine AWp.region ?_
      refine aC_ rfl rfl (q_add) ?_
      refine aC_ rfl rfl (q_move) ?_
      refine AOps.nil ?_
      refine ⟨(i + 1, b), ?_, Back.mk' (HasT.cons (HasT.cons (HasT.cons HasT.nil))) HasH.nil, ?_⟩
      ·
       try dsimp only
       exact ⟨by omega, by rw [foldl_step (by omega), hb]; exact cutS_no (cutP_no3 h5_15)⟩
      ·
       try dsimp only
       first | omega | (simp; omega)
  ·
   refine AOps.nil ?_
   refine AWp.seq ?_
   refine AWp.cond_f rfl ?_
   refine AWp.exit ?_
   refine AWp.seq ?_
   refine AWp.region ?_
   refine aC_ rfl rfl (q_move) ?_
   refine aC_ rfl rfl (q_move) ?_
   refine aC_ rfl rfl (q_assign) ?_
   refine aC_ rfl rfl (q_assign) ?_
   refine AOps.nil ?_
   refine AWp.ret ?_
   show Fin te Try.f80 _ _
   obtain rfl : i = z.rs.length := by omega
   rw [List.take_length] at hb
   obtain rfl : b = cutZ z n := hb.symm
   refine q_ret (0) [_, _] [_, _] ?_
   rfl
end Go.Proofs.Ytokccoloholgaaa.Fw


set_option linter.unusedVariables false
set_option linter.unusedSimpArgs false
set_option linter.unusedSectionVars false
namespace Go.Proofs.Ytokccoloholgaaa.Fw
open Go.RowKit
section
variable {P : Program} {n : Nat} {ops : Array Oper} {Q : APost} {QP : Value → AS → Prop}
def OpAtX (P : Program) (n : Nat) (ops : Array Oper) (QP : Value → AS → Prop) (i : Nat) (s s' : AS) : Prop :=
  ∀ Λ w φ a, Sim n w φ Λ s a → ∀ (K : Act → World → Prop) (QQ : Exit → Act → World → Prop), (∀ w' φ' a', Sim n w' φ' Λ s' a' → Goes w φ w' φ' → K a' w') →
    (∀ x s2 w' φ' a', QP x s2 → Sim n w' φ' Λ s2 a' → Goes w φ w' φ' → QQ (.panic [{ v := x, recovered := false }]) a' w') → wpOp P ops QQ i K a w
theorem OpAt.x {i : Nat} {s s' : AS} (h : OpAt P n ops i s s') : OpAtX P n ops QP i s s' := fun Λ w φ a hs K QQ hK _ => h Λ w φ a hs K QQ hK
theorem OpAtX.go {i : Nat} {o : Oper} {s s' : AS} (ho : ops[i]? = some o) (hg : o.guard = none) (h : OpX P n o (fun e s2 => match e with | .panic x => QP x s2 | _ => False) s (fun s2 => s2 = s')) : OpAtX P n ops QP i s s' := by
  intro Λ w φ a hs K QQ hK hP
  simp only [wpOp, ho, Region.wanted, hg, if_true]
  exact .inl (h Λ w φ a hs _ _ (fun s2 w' φ' a' e hs' g => hK w' φ' a' (e ▸ hs') g) (fun x s2 w' φ' a' q hs' g => hP x s2 w' φ' a' q hs' g))
def DS.OkX (P : Program) (n : Nat) (ops : Array Oper) (QP : Value → AS → Prop) (e : DS) (s : AS) : Prop :=
  ∀ s', (∀ t ∈ e.rt, s'.t t = s.t t) → (∀ k ∈ e.rh, s'.h k = s.h k) → OpAtX P n ops QP e.i s' (e.upd s')
theorem DS.OkX.congr {e : DS} {s s2 : AS} (h : e.OkX P n ops QP s) (ht : ∀ t ∈ e.rt, s2.t t = s.t t) (hh : ∀ k ∈ e.rh, s2.h k = s.h k) : e.OkX P n ops QP s2 :=
  fun s' h1 h2 => h s' (fun t k => (h1 t k).trans (ht t k)) (fun t k => (h2 t k).trans (hh t k))
theorem DS.OkX.over {a b : DS} {s : AS} (hi : indep a b = true) (h : b.OkX P n ops QP s) : b.OkX P n ops QP (a.upd s) := by
  obtain ⟨h1, h2, h3, h4⟩ := indep_spec hi
  refine h.congr (fun t ht => ?_) (fun k hk => ?_)
  · rw [DS.upd_t, if_neg]
    intro e
    exact (h1 t e).1 ht
  · rw [DS.upd_h]
    cases hw : a.wh with
    | none => rfl
    | some p =>
      simp only
      rw [if_neg]
      intro e
      exact h3 p.1 p.2 hw (e ▸ hk)
theorem DS.OkX.under {a b : DS} {s : AS} (hi : indep a b = true) (h : b.OkX P n ops QP (a.upd s)) : b.OkX P n ops QP s := by
  obtain ⟨h1, h2, h3, h4⟩ := indep_spec hi
  refine h.congr (fun t ht => ?_) (fun k hk => ?_)
  · rw [DS.upd_t, if_neg]
    intro e
    exact (h1 t e).1 ht
  · rw [DS.upd_h]
    cases hw : a.wh with
    | none => rfl
    | some p =>
      simp only
      rw [if_neg]
      intro e
      exact h3 p.1 p.2 hw (e ▸ hk)
def GoodX (P : Program) (n : Nat) (ops : Array Oper) (QP : Value → AS → Prop) : List DS → AS → Prop
  | [], _ => True
  | e :: r, s => e.OkX P n ops QP s ∧ GoodX P n ops QP r (e.upd s)
theorem GoodX.front {x : DS} {post : List DS} : ∀ {pre : List DS} {s : AS}, GoodX P n ops QP (pre ++ x :: post) s → (∀ y ∈ pre, indep y x = true ∧ y.wf = true) → x.wf = true →
    GoodX P n ops QP (x :: (pre ++ post)) s ∧ final (pre ++ x :: post) s = final (x :: (pre ++ post)) s
  | [], s, h, _, _ => ⟨h, rfl⟩
  | y :: pre, s, h, hi, hx => by
    obtain ⟨h1, h2⟩ := h
    obtain ⟨h3, h4⟩ := GoodX.front (pre := pre) (s := y.upd s) h2 (fun z hz => hi z (List.mem_cons_of_mem _ hz)) hx
    obtain ⟨h5, h6⟩ := h3
    obtain ⟨hy, hyw⟩ := hi y List.mem_cons_self
    have hc := upd_comm (indep_symm hy) hyw s
    refine ⟨⟨h5.under hy, ?_⟩, ?_⟩
    · show y.OkX P n ops QP (x.upd s) ∧ GoodX P n ops QP (pre ++ post) (y.upd (x.upd s))
      rw [← hc]
      exact ⟨h1.over (indep_symm hy), h6⟩
    · show final (pre ++ x :: post) (y.upd s) = final (pre ++ post) (y.upd (x.upd s))
      rw [h4, ← hc]
      rfl
end
end Go.Proofs.Ytokccoloholgaaa.Fw


set_option linter.unusedVariables false
set_option linter.unusedSimpArgs false
set_option linter.unusedSectionVars false
namespace Go.Proofs.Ytokccoloholgaaa.Fw
open Go.RowKit
section rules
variable {n : Nat} {s : AS} {o : Oper} {d : Option Tmp} {Q : APost}
theorem AOps.panic {ops : Array Oper} {i : Nat} {rest : List Nat} {x : Operand} {t : TypeId} {v : Value} (hQ : Q (.panic (.iface t v)) s) (hi : ops[i]? = some o := by exact rfl) (hg : o.guard = none := by exact rfl) (ho : o.op = .panic x := by exact rfl) (hx : s.ev x = .v (.iface t v) := by exact rfl) :
    AOps Try.prog n ops Q (i :: rest) s :=
  AOps.consx hi hg fun Λ w φ a hs next QQ hN hP => by
    have e := ev_v hs hx
    have hrun : (execOp a.eval o).run Try.prog w = .halt (.panic (.iface t v)) w := by simp [execOp, ho, e, Instr.panic, goPanic]
    unfold Oper.wp
    rw [hrun]
    exact hP (.iface t v) s w φ a hQ hs (Goes.refl _ _)
end rules
section jumps
variable {P : Program} {n : Nat} {Q : APost} {s : AS}
end jumps
end Go.Proofs.Ytokccoloholgaaa.Fw


set_option linter.unusedVariables false
set_option linter.unusedSimpArgs false
set_option linter.unusedSectionVars false
namespace Go.Proofs.Ytokccoloholgaaa.Fw
open Go.RowKit
section rules
variable {n : Nat} {s : AS} {o : Oper} {d : Option Tmp} {Q : APost}
end rules
end Go.Proofs.Ytokccoloholgaaa.Fw


set_option linter.unusedVariables false
set_option linter.unusedSimpArgs false
namespace Go.Proofs.Ytokccoloholgaaa.Fw
open Go.RowKit
def zAt (t : Tr) (i : Int) : Zo := t.zs.getD i.toNat default
def mostT (t : Tr) (b : Int) : Int := if b < 0 then -1 else cntN (zAt t b).o
def nearS (t : Tr) (p : Zo → Bool) (b i : Int) : Int := if p (zAt t i) && decide (mostT t b < cntN (zAt t i).o) then i else b
def nearF (t : Tr) (p : Zo → Bool) (w : List Int) : Int := w.foldl (nearS t p) (-1)
def homeT (t : Tr) (w : List Int) (n : List UInt8) : Int := nearF t (fun z => withN n z.o) w
def everyN (k : Nat) : List Int := (List.range k).map fun (j : Nat) => ((j : Nat) : Int)
def everyT (t : Tr) : List Int := everyN t.zs.length
def parP (z o : Zo) : Bool := withN z.o o.o && !sameN z.o o.o
def parOf (t : Tr) (z : Zo) : Int := nearF t (parP z) (everyT t)
def parT (t : Tr) : List Int := t.zs.map (parOf t)
def subP (r o : Rr) : Bool := sameN r.da o.da
def subQ (b : List Rr) (r : Rr) : Bool := !(b.any (subP r))
def subR (a b : List Rr) : Bool := !(a.any (subQ b))
theorem nearS_no {t : Tr} {p : Zo → Bool} {b i : Int} (h : p (zAt t i) = false) : nearS t p b i = b := by simp [nearS, h]
theorem nearS_keep {t : Tr} {p : Zo → Bool} {b i : Int} (h : ¬ mostT t b < cntN (zAt t i).o) : nearS t p b i = b := by simp [nearS, h]
theorem nearS_take {t : Tr} {p : Zo → Bool} {b i : Int} (h : p (zAt t i) = true) (h2 : mostT t b < cntN (zAt t i).o) : nearS t p b i = i := by simp [nearS, h, h2]
theorem mostT_at {t : Tr} {b : Int} (h : 0 ≤ b) : mostT t b = cntN (zAt t b).o := if_neg (by omega)
theorem zAt_mem {t : Tr} {i : Int} (h : 0 ≤ i ∧ i < t.zs.length) : zAt t i ∈ t.zs := getD_mem' (by omega)
theorem everyN_len (k : Nat) : (everyN k).length = k := by simp [everyN]
theorem everyN_step (k : Nat) : everyN (k + 1) = everyN k ++ [(k : Int)] := by simp [everyN, List.range_succ]
theorem everyN_in {k : Nat} {i : Int} (h : i ∈ everyN k) : 0 ≤ i ∧ i < k := by
  simp only [everyN, List.mem_map, List.mem_range] at h
  obtain ⟨a, h1, rfl⟩ := h
  omega
theorem everyT_in (t : Tr) : ∀ i ∈ everyT t, 0 ≤ i ∧ i < t.zs.length := fun i h => everyN_in h
theorem zo_ok {t : Tr} (ht : TrOk t) {i : Int} (h : 0 ≤ i ∧ i < t.zs.length) : ZoOk (zAt t i) := ht.2.1 _ (zAt_mem h)
theorem near_in {t : Tr} {p : Zo → Bool} : ∀ {w : List Int} {b : Int}, (∀ i ∈ w, 0 ≤ i ∧ i < t.zs.length) → -1 ≤ b ∧ b < t.zs.length → -1 ≤ w.foldl (nearS t p) b ∧ w.foldl (nearS t p) b < t.zs.length
  | [], b, _, hb => hb
  | i :: w, b, h, hb => by
    rw [List.foldl_cons]
    refine near_in (fun j hj => h j (by simp [hj])) ?_
    have := h i (by simp)
    unfold nearS
    split
    · omega
    · exact hb
theorem nearF_in {t : Tr} {p : Zo → Bool} {w : List Int} (h : ∀ i ∈ w, 0 ≤ i ∧ i < t.zs.length) : -1 ≤ nearF t p w ∧ nearF t p w < t.zs.length := near_in h (by omega)
theorem set_rep {k i : Nat} (h : i < k) : (everyN i ++ List.replicate (k - i) (0 : Int)).set i (i : Int) = everyN (i + 1) ++ List.replicate (k - (i + 1)) 0 := by
  rw [List.set_append_right _ _ (by rw [everyN_len]; exact Nat.le_refl _), everyN_len, Nat.sub_self, everyN_step, List.append_assoc]
  congr 1
  rw [show k - i = (k - (i + 1)) + 1 by omega, List.replicate_succ]
  rfl
set_option maxRecDepth 20000 in
set_option maxHeartbeats 2000000 in
theorem c_zone_hidden (z : Zo) (n : List UInt8) (hz : ZoOk z) (hn : n.length ≤ 140737488351232) : AC Try.prog 93 [.agg (zoC z), str n] emp (Ret (tf (hidZ z n))) := by
 have hcl := cutZ_len hz n
 refine AC.intro te_ok (fn := Try.f93) ⟨Try.func93, rfl, rfl⟩ (Nat.le_of_ble_eq_true rfl) ?_
 refine AWp.seq ?_
 refine AWp.region ?_
 refine aC_ rfl rfl (q_box 100) ?_
 refine aC_ rfl rfl (q_assign) ?_
 refine AOps.nil ?_
 refine AWp.seq ?_
 refine AWp.region ?_
 refine aC_ rfl rfl (q_load) ?_
 refine aC_ rfl rfl (q_move) ?_
 refine aC_ rfl rfl (q_call (0) (hc := (c_zone_cut z n hz hn))) ?_
 refine aC_ rfl rfl (q_move) ?_
 refine aC_ rfl rfl (q_extract) ?_
 refine AOps.bool rfl rfl (q_extract) (fun h1_5 => ?_) (fun h1_5 => ?_)
 ·
  refine aC_ rfl rfl (q_assign) ?_
  refine aC_ rfl rfl (q_assign) ?_
  refine AOps.nil ?_
  refine AWp.seq ?_
  refine AWp.region ?_
  refine aC_ rfl rfl (q_move) ?_
  refine aC_ rfl rfl (q_move) ?_
  refine AOps.gcons rfl rfl rfl rfl rfl (q_move) ?_
  refine AOps.gcons rfl rfl rfl rfl rfl (q_move) ?_
  refine AOps.gcons rfl rfl rfl rfl rfl (q_call (0) (hc := (c_name_Same (cutZ z n) n (by omega) (by omega)))) ?_
  refine AOps.gcons rfl rfl rfl rfl rfl (q_not) ?_
  refine aC_ rfl rfl (q_pick) ?_
  refine aC_ rfl rfl (q_assign) ?_
  refine AOps.nil ?_
  refine AWp.ret ?_
  show Fin te Try.f93 _ _
  refine q_ret (0) [_] [_] ?_
  exact congrArg tf (by simp_all [hidZ])
 ·
  refine aC_ rfl rfl (q_assign) ?_
  refine aC_ rfl rfl (q_assign) ?_
  refine AOps.nil ?_
  refine AWp.seq ?_
  refine AWp.region ?_
  refine aC_ rfl rfl (q_move) ?_
  refine aC_ rfl rfl (q_move) ?_
  refine aG_ rfl rfl rfl rfl rfl rfl rfl rfl ?_
  refine aG_ rfl rfl rfl rfl rfl rfl rfl rfl ?_
  refine aG_ rfl rfl rfl rfl rfl rfl rfl rfl ?_
  refine aG_ rfl rfl rfl rfl rfl rfl rfl rfl ?_
  refine aC_ rfl rfl (q_pick) ?_
  refine aC_ rfl rfl (q_assign) ?_
  refine AOps.nil ?_
  refine AWp.ret ?_
  show Fin te Try.f93 _ _
  refine q_ret (0) [_] [_] ?_
  exact congrArg tf (by simp_all [hidZ])
set_option maxRecDepth 20000 in
set_option maxHeartbeats 2000000 in
theorem c_zone_there_1 (r : Rr) (z : Zo) (n : List UInt8) (lv : Nat) (hz : ZoOk z) (hr : r.nm.length ≤ 140737488351232) (hn : n.length ≤ 140737488351232) : AC Try.prog 94 [.agg (rrc r), .fp lv [str n], .fp lv (zoC z)] emp (Ret (tf (thP z n r))) := by
 refine AC.intro te_ok (fn := Try.f94) ⟨Try.func94, rfl, rfl⟩ (Nat.le_of_ble_eq_true rfl) ?_
 refine AWp.seq ?_
 refine AWp.region ?_
 refine aC_ rfl rfl (q_box 100) ?_
 refine aC_ rfl rfl (q_assign) ?_
 refine AOps.nil ?_
 refine AWp.seq ?_
 refine AWp.region ?_
 refine aC_ rfl rfl (q_fa) ?_
 refine aC_ rfl rfl (q_load) ?_
 refine aC_ rfl rfl (q_load) ?_
 refine AOps.bool rfl rfl (q_call (lv) (hc := (c_name_Within r.nm n (by omega) (by omega)))) (fun h1_3 => ?_) (fun h1_3 => ?_)
 ·
  refine aC_ rfl rfl (q_move) ?_
  refine AOps.gcons rfl rfl rfl rfl rfl (q_load) ?_
  refine AOps.gcons rfl rfl rfl rfl rfl (q_fa) ?_
  refine AOps.gcons rfl rfl rfl rfl rfl (q_load) ?_
  refine AOps.gcons rfl rfl rfl rfl rfl (q_call (lv) (hc := (c_zone_hidden z r.nm hz hr))) ?_
  refine AOps.gcons rfl rfl rfl rfl rfl (q_not) ?_
  refine aC_ rfl rfl (q_pick) ?_
  refine aC_ rfl rfl (q_assign) ?_
  refine AOps.nil ?_
  refine AWp.ret ?_
  show Fin te Try.f94 _ _
  refine q_ret (0) [_] [_] ?_
  exact congrArg tf (by simp_all [thP])
 ·
  refine aC_ rfl rfl (q_move) ?_
  refine aG_ rfl rfl rfl rfl rfl rfl rfl rfl ?_
  refine aG_ rfl rfl rfl rfl rfl rfl rfl rfl ?_
  refine aG_ rfl rfl rfl rfl rfl rfl rfl rfl ?_
  refine aG_ rfl rfl rfl rfl rfl rfl rfl rfl ?_
  refine aG_ rfl rfl rfl rfl rfl rfl rfl rfl ?_
  refine aC_ rfl rfl (q_pick) ?_
  refine aC_ rfl rfl (q_assign) ?_
  refine AOps.nil ?_
  refine AWp.ret ?_
  show Fin te Try.f94 _ _
  refine q_ret (0) [_] [_] ?_
  exact congrArg tf (by simp_all [thP])
set_option maxRecDepth 20000 in
set_option maxHeartbeats 2000000 in
theorem c_zone_there (z : Zo) (n : List UInt8) (hz : ZoOk z) (hn : n.length ≤ 140737488351232) : AC Try.prog 53 [.agg (zoC z), str n] emp (Ret (tf (theZ z n))) := by
 have hrl : z.rs.length * 64 ≤ 140737488351232 := hz.2.1.1
 refine AC.intro te_ok (fn := Try.f53) ⟨Try.func53, rfl, rfl⟩ (Nat.le_of_ble_eq_true rfl) ?_
 refine AWp.seq ?_
 refine AWp.region ?_
 refine aC_ rfl rfl (q_box 100) ?_
 refine aC_ rfl rfl (q_box 101) ?_
 refine aC_ rfl rfl (q_assign) ?_
 refine AOps.nil ?_
 refine AWp.seq ?_
 refine AWp.region ?_
 refine aC_ rfl rfl (q_load) ?_
 refine aC_ rfl rfl (q_load) ?_
 refine AOps.bool rfl rfl (q_call (0) (hc := (c_zone_hidden z n hz hn))) (fun h1_2 => ?_) (fun h1_2 => ?_)
 ·
  refine aC_ rfl rfl (q_not) ?_
  refine aC_ rfl rfl (q_move) ?_
  refine aG_ rfl rfl rfl rfl rfl rfl rfl rfl ?_
  refine aG_ rfl rfl rfl rfl rfl rfl rfl rfl ?_
  refine aG_ rfl rfl rfl rfl rfl rfl rfl rfl ?_
  refine aG_ rfl rfl rfl rfl rfl rfl rfl rfl ?_
  refine aC_ rfl rfl (q_pick) ?_
  refine aC_ rfl rfl (q_assign) ?_
  refine AOps.nil ?_
  refine AWp.ret ?_
  show Fin te Try.f53 _ _
  refine q_ret (0) [_] [_] ?_
  exact congrArg tf (by simp_all [theZ])
 ·
  refine aC_ rfl rfl (q_not) ?_
  refine aC_ rfl rfl (q_move) ?_
  refine AOps.gcons rfl rfl rfl rfl rfl (q_fa) ?_
  refine AOps.gcons rfl rfl rfl rfl rfl (q_load) ?_
  refine AOps.gcons rfl rfl rfl rfl rfl (q_makeFunc [] [_, _]) ?_
  refine AOps.gcons rfl rfl rfl rfl rfl (q_call (0) (hc := (c_ContainsFunc_rr z.rs (0) 0 (0 + 1) [.fp 1 [str n], .fp 1 (zoC z)] (thP z n) (by omega) (by simp [AV.oks, AV.ok, Nat.ble_eq]) (fun r hr => c_zone_there_1 r z n 1 hz (hz.2.2 r hr) hn)))) ?_
  refine aC_ rfl rfl (q_pick) ?_
  refine aC_ rfl rfl (q_assign) ?_
  refine AOps.nil ?_
  refine AWp.ret ?_
  show Fin te Try.f53 _ _
  refine q_ret (0) [_] [_] ?_
  exact congrArg tf (by simp_all [theZ])
set_option maxRecDepth 20000 in
set_option maxHeartbeats 2000000 in
theorem c_zone_home_1 (z : Zo) (n : List UInt8) (lv : Nat) (hz : ZoOk z) (hn : n.length ≤ 140737488351232) : AC Try.prog 90 [.agg (zoC z), .fp lv [str n]] emp (Ret (tf (withN n z.o))) := by
 have hol := hz.1
 refine AC.intro te_ok (fn := Try.f90) ⟨Try.func90, rfl, rfl⟩ (Nat.le_of_ble_eq_true rfl) ?_
 refine AWp.seq ?_
 refine AWp.region ?_
 refine aC_ rfl rfl (q_box 100) ?_
 refine aC_ rfl rfl (q_assign) ?_
 refine AOps.nil ?_
 refine AWp.seq ?_
 refine AWp.region ?_
 refine aC_ rfl rfl (q_load) ?_
 refine aC_ rfl rfl (q_fa) ?_
 refine aC_ rfl rfl (q_load) ?_
 refine aC_ rfl rfl (q_call (lv) (hc := (c_name_Within n z.o (by omega) (by omega)))) ?_
 refine aC_ rfl rfl (q_assign) ?_
 refine AOps.nil ?_
 refine AWp.ret ?_
 show Fin te Try.f90 _ _
 refine q_ret (0) [_] [_] ?_
 rfl
set_option maxRecDepth 20000 in
set_option maxHeartbeats 2000000 in
theorem c_zone_deepest (t : Tr) (w : List Int) (lw lp : Nat) (caps : List AV) (p : Zo → Bool) {fid : Nat} (ht : TrOk t) (hw : w.length ≤ 140737488351232) (hin : ∀ i ∈ w, 0 ≤ i ∧ i < t.zs.length) (hcaps : AV.oks lp caps = true) (hg : ∀ z ∈ t.zs, AC Try.prog fid (.agg (zoC z) :: caps) emp (Ret (tf (p z)))) : AC Try.prog 75 [.agg (trC t), .fz lw w.length (cl ic w), .fn (.func fid) [] caps] emp (Ret (i64 (nearF t p w))) := by
 refine AC.intro te_ok (fn := Try.f75) ⟨Try.func75, rfl, rfl⟩ (Nat.le_of_ble_eq_true rfl) ?_
 refine AWp.seq ?_
 refine AWp.region ?_
 refine aC_ rfl rfl (q_box 100) ?_
 refine aC_ rfl rfl (q_assign) ?_
 refine AOps.nil ?_
 refine AWp.seq ?_
 refine AWp.region ?_
 refine aC_ rfl rfl (q_assign) ?_
 refine aC_ rfl rfl (q_assign) ?_
 refine AOps.nil ?_
 refine AWp.seq ?_
 refine AWp.seq ?_
 refine AWp.region ?_
 refine aC_ rfl rfl (q_move) ?_
 refine aC_ rfl rfl (q_len) ?_
 refine aC_ rfl rfl (q_move) ?_
 refine AOps.nil ?_
 refine AWp.block ?_
 refine AWp.loopR (α := Nat × Int) [7, 8, 10, 11, 14, 15, 16, 17, 18, 19, 20, 21, 22, 23, 24, 25, 26, 27, 28, 29, 30, 31, 32, 33, 34, 35, 36, 37] (fun x_ => [(14, i64 (x_.1)), (7, i64 (x_.2)), (8, i64 (mostT t (x_.2)))]) (fun x_ => []) (fun x_ => (x_.1) ≤ w.length ∧ (w.take (x_.1)).foldl (nearS t p) (-1) = (x_.2) ∧ -1 ≤ (x_.2) ∧ (x_.2) < t.zs.length) (fun x_ => w.length - (x_.1)) (0, -1) ?_ (Back.mk' (HasT.cons (HasT.cons (HasT.cons HasT.nil))) HasH.nil) ?_
 ·
  exact ⟨Nat.zero_le _, rfl, by omega, by omega⟩
 ·
  rintro ⟨i, b⟩ hI3
  change i ≤ w.length ∧ (w.take i).foldl (nearS t p) (-1) = b ∧ -1 ≤ b ∧ b < t.zs.length at hI3
  obtain ⟨hi, hb, hb1, hb2⟩ := hI3
  refine AWp.as (s' := AS.over _ [7, 8, 10, 11, 14, 15, 16, 17, 18, 19, 20, 21, 22, 23, 24, 25, 26, 27, 28, 29, 30, 31, 32, 33, 34, 35, 36, 37] [(14, i64 i), (7, i64 b), (8, i64 (mostT t b))] []) rfl ?_
  refine AWp.seq ?_
  refine AWp.region ?_
  refine AOps.dec rfl rfl (q_lss) (fun h3_0 => ?_) (fun h3_0 => ?_)
  ·
   refine AOps.nil ?_
   refine AWp.seq ?_
   refine AWp.cond_t rfl ?_
   refine AWp.skip ?_
   refine AWp.seq ?_
   refine AWp.block ?_
   refine AWp.seq ?_
   refine AWp.region ?_
   refine aC_ rfl rfl (q_ix) ?_
   refine aC_ rfl rfl (q_load) ?_
   refine aC_ rfl rfl (q_assign) ?_
   refine AOps.nil ?_
   refine AWp.seq ?_
   refine AWp.region ?_
   have hj := hin _ (getD_mem' (l := w) (i := i) (by omega))
   have hj2 : 0 ≤ w[i]?.getD 0 ∧ w[i]?.getD 0 < t.zs.length := by have h := hj; rw [List.getD_eq_getElem?_getD] at h; exact h
   have hzo := zo_ok ht hj
   have hol := hzo.1
   refine aC_ rfl rfl (q_fa) ?_
   refine aC_ rfl rfl (q_load) ?_
   refine aC_ rfl rfl (q_move) ?_
   refine aC_ rfl rfl (q_ix) ?_
   refine aC_ rfl rfl (q_load) ?_
   refine aC_ rfl rfl (q_alloc 605) ?_
   refine aC_ rfl rfl (q_store) ?_
   refine AOps.nil ?_
   refine AWp.seq ?_
   refine AWp.region ?_
   refine aC_ rfl rfl (q_move) ?_
   refine aC_ rfl rfl (q_load) ?_
   refine AOps.bool rfl rfl (q_call (lw + lp) (hA := by exact fvs_caps (l := lp) (fv_okb rfl (by first | rfl | exact ble_of (by omega) | (simp [AV.ok, AV.oks]; done))) (by omega) hcaps) (hc := (hg (zAt t (w.getD i default)) (zAt_mem hj)))) (fun h6_2 => ?_) (fun h6_2 => ?_)
   ·
    refine aC_ rfl rfl (q_move) ?_
    refine AOps.gcons rfl rfl rfl rfl rfl (q_fa) ?_
    refine AOps.gcons rfl rfl rfl rfl rfl (q_load) ?_
    refine AOps.gcons rfl rfl rfl rfl rfl (q_call (lw + lp) (hc := (c_name_Count (zAt t (w.getD i default)).o (by omega)))) ?_
    refine AOps.gcons rfl rfl rfl rfl rfl (q_move) ?_
    refine AOps.gdec rfl rfl rfl rfl rfl (q_gtr) (fun h6_8 => ?_) (fun h6_8 => ?_)
    ·
     refine aC_ rfl rfl (q_pick) ?_
     refine AOps.nil ?_
     refine AWp.cond_t rfl ?_
     refine AWp.region ?_
     refine aC_ rfl rfl (q_move) ?_
     refine aC_ rfl rfl (q_fa) ?_
     refine aC_ rfl rfl (q_load) ?_
     refine aC_ rfl rfl (q_call (lw + lp) (hc := (c_name_Count (zAt t (w.getD i default)).o (by omega)))) ?_
     refine aC_ rfl rfl (q_assign) ?_
     refine aC_ rfl rfl (q_assign) ?_
     refine AOps.nil ?_
     refine AWp.region ?_
     refine aC_ rfl rfl (q_add) ?_
     refine aC_ rfl rfl (q_move) ?_
     refine AOps.nil ?_
     refine ⟨(i + 1, w.getD i default), ?_, Back.mk' (HasT.cons (HasT.cons (HasT.cons HasT.nil (h1 := by exact congrArg i64 (mostT_at hj.1).symm) ))) HasH.nil, ?_⟩
     ·
      try dsimp only
      exact ⟨by omega, by rw [foldl_step (by omega), hb]; exact nearS_take h6_2 h6_8, by omega, by omega⟩
     ·
      try dsimp only
      first | omega | (simp; omega)
    ·
     refine aC_ rfl rfl (q_pick) ?_
     refine AOps.nil ?_
     refine AWp.cond_f rfl ?_
     refine AWp.skip ?_
     refine AWp.region ?_
     refine aC_ rfl rfl (q_add) ?_
     refine aC_ rfl rfl (q_move) ?_
     refine AOps.nil ?_
     refine ⟨(i + 1, b), ?_, Back.mk' (HasT.cons (HasT.cons (HasT.cons HasT.nil))) HasH.nil, ?_⟩
     ·
      try dsimp only
      exact ⟨by omega, by rw [foldl_step (by omega), hb]; exact nearS_keep h6_8, hb1, hb2⟩
     ·
      try dsimp only
      first | omega | (simp; omega)
   ·
    refine aC_ rfl rfl (q_move) ?_
    refine aG_ rfl rfl rfl rfl rfl rfl rfl rfl ?_
    refine aG_ rfl rfl rfl rfl rfl rfl rfl rfl ?_
    refine aG_ rfl rfl rfl rfl rfl rfl rfl rfl ?_
    refine aG_ rfl rfl rfl rfl rfl rfl rfl rfl ?_
    refine aG_ rfl rfl rfl rfl rfl rfl rfl rfl ?_
    refine aC_ rfl rfl (q_pick) ?_
    refine AOps.nil ?_
    refine AWp.cond_f rfl ?_
    refine AWp.skip ?_
    refine AWp.region ?_
    refine aC_ rfl rfl (q_add) ?_
    refine aC_ rfl rfl (q_move) ?_
    refine AOps.nil ?_
    refine ⟨(i + 1, b), ?_, Back.mk' (HasT.cons (HasT.cons (HasT.cons HasT.nil))) HasH.nil, ?_⟩
    ·
     try dsimp only
     exact ⟨by omega, by rw [foldl_step (by omega), hb]; exact nearS_no h6_2, hb1, hb2⟩
    ·
     try dsimp only
     first | omega | (simp; omega)
  ·
   refine AOps.nil ?_
   refine AWp.seq ?_
   refine AWp.cond_f rfl ?_
   refine AWp.exit ?_
   refine AWp.seq ?_
   refine AWp.region ?_
   refine aC_ rfl rfl (q_move) ?_
   refine aC_ rfl rfl (q_assign) ?_
   refine AOps.nil ?_
   refine AWp.ret ?_
   show Fin te Try.f75 _ _
   obtain rfl : i = w.length := by omega
   rw [List.take_length] at hb
   obtain rfl : b = nearF t p w := hb.symm
   refine q_ret (0) [_] [_] ?_
   rfl
set_option maxRecDepth 20000 in
set_option maxHeartbeats 2000000 in
theorem c_zone_home (t : Tr) (w : List Int) (lw : Nat) (n : List UInt8) (ht : TrOk t) (hw : w.length ≤ 140737488351232) (hin : ∀ i ∈ w, 0 ≤ i ∧ i < t.zs.length) (hn : n.length ≤ 140737488351232) : AC Try.prog 47 [.agg (trC t), .fz lw w.length (cl ic w), str n] emp (Ret (i64 (homeT t w n))) := by
 refine AC.intro te_ok (fn := Try.f47) ⟨Try.func47, rfl, rfl⟩ (Nat.le_of_ble_eq_true rfl) ?_
 refine AWp.seq ?_
 refine AWp.region ?_
 refine aC_ rfl rfl (q_box 100) ?_
 refine aC_ rfl rfl (q_box 101) ?_
 refine aC_ rfl rfl (q_assign) ?_
 refine AOps.nil ?_
 refine AWp.seq ?_
 refine AWp.region ?_
 refine aC_ rfl rfl (q_load) ?_
 refine aC_ rfl rfl (q_move) ?_
 refine aC_ rfl rfl (q_makeFunc [] [_]) ?_
 refine aC_ rfl rfl (q_call (lw) (hc := (c_zone_deepest t w lw (lw + 1) [.fp (lw + 1) [str n]] (fun z => withN n z.o) ht hw hin (by simp [AV.oks, AV.ok]) (fun z hz => c_zone_home_1 z n (lw + 1) (ht.2.1 z hz) hn)))) ?_
 refine aC_ rfl rfl (q_assign) ?_
 refine AOps.nil ?_
 refine AWp.ret ?_
 show Fin te Try.f47 _ _
 refine q_ret (0) [_] [_] ?_
 rfl
set_option maxRecDepth 20000 in
set_option maxHeartbeats 2000000 in
theorem c_zone_every (t : Tr) (ht : TrOk t) : AC Try.prog 48 [.agg (trC t)] emp (Ret (.fz 0 (everyT t).length (cl ic (everyT t)))) := by
 have hb1 := ht.1
 have hel := everyN_len t.zs.length
 have hrl : (List.replicate t.zs.length (0 : Int)).length = t.zs.length := List.length_replicate
 refine AC.intro te_ok (fn := Try.f48) ⟨Try.func48, rfl, rfl⟩ (Nat.le_of_ble_eq_true rfl) ?_
 refine AWp.seq ?_
 refine AWp.region ?_
 refine aC_ rfl rfl (q_box 100) ?_
 refine aC_ rfl rfl (q_assign) ?_
 refine AOps.nil ?_
 refine AWp.seq ?_
 refine AWp.region ?_
 refine aC_ rfl rfl (q_fa) ?_
 refine aC_ rfl rfl (q_load) ?_
 refine aC_ rfl rfl (q_len) ?_
 refine aC_ rfl rfl (q_make 203 ic 0 t.zs.length) ?_
 refine aC_ rfl rfl (q_assign) ?_
 refine AOps.nil ?_
 refine AWp.seq ?_
 refine AWp.seq ?_
 refine AWp.region ?_
 refine aC_ rfl rfl (q_move) ?_
 refine aC_ rfl rfl (q_len) ?_
 refine aC_ rfl rfl (q_move) ?_
 refine AOps.nil ?_
 refine AWp.block ?_
 refine AWp.loopR (α := Nat × List Int) [3, 4, 11, 12, 13, 14, 15, 16, 17, 18] (fun x_ => [(11, i64 (x_.1)), (3, .sl 203 0 0 (x_.2).length 1)]) (fun x_ => [(203, .row (cl ic (x_.2)) 1 0)]) (fun x_ => (x_.1) ≤ t.zs.length ∧ (x_.2) = everyN (x_.1) ++ List.replicate (t.zs.length - (x_.1)) 0) (fun x_ => t.zs.length - (x_.1)) (0, List.replicate t.zs.length 0) ?_ (Back.mk' (HasT.cons (HasT.cons HasT.nil)) (HasH.cons HasH.nil)) ?_
 ·
  exact ⟨Nat.zero_le _, rfl⟩
 ·
  rintro ⟨i, acc⟩ hI3
  change i ≤ t.zs.length ∧ acc = everyN i ++ List.replicate (t.zs.length - i) 0 at hI3
  obtain ⟨hi, ha⟩ := hI3
  refine AWp.as (s' := AS.over _ [3, 4, 11, 12, 13, 14, 15, 16, 17, 18] [(11, i64 i), (3, .sl 203 0 0 acc.length 1)] [(203, .row (cl ic acc) 1 0)]) rfl ?_
  have hal := congrArg List.length ha
  rw [List.length_append, List.length_replicate, everyN_len] at hal
  refine AWp.seq ?_
  refine AWp.region ?_
  refine AOps.dec rfl rfl (q_lss) (fun h3_0 => ?_) (fun h3_0 => ?_)
  ·
   refine AOps.nil ?_
   refine AWp.seq ?_
   refine AWp.cond_t rfl ?_
   refine AWp.skip ?_
   refine AWp.seq ?_
   refine AWp.block ?_
   refine AWp.seq ?_
   refine AWp.region ?_
   refine aC_ rfl rfl (q_move) ?_
   refine aC_ rfl rfl (q_assign) ?_
   refine AOps.nil ?_
   refine AWp.region ?_
   refine aC_ rfl rfl (q_move) ?_
   refine aC_ rfl rfl (q_move) ?_
   refine aC_ rfl rfl (q_move) ?_
   refine aC_ rfl rfl (q_ix) ?_
   refine aC_ rfl rfl (q_store) ?_
   refine AOps.nil ?_
   refine AWp.region ?_
   refine aC_ rfl rfl (q_add) ?_
   refine aC_ rfl rfl (q_move) ?_
   refine AOps.nil ?_
   refine ⟨(i + 1, acc.set i (i : Int)), ?_, Back.mk' (HasT.cons (HasT.cons HasT.nil (h1 := by exact sl_eq (by simp)) )) (HasH.cons HasH.nil), ?_⟩
   ·
    try dsimp only
    exact ⟨by omega, by rw [ha]; exact set_rep (by omega)⟩
   ·
    try dsimp only
    first | omega | (simp; omega)
  ·
   refine AOps.nil ?_
   refine AWp.seq ?_
   refine AWp.cond_f rfl ?_
   refine AWp.exit ?_
   refine AWp.seq ?_
   refine AWp.region ?_
   refine aC_ rfl rfl (q_move) ?_
   refine aC_ rfl rfl (q_assign) ?_
   refine AOps.nil ?_
   refine AWp.ret ?_
   show Fin te Try.f48 _ _
   obtain rfl : i = t.zs.length := by omega
   rw [Nat.sub_self, List.replicate_zero, List.append_nil] at ha
   obtain rfl : acc = everyT t := ha
   refine q_ret (0) [_] [_] ?_
   rfl
set_option maxRecDepth 20000 in
set_option maxHeartbeats 2000000 in
theorem c_zone_parents_1 (o z : Zo) (lv : Nat) (ho : ZoOk o) (hz : ZoOk z) : AC Try.prog 76 [.agg (zoC o), .fp lv (zoC z)] emp (Ret (tf (parP z o))) := by
 have h1 := ho.1
 have h2 := hz.1
 refine AC.intro te_ok (fn := Try.f76) ⟨Try.func76, rfl, rfl⟩ (Nat.le_of_ble_eq_true rfl) ?_
 refine AWp.seq ?_
 refine AWp.region ?_
 refine aC_ rfl rfl (q_box 100) ?_
 refine aC_ rfl rfl (q_assign) ?_
 refine AOps.nil ?_
 refine AWp.seq ?_
 refine AWp.region ?_
 refine aC_ rfl rfl (q_fa) ?_
 refine aC_ rfl rfl (q_load) ?_
 refine aC_ rfl rfl (q_fa) ?_
 refine aC_ rfl rfl (q_load) ?_
 refine AOps.bool rfl rfl (q_call (lv) (hc := (c_name_Within z.o o.o (by omega) (by omega)))) (fun h1_4 => ?_) (fun h1_4 => ?_)
 ·
  refine aC_ rfl rfl (q_move) ?_
  refine AOps.gcons rfl rfl rfl rfl rfl (q_fa) ?_
  refine AOps.gcons rfl rfl rfl rfl rfl (q_load) ?_
  refine AOps.gcons rfl rfl rfl rfl rfl (q_fa) ?_
  refine AOps.gcons rfl rfl rfl rfl rfl (q_load) ?_
  refine AOps.gcons rfl rfl rfl rfl rfl (q_call (lv) (hc := (c_name_Same z.o o.o (by omega) (by omega)))) ?_
  refine AOps.gcons rfl rfl rfl rfl rfl (q_not) ?_
  refine aC_ rfl rfl (q_pick) ?_
  refine aC_ rfl rfl (q_assign) ?_
  refine AOps.nil ?_
  refine AWp.ret ?_
  show Fin te Try.f76 _ _
  refine q_ret (0) [_] [_] ?_
  exact congrArg tf (by simp_all [parP])
 ·
  refine aC_ rfl rfl (q_move) ?_
  refine aG_ rfl rfl rfl rfl rfl rfl rfl rfl ?_
  refine aG_ rfl rfl rfl rfl rfl rfl rfl rfl ?_
  refine aG_ rfl rfl rfl rfl rfl rfl rfl rfl ?_
  refine aG_ rfl rfl rfl rfl rfl rfl rfl rfl ?_
  refine aG_ rfl rfl rfl rfl rfl rfl rfl rfl ?_
  refine aG_ rfl rfl rfl rfl rfl rfl rfl rfl ?_
  refine aC_ rfl rfl (q_pick) ?_
  refine aC_ rfl rfl (q_assign) ?_
  refine AOps.nil ?_
  refine AWp.ret ?_
  show Fin te Try.f76 _ _
  refine q_ret (0) [_] [_] ?_
  exact congrArg tf (by simp_all [parP])
end Go.Proofs.Ytokccoloholgaaa.Fw


set_option linter.unusedVariables false
set_option linter.unusedSimpArgs false
namespace Go.Proofs.Ytokccoloholgaaa.Fw
open Go.RowKit
theorem c_CanA (t : Int) (b : List UInt8) (lv : Nat) (h : b.length ≤ 140737488351232) : AC Try.prog 79 [i64 t, .fz lv b.length (cl bc b)] emp (Ret (tf (canS t b))) := by
  by_cases h6 : t = 6
  · subst h6; exact c_Can6 b lv h
  · rw [canS_ne h6]; exact c_rdata_Can t b lv h h6
def baseO (z : Zo) (r : Rr) : Bool := withN r.nm z.o && decide (r.cs = 1) && decide (0 ≤ r.ttl) && decide (r.ttl ≤ 2147483647) && decide (1 ≤ r.ty) && decide (r.ty ≤ 65535) && canS r.ty r.da
def restO (z : Zo) (r : Rr) : Bool := if r.ty = 6 then sameN r.nm z.o && decide (cutZ z r.nm = []) else if r.ty = 2 then decide (cutZ z r.nm = []) || sameN (cutZ z r.nm) r.nm else if r.ty = 1 then true else decide (cutZ z r.nm = [])
def recO (z : Zo) (r : Rr) : Bool := baseO z r && restO z r
def cntS (z : Zo) (n : List UInt8) : Nat := (z.rs.filter fun o => sameN o.nm n).length
def inZ (z : Zo) (r : Rr) : Bool := recO z r && (!decide (r.ty = 5) || decide (cntS z r.nm = 1))
def childB (t : Tr) (up : List Int) (k : Int) (n : List UInt8) (i : Nat) : Bool := decide (0 < i) && decide (up.getD i default = k) && sameN (t.zs.getD i default).o n
def joinQ (t : Tr) (up : List Int) (k : Int) (z : Zo) (r : Rr) : Bool := decide (r.ty = 2) && !sameN r.nm z.o && !((List.range t.zs.length).any (childB t up k r.nm))
def kidO (t : Tr) (up : List Int) (k : Int) (i : Nat) : Bool := decide (i = 0) || decide (up.getD i default ≠ k) || (sameN (cutZ (zAt t k) (t.zs.getD i default).o) (t.zs.getD i default).o && subR (atZ (zAt t k) (t.zs.getD i default).o 2) (atZ (t.zs.getD i default) (t.zs.getD i default).o 2) && subR (atZ (t.zs.getD i default) (t.zs.getD i default).o 2) (atZ (zAt t k) (t.zs.getD i default).o 2))
def joinZ (t : Tr) (up : List Int) (k : Int) : Bool := (List.range t.zs.length).all (kidO t up k) && !((zAt t k).rs.any (joinQ t up k (zAt t k)))
def badZ (t : Tr) (i : Int) : Bool := decide (i < 0) || decide ((t.zs.length : Int) ≤ i)
def svO (t : Tr) (i : Nat) : Bool := decide (0 ≤ (t.ss.getD i default).ad) && decide ((t.ss.getD i default).ad ≤ 4294967295) && !decide ((t.ss.getD i default).ad ∈ (t.ss.take i).map Sv.ad) && !((t.ss.getD i default).zs.any (badZ t))
def srvT (t : Tr) : Bool := decide (t.ss.length ≤ 40) && (List.range t.ss.length).all (svO t)
def orgO (t : Tr) (i : Nat) : Bool := canN (t.zs.getD i default).o && !((t.zs.take i).any fun o => sameN o.o (t.zs.getD i default).o)
def zonO (t : Tr) (k : Nat) : Bool := (t.zs.getD k default).rs.all (inZ (t.zs.getD k default)) && decide ((atZ (t.zs.getD k default) (t.zs.getD k default).o 6).length = 1) && decide (1 ≤ (atZ (t.zs.getD k default) (t.zs.getD k default).o 2).length) && joinZ t (parT t) k
def sumT (l : List Zo) : Nat := (l.map fun z => z.rs.length).sum
def canT (t : Tr) : Bool := decide (1 ≤ t.zs.length) && decide (t.zs.length ≤ 20) && decide ((t.zs.getD 0 default).o = [0]) && srvT t && (List.range t.zs.length).all (orgO t) && decide (sumT t.zs ≤ 400) && (List.range t.zs.length).all (zonO t)
theorem range_all_iff {k : Nat} {p : Nat → Bool} : (List.range k).all p = true ↔ ∀ j, j < k → p j = true := by simp [List.all_eq_true]
theorem range_all_no {k j : Nat} {p : Nat → Bool} (h : j < k) (hp : p j = false) : (List.range k).all p = false := by
  cases hx : (List.range k).all p with
  | false => rfl
  | true => rw [range_all_iff.1 hx j h] at hp; cases hp
theorem range_any_no {k : Nat} {p : Nat → Bool} (h : ∀ j, j < k → p j = false) : (List.range k).any p = false := by
  rw [List.any_eq_false]; intro j hj; rw [h j (List.mem_range.1 hj)]; exact Bool.false_ne_true
theorem range_any_yes {k j : Nat} {p : Nat → Bool} (h : j < k) (hp : p j = true) : (List.range k).any p = true := List.any_eq_true.2 ⟨j, List.mem_range.2 h, hp⟩
theorem lt_step {p : Nat → Bool} {i : Nat} {b : Bool} (h : ∀ j, j < i → p j = b) (hp : p i = b) : ∀ j, j < i + 1 → p j = b := fun j hj => by
  by_cases e : j = i
  · rw [e]; exact hp
  · exact h j (by omega)
theorem cnt_step {z : Zo} {n : List UInt8} {i : Nat} (h : i < z.rs.length) : ((z.rs.take (i + 1)).filter fun o => sameN o.nm n).length = ((z.rs.take i).filter fun o => sameN o.nm n).length + (if sameN (z.rs.getD i default).nm n then 1 else 0) := by
  rw [filter_step h, List.length_append]
  split <;> rfl
theorem parT_get {t : Tr} {i : Nat} (h : i < t.zs.length) : (parT t).getD i default = parOf t (t.zs.getD i default) := by
  rw [parT, List.getD_eq_getElem?_getD, List.getElem?_map, List.getD_eq_getElem?_getD, List.getElem?_eq_getElem h]; rfl
theorem parT_len (t : Tr) : (parT t).length = t.zs.length := by simp [parT]
theorem map_step {α β : Type} [Inhabited α] {f : α → β} {l : List α} {i : Nat} (h : i < l.length) : (l.take (i + 1)).map f = (l.take i).map f ++ [f (l.getD i default)] := by
  rw [take_step' h, List.map_append]; rfl
theorem sum_step {l : List Zo} {i : Nat} (h : i < l.length) : sumT (l.take (i + 1)) = sumT (l.take i) + (l.getD i default).rs.length := by
  rw [take_step' h, sumT, List.map_append, List.sum_append]; rfl
set_option maxRecDepth 20000 in
set_option maxHeartbeats 2000000 in
theorem c_zone_parents (t : Tr) (ht : TrOk t) : AC Try.prog 33 [.agg (trC t)] emp (Ret (.fz 0 (parT t).length (cl ic (parT t)))) := by
 have hb1 := ht.1
 have hel := everyN_len t.zs.length
 refine AC.intro te_ok (fn := Try.f33) ⟨Try.func33, rfl, rfl⟩ (Nat.le_of_ble_eq_true rfl) ?_
 refine AWp.seq ?_
 refine AWp.region ?_
 refine aC_ rfl rfl (q_box 100) ?_
 refine aC_ rfl rfl (q_assign) ?_
 refine AOps.nil ?_
 refine AWp.seq ?_
 refine AWp.region ?_
 refine aC_ rfl rfl (q_nilrow 200 1 ic) ?_
 refine AOps.nil ?_
 refine AWp.seq ?_
 refine AWp.seq ?_
 refine AWp.region ?_
 refine aC_ rfl rfl (q_fa) ?_
 refine aC_ rfl rfl (q_load) ?_
 refine aC_ rfl rfl (q_len) ?_
 refine aC_ rfl rfl (q_move) ?_
 refine AOps.nil ?_
 refine AWp.block ?_
 refine AWp.loopR (α := Nat × List Int × Nat) [3, 5, 9, 10, 11, 12, 13, 14, 15, 16, 17, 18, 19, 20, 21] (fun x_ => [(9, i64 (x_.1)), (3, .sl 200 (x_.2.2) 0 (x_.2.1).length 1)]) (fun x_ => [(200, .row (cl ic (x_.2.1)) 1 (x_.2.2))]) (fun x_ => (x_.1) ≤ t.zs.length ∧ (x_.2.1) = (t.zs.take (x_.1)).map (parOf t)) (fun x_ => t.zs.length - (x_.1)) (0, [], 0) ?_ (Back.mk' (HasT.cons (HasT.cons HasT.nil)) (HasH.cons HasH.nil)) ?_
 ·
  exact ⟨Nat.zero_le _, rfl⟩
 ·
  rintro ⟨i, acc, v⟩ hI3
  change i ≤ t.zs.length ∧ acc = (t.zs.take i).map (parOf t) at hI3
  obtain ⟨hi, ha⟩ := hI3
  refine AWp.as (s' := AS.over _ [3, 5, 9, 10, 11, 12, 13, 14, 15, 16, 17, 18, 19, 20, 21] [(9, i64 i), (3, .sl 200 v 0 acc.length 1)] [(200, .row (cl ic acc) 1 v)]) rfl ?_
  have hal := congrArg List.length ha
  rw [List.length_map, List.length_take] at hal
  refine AWp.seq ?_
  refine AWp.region ?_
  refine AOps.dec rfl rfl (q_lss) (fun h3_0 => ?_) (fun h3_0 => ?_)
  ·
   refine AOps.nil ?_
   refine AWp.seq ?_
   refine AWp.cond_t rfl ?_
   refine AWp.skip ?_
   refine AWp.seq ?_
   refine AWp.block ?_
   refine AWp.seq ?_
   refine AWp.region ?_
   refine aC_ rfl rfl (q_ix) ?_
   refine aC_ rfl rfl (q_load) ?_
   refine aC_ rfl rfl (q_alloc 502) ?_
   refine aC_ rfl rfl (q_store) ?_
   refine AOps.nil ?_
   have hzi := ht.2.1 _ (getD_mem' (l := t.zs) (i := i) (by omega))
   refine AWp.draws [⟨0, [3], [], some 13, _, none⟩,
 ⟨1, [1], [100], some 14, _, none⟩,
 ⟨2, [1], [100], some 15, _, none⟩,
 ⟨3, [15], [], some 16, _, none⟩,
 ⟨4, [5], [502], some 17, _, none⟩,
 ⟨5, [14, 16, 17], [502], some 18, _, none⟩,
 ⟨6, [18], [606], some 19, _, some (606, _)⟩,
 ⟨7, [13, 19], [200, 606], some 20, _, some (200, _)⟩,
 ⟨8, [20], [], some 3, _, none⟩]
    [kN_ 0 [3] [] 13,
 kN_ 1 [1] [100] 14,
 kN_ 2 [1] [100] 15,
 kN_ 3 [15] [] 16,
 kN_ 4 [5] [502] 17,
 kN_ 5 [14, 16, 17] [502] 18,
 ⟨6, [18], [606], some 19, .any, some (606, .box [])⟩,
 ⟨7, [13, 19], [200, 606], some 20, .any, some (200, .box [])⟩,
 kN_ 8 [20] [] 3]
    mixed_ok rfl (by kernel_rfl) ⟨dK_ fun s0 => oG_ rfl rfl (q_move),
 dK_ fun s0 => oG_ rfl rfl (q_load),
 dK_ fun s0 => oG_ rfl rfl (q_load),
 dK_ fun s0 => oG_ rfl rfl (q_call (0) (hc := (c_zone_every t ht))),
 dK_ fun s0 => oG_ rfl rfl (q_makeFunc [] [_]),
 dK_ fun s0 => oG_ rfl rfl (q_call (0) (hc := (c_zone_deepest t (everyT t) 0 1 [.fp 1 (zoC (t.zs.getD i default))] (parP (t.zs.getD i default)) ht (by show (everyN t.zs.length).length ≤ _; omega) (everyT_in t) rfl (fun z hz => c_zone_parents_1 z (t.zs.getD i default) 1 (ht.2.1 z hz) hzi)))),
 dK_ fun s0 => oG_ rfl rfl (q_bs 606 ic [_] [(_, _)]),
 dK_ fun s0 => oG_ rfl rfl (q_app),
 dK_ fun s0 => oG_ rfl rfl (q_assign), trivial⟩ ?_
   dsimp only [final, DS.upd, AS.seto]
   refine AWp.region ?_
   refine aC_ rfl rfl (q_add) ?_
   refine aC_ rfl rfl (q_move) ?_
   refine AOps.nil ?_
   refine ⟨(i + 1, acc ++ [parOf t (t.zs.getD i default)], v + 1), ?_, Back.mk' (HasT.cons (HasT.cons HasT.nil)) (HasH.cons HasH.nil), ?_⟩
   ·
    try dsimp only
    exact ⟨by omega, by rw [map_step (by omega), ← ha]⟩
   ·
    try dsimp only
    first | omega | (simp; omega)
  ·
   refine AOps.nil ?_
   refine AWp.seq ?_
   refine AWp.cond_f rfl ?_
   refine AWp.exit ?_
   refine AWp.seq ?_
   refine AWp.region ?_
   refine aC_ rfl rfl (q_move) ?_
   refine aC_ rfl rfl (q_assign) ?_
   refine AOps.nil ?_
   refine AWp.ret ?_
   show Fin te Try.f33 _ _
   obtain rfl : i = t.zs.length := by omega
   rw [List.take_length] at ha
   obtain rfl : acc = parT t := ha
   refine q_ret (0) [_] [_] ?_
   rfl
set_option maxRecDepth 20000 in
set_option maxHeartbeats 2000000 in
theorem c_zone_subset_1_1 (r o : Rr) (lv : Nat) (hr : r.da.length ≤ 140737488351232) (ho : o.da.length ≤ 140737488351232) : AC Try.prog 112 [.agg (rrc o), .fp lv (rrc r)] emp (Ret (tf (subP r o))) := by
 refine AC.intro te_ok (fn := Try.f112) ⟨Try.func112, rfl, rfl⟩ (Nat.le_of_ble_eq_true rfl) ?_
 refine AWp.seq ?_
 refine AWp.region ?_
 refine aC_ rfl rfl (q_box 100) ?_
 refine aC_ rfl rfl (q_assign) ?_
 refine AOps.nil ?_
 refine AWp.seq ?_
 refine AWp.region ?_
 refine aC_ rfl rfl (q_fa) ?_
 refine aC_ rfl rfl (q_load) ?_
 refine aC_ rfl rfl (by first | exact q_conv_zs | exact q_conv_ls) ?_
 refine aC_ rfl rfl (q_fa) ?_
 refine aC_ rfl rfl (q_load) ?_
 refine aC_ rfl rfl (by first | exact q_conv_zs | exact q_conv_ls) ?_
 refine aC_ rfl rfl (q_call (lv) (hc := (c_name_Same r.da o.da (by omega) (by omega)))) ?_
 refine aC_ rfl rfl (q_assign) ?_
 refine AOps.nil ?_
 refine AWp.ret ?_
 show Fin te Try.f112 _ _
 refine q_ret (0) [_] [_] ?_
 rfl
set_option maxRecDepth 20000 in
set_option maxHeartbeats 2000000 in
theorem c_zone_subset_1 (b : List Rr) (r : Rr) (lv lb : Nat) (hb : RrsOk b) (hr : r.da.length ≤ 140737488351232) (hl : lb ≤ lv) : AC Try.prog 111 [.agg (rrc r), .fp lv [.fz lb b.length (cl rrc b)]] emp (Ret (tf (subQ b r))) := by
 have hbl := hb.1
 refine AC.intro te_ok (fn := Try.f111) ⟨Try.func111, rfl, rfl⟩ (Nat.le_of_ble_eq_true rfl) ?_
 refine AWp.seq ?_
 refine AWp.region ?_
 refine aC_ rfl rfl (q_box 100) ?_
 refine aC_ rfl rfl (q_assign) ?_
 refine AOps.nil ?_
 refine AWp.seq ?_
 refine AWp.region ?_
 refine aC_ rfl rfl (q_load) ?_
 refine aC_ rfl rfl (q_makeFunc [] [_]) ?_
 refine aC_ rfl rfl (q_call (lv) (hc := (c_ContainsFunc_rr b lb 0 (lv + 1) [.fp (lv + 1) (rrc r)] (subP r) (by omega) (by simp [AV.oks, AV.ok, Nat.ble_eq] <;> omega) (fun o ho => c_zone_subset_1_1 r o (lv + 1) hr (hb.2 o ho))))) ?_
 refine aC_ rfl rfl (q_not) ?_
 refine aC_ rfl rfl (q_assign) ?_
 refine AOps.nil ?_
 refine AWp.ret ?_
 show Fin te Try.f111 _ _
 refine q_ret (0) [_] [_] ?_
 rfl
set_option maxRecDepth 20000 in
set_option maxHeartbeats 2000000 in
theorem c_zone_subset (a b : List Rr) (la lb : Nat) (ha : RrsOk a) (hb : RrsOk b) : AC Try.prog 83 [.fz la a.length (cl rrc a), .fz lb b.length (cl rrc b)] emp (Ret (tf (subR a b))) := by
 have hal := ha.1
 refine AC.intro te_ok (fn := Try.f83) ⟨Try.func83, rfl, rfl⟩ (Nat.le_of_ble_eq_true rfl) ?_
 refine AWp.seq ?_
 refine AWp.region ?_
 refine aC_ rfl rfl (q_box 100) ?_
 refine aC_ rfl rfl (q_assign) ?_
 refine AOps.nil ?_
 refine AWp.seq ?_
 refine AWp.region ?_
 refine aC_ rfl rfl (q_move) ?_
 refine aC_ rfl rfl (q_makeFunc [] [_]) ?_
 refine aC_ rfl rfl (q_call (la + lb) (hA := by exact ⟨fv_okb rfl (ble_of (by omega)), fv_fn trivial ⟨fv_ptrb rfl .box (by simp [AV.oks, AV.ok, Nat.ble_eq]) rfl rfl, trivial⟩, trivial⟩) (hc := (c_ContainsFunc_rr a la 0 (la + lb + 1) [.fp (la + lb + 1) [.fz lb b.length (cl rrc b)]] (subQ b) (by omega) (by simp [AV.oks, AV.ok, Nat.ble_eq] <;> omega) (fun r hr => c_zone_subset_1 b r (la + lb + 1) lb hb (ha.2 r hr) (by omega))))) ?_
 refine aC_ rfl rfl (q_not) ?_
 refine aC_ rfl rfl (q_assign) ?_
 refine AOps.nil ?_
 refine AWp.ret ?_
 show Fin te Try.f83 _ _
 refine q_ret (0) [_] [_] ?_
 rfl
set_option maxRecDepth 20000 in
set_option maxHeartbeats 2000000 in
theorem c_zone_served_1 (i : Int) (t : Tr) (lv : Nat) (ht : TrOk t) : AC Try.prog 73 [i64 i, .fp lv (trC t)] emp (Ret (tf (badZ t i))) := by
 have hb1 := ht.1
 refine AC.intro te_ok (fn := Try.f73) ⟨Try.func73, rfl, rfl⟩ (Nat.le_of_ble_eq_true rfl) ?_
 refine AWp.seq ?_
 refine AWp.region ?_
 refine aC_ rfl rfl (q_assign) ?_
 refine AOps.nil ?_
 refine AWp.seq ?_
 refine AWp.region ?_
 refine aC_ rfl rfl (q_move) ?_
 refine AOps.dec rfl rfl (q_lss) (fun h1_1 => ?_) (fun h1_1 => ?_)
 ·
  refine aC_ rfl rfl (q_move) ?_
  refine aG_ rfl rfl rfl rfl rfl rfl rfl rfl ?_
  refine aG_ rfl rfl rfl rfl rfl rfl rfl rfl ?_
  refine aG_ rfl rfl rfl rfl rfl rfl rfl rfl ?_
  refine aG_ rfl rfl rfl rfl rfl rfl rfl rfl ?_
  refine aG_ rfl rfl rfl rfl rfl rfl rfl rfl ?_
  refine aC_ rfl rfl (q_pick) ?_
  refine aC_ rfl rfl (q_assign) ?_
  refine AOps.nil ?_
  refine AWp.ret ?_
  show Fin te Try.f73 _ _
  refine q_ret (0) [_] [_] ?_
  exact congrArg tf (by simp [badZ, *]; try omega)
 ·
  refine aC_ rfl rfl (q_move) ?_
  refine AOps.gcons rfl rfl rfl rfl rfl (q_move) ?_
  refine AOps.gcons rfl rfl rfl rfl rfl (q_fa) ?_
  refine AOps.gcons rfl rfl rfl rfl rfl (q_load) ?_
  refine AOps.gcons rfl rfl rfl rfl rfl (q_len) ?_
  refine AOps.gcons rfl rfl rfl rfl rfl (q_geq) ?_
  refine aC_ rfl rfl (q_pick) ?_
  refine aC_ rfl rfl (q_assign) ?_
  refine AOps.nil ?_
  refine AWp.ret ?_
  show Fin te Try.f73 _ _
  refine q_ret (0) [_] [_] ?_
  exact congrArg tf (by simp [badZ, *]; try omega)
end Go.Proofs.Ytokccoloholgaaa.Fw


