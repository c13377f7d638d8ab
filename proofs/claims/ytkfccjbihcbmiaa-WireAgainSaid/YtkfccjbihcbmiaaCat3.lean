/- The texts W03c, M0, M1, W03d, Ws, Q8, Q9, Q10, Q11, Q12, V02, Q13, Q14, Q15, V04a, V04b, V04c, one behind the other: what the walks and plain laws need; conditions stand with each theorem. -/
import Derived.Laws.MakeOwn
import Derived.MapKept
import Derived.ScopeJumps
import Derived.Test.YtkfccjbihcbmiaaCat2
set_option linter.unusedVariables false
set_option linter.unusedSimpArgs false
namespace Go.Proofs.Ytkfccjbihcbmiaa.Fw
open Go.RowKit
def ns (x : Soa) : List Int := [x.n1, x.n2, x.n3, x.n4, x.n5]
def fourR (b : List UInt8) : Int := (((((b.getD 0 default).toNat : Int) * 256 + ((b.getD 1 default).toNat : Int)) * 256 + ((b.getD 2 default).toNat : Int)) * 256 + ((b.getD 3 default).toNat : Int))
theorem fourR_drop {c : List UInt8} {j : Nat} (hc : c.length = 20) (hj : j < 5) : fourR (c.drop (4 * j)) = wd c j 5 := by
  rw [← four_num hc hj, fourR]
  have e : ∀ k, (c.drop (4 * j)).getD k default = c.getD (4 * j + k) default := fun k => by rw [List.getD_eq_getElem?_getD, List.getD_eq_getElem?_getD, List.getElem?_drop]
  rw [e 0, e 1, e 2, e 3]
  rfl
def canS (t : Int) (d : List UInt8) : Bool := if t = 6 then decide (d.length ≤ 65535) && soaO d else canR t d
def namS (t : Int) (d : List UInt8) : List (List UInt8) := if t = 6 then (if canS 6 d then [(soaV d).m, (soaV d).r] else []) else namR t d
theorem canS_ne {t : Int} {d : List UInt8} (h : t ≠ 6) : canS t d = canR t d := if_neg h
theorem namS_ne {t : Int} {d : List UInt8} (h : t ≠ 6) : namS t d = namR t d := if_neg h
theorem canS_6 {d : List UInt8} (h : d.length ≤ 65535) : canS 6 d = soaO d := by rw [canS, if_pos rfl, decide_eq_true h, Bool.true_and]
theorem canS_6n {d : List UInt8} (h : ¬ d.length ≤ 65535) : canS 6 d = false := by rw [canS, if_pos rfl, decide_eq_false h, Bool.false_and]
set_option maxRecDepth 20000 in
set_option maxHeartbeats 2000000 in
theorem c_bytes_Equal (l m : List UInt8) (lv lw : Nat) : AC Try.prog 20 [.fz lv l.length (cl bc l), .fz lw m.length (cl bc m)] emp (Ret (tf (decide (l = m)))) := by
 refine AC.intro te_ok (fn := Try.f20) ⟨Try.func20, rfl, rfl⟩ (Nat.le_of_ble_eq_true rfl) ?_
 refine AWp.seq ?_
 refine AWp.region ?_
 refine AOps.cons rfl rfl (q_assign) ?_
 refine AOps.nil ?_
 refine AWp.seq ?_
 refine AWp.region ?_
 refine AOps.cons rfl rfl (q_move) ?_
 refine AOps.cons rfl rfl (by first | exact q_conv_zs | exact q_conv_ls) ?_
 refine AOps.cons rfl rfl (q_move) ?_
 refine AOps.cons rfl rfl (by first | exact q_conv_zs | exact q_conv_ls) ?_
 refine AOps.cons rfl rfl (q_seql) ?_
 refine AOps.cons rfl rfl (q_assign) ?_
 refine AOps.nil ?_
 refine AWp.ret ?_
 show Fin te Try.f20 _ _
 refine q_ret (0) [_] [_] ?_
 first | rfl | (simp; done)
set_option maxRecDepth 20000 in
set_option maxHeartbeats 2000000 in
theorem c_ciceroneref03_First (b : List UInt8) (lv : Nat) (h : b.length ≤ 140737488351232) : AC Try.prog 97 [.fz lv b.length (cl bc b)] emp (Ret (.tup [str (cutM b), .fz lv (cutR b).length (cl bc (cutR b)), tf (cutO b)])) := by
 refine AC.intro te_ok (fn := Try.f97) ⟨Try.func97, rfl, rfl⟩ (Nat.le_of_ble_eq_true rfl) ?_
 refine AWp.seq ?_
 refine AWp.region ?_
 refine AOps.cons rfl rfl (q_assign) ?_
 refine AOps.cons rfl rfl (q_nilz (lv) bc) ?_
 refine AOps.cons rfl rfl (q_assign) ?_
 refine AOps.nil ?_
 refine AWp.seq ?_
 refine AWp.seq ?_
 refine AWp.region ?_
 refine AOps.cons rfl rfl (q_assign) ?_
 refine AOps.nil ?_
 refine AWp.block ?_
 refine AWp.loopR (α := Nat) [2, 3, 4, 5, 6, 7, 8, 9, 10, 11, 12, 13, 14, 15, 16, 17, 18, 19, 20, 21, 22, 23, 24, 25, 26, 27] (fun k => [(5, i64 k)]) (fun k => []) (fun k => 1 ≤ k ∧ k ≤ 256 ∧ ∀ j, 1 ≤ j → j < k → canN (b.take j) = false) (fun k => 256 - k) 1 ?_ (Back.mk' (HasT.cons HasT.nil) HasH.nil) ?_
 ·
  exact ⟨by omega, by omega, fun j h1 h2 => by omega⟩
 ·
  rintro k ⟨hk1, hk2, hk⟩
  refine AWp.seq ?_
  refine AWp.seq ?_
  refine AWp.region ?_
  refine AOps.cons rfl rfl (q_move) ?_
  refine AOps.cons rfl rfl (q_move) ?_
  refine AOps.cons rfl rfl (q_len) ?_
  refine AOps.dec rfl rfl (q_leq) (fun h2_3 => ?_) (fun h2_3 => ?_)
  ·
   refine AOps.cons rfl rfl (q_move) ?_
   refine AOps.gcons rfl rfl rfl rfl rfl (q_move) ?_
   refine AOps.gdec rfl rfl rfl rfl rfl (q_leq) (fun h2_6 => ?_) (fun h2_6 => ?_)
   ·
    refine AOps.cons rfl rfl (q_pick) ?_
    refine AOps.nil ?_
    refine AWp.cond_t rfl ?_
    refine AWp.skip ?_
    refine AWp.seq ?_
    refine AWp.block ?_
    refine AWp.seq ?_
    refine AWp.region ?_
    refine AOps.cons rfl rfl (q_move) ?_
    refine AOps.cons rfl rfl (q_move) ?_
    refine AOps.cons rfl rfl (q_sl) ?_
    refine AOps.cons rfl rfl (by first | exact q_conv_zs | exact q_conv_ls) ?_
    refine AOps.bool rfl rfl (q_call (lv) (hc := c_ciceroneref01_Can _ (by first | assumption | omega | decide | (simp; omega) | (simp [*]; done)))) (fun h4_4 => ?_) (fun h4_4 => ?_)
    ·
     refine AOps.nil ?_
     refine AWp.cond_t rfl ?_
     refine AWp.seq ?_
     refine AWp.draws [⟨0, [0], [], some 21, _, none⟩,
         ⟨1, [5], [], some 22, _, none⟩,
         ⟨2, [21, 22], [], some 23, _, none⟩,
         ⟨3, [23], [], some 24, _, none⟩,
         ⟨4, [0], [], some 25, _, none⟩,
         ⟨5, [5], [], some 26, _, none⟩,
         ⟨6, [25, 26], [], some 27, _, none⟩,
         ⟨7, [24], [], some 2, _, none⟩,
         ⟨8, [27], [], some 3, _, none⟩,
         ⟨9, [], [], some 4, _, none⟩]
      [⟨0, [0], [], some 21, .any, none⟩,
          ⟨1, [5], [], some 22, .any, none⟩,
          ⟨2, [21, 22], [], some 23, .any, none⟩,
          ⟨3, [23], [], some 24, .any, none⟩,
          ⟨4, [0], [], some 25, .any, none⟩,
          ⟨5, [5], [], some 26, .any, none⟩,
          ⟨6, [25, 26], [], some 27, .any, none⟩,
          ⟨7, [24], [], some 2, .any, none⟩,
          ⟨8, [27], [], some 3, .any, none⟩,
          ⟨9, [], [], some 4, .any, none⟩]
      mixed_ok rfl (by kernel_rfl) ⟨DS.ok_over fun s0 => OpAt.go rfl rfl (q_move),
          DS.ok_over fun s0 => OpAt.go rfl rfl (q_move),
          DS.ok_over fun s0 => OpAt.go rfl rfl (q_sl),
          DS.ok_over fun s0 => OpAt.go rfl rfl (by first | exact q_conv_zs | exact q_conv_ls),
          DS.ok_over fun s0 => OpAt.go rfl rfl (q_move),
          DS.ok_over fun s0 => OpAt.go rfl rfl (q_move),
          DS.ok_over fun s0 => OpAt.go rfl rfl (q_sl),
          DS.ok_over fun s0 => OpAt.go rfl rfl (q_assign),
          DS.ok_over fun s0 => OpAt.go rfl rfl (q_assign),
          DS.ok_over fun s0 => OpAt.go rfl rfl (q_assign), trivial⟩ ?_
     dsimp only [final, DS.upd, AS.seto]
     refine AWp.ret ?_
     show Fin te Try.f97 _ _
     refine q_ret (lv) [_, _, _] [_, _, _] ?_
     obtain ⟨q1, q2, q3⟩ := cut_at (b := b) (k := k) (by omega) h4_4
     rw [q1, q2, q3]; rfl
    ·
     refine AOps.nil ?_
     refine AWp.cond_f rfl ?_
     refine AWp.skip ?_
     refine AWp.region ?_
     refine AOps.cons rfl rfl (q_move) ?_
     refine AOps.cons rfl rfl (q_add) ?_
     refine AOps.cons rfl rfl (q_assign) ?_
     refine AOps.nil ?_
     refine ⟨k + 1, ?_, Back.mk' (HasT.cons HasT.nil) HasH.nil, ?_⟩
     ·
      refine ⟨by omega, by omega, fun j h1 h2 => ?_⟩
      by_cases e : j = k
      · subst e; exact h4_4
      · exact hk j h1 (by omega)
     ·
      omega
   ·
    refine AOps.cons rfl rfl (q_pick) ?_
    refine AOps.nil ?_
    refine AWp.cond_f rfl ?_
    refine AWp.exit ?_
    refine AWp.seq ?_
    refine AWp.region ?_
    refine AOps.cons rfl rfl (q_assign) ?_
    refine AOps.cons rfl rfl (q_nilz (lv) bc) ?_
    refine AOps.cons rfl rfl (q_assign) ?_
    refine AOps.nil ?_
    refine AWp.ret ?_
    show Fin te Try.f97 _ _
    refine q_ret (lv) [_, _, _] [_, _, _] ?_
    have ho := cut_none (b := b) (fun j h1 h2 h3 => hk j h1 (by omega))
    rw [(cut_no ho).1, (cut_no ho).2, ho]; rfl
  ·
   refine AOps.cons rfl rfl (q_move) ?_
   refine AOps.gskip rfl rfl rfl rfl rfl rfl rfl rfl ?_
   refine AOps.gskip rfl rfl rfl rfl rfl rfl rfl rfl ?_
   refine AOps.cons rfl rfl (q_pick) ?_
   refine AOps.nil ?_
   refine AWp.cond_f rfl ?_
   refine AWp.exit ?_
   refine AWp.seq ?_
   refine AWp.region ?_
   refine AOps.cons rfl rfl (q_assign) ?_
   refine AOps.cons rfl rfl (q_nilz (lv) bc) ?_
   refine AOps.cons rfl rfl (q_assign) ?_
   refine AOps.nil ?_
   refine AWp.ret ?_
   show Fin te Try.f97 _ _
   refine q_ret (lv) [_, _, _] [_, _, _] ?_
   have ho := cut_none (b := b) (fun j h1 h2 h3 => hk j h1 (by omega))
   rw [(cut_no ho).1, (cut_no ho).2, ho]; rfl
set_option maxRecDepth 20000 in
set_option maxHeartbeats 2000000 in
theorem c_ciceroneref03_four (b : List UInt8) (lv : Nat) (h : b.length ≤ 140737488351232) (h4 : 4 ≤ b.length) : AC Try.prog 98 [.fz lv b.length (cl bc b)] emp (Ret (i64 (fourR b))) := by
 have f0 := (b.getD (Int.toNat 0) default).toNat_lt
 have g0 := (b[0]?.getD default).toNat_lt
 have f1 := (b.getD (Int.toNat 1) default).toNat_lt
 have g1 := (b[1]?.getD default).toNat_lt
 have f2 := (b.getD (Int.toNat 2) default).toNat_lt
 have g2 := (b[2]?.getD default).toNat_lt
 have f3 := (b.getD (Int.toNat 3) default).toNat_lt
 have g3 := (b[3]?.getD default).toNat_lt
 refine AC.intro te_ok (fn := Try.f98) ⟨Try.func98, rfl, rfl⟩ (Nat.le_of_ble_eq_true rfl) ?_
 refine AWp.seq ?_
 refine AWp.region ?_
 refine AOps.cons rfl rfl (q_assign) ?_
 refine AOps.nil ?_
 refine AWp.seq ?_
 refine AWp.draws [⟨0, [0], [], some 3, _, none⟩,
     ⟨1, [3], [], some 4, _, none⟩,
     ⟨2, [4], [], some 5, _, none⟩,
     ⟨3, [5], [], some 6, _, none⟩,
     ⟨4, [6], [], some 7, _, none⟩,
     ⟨5, [0], [], some 8, _, none⟩,
     ⟨6, [8], [], some 9, _, none⟩,
     ⟨7, [9], [], some 10, _, none⟩,
     ⟨8, [10], [], some 11, _, none⟩,
     ⟨9, [7, 11], [], some 12, _, none⟩,
     ⟨10, [12], [], some 13, _, none⟩,
     ⟨11, [0], [], some 14, _, none⟩,
     ⟨12, [14], [], some 15, _, none⟩,
     ⟨13, [15], [], some 16, _, none⟩,
     ⟨14, [16], [], some 17, _, none⟩,
     ⟨15, [13, 17], [], some 18, _, none⟩,
     ⟨16, [18], [], some 19, _, none⟩,
     ⟨17, [0], [], some 20, _, none⟩,
     ⟨18, [20], [], some 21, _, none⟩,
     ⟨19, [21], [], some 22, _, none⟩,
     ⟨20, [22], [], some 23, _, none⟩,
     ⟨21, [19, 23], [], some 24, _, none⟩,
     ⟨22, [24], [], some 2, _, none⟩]
  [⟨0, [0], [], some 3, .any, none⟩,
      ⟨1, [3], [], some 4, .any, none⟩,
      ⟨2, [4], [], some 5, .any, none⟩,
      ⟨3, [5], [], some 6, .any, none⟩,
      ⟨4, [6], [], some 7, .any, none⟩,
      ⟨5, [0], [], some 8, .any, none⟩,
      ⟨6, [8], [], some 9, .any, none⟩,
      ⟨7, [9], [], some 10, .any, none⟩,
      ⟨8, [10], [], some 11, .any, none⟩,
      ⟨9, [7, 11], [], some 12, .any, none⟩,
      ⟨10, [12], [], some 13, .any, none⟩,
      ⟨11, [0], [], some 14, .any, none⟩,
      ⟨12, [14], [], some 15, .any, none⟩,
      ⟨13, [15], [], some 16, .any, none⟩,
      ⟨14, [16], [], some 17, .any, none⟩,
      ⟨15, [13, 17], [], some 18, .any, none⟩,
      ⟨16, [18], [], some 19, .any, none⟩,
      ⟨17, [0], [], some 20, .any, none⟩,
      ⟨18, [20], [], some 21, .any, none⟩,
      ⟨19, [21], [], some 22, .any, none⟩,
      ⟨20, [22], [], some 23, .any, none⟩,
      ⟨21, [19, 23], [], some 24, .any, none⟩,
      ⟨22, [24], [], some 2, .any, none⟩]
  mixed_ok rfl (by kernel_rfl) ⟨DS.ok_over fun s0 => OpAt.go rfl rfl (q_move),
      DS.ok_over fun s0 => OpAt.go rfl rfl (q_ix),
      DS.ok_over fun s0 => OpAt.go rfl rfl (q_load),
      DS.ok_over fun s0 => OpAt.go rfl rfl (q_conv_8i),
      DS.ok_over fun s0 => OpAt.go rfl rfl (q_mul),
      DS.ok_over fun s0 => OpAt.go rfl rfl (q_move),
      DS.ok_over fun s0 => OpAt.go rfl rfl (q_ix),
      DS.ok_over fun s0 => OpAt.go rfl rfl (q_load),
      DS.ok_over fun s0 => OpAt.go rfl rfl (q_conv_8i),
      DS.ok_over fun s0 => OpAt.go rfl rfl (q_add),
      DS.ok_over fun s0 => OpAt.go rfl rfl (q_mul),
      DS.ok_over fun s0 => OpAt.go rfl rfl (q_move),
      DS.ok_over fun s0 => OpAt.go rfl rfl (q_ix),
      DS.ok_over fun s0 => OpAt.go rfl rfl (q_load),
      DS.ok_over fun s0 => OpAt.go rfl rfl (q_conv_8i),
      DS.ok_over fun s0 => OpAt.go rfl rfl (q_add),
      DS.ok_over fun s0 => OpAt.go rfl rfl (q_mul),
      DS.ok_over fun s0 => OpAt.go rfl rfl (q_move),
      DS.ok_over fun s0 => OpAt.go rfl rfl (q_ix),
      DS.ok_over fun s0 => OpAt.go rfl rfl (q_load),
      DS.ok_over fun s0 => OpAt.go rfl rfl (q_conv_8i),
      DS.ok_over fun s0 => OpAt.go rfl rfl (q_add),
      DS.ok_over fun s0 => OpAt.go rfl rfl (q_assign), trivial⟩ ?_
 dsimp only [final, DS.upd, AS.seto]
 refine AWp.ret ?_
 show Fin te Try.f98 _ _
 refine q_ret (0) [_] [_] ?_
 rfl
set_option maxRecDepth 20000 in
set_option maxHeartbeats 2000000 in
theorem c_ciceroneref03_SOA (b : List UInt8) (lv : Nat) (h : b.length ≤ 140737488351232) : AC Try.prog 88 [.fz lv b.length (cl bc b)] emp (Ret (.tup [soaA (soaV b), tf (soaO b)])) := by
 have hc1 := cut_len b
 have hc2 := cut_len (cutR b)
 refine AC.intro te_ok (fn := Try.f88) ⟨Try.func88, rfl, rfl⟩ (Nat.le_of_ble_eq_true rfl) ?_
 refine AWp.seq ?_
 refine AWp.region ?_
 refine AOps.cons rfl rfl (q_alloc 100) ?_
 refine AOps.cons rfl rfl (q_assign) ?_
 refine AOps.nil ?_
 refine AWp.seq ?_
 refine AWp.region ?_
 refine AOps.cons rfl rfl (q_move) ?_
 refine AOps.cons rfl rfl (q_call (lv) (hc := c_ciceroneref03_First _ _ (by first | assumption | omega | decide | (simp; omega) | (simp [*]; done)))) ?_
 refine AOps.cons rfl rfl (q_move) ?_
 refine AOps.cons rfl rfl (q_extract) ?_
 refine AOps.cons rfl rfl (q_extract) ?_
 refine AOps.bool rfl rfl (q_extract) (fun h1_5 => ?_) (fun h1_5 => ?_)
 ·
  refine AOps.cons rfl rfl (q_assign) ?_
  refine AOps.cons rfl rfl (q_assign) ?_
  refine AOps.cons rfl rfl (q_assign) ?_
  refine AOps.nil ?_
  refine AWp.seq ?_
  refine AWp.seq ?_
  refine AWp.region ?_
  refine AOps.cons rfl rfl (q_move) ?_
  refine AOps.cons rfl rfl (q_not) ?_
  refine AOps.nil ?_
  refine AWp.cond_f rfl ?_
  refine AWp.skip ?_
  refine AWp.seq ?_
  refine AWp.region ?_
  refine AOps.cons rfl rfl (q_move) ?_
  refine AOps.cons rfl rfl (q_call (lv) (hc := c_ciceroneref03_First _ _ (by first | assumption | omega | decide | (simp; omega) | (simp [*]; done)))) ?_
  refine AOps.cons rfl rfl (q_move) ?_
  refine AOps.cons rfl rfl (q_extract) ?_
  refine AOps.cons rfl rfl (q_extract) ?_
  refine AOps.bool rfl rfl (q_extract) (fun h4_5 => ?_) (fun h4_5 => ?_)
  ·
   refine AOps.cons rfl rfl (q_assign) ?_
   refine AOps.cons rfl rfl (q_assign) ?_
   refine AOps.cons rfl rfl (q_assign) ?_
   refine AOps.nil ?_
   refine AWp.seq ?_
   refine AWp.seq ?_
   refine AWp.region ?_
   refine AOps.cons rfl rfl (q_move) ?_
   refine AOps.cons rfl rfl (q_not) ?_
   refine AOps.cons rfl rfl (q_move) ?_
   refine AOps.gcons rfl rfl rfl rfl rfl (q_move) ?_
   refine AOps.gcons rfl rfl rfl rfl rfl (q_len) ?_
   refine AOps.gdec rfl rfl rfl rfl rfl (q_neq) (fun h5_5 => ?_) (fun h5_5 => ?_)
   ·
    refine AOps.cons rfl rfl (q_pick) ?_
    refine AOps.nil ?_
    refine AWp.cond_t rfl ?_
    refine AWp.seq ?_
    refine AWp.region ?_
    refine AOps.cons rfl rfl (q_build []) ?_
    refine AOps.cons rfl rfl (q_store) ?_
    refine AOps.cons rfl rfl (q_assign) ?_
    refine AOps.nil ?_
    refine AWp.ret ?_
    show Fin te Try.f88 _ _
    refine q_ret (0) [_, _] [_, _] ?_
    have ho : soaO b = false := by rw [soaO, decide_eq_false (by omega), Bool.and_false, Bool.and_false]
    rw [soaV_no ho, ho]; rfl
   ·
    refine AOps.cons rfl rfl (q_pick) ?_
    refine AOps.nil ?_
    refine AWp.cond_f rfl ?_
    refine AWp.skip ?_
    refine AWp.seq ?_
    have hc20 : (cutR (cutR b)).length = 20 := by omega
    have ho : soaO b = true := by rw [soaO, h1_5, h4_5, decide_eq_true (by omega)]; rfl
    have hv : soaV b = ⟨cutM b, cutM (cutR b), wd (cutR (cutR b)) 0 5, wd (cutR (cutR b)) 1 5, wd (cutR (cutR b)) 2 5, wd (cutR (cutR b)) 3 5, wd (cutR (cutR b)) 4 5⟩ := by rw [soaV, if_pos ho]
    have e0 : fourR (cutR (cutR b)) = wd (cutR (cutR b)) 0 5 := fourR_drop (j := 0) hc20 (by omega)
    have e1 : fourR ((cutR (cutR b)).drop (Int.toNat 4)) = wd (cutR (cutR b)) 1 5 := fourR_drop (j := 1) hc20 (by omega)
    have e2 : fourR ((cutR (cutR b)).drop (Int.toNat 8)) = wd (cutR (cutR b)) 2 5 := fourR_drop (j := 2) hc20 (by omega)
    have e3 : fourR ((cutR (cutR b)).drop (Int.toNat 12)) = wd (cutR (cutR b)) 3 5 := fourR_drop (j := 3) hc20 (by omega)
    have e4 : fourR ((cutR (cutR b)).drop (Int.toNat 16)) = wd (cutR (cutR b)) 4 5 := fourR_drop (j := 4) hc20 (by omega)
    refine AWp.draws [⟨0, [4], [], some 31, _, none⟩,
        ⟨1, [7], [], some 32, _, none⟩,
        ⟨2, [5], [], some 33, _, none⟩,
        ⟨3, [33], [], some 34, _, none⟩,
        ⟨4, [5], [], some 35, _, none⟩,
        ⟨5, [35], [], some 36, _, none⟩,
        ⟨6, [36], [], some 37, _, none⟩,
        ⟨7, [5], [], some 38, _, none⟩,
        ⟨8, [38], [], some 39, _, none⟩,
        ⟨9, [39], [], some 40, _, none⟩,
        ⟨10, [5], [], some 41, _, none⟩,
        ⟨11, [41], [], some 42, _, none⟩,
        ⟨12, [42], [], some 43, _, none⟩,
        ⟨13, [5], [], some 44, _, none⟩,
        ⟨14, [44], [], some 45, _, none⟩,
        ⟨15, [45], [], some 46, _, none⟩,
        ⟨16, [31, 32, 34, 37, 40, 43, 46], [], some 47, _, none⟩,
        ⟨17, [2, 47], [100], none, _, some (100, _)⟩,
        ⟨18, [], [], some 3, _, none⟩]
     [⟨0, [4], [], some 31, .any, none⟩,
         ⟨1, [7], [], some 32, .any, none⟩,
         ⟨2, [5], [], some 33, .any, none⟩,
         ⟨3, [33], [], some 34, .any, none⟩,
         ⟨4, [5], [], some 35, .any, none⟩,
         ⟨5, [35], [], some 36, .any, none⟩,
         ⟨6, [36], [], some 37, .any, none⟩,
         ⟨7, [5], [], some 38, .any, none⟩,
         ⟨8, [38], [], some 39, .any, none⟩,
         ⟨9, [39], [], some 40, .any, none⟩,
         ⟨10, [5], [], some 41, .any, none⟩,
         ⟨11, [41], [], some 42, .any, none⟩,
         ⟨12, [42], [], some 43, .any, none⟩,
         ⟨13, [5], [], some 44, .any, none⟩,
         ⟨14, [44], [], some 45, .any, none⟩,
         ⟨15, [45], [], some 46, .any, none⟩,
         ⟨16, [31, 32, 34, 37, 40, 43, 46], [], some 47, .any, none⟩,
         ⟨17, [2, 47], [100], none, .any, some (100, .box [])⟩,
         ⟨18, [], [], some 3, .any, none⟩]
     mixed_ok rfl (by kernel_rfl) ⟨DS.ok_over fun s0 => OpAt.go rfl rfl (q_move),
         DS.ok_over fun s0 => OpAt.go rfl rfl (q_move),
         DS.ok_over fun s0 => OpAt.go rfl rfl (q_move),
         DS.ok_over fun s0 => OpAt.go rfl rfl (q_call (lv) (hc := c_ciceroneref03_four _ _ (by first | assumption | omega | decide | (simp; omega) | (simp [*]; done)) (by first | assumption | omega | decide | (simp; omega) | (simp [*]; done)))),
         DS.ok_over fun s0 => OpAt.go rfl rfl (q_move),
         DS.ok_over fun s0 => OpAt.go rfl rfl (q_sl),
         DS.ok_over fun s0 => OpAt.go rfl rfl (q_call (lv) (hc := c_ciceroneref03_four _ _ (by first | assumption | omega | decide | (simp; omega) | (simp [*]; done)) (by first | assumption | omega | decide | (simp; omega) | (simp [*]; done)))),
         DS.ok_over fun s0 => OpAt.go rfl rfl (q_move),
         DS.ok_over fun s0 => OpAt.go rfl rfl (q_sl),
         DS.ok_over fun s0 => OpAt.go rfl rfl (q_call (lv) (hc := c_ciceroneref03_four _ _ (by first | assumption | omega | decide | (simp; omega) | (simp [*]; done)) (by first | assumption | omega | decide | (simp; omega) | (simp [*]; done)))),
         DS.ok_over fun s0 => OpAt.go rfl rfl (q_move),
         DS.ok_over fun s0 => OpAt.go rfl rfl (q_sl),
         DS.ok_over fun s0 => OpAt.go rfl rfl (q_call (lv) (hc := c_ciceroneref03_four _ _ (by first | assumption | omega | decide | (simp; omega) | (simp [*]; done)) (by first | assumption | omega | decide | (simp; omega) | (simp [*]; done)))),
         DS.ok_over fun s0 => OpAt.go rfl rfl (q_move),
         DS.ok_over fun s0 => OpAt.go rfl rfl (q_sl),
         DS.ok_over fun s0 => OpAt.go rfl rfl (q_call (lv) (hc := c_ciceroneref03_four _ _ (by first | assumption | omega | decide | (simp; omega) | (simp [*]; done)) (by first | assumption | omega | decide | (simp; omega) | (simp [*]; done)))),
         DS.ok_over fun s0 => OpAt.go rfl rfl (q_build [(_, _), (_, _), (_, _), (_, _), (_, _), (_, _), (_, _)]),
         DS.ok_over fun s0 => OpAt.go rfl rfl (q_store),
         DS.ok_over fun s0 => OpAt.go rfl rfl (q_assign), trivial⟩ ?_
    dsimp only [final, DS.upd, AS.seto]
    refine AWp.ret ?_
    show Fin te Try.f88 _ _
    refine q_ret (0) [_, _] [_, _] ?_
    rw [e0, e1, e2, e3, e4, hv, ho]; rfl
  ·
   refine AOps.cons rfl rfl (q_assign) ?_
   refine AOps.cons rfl rfl (q_assign) ?_
   refine AOps.cons rfl rfl (q_assign) ?_
   refine AOps.nil ?_
   refine AWp.seq ?_
   refine AWp.seq ?_
   refine AWp.region ?_
   refine AOps.cons rfl rfl (q_move) ?_
   refine AOps.cons rfl rfl (q_not) ?_
   refine AOps.cons rfl rfl (q_move) ?_
   refine AOps.gskip rfl rfl rfl rfl rfl rfl rfl rfl ?_
   refine AOps.gskip rfl rfl rfl rfl rfl rfl rfl rfl ?_
   refine AOps.gskip rfl rfl rfl rfl rfl rfl rfl rfl ?_
   refine AOps.cons rfl rfl (q_pick) ?_
   refine AOps.nil ?_
   refine AWp.cond_t rfl ?_
   refine AWp.seq ?_
   refine AWp.region ?_
   refine AOps.cons rfl rfl (q_build []) ?_
   refine AOps.cons rfl rfl (q_store) ?_
   refine AOps.cons rfl rfl (q_assign) ?_
   refine AOps.nil ?_
   refine AWp.ret ?_
   show Fin te Try.f88 _ _
   refine q_ret (0) [_, _] [_, _] ?_
   have ho : soaO b = false := by rw [soaO, h4_5, Bool.false_and, Bool.and_false]
   rw [soaV_no ho, ho]; rfl
 ·
  refine AOps.cons rfl rfl (q_assign) ?_
  refine AOps.cons rfl rfl (q_assign) ?_
  refine AOps.cons rfl rfl (q_assign) ?_
  refine AOps.nil ?_
  refine AWp.seq ?_
  refine AWp.seq ?_
  refine AWp.region ?_
  refine AOps.cons rfl rfl (q_move) ?_
  refine AOps.cons rfl rfl (q_not) ?_
  refine AOps.nil ?_
  refine AWp.cond_t rfl ?_
  refine AWp.seq ?_
  refine AWp.region ?_
  refine AOps.cons rfl rfl (q_build []) ?_
  refine AOps.cons rfl rfl (q_store) ?_
  refine AOps.cons rfl rfl (q_assign) ?_
  refine AOps.nil ?_
  refine AWp.ret ?_
  show Fin te Try.f88 _ _
  refine q_ret (0) [_, _] [_, _] ?_
  have ho : soaO b = false := by rw [soaO, h1_5]; rfl
  rw [soaV_no ho, ho]; rfl
set_option maxRecDepth 20000 in
set_option maxHeartbeats 2000000 in
theorem c_ciceroneref03_texts (b : List UInt8) (lv : Nat) (h : b.length ≤ 140737488351232) : AC Try.prog 89 [.fz lv b.length (cl bc b)] emp (Ret (tf (txtR b))) := by
 refine AC.intro te_ok (fn := Try.f89) ⟨Try.func89, rfl, rfl⟩ (Nat.le_of_ble_eq_true rfl) ?_
 refine AWp.seq ?_
 refine AWp.region ?_
 refine AOps.cons rfl rfl (q_assign) ?_
 refine AOps.nil ?_
 refine AWp.seq ?_
 refine AWp.seq ?_
 refine AWp.region ?_
 refine AOps.cons rfl rfl (q_move) ?_
 refine AOps.cons rfl rfl (q_len) ?_
 refine AOps.dec rfl rfl (q_eql) (fun h1_2 => ?_) (fun h1_2 => ?_)
 ·
  refine AOps.nil ?_
  refine AWp.cond_t rfl ?_
  refine AWp.seq ?_
  refine AWp.region ?_
  refine AOps.cons rfl rfl (q_assign) ?_
  refine AOps.nil ?_
  refine AWp.ret ?_
  show Fin te Try.f89 _ _
  refine q_ret (0) [_] [_] ?_
  rw [txtR, decide_eq_false (by omega)]; rfl
 ·
  refine AOps.nil ?_
  refine AWp.cond_f rfl ?_
  refine AWp.skip ?_
  refine AWp.seq ?_
  refine AWp.block ?_
  refine AWp.loopR (α := List UInt8) [0, 2, 3, 7, 8, 9, 10, 11, 12, 13, 14, 15, 16, 17, 18, 19, 20, 21, 22] (fun c => [(0, .fz lv c.length (cl bc c))]) (fun c => []) (fun c => txtW c = txtW b ∧ c.length ≤ b.length) (fun c => c.length) b ?_ (Back.mk' (HasT.cons HasT.nil) HasH.nil) ?_
  ·
   exact ⟨rfl, Nat.le_refl _⟩
  ·
   rintro c ⟨hc, hl⟩
   refine AWp.seq ?_
   refine AWp.seq ?_
   refine AWp.region ?_
   refine AOps.cons rfl rfl (q_move) ?_
   refine AOps.cons rfl rfl (q_len) ?_
   refine AOps.dec rfl rfl (q_gtr) (fun h3_2 => ?_) (fun h3_2 => ?_)
   ·
    refine AOps.nil ?_
    refine AWp.cond_t rfl ?_
    refine AWp.skip ?_
    refine AWp.block ?_
    refine AWp.seq ?_
    refine AWp.region ?_
    have hk := (c.getD 0 default).toNat_lt
    have he : (c.getD (Int.toNat 0) default).toNat = (c.getD 0 default).toNat := rfl
    have hs : (c[0]?.getD default).toNat = (c.getD 0 default).toNat := congrArg UInt8.toNat (List.getD_eq_getElem?_getD).symm
    refine AOps.cons rfl rfl (q_move) ?_
    refine AOps.cons rfl rfl (q_ix) ?_
    refine AOps.cons rfl rfl (q_load) ?_
    refine AOps.cons rfl rfl (q_conv_8i) ?_
    refine AOps.cons rfl rfl (q_assign) ?_
    refine AOps.nil ?_
    refine AWp.seq ?_
    refine AWp.seq ?_
    refine AWp.region ?_
    refine AOps.cons rfl rfl (q_move) ?_
    refine AOps.cons rfl rfl (q_len) ?_
    refine AOps.cons rfl rfl (q_move) ?_
    refine AOps.cons rfl rfl (q_add) ?_
    refine AOps.dec rfl rfl (q_lss) (fun h5_4 => ?_) (fun h5_4 => ?_)
    ·
     refine AOps.nil ?_
     refine AWp.cond_t rfl ?_
     refine AWp.seq ?_
     refine AWp.region ?_
     refine AOps.cons rfl rfl (q_assign) ?_
     refine AOps.nil ?_
     refine AWp.ret ?_
     show Fin te Try.f89 _ _
     refine q_ret (0) [_] [_] ?_
     rw [txtR, ← hc, txtW_no (by omega) (by omega), Bool.and_false]; rfl
    ·
     refine AOps.nil ?_
     refine AWp.cond_f rfl ?_
     refine AWp.skip ?_
     refine AWp.region ?_
     refine AOps.cons rfl rfl (q_move) ?_
     refine AOps.cons rfl rfl (q_move) ?_
     refine AOps.cons rfl rfl (q_add) ?_
     refine AOps.cons rfl rfl (q_sl) ?_
     refine AOps.cons rfl rfl (q_assign) ?_
     refine AOps.nil ?_
     have e1 : ((1 : Int) + ((c.getD (Int.toNat 0) default).toNat : Int)).toNat = 1 + (c.getD 0 default).toNat := by omega
     refine ⟨_, ?_, Back.mk' (HasT.cons HasT.nil) HasH.nil, ?_⟩
     ·
      rw [e1]; exact ⟨(txtW_step (by omega) (by omega)).symm.trans hc, by rw [List.length_drop]; omega⟩
     ·
      rw [e1, List.length_drop]; omega
   ·
    refine AOps.nil ?_
    refine AWp.cond_f rfl ?_
    refine AWp.exit ?_
    refine AWp.seq ?_
    refine AWp.region ?_
    refine AOps.cons rfl rfl (q_assign) ?_
    refine AOps.nil ?_
    refine AWp.ret ?_
    show Fin te Try.f89 _ _
    refine q_ret (0) [_] [_] ?_
    rw [txtR, ← hc, txtW_end (by omega), Bool.and_true, decide_eq_true (by omega)]; rfl
set_option maxRecDepth 20000 in
set_option maxHeartbeats 2000000 in
theorem c_ciceroneref03_options (b : List UInt8) (lv : Nat) (h : b.length ≤ 140737488351232) : AC Try.prog 90 [.fz lv b.length (cl bc b)] emp (Ret (tf (optR b))) := by
 refine AC.intro te_ok (fn := Try.f90) ⟨Try.func90, rfl, rfl⟩ (Nat.le_of_ble_eq_true rfl) ?_
 refine AWp.seq ?_
 refine AWp.region ?_
 refine AOps.cons rfl rfl (q_assign) ?_
 refine AOps.nil ?_
 refine AWp.seq ?_
 refine AWp.block ?_
 refine AWp.loopR (α := List UInt8) [0, 2, 3, 4, 5, 6, 7, 8, 9, 10, 11, 12, 13, 14, 15, 16, 17, 18, 19, 20, 21, 22, 23, 24, 25, 26, 27, 28] (fun c => [(0, .fz lv c.length (cl bc c))]) (fun c => []) (fun c => optR c = optR b ∧ c.length ≤ b.length) (fun c => c.length) b ?_ (Back.mk' (HasT.cons HasT.nil) HasH.nil) ?_
 ·
  exact ⟨rfl, Nat.le_refl _⟩
 ·
  rintro c ⟨hc, hl⟩
  refine AWp.seq ?_
  refine AWp.seq ?_
  refine AWp.region ?_
  refine AOps.cons rfl rfl (q_move) ?_
  refine AOps.cons rfl rfl (q_len) ?_
  refine AOps.dec rfl rfl (q_gtr) (fun h1_2 => ?_) (fun h1_2 => ?_)
  ·
   refine AOps.nil ?_
   refine AWp.cond_t rfl ?_
   refine AWp.skip ?_
   refine AWp.block ?_
   refine AWp.seq ?_
   refine AWp.seq ?_
   refine AWp.region ?_
   refine AOps.cons rfl rfl (q_move) ?_
   refine AOps.cons rfl rfl (q_len) ?_
   refine AOps.dec rfl rfl (q_lss) (fun h2_2 => ?_) (fun h2_2 => ?_)
   ·
    refine AOps.nil ?_
    refine AWp.cond_t rfl ?_
    refine AWp.seq ?_
    refine AWp.region ?_
    refine AOps.cons rfl rfl (q_assign) ?_
    refine AOps.nil ?_
    refine AWp.ret ?_
    show Fin te Try.f90 _ _
    refine q_ret (0) [_] [_] ?_
    rw [← hc, optR_no (by omega) (by omega)]; rfl
   ·
    refine AOps.nil ?_
    refine AWp.cond_f rfl ?_
    refine AWp.skip ?_
    refine AWp.seq ?_
    have hk2 := (c.getD 2 default).toNat_lt
    have hk3 := (c.getD 3 default).toNat_lt
    have he2 : (c.getD (Int.toNat 2) default).toNat = (c.getD 2 default).toNat := rfl
    have he3 : (c.getD (Int.toNat 3) default).toNat = (c.getD 3 default).toNat := rfl
    have hs2 : (c[2]?.getD default).toNat = (c.getD 2 default).toNat := congrArg UInt8.toNat (List.getD_eq_getElem?_getD).symm
    have hs3 : (c[3]?.getD default).toNat = (c.getD 3 default).toNat := congrArg UInt8.toNat (List.getD_eq_getElem?_getD).symm
    refine AWp.draws [⟨0, [0], [], some 10, _, none⟩,
        ⟨1, [10], [], some 11, _, none⟩,
        ⟨2, [11], [], some 12, _, none⟩,
        ⟨3, [12], [], some 13, _, none⟩,
        ⟨4, [13], [], some 14, _, none⟩,
        ⟨5, [0], [], some 15, _, none⟩,
        ⟨6, [15], [], some 16, _, none⟩,
        ⟨7, [16], [], some 17, _, none⟩,
        ⟨8, [17], [], some 18, _, none⟩,
        ⟨9, [14, 18], [], some 19, _, none⟩,
        ⟨10, [19], [], some 3, _, none⟩]
     [⟨0, [0], [], some 10, .any, none⟩,
         ⟨1, [10], [], some 11, .any, none⟩,
         ⟨2, [11], [], some 12, .any, none⟩,
         ⟨3, [12], [], some 13, .any, none⟩,
         ⟨4, [13], [], some 14, .any, none⟩,
         ⟨5, [0], [], some 15, .any, none⟩,
         ⟨6, [15], [], some 16, .any, none⟩,
         ⟨7, [16], [], some 17, .any, none⟩,
         ⟨8, [17], [], some 18, .any, none⟩,
         ⟨9, [14, 18], [], some 19, .any, none⟩,
         ⟨10, [19], [], some 3, .any, none⟩]
     mixed_ok rfl (by kernel_rfl) ⟨DS.ok_over fun s0 => OpAt.go rfl rfl (q_move),
         DS.ok_over fun s0 => OpAt.go rfl rfl (q_ix),
         DS.ok_over fun s0 => OpAt.go rfl rfl (q_load),
         DS.ok_over fun s0 => OpAt.go rfl rfl (q_conv_8i),
         DS.ok_over fun s0 => OpAt.go rfl rfl (q_mul),
         DS.ok_over fun s0 => OpAt.go rfl rfl (q_move),
         DS.ok_over fun s0 => OpAt.go rfl rfl (q_ix),
         DS.ok_over fun s0 => OpAt.go rfl rfl (q_load),
         DS.ok_over fun s0 => OpAt.go rfl rfl (q_conv_8i),
         DS.ok_over fun s0 => OpAt.go rfl rfl (q_add),
         DS.ok_over fun s0 => OpAt.go rfl rfl (q_assign), trivial⟩ ?_
    dsimp only [final, DS.upd, AS.seto]
    refine AWp.seq ?_
    refine AWp.seq ?_
    refine AWp.region ?_
    refine AOps.cons rfl rfl (q_move) ?_
    refine AOps.cons rfl rfl (q_len) ?_
    refine AOps.cons rfl rfl (q_move) ?_
    refine AOps.cons rfl rfl (q_add) ?_
    refine AOps.dec rfl rfl (q_lss) (fun h5_4 => ?_) (fun h5_4 => ?_)
    ·
     refine AOps.nil ?_
     refine AWp.cond_t rfl ?_
     refine AWp.seq ?_
     refine AWp.region ?_
     refine AOps.cons rfl rfl (q_assign) ?_
     refine AOps.nil ?_
     refine AWp.ret ?_
     show Fin te Try.f90 _ _
     refine q_ret (0) [_] [_] ?_
     rw [← hc, optR_no (by omega) (Or.inr (by unfold optK; omega))]; rfl
    ·
     refine AOps.nil ?_
     refine AWp.cond_f rfl ?_
     refine AWp.skip ?_
     refine AWp.region ?_
     refine AOps.cons rfl rfl (q_move) ?_
     refine AOps.cons rfl rfl (q_move) ?_
     refine AOps.cons rfl rfl (q_add) ?_
     refine AOps.cons rfl rfl (q_sl) ?_
     refine AOps.cons rfl rfl (q_assign) ?_
     refine AOps.nil ?_
     have e1 : (4 + (((c.getD (Int.toNat 2) default).toNat : Int) * 256 + ((c.getD (Int.toNat 3) default).toNat : Int))).toNat = optK c := by unfold optK; omega
     refine ⟨_, ?_, Back.mk' (HasT.cons HasT.nil) HasH.nil, ?_⟩
     ·
      rw [e1]; exact ⟨(optR_step (by omega) (by omega) (by unfold optK; omega)).symm.trans hc, by rw [List.length_drop]; omega⟩
     ·
      rw [e1, List.length_drop]; unfold optK; omega
  ·
   refine AOps.nil ?_
   refine AWp.cond_f rfl ?_
   refine AWp.exit ?_
   refine AWp.seq ?_
   refine AWp.region ?_
   refine AOps.cons rfl rfl (q_assign) ?_
   refine AOps.nil ?_
   refine AWp.ret ?_
   show Fin te Try.f90 _ _
   refine q_ret (0) [_] [_] ?_
   rw [← hc, optR_end (by omega)]; rfl
set_option maxRecDepth 20000 in
set_option maxHeartbeats 2000000 in
theorem c_Can6 (b : List UInt8) (lv : Nat) (h : b.length ≤ 140737488351232) : AC Try.prog 53 [i64 6, .fz lv b.length (cl bc b)] emp (Ret (tf (canS 6 b))) := by
 refine AC.intro te_ok (fn := Try.f53) ⟨Try.func53, rfl, rfl⟩ (Nat.le_of_ble_eq_true rfl) ?_
 refine AWp.seq ?_
 refine AWp.region ?_
 refine AOps.cons rfl rfl (q_assign) ?_
 refine AOps.nil ?_
 refine AWp.seq ?_
 refine AWp.seq ?_
 refine AWp.region ?_
 refine AOps.cons rfl rfl (q_move) ?_
 refine AOps.dec rfl rfl (q_lss) (fun h1_1 => ?_) (fun h1_1 => ?_)
 ·
  exfalso; omega
 ·
  refine AOps.cons rfl rfl (q_move) ?_
  refine AOps.gcons rfl rfl rfl rfl rfl (q_move) ?_
  refine AOps.gdec rfl rfl rfl rfl rfl (q_gtr) (fun h1_4 => ?_) (fun h1_4 => ?_)
  ·
   exfalso; omega
  ·
   refine AOps.cons rfl rfl (q_pick) ?_
   refine AOps.cons rfl rfl (q_move) ?_
   refine AOps.gcons rfl rfl rfl rfl rfl (q_move) ?_
   refine AOps.gcons rfl rfl rfl rfl rfl (q_len) ?_
   refine AOps.gdec rfl rfl rfl rfl rfl (q_gtr) (fun h1_9 => ?_) (fun h1_9 => ?_)
   ·
    refine AOps.cons rfl rfl (q_pick) ?_
    refine AOps.nil ?_
    refine AWp.cond_t rfl ?_
    refine AWp.seq ?_
    refine AWp.region ?_
    refine AOps.cons rfl rfl (q_assign) ?_
    refine AOps.nil ?_
    refine AWp.ret ?_
    show Fin te Try.f53 _ _
    refine q_ret (0) [_] [_] ?_
    rw [canS_6n (by omega)]; rfl
   ·
    refine AOps.cons rfl rfl (q_pick) ?_
    refine AOps.nil ?_
    refine AWp.cond_f rfl ?_
    refine AWp.skip ?_
    refine AWp.seq ?_
    refine AWp.seq ?_
    refine AWp.region ?_
    refine AOps.cons rfl rfl (q_move) ?_
    refine AOps.nil ?_
    refine AWp.block ?_
    refine AWp.seq ?_
    refine AWp.region ?_
    refine AOps.dec rfl rfl (q_eql) (fun h4_0 => ?_) (fun h4_0 => ?_)
    ·
     exfalso; omega
    ·
     refine AOps.cons rfl rfl (q_assign) ?_
     refine AOps.nil ?_
     refine AWp.cond_f rfl ?_
     refine AWp.seq ?_
     refine AWp.region ?_
     refine AOps.dec rfl rfl (q_eql) (fun h6_0 => ?_) (fun h6_0 => ?_)
     ·
      exfalso; omega
     ·
      refine AOps.cons rfl rfl (q_assign) ?_
      refine AOps.nil ?_
      refine AWp.cond_f rfl ?_
      refine AWp.seq ?_
      refine AWp.seq ?_
      refine AWp.region ?_
      refine AOps.dec rfl rfl (q_eql) (fun h8_0 => ?_) (fun h8_0 => ?_)
      ·
       exfalso; omega
      ·
       refine AOps.cons rfl rfl (q_assign) ?_
       refine AOps.nil ?_
       refine AWp.cond_f rfl ?_
       refine AWp.seq ?_
       refine AWp.region ?_
       refine AOps.dec rfl rfl (q_eql) (fun h9_0 => ?_) (fun h9_0 => ?_)
       ·
        exfalso; omega
       ·
        refine AOps.cons rfl rfl (q_assign) ?_
        refine AOps.nil ?_
        refine AWp.cond_f rfl ?_
        refine AWp.region ?_
        refine AOps.dec rfl rfl (q_eql) (fun h10_0 => ?_) (fun h10_0 => ?_)
        ·
         exfalso; omega
        ·
         refine AOps.cons rfl rfl (q_assign) ?_
         refine AOps.nil ?_
         refine AWp.cond_f rfl ?_
         refine AWp.seq ?_
         refine AWp.region ?_
         refine AOps.dec rfl rfl (q_eql) (fun h12_0 => ?_) (fun h12_0 => ?_)
         ·
          exfalso; omega
         ·
          refine AOps.cons rfl rfl (q_assign) ?_
          refine AOps.nil ?_
          refine AWp.cond_f rfl ?_
          refine AWp.seq ?_
          refine AWp.region ?_
          refine AOps.dec rfl rfl (q_eql) (fun h14_0 => ?_) (fun h14_0 => ?_)
          ·
           exfalso; omega
          ·
           refine AOps.cons rfl rfl (q_assign) ?_
           refine AOps.nil ?_
           refine AWp.cond_f rfl ?_
           refine AWp.seq ?_
           refine AWp.region ?_
           refine AOps.dec rfl rfl (q_eql) (fun h16_0 => ?_) (fun h16_0 => ?_)
           ·
            exfalso; omega
           ·
            refine AOps.cons rfl rfl (q_assign) ?_
            refine AOps.nil ?_
            refine AWp.cond_f rfl ?_
            refine AWp.seq ?_
            refine AWp.region ?_
            refine AOps.dec rfl rfl (q_eql) (fun h18_0 => ?_) (fun h18_0 => ?_)
            ·
             refine AOps.cons rfl rfl (q_assign) ?_
             refine AOps.nil ?_
             refine AWp.cond_t rfl ?_
             refine AWp.seq ?_
             refine AWp.region ?_
             refine AOps.cons rfl rfl (q_move) ?_
             refine AOps.cons rfl rfl (q_call (lv) (hc := c_rdata_SOA _ _ (by first | assumption | omega | decide | (simp; omega) | (simp [*]; done)))) ?_
             refine AOps.cons rfl rfl (q_move) ?_
             refine AOps.cons rfl rfl (q_extract) ?_
             refine AOps.cons rfl rfl (q_extract) ?_
             refine AOps.cons rfl rfl (q_alloc 2005) ?_
             refine AOps.cons rfl rfl (q_store) ?_
             refine AOps.cons rfl rfl (q_assign) ?_
             refine AOps.nil ?_
             refine AWp.seq ?_
             refine AWp.region ?_
             refine AOps.cons rfl rfl (q_move) ?_
             refine AOps.cons rfl rfl (q_assign) ?_
             refine AOps.nil ?_
             refine AWp.ret ?_
             show Fin te Try.f53 _ _
             refine q_ret (0) [_] [_] ?_
             rw [canS_6 (by omega)]; rfl
            ·
             exfalso; omega
set_option maxRecDepth 20000 in
set_option maxHeartbeats 2000000 in
theorem c_Names6 (b : List UInt8) (lv : Nat) (h : b.length ≤ 140737488351232) : AC Try.prog 64 [i64 6, .fz lv b.length (cl bc b)] emp (Ret (.fz 0 (namS 6 b).length (cl sc (namS 6 b)))) := by
 refine AC.intro te_ok (fn := Try.f64) ⟨Try.func64, rfl, rfl⟩ (Nat.le_of_ble_eq_true rfl) ?_
 refine AWp.seq ?_
 refine AWp.region ?_
 refine AOps.cons rfl rfl (q_nilz (0) sc) ?_
 refine AOps.nil ?_
 refine AWp.seq ?_
 refine AWp.seq ?_
 refine AWp.region ?_
 refine AOps.cons rfl rfl (q_move) ?_
 refine AOps.cons rfl rfl (q_move) ?_
 refine AOps.bool rfl rfl (q_call (lv) (hc := c_Can6 b lv h)) (fun h1_2 => ?_) (fun h1_2 => ?_)
 ·
  refine AOps.cons rfl rfl (q_not) ?_
  refine AOps.nil ?_
  refine AWp.cond_f rfl ?_
  refine AWp.skip ?_
  refine AWp.seq ?_
  refine AWp.seq ?_
  refine AWp.region ?_
  refine AOps.cons rfl rfl (q_move) ?_
  refine AOps.nil ?_
  refine AWp.block ?_
  refine AWp.seq ?_
  refine AWp.seq ?_
  refine AWp.region ?_
  refine AOps.dec rfl rfl (q_eql) (fun h4_0 => ?_) (fun h4_0 => ?_)
  ·
   exfalso; omega
  ·
   refine AOps.cons rfl rfl (q_assign) ?_
   refine AOps.nil ?_
   refine AWp.cond_f rfl ?_
   refine AWp.seq ?_
   refine AWp.region ?_
   refine AOps.dec rfl rfl (q_eql) (fun h5_0 => ?_) (fun h5_0 => ?_)
   ·
    exfalso; omega
   ·
    refine AOps.cons rfl rfl (q_assign) ?_
    refine AOps.nil ?_
    refine AWp.cond_f rfl ?_
    refine AWp.region ?_
    refine AOps.dec rfl rfl (q_eql) (fun h6_0 => ?_) (fun h6_0 => ?_)
    ·
     exfalso; omega
    ·
     refine AOps.cons rfl rfl (q_assign) ?_
     refine AOps.nil ?_
     refine AWp.cond_f rfl ?_
     refine AWp.seq ?_
     refine AWp.region ?_
     refine AOps.dec rfl rfl (q_eql) (fun h8_0 => ?_) (fun h8_0 => ?_)
     ·
      exfalso; omega
     ·
      refine AOps.cons rfl rfl (q_assign) ?_
      refine AOps.nil ?_
      refine AWp.cond_f rfl ?_
      refine AWp.seq ?_
      refine AWp.region ?_
      refine AOps.dec rfl rfl (q_eql) (fun h10_0 => ?_) (fun h10_0 => ?_)
      ·
       refine AOps.cons rfl rfl (q_assign) ?_
       refine AOps.nil ?_
       refine AWp.cond_t rfl ?_
       refine AWp.seq ?_
       refine AWp.region ?_
       refine AOps.cons rfl rfl (q_move) ?_
       refine AOps.cons rfl rfl (q_call (lv) (hc := c_rdata_SOA _ _ (by first | assumption | omega | decide | (simp; omega) | (simp [*]; done)))) ?_
       refine AOps.cons rfl rfl (q_move) ?_
       refine AOps.cons rfl rfl (q_extract) ?_
       refine AOps.cons rfl rfl (q_extract) ?_
       refine AOps.cons rfl rfl (q_alloc 1205) ?_
       refine AOps.cons rfl rfl (q_store) ?_
       refine AOps.cons rfl rfl (q_assign) ?_
       refine AOps.nil ?_
       refine AWp.seq ?_
       refine AWp.region ?_
       refine AOps.cons rfl rfl (q_fa) ?_
       refine AOps.cons rfl rfl (q_load) ?_
       refine AOps.cons rfl rfl (q_fa) ?_
       refine AOps.cons rfl rfl (q_load) ?_
       refine AOps.cons rfl rfl (q_bs 1304 sc [_, _] [(_, _), (_, _)]) ?_
       refine AOps.cons rfl rfl (q_assign) ?_
       refine AOps.nil ?_
       refine AWp.ret ?_
       show Fin te Try.f64 _ _
       refine q_ret (0) [_] [_] ?_
       rw [namS, if_pos rfl, if_pos h1_2]; rfl
      ·
       exfalso; omega
 ·
  refine AOps.cons rfl rfl (q_not) ?_
  refine AOps.nil ?_
  refine AWp.cond_t rfl ?_
  refine AWp.seq ?_
  refine AWp.region ?_
  refine AOps.cons rfl rfl (q_nilz (0) sc) ?_
  refine AOps.nil ?_
  refine AWp.ret ?_
  show Fin te Try.f64 _ _
  refine q_ret (0) [_] [_] ?_
  rw [namS, if_pos rfl, if_neg (by simp [h1_2])]; rfl
end Go.Proofs.Ytkfccjbihcbmiaa.Fw


set_option linter.unusedVariables false
set_option linter.unusedSimpArgs false
namespace Go.Proofs.Ytkfccjbihcbmiaa.Fw
open Go.RowKit
structure Rr where
  nm : List UInt8
  ty : Int
  cs : Int
  ttl : Int
  da : List UInt8
  deriving Inhabited, DecidableEq
structure Qu where
  nm : List UInt8
  ty : Int
  cs : Int
  deriving Inhabited, DecidableEq
structure Hdr where
  id : Int
  resp : Bool
  op : Int
  aa : Bool
  tc : Bool
  rd : Bool
  ra : Bool
  code : Int
  deriving Inhabited, DecidableEq
structure Msg where
  h : Hdr
  qs : List Qu
  an : List Rr
  au : List Rr
  ad : List Rr
  deriving Inhabited, DecidableEq
def rrc (x : Rr) : List AV := [str x.nm, i64 x.ty, i64 x.cs, i64 x.ttl, .fz 0 x.da.length (cl bc x.da)]
def quc (x : Qu) : List AV := [str x.nm, i64 x.ty, i64 x.cs]
def msgC (m : Msg) : List AV := [i64 m.h.id, tf m.h.resp, i64 m.h.op, tf m.h.aa, tf m.h.tc, tf m.h.rd, tf m.h.ra, i64 m.h.code, .fz 0 m.qs.length (cl quc m.qs), .fz 0 m.an.length (cl rrc m.an), .fz 0 m.au.length (cl rrc m.au), .fz 0 m.ad.length (cl rrc m.ad)]
def RrsOk (l : List Rr) : Prop := l.length * 64 ≤ 140737488351232 ∧ ∀ x ∈ l, x.da.length ≤ 140737488351232
def MsgOk (m : Msg) : Prop := m.qs.length * 32 ≤ 140737488351232 ∧ RrsOk m.an ∧ RrsOk m.au ∧ RrsOk m.ad
theorem rr_eq {a b : Rr} : a = b ↔ a.nm = b.nm ∧ a.ty = b.ty ∧ a.cs = b.cs ∧ a.ttl = b.ttl ∧ a.da = b.da := by cases a; cases b; simp
theorem msg_eq {a b : Msg} : a = b ↔ a.h = b.h ∧ a.qs = b.qs ∧ a.an = b.an ∧ a.au = b.au ∧ a.ad = b.ad := by cases a; cases b; simp
theorem quV (x y : Qu) : eqV ((quc x).map unv) ((quc y).map unv) = decide (x = y) := by
  cases x; cases y
  simp [quc, eqV, eq1, unv]
theorem hdV (x y : Hdr) : eqV [.int .i64 x.id, .bool x.resp, .int .i64 x.op, .bool x.aa, .bool x.tc, .bool x.rd, .bool x.ra, .int .i64 x.code] [.int .i64 y.id, .bool y.resp, .int .i64 y.op, .bool y.aa, .bool y.tc, .bool y.rd, .bool y.ra, .int .i64 y.code] = decide (x = y) := by
  cases x; cases y
  rw [Bool.eq_iff_iff]
  simp [eqV, eq1]
theorem eq_step' {α : Type} [Inhabited α] {a b : List α} {i : Nat} (ha : i < a.length) (hb : i < b.length) (h : a.take i = b.take i) (e : a.getD i default = b.getD i default) : a.take (i + 1) = b.take (i + 1) := by
  rw [List.take_succ_eq_append_getElem ha, List.take_succ_eq_append_getElem hb, h]
  rw [List.getD_eq_getElem?_getD, List.getD_eq_getElem?_getD, List.getElem?_eq_getElem ha, List.getElem?_eq_getElem hb, Option.getD_some, Option.getD_some] at e
  rw [e]
theorem take_step' {α : Type} [Inhabited α] {l : List α} {i : Nat} (hi : i < l.length) : l.take (i + 1) = l.take i ++ [l.getD i default] := by
  have := take_map_step (fun y => y) (l := l) hi
  simpa using this
set_option maxRecDepth 20000 in
set_option maxHeartbeats 2000000 in
theorem c_wire_Same_1 (a b : Rr) : AC Try.prog 46 [.agg (rrc a), .agg (rrc b)] emp (Ret (tf (decide (a = b)))) := by
 refine AC.intro te_ok (fn := Try.f46) ⟨Try.func46, rfl, rfl⟩ (Nat.le_of_ble_eq_true rfl) ?_
 refine AWp.seq ?_
 refine AWp.region ?_
 refine AOps.cons rfl rfl (q_box 100) ?_
 refine AOps.cons rfl rfl (q_box 101) ?_
 refine AOps.cons rfl rfl (q_assign) ?_
 refine AOps.nil ?_
 refine AWp.seq ?_
 refine AWp.region ?_
 refine AOps.cons rfl rfl (q_fa) ?_
 refine AOps.cons rfl rfl (q_load) ?_
 refine AOps.cons rfl rfl (q_fa) ?_
 refine AOps.cons rfl rfl (q_load) ?_
 refine AOps.dec rfl rfl (q_seql) (fun h1_4 => ?_) (fun h1_4 => ?_)
 ·
  refine AOps.cons rfl rfl (q_move) ?_
  refine AOps.gcons rfl rfl rfl rfl rfl (q_fa) ?_
  refine AOps.gcons rfl rfl rfl rfl rfl (q_load) ?_
  refine AOps.gcons rfl rfl rfl rfl rfl (q_fa) ?_
  refine AOps.gcons rfl rfl rfl rfl rfl (q_load) ?_
  refine AOps.gdec rfl rfl rfl rfl rfl (q_eql) (fun h1_10 => ?_) (fun h1_10 => ?_)
  ·
   refine AOps.cons rfl rfl (q_pick) ?_
   refine AOps.cons rfl rfl (q_move) ?_
   refine AOps.gcons rfl rfl rfl rfl rfl (q_fa) ?_
   refine AOps.gcons rfl rfl rfl rfl rfl (q_load) ?_
   refine AOps.gcons rfl rfl rfl rfl rfl (q_fa) ?_
   refine AOps.gcons rfl rfl rfl rfl rfl (q_load) ?_
   refine AOps.gdec rfl rfl rfl rfl rfl (q_eql) (fun h1_17 => ?_) (fun h1_17 => ?_)
   ·
    refine AOps.cons rfl rfl (q_pick) ?_
    refine AOps.cons rfl rfl (q_move) ?_
    refine AOps.gcons rfl rfl rfl rfl rfl (q_fa) ?_
    refine AOps.gcons rfl rfl rfl rfl rfl (q_load) ?_
    refine AOps.gcons rfl rfl rfl rfl rfl (q_fa) ?_
    refine AOps.gcons rfl rfl rfl rfl rfl (q_load) ?_
    refine AOps.gdec rfl rfl rfl rfl rfl (q_eql) (fun h1_24 => ?_) (fun h1_24 => ?_)
    ·
     refine AOps.cons rfl rfl (q_pick) ?_
     refine AOps.cons rfl rfl (q_move) ?_
     refine AOps.gcons rfl rfl rfl rfl rfl (q_fa) ?_
     refine AOps.gcons rfl rfl rfl rfl rfl (q_load) ?_
     refine AOps.gcons rfl rfl rfl rfl rfl (q_fa) ?_
     refine AOps.gcons rfl rfl rfl rfl rfl (q_load) ?_
     refine AOps.gcons rfl rfl rfl rfl rfl (q_call (0) (hc := c_bytes_Equal _ _ _ _)) ?_
     refine AOps.cons rfl rfl (q_pick) ?_
     refine AOps.cons rfl rfl (q_assign) ?_
     refine AOps.nil ?_
     refine AWp.ret ?_
     show Fin te Try.f46 _ _
     refine q_ret (0) [_] [_] ?_
     exact congrArg tf (decide_eq_decide.2 (by rw [rr_eq]; simp [*]))
    ·
     refine AOps.cons rfl rfl (q_pick) ?_
     refine AOps.cons rfl rfl (q_move) ?_
     refine AOps.gskip rfl rfl rfl rfl rfl rfl rfl rfl ?_
     refine AOps.gskip rfl rfl rfl rfl rfl rfl rfl rfl ?_
     refine AOps.gskip rfl rfl rfl rfl rfl rfl rfl rfl ?_
     refine AOps.gskip rfl rfl rfl rfl rfl rfl rfl rfl ?_
     refine AOps.gskip rfl rfl rfl rfl rfl rfl rfl rfl ?_
     refine AOps.cons rfl rfl (q_pick) ?_
     refine AOps.cons rfl rfl (q_assign) ?_
     refine AOps.nil ?_
     refine AWp.ret ?_
     show Fin te Try.f46 _ _
     refine q_ret (0) [_] [_] ?_
     rw [decide_eq_false (fun e => h1_24 (by rw [e]))]; rfl
   ·
    refine AOps.cons rfl rfl (q_pick) ?_
    refine AOps.cons rfl rfl (q_move) ?_
    refine AOps.gskip rfl rfl rfl rfl rfl rfl rfl rfl ?_
    refine AOps.gskip rfl rfl rfl rfl rfl rfl rfl rfl ?_
    refine AOps.gskip rfl rfl rfl rfl rfl rfl rfl rfl ?_
    refine AOps.gskip rfl rfl rfl rfl rfl rfl rfl rfl ?_
    refine AOps.gskip rfl rfl rfl rfl rfl rfl rfl rfl ?_
    refine AOps.cons rfl rfl (q_pick) ?_
    refine AOps.cons rfl rfl (q_move) ?_
    refine AOps.gskip rfl rfl rfl rfl rfl rfl rfl rfl ?_
    refine AOps.gskip rfl rfl rfl rfl rfl rfl rfl rfl ?_
    refine AOps.gskip rfl rfl rfl rfl rfl rfl rfl rfl ?_
    refine AOps.gskip rfl rfl rfl rfl rfl rfl rfl rfl ?_
    refine AOps.gskip rfl rfl rfl rfl rfl rfl rfl rfl ?_
    refine AOps.cons rfl rfl (q_pick) ?_
    refine AOps.cons rfl rfl (q_assign) ?_
    refine AOps.nil ?_
    refine AWp.ret ?_
    show Fin te Try.f46 _ _
    refine q_ret (0) [_] [_] ?_
    rw [decide_eq_false (fun e => h1_17 (by rw [e]))]; rfl
  ·
   refine AOps.cons rfl rfl (q_pick) ?_
   refine AOps.cons rfl rfl (q_move) ?_
   refine AOps.gskip rfl rfl rfl rfl rfl rfl rfl rfl ?_
   refine AOps.gskip rfl rfl rfl rfl rfl rfl rfl rfl ?_
   refine AOps.gskip rfl rfl rfl rfl rfl rfl rfl rfl ?_
   refine AOps.gskip rfl rfl rfl rfl rfl rfl rfl rfl ?_
   refine AOps.gskip rfl rfl rfl rfl rfl rfl rfl rfl ?_
   refine AOps.cons rfl rfl (q_pick) ?_
   refine AOps.cons rfl rfl (q_move) ?_
   refine AOps.gskip rfl rfl rfl rfl rfl rfl rfl rfl ?_
   refine AOps.gskip rfl rfl rfl rfl rfl rfl rfl rfl ?_
   refine AOps.gskip rfl rfl rfl rfl rfl rfl rfl rfl ?_
   refine AOps.gskip rfl rfl rfl rfl rfl rfl rfl rfl ?_
   refine AOps.gskip rfl rfl rfl rfl rfl rfl rfl rfl ?_
   refine AOps.cons rfl rfl (q_pick) ?_
   refine AOps.cons rfl rfl (q_move) ?_
   refine AOps.gskip rfl rfl rfl rfl rfl rfl rfl rfl ?_
   refine AOps.gskip rfl rfl rfl rfl rfl rfl rfl rfl ?_
   refine AOps.gskip rfl rfl rfl rfl rfl rfl rfl rfl ?_
   refine AOps.gskip rfl rfl rfl rfl rfl rfl rfl rfl ?_
   refine AOps.gskip rfl rfl rfl rfl rfl rfl rfl rfl ?_
   refine AOps.cons rfl rfl (q_pick) ?_
   refine AOps.cons rfl rfl (q_assign) ?_
   refine AOps.nil ?_
   refine AWp.ret ?_
   show Fin te Try.f46 _ _
   refine q_ret (0) [_] [_] ?_
   rw [decide_eq_false (fun e => h1_10 (by rw [e]))]; rfl
 ·
  refine AOps.cons rfl rfl (q_move) ?_
  refine AOps.gskip rfl rfl rfl rfl rfl rfl rfl rfl ?_
  refine AOps.gskip rfl rfl rfl rfl rfl rfl rfl rfl ?_
  refine AOps.gskip rfl rfl rfl rfl rfl rfl rfl rfl ?_
  refine AOps.gskip rfl rfl rfl rfl rfl rfl rfl rfl ?_
  refine AOps.gskip rfl rfl rfl rfl rfl rfl rfl rfl ?_
  refine AOps.cons rfl rfl (q_pick) ?_
  refine AOps.cons rfl rfl (q_move) ?_
  refine AOps.gskip rfl rfl rfl rfl rfl rfl rfl rfl ?_
  refine AOps.gskip rfl rfl rfl rfl rfl rfl rfl rfl ?_
  refine AOps.gskip rfl rfl rfl rfl rfl rfl rfl rfl ?_
  refine AOps.gskip rfl rfl rfl rfl rfl rfl rfl rfl ?_
  refine AOps.gskip rfl rfl rfl rfl rfl rfl rfl rfl ?_
  refine AOps.cons rfl rfl (q_pick) ?_
  refine AOps.cons rfl rfl (q_move) ?_
  refine AOps.gskip rfl rfl rfl rfl rfl rfl rfl rfl ?_
  refine AOps.gskip rfl rfl rfl rfl rfl rfl rfl rfl ?_
  refine AOps.gskip rfl rfl rfl rfl rfl rfl rfl rfl ?_
  refine AOps.gskip rfl rfl rfl rfl rfl rfl rfl rfl ?_
  refine AOps.gskip rfl rfl rfl rfl rfl rfl rfl rfl ?_
  refine AOps.cons rfl rfl (q_pick) ?_
  refine AOps.cons rfl rfl (q_move) ?_
  refine AOps.gskip rfl rfl rfl rfl rfl rfl rfl rfl ?_
  refine AOps.gskip rfl rfl rfl rfl rfl rfl rfl rfl ?_
  refine AOps.gskip rfl rfl rfl rfl rfl rfl rfl rfl ?_
  refine AOps.gskip rfl rfl rfl rfl rfl rfl rfl rfl ?_
  refine AOps.gskip rfl rfl rfl rfl rfl rfl rfl rfl ?_
  refine AOps.cons rfl rfl (q_pick) ?_
  refine AOps.cons rfl rfl (q_assign) ?_
  refine AOps.nil ?_
  refine AWp.ret ?_
  show Fin te Try.f46 _ _
  refine q_ret (0) [_] [_] ?_
  rw [decide_eq_false (fun e => h1_4 (by rw [e]))]; rfl
set_option maxRecDepth 20000 in
set_option maxHeartbeats 2000000 in
theorem c_Equal_qu (a b : List Qu) (lv lw : Nat) (ha : a.length ≤ 140737488351232) : AC Try.prog 43 [.fz lv a.length (cl quc a), .fz lw b.length (cl quc b)] emp (Ret (tf (decide (a = b)))) := by
 refine AC.intro te_ok (fn := Try.f43) ⟨Try.func43, rfl, rfl⟩ (Nat.le_of_ble_eq_true rfl) ?_
 refine AWp.seq ?_
 refine AWp.region ?_
 refine AOps.cons rfl rfl (q_assign) ?_
 refine AOps.nil ?_
 refine AWp.seq ?_
 refine AWp.seq ?_
 refine AWp.region ?_
 refine AOps.cons rfl rfl (q_move) ?_
 refine AOps.cons rfl rfl (q_len) ?_
 refine AOps.cons rfl rfl (q_move) ?_
 refine AOps.cons rfl rfl (q_len) ?_
 refine AOps.dec rfl rfl (q_neq) (fun h1_4 => ?_) (fun h1_4 => ?_)
 ·
  refine AOps.nil ?_
  refine AWp.cond_t rfl ?_
  refine AWp.seq ?_
  refine AWp.region ?_
  refine AOps.cons rfl rfl (q_assign) ?_
  refine AOps.nil ?_
  refine AWp.ret ?_
  show Fin te Try.f43 _ _
  refine q_ret (0) [_] [_] ?_
  rw [decide_eq_false (fun e => h1_4 (by rw [e]))]; rfl
 ·
  refine AOps.nil ?_
  refine AWp.cond_f rfl ?_
  refine AWp.skip ?_
  refine AWp.seq ?_
  refine AWp.seq ?_
  refine AWp.region ?_
  refine AOps.cons rfl rfl (q_move) ?_
  refine AOps.cons rfl rfl (q_len) ?_
  refine AOps.cons rfl rfl (q_move) ?_
  refine AOps.nil ?_
  refine AWp.block ?_
  refine AWp.loopR (α := Nat) [4, 5, 13, 14, 15, 16, 17, 18, 19, 20, 21, 22, 23, 24, 25] (fun i => [(13, i64 i)]) (fun i => []) (fun i => i ≤ a.length ∧ a.take i = b.take i) (fun i => a.length - i) 0 ?_ (Back.mk' (HasT.cons HasT.nil) HasH.nil) ?_
  ·
   exact ⟨Nat.zero_le _, rfl⟩
  ·
   rintro i ⟨hi, hI⟩
   have hlen : a.length = b.length := by omega
   refine AWp.seq ?_
   refine AWp.region ?_
   refine AOps.dec rfl rfl (q_lss) (fun h4_0 => ?_) (fun h4_0 => ?_)
   ·
    refine AOps.nil ?_
    refine AWp.seq ?_
    refine AWp.cond_t rfl ?_
    refine AWp.skip ?_
    refine AWp.seq ?_
    refine AWp.block ?_
    refine AWp.seq ?_
    refine AWp.region ?_
    refine AOps.cons rfl rfl (q_move) ?_
    refine AOps.cons rfl rfl (q_assign) ?_
    refine AOps.nil ?_
    refine AWp.seq ?_
    by_cases he : a.getD i default = b.getD i default
    ·
     refine AWp.draws [⟨0, [0], [], some 16, _, none⟩,
         ⟨1, [5], [], some 17, _, none⟩,
         ⟨2, [16, 17], [], some 18, _, none⟩,
         ⟨3, [18], [], some 19, _, none⟩,
         ⟨4, [1], [], some 20, _, none⟩,
         ⟨5, [5], [], some 21, _, none⟩,
         ⟨6, [20, 21], [], some 22, _, none⟩,
         ⟨7, [22], [], some 23, _, none⟩,
         ⟨8, [19, 23], [], some 24, _, none⟩]
      [⟨0, [0], [], some 16, .any, none⟩,
          ⟨1, [5], [], some 17, .any, none⟩,
          ⟨2, [16, 17], [], some 18, .any, none⟩,
          ⟨3, [18], [], some 19, .any, none⟩,
          ⟨4, [1], [], some 20, .any, none⟩,
          ⟨5, [5], [], some 21, .any, none⟩,
          ⟨6, [20, 21], [], some 22, .any, none⟩,
          ⟨7, [22], [], some 23, .any, none⟩,
          ⟨8, [19, 23], [], some 24, .any, none⟩]
      mixed_ok rfl (by kernel_rfl) ⟨DS.ok_over fun s0 => OpAt.go rfl rfl (q_move),
          DS.ok_over fun s0 => OpAt.go rfl rfl (q_move),
          DS.ok_over fun s0 => OpAt.go rfl rfl (q_ix),
          DS.ok_over fun s0 => OpAt.go rfl rfl (q_load),
          DS.ok_over fun s0 => OpAt.go rfl rfl (q_move),
          DS.ok_over fun s0 => OpAt.go rfl rfl (q_move),
          DS.ok_over fun s0 => OpAt.go rfl rfl (q_ix),
          DS.ok_over fun s0 => OpAt.go rfl rfl (q_load),
          DS.ok_over fun s0 => OpAt.go rfl rfl ((OpOk.bool_is (c := false) (q_eqp) ((congrArg (! ·) ((quV (a.getD i default) (b.getD i default)).trans (decide_eq_true he)))))), trivial⟩ ?_
     dsimp only [final, DS.upd, AS.seto]
     refine AWp.cond_f rfl ?_
     refine AWp.skip ?_
     refine AWp.region ?_
     refine AOps.cons rfl rfl (q_add) ?_
     refine AOps.cons rfl rfl (q_move) ?_
     refine AOps.nil ?_
     refine ⟨i + 1, ?_, Back.mk' (HasT.cons HasT.nil) HasH.nil, ?_⟩
     ·
      exact ⟨by omega, eq_step' (by omega) (by omega) hI he⟩
     ·
      first | omega | (simp; omega)
    ·
     refine AWp.draws [⟨0, [0], [], some 16, _, none⟩,
         ⟨1, [5], [], some 17, _, none⟩,
         ⟨2, [16, 17], [], some 18, _, none⟩,
         ⟨3, [18], [], some 19, _, none⟩,
         ⟨4, [1], [], some 20, _, none⟩,
         ⟨5, [5], [], some 21, _, none⟩,
         ⟨6, [20, 21], [], some 22, _, none⟩,
         ⟨7, [22], [], some 23, _, none⟩,
         ⟨8, [19, 23], [], some 24, _, none⟩]
      [⟨0, [0], [], some 16, .any, none⟩,
          ⟨1, [5], [], some 17, .any, none⟩,
          ⟨2, [16, 17], [], some 18, .any, none⟩,
          ⟨3, [18], [], some 19, .any, none⟩,
          ⟨4, [1], [], some 20, .any, none⟩,
          ⟨5, [5], [], some 21, .any, none⟩,
          ⟨6, [20, 21], [], some 22, .any, none⟩,
          ⟨7, [22], [], some 23, .any, none⟩,
          ⟨8, [19, 23], [], some 24, .any, none⟩]
      mixed_ok rfl (by kernel_rfl) ⟨DS.ok_over fun s0 => OpAt.go rfl rfl (q_move),
          DS.ok_over fun s0 => OpAt.go rfl rfl (q_move),
          DS.ok_over fun s0 => OpAt.go rfl rfl (q_ix),
          DS.ok_over fun s0 => OpAt.go rfl rfl (q_load),
          DS.ok_over fun s0 => OpAt.go rfl rfl (q_move),
          DS.ok_over fun s0 => OpAt.go rfl rfl (q_move),
          DS.ok_over fun s0 => OpAt.go rfl rfl (q_ix),
          DS.ok_over fun s0 => OpAt.go rfl rfl (q_load),
          DS.ok_over fun s0 => OpAt.go rfl rfl ((OpOk.bool_is (c := true) (q_eqp) ((congrArg (! ·) ((quV (a.getD i default) (b.getD i default)).trans (decide_eq_false he)))))), trivial⟩ ?_
     dsimp only [final, DS.upd, AS.seto]
     refine AWp.cond_t rfl ?_
     refine AWp.seq ?_
     refine AWp.region ?_
     refine AOps.cons rfl rfl (q_assign) ?_
     refine AOps.nil ?_
     refine AWp.ret ?_
     show Fin te Try.f43 _ _
     refine q_ret (0) [_] [_] ?_
     rw [decide_eq_false (fun e => he (by rw [e]))]; rfl
   ·
    refine AOps.nil ?_
    refine AWp.seq ?_
    refine AWp.cond_f rfl ?_
    refine AWp.exit ?_
    refine AWp.seq ?_
    refine AWp.region ?_
    refine AOps.cons rfl rfl (q_assign) ?_
    refine AOps.nil ?_
    refine AWp.ret ?_
    show Fin te Try.f43 _ _
    refine q_ret (0) [_] [_] ?_
    have e : a = b := by rw [List.take_of_length_le (by omega), List.take_of_length_le (by omega)] at hI; exact hI
    rw [decide_eq_true e]; rfl
set_option maxRecDepth 20000 in
set_option maxHeartbeats 2000000 in
theorem c_EqualFunc_rr (l m : List Rr) (lv lw : Nat) {fid : Nat} (hl : l.length ≤ 140737488351232) (hg : ∀ x y : Rr, AC Try.prog fid [.agg (rrc x), .agg (rrc y)] emp (Ret (tf (decide (x = y))))) : AC Try.prog 47 [.fz lv l.length (cl rrc l), .fz lw m.length (cl rrc m), .fn (.func fid) [] []] emp (Ret (tf (decide (l = m)))) := by
 refine AC.intro te_ok (fn := Try.f47) ⟨Try.func47, rfl, rfl⟩ (Nat.le_of_ble_eq_true rfl) ?_
 refine AWp.seq ?_
 refine AWp.region ?_
 refine AOps.cons rfl rfl (q_assign) ?_
 refine AOps.nil ?_
 refine AWp.seq ?_
 refine AWp.seq ?_
 refine AWp.region ?_
 refine AOps.cons rfl rfl (q_move) ?_
 refine AOps.cons rfl rfl (q_len) ?_
 refine AOps.cons rfl rfl (q_move) ?_
 refine AOps.cons rfl rfl (q_len) ?_
 refine AOps.dec rfl rfl (q_neq) (fun h1_4 => ?_) (fun h1_4 => ?_)
 ·
  refine AOps.nil ?_
  refine AWp.cond_t rfl ?_
  refine AWp.seq ?_
  refine AWp.region ?_
  refine AOps.cons rfl rfl (q_assign) ?_
  refine AOps.nil ?_
  refine AWp.ret ?_
  show Fin te Try.f47 _ _
  refine q_ret (0) [_] [_] ?_
  rw [decide_eq_false (fun e => h1_4 (by rw [e]))]; rfl
 ·
  refine AOps.nil ?_
  refine AWp.cond_f rfl ?_
  refine AWp.skip ?_
  refine AWp.seq ?_
  refine AWp.seq ?_
  refine AWp.region ?_
  refine AOps.cons rfl rfl (q_move) ?_
  refine AOps.cons rfl rfl (q_len) ?_
  refine AOps.cons rfl rfl (q_move) ?_
  refine AOps.nil ?_
  refine AWp.block ?_
  refine AWp.loopR (α := Nat) [6, 7, 8, 9, 17, 18, 19, 20, 21, 22, 23, 24, 25, 26, 27, 28, 29, 30, 31] (fun i => [(17, i64 i)]) (fun i => []) (fun i => i ≤ l.length ∧ l.take i = m.take i) (fun i => l.length - i) 0 ?_ (Back.mk' (HasT.cons HasT.nil) HasH.nil) ?_
  ·
   exact ⟨Nat.zero_le _, rfl⟩
  ·
   rintro i ⟨hi, hI⟩
   have hlen : l.length = m.length := by omega
   refine AWp.seq ?_
   refine AWp.region ?_
   refine AOps.dec rfl rfl (q_lss) (fun h4_0 => ?_) (fun h4_0 => ?_)
   ·
    refine AOps.nil ?_
    refine AWp.seq ?_
    refine AWp.cond_t rfl ?_
    refine AWp.skip ?_
    refine AWp.seq ?_
    refine AWp.block ?_
    refine AWp.seq ?_
    refine AWp.region ?_
    refine AOps.cons rfl rfl (q_move) ?_
    refine AOps.cons rfl rfl (q_ix) ?_
    refine AOps.cons rfl rfl (q_load) ?_
    refine AOps.cons rfl rfl (q_alloc 603) ?_
    refine AOps.cons rfl rfl (q_assign) ?_
    refine AOps.cons rfl rfl (q_store) ?_
    refine AOps.nil ?_
    refine AWp.seq ?_
    refine AWp.region ?_
    refine AOps.cons rfl rfl (q_move) ?_
    refine AOps.cons rfl rfl (q_move) ?_
    refine AOps.cons rfl rfl (q_ix) ?_
    refine AOps.cons rfl rfl (q_load) ?_
    refine AOps.cons rfl rfl (q_alloc 704) ?_
    refine AOps.cons rfl rfl (q_store) ?_
    refine AOps.nil ?_
    refine AWp.seq ?_
    refine AWp.region ?_
    refine AOps.cons rfl rfl (q_move) ?_
    refine AOps.cons rfl rfl (q_load) ?_
    refine AOps.cons rfl rfl (q_load) ?_
    refine AOps.bool rfl rfl (q_call (0) (hc := (hg (l.getD i default) (m.getD i default)))) (fun h7_3 => ?_) (fun h7_3 => ?_)
    ·
     refine AOps.cons rfl rfl (q_not) ?_
     refine AOps.nil ?_
     refine AWp.cond_f rfl ?_
     refine AWp.skip ?_
     refine AWp.region ?_
     refine AOps.cons rfl rfl (q_add) ?_
     refine AOps.cons rfl rfl (q_move) ?_
     refine AOps.nil ?_
     refine ⟨i + 1, ?_, Back.mk' (HasT.cons HasT.nil) HasH.nil, ?_⟩
     ·
      exact ⟨by omega, eq_step' (by omega) (by omega) hI (of_decide_eq_true h7_3)⟩
     ·
      first | omega | (simp; omega)
    ·
     refine AOps.cons rfl rfl (q_not) ?_
     refine AOps.nil ?_
     refine AWp.cond_t rfl ?_
     refine AWp.seq ?_
     refine AWp.region ?_
     refine AOps.cons rfl rfl (q_assign) ?_
     refine AOps.nil ?_
     refine AWp.ret ?_
     show Fin te Try.f47 _ _
     refine q_ret (0) [_] [_] ?_
     rw [decide_eq_false (fun e => by rw [e] at h7_3; simp at h7_3)]; rfl
   ·
    refine AOps.nil ?_
    refine AWp.seq ?_
    refine AWp.cond_f rfl ?_
    refine AWp.exit ?_
    refine AWp.seq ?_
    refine AWp.region ?_
    refine AOps.cons rfl rfl (q_assign) ?_
    refine AOps.nil ?_
    refine AWp.ret ?_
    show Fin te Try.f47 _ _
    refine q_ret (0) [_] [_] ?_
    have e : l = m := by rw [List.take_of_length_le (by omega), List.take_of_length_le (by omega)] at hI; exact hI
    rw [decide_eq_true e]; rfl
end Go.Proofs.Ytkfccjbihcbmiaa.Fw


set_option linter.unusedVariables false
set_option linter.unusedSimpArgs false
namespace Go.Proofs.Ytkfccjbihcbmiaa.Fw
open Go.RowKit
set_option maxRecDepth 20000 in
set_option maxHeartbeats 2000000 in
theorem c_wire_Same (a b : Msg) (ha : MsgOk a) (hb : MsgOk b) : AC Try.prog 21 [.agg (msgC a), .agg (msgC b)] emp (Ret (tf (decide (a = b)))) := by
 obtain ⟨a1, ⟨a2, _⟩, ⟨a3, _⟩, ⟨a4, _⟩⟩ := id ha
 obtain ⟨b1, ⟨b2, _⟩, ⟨b3, _⟩, ⟨b4, _⟩⟩ := id hb
 refine AC.intro te_ok (fn := Try.f21) ⟨Try.func21, rfl, rfl⟩ (Nat.le_of_ble_eq_true rfl) ?_
 refine AWp.seq ?_
 refine AWp.region ?_
 refine AOps.cons rfl rfl (q_box 100) ?_
 refine AOps.cons rfl rfl (q_box 101) ?_
 refine AOps.cons rfl rfl (q_assign) ?_
 refine AOps.nil ?_
 refine AWp.seq ?_
 refine AWp.region ?_
 refine AOps.cons rfl rfl (q_assign) ?_
 refine AOps.nil ?_
 refine AWp.seq ?_
 refine AWp.region ?_
 refine AOps.cons rfl rfl (q_fa) ?_
 refine AOps.cons rfl rfl (q_load) ?_
 refine AOps.cons rfl rfl (q_fa) ?_
 refine AOps.cons rfl rfl (q_load) ?_
 refine AOps.bool rfl rfl (q_eqp) (fun h2_4 => ?_) (fun h2_4 => ?_)
 ·
  refine AOps.cons rfl rfl (q_move) ?_
  refine AOps.gcons rfl rfl rfl rfl rfl (q_fa) ?_
  refine AOps.gcons rfl rfl rfl rfl rfl (q_load) ?_
  refine AOps.gcons rfl rfl rfl rfl rfl (q_fa) ?_
  refine AOps.gcons rfl rfl rfl rfl rfl (q_load) ?_
  refine AOps.gbool rfl rfl rfl rfl rfl (q_call (0) (hc := (c_Equal_qu a.qs b.qs 0 0 (by omega)))) (fun h2_10 => ?_) (fun h2_10 => ?_)
  ·
   refine AOps.cons rfl rfl (q_pick) ?_
   refine AOps.cons rfl rfl (q_move) ?_
   refine AOps.gcons rfl rfl rfl rfl rfl (q_fa) ?_
   refine AOps.gcons rfl rfl rfl rfl rfl (q_load) ?_
   refine AOps.gcons rfl rfl rfl rfl rfl (q_fa) ?_
   refine AOps.gcons rfl rfl rfl rfl rfl (q_load) ?_
   refine AOps.gcons rfl rfl rfl rfl rfl (q_move) ?_
   refine AOps.gbool rfl rfl rfl rfl rfl (q_call (0) (hc := (c_EqualFunc_rr a.an b.an 0 0 (by omega) c_wire_Same_1))) (fun h2_18 => ?_) (fun h2_18 => ?_)
   ·
    refine AOps.cons rfl rfl (q_pick) ?_
    refine AOps.cons rfl rfl (q_move) ?_
    refine AOps.gcons rfl rfl rfl rfl rfl (q_fa) ?_
    refine AOps.gcons rfl rfl rfl rfl rfl (q_load) ?_
    refine AOps.gcons rfl rfl rfl rfl rfl (q_fa) ?_
    refine AOps.gcons rfl rfl rfl rfl rfl (q_load) ?_
    refine AOps.gcons rfl rfl rfl rfl rfl (q_move) ?_
    refine AOps.gbool rfl rfl rfl rfl rfl (q_call (0) (hc := (c_EqualFunc_rr a.au b.au 0 0 (by omega) c_wire_Same_1))) (fun h2_26 => ?_) (fun h2_26 => ?_)
    ·
     refine AOps.cons rfl rfl (q_pick) ?_
     refine AOps.cons rfl rfl (q_move) ?_
     refine AOps.gcons rfl rfl rfl rfl rfl (q_fa) ?_
     refine AOps.gcons rfl rfl rfl rfl rfl (q_load) ?_
     refine AOps.gcons rfl rfl rfl rfl rfl (q_fa) ?_
     refine AOps.gcons rfl rfl rfl rfl rfl (q_load) ?_
     refine AOps.gcons rfl rfl rfl rfl rfl (q_move) ?_
     refine AOps.gcons rfl rfl rfl rfl rfl (q_call (0) (hc := (c_EqualFunc_rr a.ad b.ad 0 0 (by omega) c_wire_Same_1))) ?_
     refine AOps.cons rfl rfl (q_pick) ?_
     refine AOps.cons rfl rfl (q_assign) ?_
     refine AOps.nil ?_
     refine AWp.ret ?_
     show Fin te Try.f21 _ _
     refine q_ret (0) [_] [_] ?_
     have e : a.h = b.h := of_decide_eq_true ((hdV a.h b.h).symm.trans h2_4)
     have e1 := of_decide_eq_true h2_10
     have e2 := of_decide_eq_true h2_18
     have e3 := of_decide_eq_true h2_26
     exact congrArg tf (decide_eq_decide.2 (by rw [msg_eq]; exact ⟨fun q => ⟨e, e1, e2, e3, q⟩, fun q => q.2.2.2.2⟩))
    ·
     refine AOps.cons rfl rfl (q_pick) ?_
     refine AOps.cons rfl rfl (q_move) ?_
     refine AOps.gskip rfl rfl rfl rfl rfl rfl rfl rfl ?_
     refine AOps.gskip rfl rfl rfl rfl rfl rfl rfl rfl ?_
     refine AOps.gskip rfl rfl rfl rfl rfl rfl rfl rfl ?_
     refine AOps.gskip rfl rfl rfl rfl rfl rfl rfl rfl ?_
     refine AOps.gskip rfl rfl rfl rfl rfl rfl rfl rfl ?_
     refine AOps.gskip rfl rfl rfl rfl rfl rfl rfl rfl ?_
     refine AOps.cons rfl rfl (q_pick) ?_
     refine AOps.cons rfl rfl (q_assign) ?_
     refine AOps.nil ?_
     refine AWp.ret ?_
     show Fin te Try.f21 _ _
     refine q_ret (0) [_] [_] ?_
     rw [decide_eq_false (fun q => (of_decide_eq_false h2_26) (by rw [q]))]; rfl
   ·
    refine AOps.cons rfl rfl (q_pick) ?_
    refine AOps.cons rfl rfl (q_move) ?_
    refine AOps.gskip rfl rfl rfl rfl rfl rfl rfl rfl ?_
    refine AOps.gskip rfl rfl rfl rfl rfl rfl rfl rfl ?_
    refine AOps.gskip rfl rfl rfl rfl rfl rfl rfl rfl ?_
    refine AOps.gskip rfl rfl rfl rfl rfl rfl rfl rfl ?_
    refine AOps.gskip rfl rfl rfl rfl rfl rfl rfl rfl ?_
    refine AOps.gskip rfl rfl rfl rfl rfl rfl rfl rfl ?_
    refine AOps.cons rfl rfl (q_pick) ?_
    refine AOps.cons rfl rfl (q_move) ?_
    refine AOps.gskip rfl rfl rfl rfl rfl rfl rfl rfl ?_
    refine AOps.gskip rfl rfl rfl rfl rfl rfl rfl rfl ?_
    refine AOps.gskip rfl rfl rfl rfl rfl rfl rfl rfl ?_
    refine AOps.gskip rfl rfl rfl rfl rfl rfl rfl rfl ?_
    refine AOps.gskip rfl rfl rfl rfl rfl rfl rfl rfl ?_
    refine AOps.gskip rfl rfl rfl rfl rfl rfl rfl rfl ?_
    refine AOps.cons rfl rfl (q_pick) ?_
    refine AOps.cons rfl rfl (q_assign) ?_
    refine AOps.nil ?_
    refine AWp.ret ?_
    show Fin te Try.f21 _ _
    refine q_ret (0) [_] [_] ?_
    rw [decide_eq_false (fun q => (of_decide_eq_false h2_18) (by rw [q]))]; rfl
  ·
   refine AOps.cons rfl rfl (q_pick) ?_
   refine AOps.cons rfl rfl (q_move) ?_
   refine AOps.gskip rfl rfl rfl rfl rfl rfl rfl rfl ?_
   refine AOps.gskip rfl rfl rfl rfl rfl rfl rfl rfl ?_
   refine AOps.gskip rfl rfl rfl rfl rfl rfl rfl rfl ?_
   refine AOps.gskip rfl rfl rfl rfl rfl rfl rfl rfl ?_
   refine AOps.gskip rfl rfl rfl rfl rfl rfl rfl rfl ?_
   refine AOps.gskip rfl rfl rfl rfl rfl rfl rfl rfl ?_
   refine AOps.cons rfl rfl (q_pick) ?_
   refine AOps.cons rfl rfl (q_move) ?_
   refine AOps.gskip rfl rfl rfl rfl rfl rfl rfl rfl ?_
   refine AOps.gskip rfl rfl rfl rfl rfl rfl rfl rfl ?_
   refine AOps.gskip rfl rfl rfl rfl rfl rfl rfl rfl ?_
   refine AOps.gskip rfl rfl rfl rfl rfl rfl rfl rfl ?_
   refine AOps.gskip rfl rfl rfl rfl rfl rfl rfl rfl ?_
   refine AOps.gskip rfl rfl rfl rfl rfl rfl rfl rfl ?_
   refine AOps.cons rfl rfl (q_pick) ?_
   refine AOps.cons rfl rfl (q_move) ?_
   refine AOps.gskip rfl rfl rfl rfl rfl rfl rfl rfl ?_
   refine AOps.gskip rfl rfl rfl rfl rfl rfl rfl rfl ?_
   refine AOps.gskip rfl rfl rfl rfl rfl rfl rfl rfl ?_
   refine AOps.gskip rfl rfl rfl rfl rfl rfl rfl rfl ?_
   refine AOps.gskip rfl rfl rfl rfl rfl rfl rfl rfl ?_
   refine AOps.gskip rfl rfl rfl rfl rfl rfl rfl rfl ?_
   refine AOps.cons rfl rfl (q_pick) ?_
   refine AOps.cons rfl rfl (q_assign) ?_
   refine AOps.nil ?_
   refine AWp.ret ?_
   show Fin te Try.f21 _ _
   refine q_ret (0) [_] [_] ?_
   rw [decide_eq_false (fun q => (of_decide_eq_false h2_10) (by rw [q]))]; rfl
 ·
  refine AOps.cons rfl rfl (q_move) ?_
  refine AOps.gskip rfl rfl rfl rfl rfl rfl rfl rfl ?_
  refine AOps.gskip rfl rfl rfl rfl rfl rfl rfl rfl ?_
  refine AOps.gskip rfl rfl rfl rfl rfl rfl rfl rfl ?_
  refine AOps.gskip rfl rfl rfl rfl rfl rfl rfl rfl ?_
  refine AOps.gskip rfl rfl rfl rfl rfl rfl rfl rfl ?_
  refine AOps.cons rfl rfl (q_pick) ?_
  refine AOps.cons rfl rfl (q_move) ?_
  refine AOps.gskip rfl rfl rfl rfl rfl rfl rfl rfl ?_
  refine AOps.gskip rfl rfl rfl rfl rfl rfl rfl rfl ?_
  refine AOps.gskip rfl rfl rfl rfl rfl rfl rfl rfl ?_
  refine AOps.gskip rfl rfl rfl rfl rfl rfl rfl rfl ?_
  refine AOps.gskip rfl rfl rfl rfl rfl rfl rfl rfl ?_
  refine AOps.gskip rfl rfl rfl rfl rfl rfl rfl rfl ?_
  refine AOps.cons rfl rfl (q_pick) ?_
  refine AOps.cons rfl rfl (q_move) ?_
  refine AOps.gskip rfl rfl rfl rfl rfl rfl rfl rfl ?_
  refine AOps.gskip rfl rfl rfl rfl rfl rfl rfl rfl ?_
  refine AOps.gskip rfl rfl rfl rfl rfl rfl rfl rfl ?_
  refine AOps.gskip rfl rfl rfl rfl rfl rfl rfl rfl ?_
  refine AOps.gskip rfl rfl rfl rfl rfl rfl rfl rfl ?_
  refine AOps.gskip rfl rfl rfl rfl rfl rfl rfl rfl ?_
  refine AOps.cons rfl rfl (q_pick) ?_
  refine AOps.cons rfl rfl (q_move) ?_
  refine AOps.gskip rfl rfl rfl rfl rfl rfl rfl rfl ?_
  refine AOps.gskip rfl rfl rfl rfl rfl rfl rfl rfl ?_
  refine AOps.gskip rfl rfl rfl rfl rfl rfl rfl rfl ?_
  refine AOps.gskip rfl rfl rfl rfl rfl rfl rfl rfl ?_
  refine AOps.gskip rfl rfl rfl rfl rfl rfl rfl rfl ?_
  refine AOps.gskip rfl rfl rfl rfl rfl rfl rfl rfl ?_
  refine AOps.cons rfl rfl (q_pick) ?_
  refine AOps.cons rfl rfl (q_assign) ?_
  refine AOps.nil ?_
  refine AWp.ret ?_
  show Fin te Try.f21 _ _
  refine q_ret (0) [_] [_] ?_
  have e : decide (a.h = b.h) = false := (hdV a.h b.h).symm.trans h2_4
  rw [decide_eq_false (fun q => (of_decide_eq_false e) (by rw [q]))]; rfl
end Go.Proofs.Ytkfccjbihcbmiaa.Fw


set_option linter.unusedVariables false
set_option linter.unusedSimpArgs false
namespace Go.Proofs.Ytkfccjbihcbmiaa.Fw
open Go.RowKit
theorem cut_back {b : List UInt8} (h : cutO b = true) : b = cutM b ++ cutR b ∧ canN (cutM b) = true := by
  rw [cutM, cutR, if_pos h, if_pos h, List.take_append_drop]
  simp only [cutO, Bool.and_eq_true] at h
  exact ⟨rfl, h.2⟩
theorem namR_le (t : Int) (d : List UInt8) : (namR t d).length ≤ 1 := by
  unfold namR
  split
  · split
    · simp
    · split <;> simp
  · simp
theorem namS_le (t : Int) (d : List UInt8) : (namS t d).length ≤ 2 := by
  have := namR_le t d
  unfold namS
  split
  · split <;> simp
  · omega
set_option maxRecDepth 20000 in
set_option maxHeartbeats 2000000 in
theorem c_ciceroneref03_Can (t : Int) (b : List UInt8) (lv : Nat) (h : b.length ≤ 140737488351232) : AC Try.prog 59 [i64 t, .fz lv b.length (cl bc b)] emp (Ret (tf (canS t b))) := by
 refine AC.intro te_ok (fn := Try.f59) ⟨Try.func59, rfl, rfl⟩ (Nat.le_of_ble_eq_true rfl) ?_
 refine AWp.seq ?_
 refine AWp.region ?_
 refine AOps.cons rfl rfl (q_assign) ?_
 refine AOps.nil ?_
 refine AWp.seq ?_
 refine AWp.seq ?_
 refine AWp.region ?_
 refine AOps.cons rfl rfl (q_move) ?_
 refine AOps.dec rfl rfl (q_lss) (fun h1_1 => ?_) (fun h1_1 => ?_)
 ·
  refine AOps.cons rfl rfl (q_move) ?_
  refine AOps.gskip rfl rfl rfl rfl rfl rfl rfl rfl ?_
  refine AOps.gskip rfl rfl rfl rfl rfl rfl rfl rfl ?_
  refine AOps.cons rfl rfl (q_pick) ?_
  refine AOps.cons rfl rfl (q_move) ?_
  refine AOps.gskip rfl rfl rfl rfl rfl rfl rfl rfl ?_
  refine AOps.gskip rfl rfl rfl rfl rfl rfl rfl rfl ?_
  refine AOps.gskip rfl rfl rfl rfl rfl rfl rfl rfl ?_
  refine AOps.cons rfl rfl (q_pick) ?_
  refine AOps.nil ?_
  refine AWp.cond_t rfl ?_
  refine AWp.seq ?_
  refine AWp.region ?_
  refine AOps.cons rfl rfl (q_assign) ?_
  refine AOps.nil ?_
  refine AWp.ret ?_
  show Fin te Try.f59 _ _
  refine q_ret (0) [_] [_] ?_
  rw [canS_ne (by omega), canR, if_pos (by omega)]; rfl
 ·
  refine AOps.cons rfl rfl (q_move) ?_
  refine AOps.gcons rfl rfl rfl rfl rfl (q_move) ?_
  refine AOps.gdec rfl rfl rfl rfl rfl (q_gtr) (fun h1_4 => ?_) (fun h1_4 => ?_)
  ·
   refine AOps.cons rfl rfl (q_pick) ?_
   refine AOps.cons rfl rfl (q_move) ?_
   refine AOps.gskip rfl rfl rfl rfl rfl rfl rfl rfl ?_
   refine AOps.gskip rfl rfl rfl rfl rfl rfl rfl rfl ?_
   refine AOps.gskip rfl rfl rfl rfl rfl rfl rfl rfl ?_
   refine AOps.cons rfl rfl (q_pick) ?_
   refine AOps.nil ?_
   refine AWp.cond_t rfl ?_
   refine AWp.seq ?_
   refine AWp.region ?_
   refine AOps.cons rfl rfl (q_assign) ?_
   refine AOps.nil ?_
   refine AWp.ret ?_
   show Fin te Try.f59 _ _
   refine q_ret (0) [_] [_] ?_
   rw [canS_ne (by omega), canR, if_pos (by omega)]; rfl
  ·
   refine AOps.cons rfl rfl (q_pick) ?_
   refine AOps.cons rfl rfl (q_move) ?_
   refine AOps.gcons rfl rfl rfl rfl rfl (q_move) ?_
   refine AOps.gcons rfl rfl rfl rfl rfl (q_len) ?_
   refine AOps.gdec rfl rfl rfl rfl rfl (q_gtr) (fun h1_9 => ?_) (fun h1_9 => ?_)
   ·
    refine AOps.cons rfl rfl (q_pick) ?_
    refine AOps.nil ?_
    refine AWp.cond_t rfl ?_
    refine AWp.seq ?_
    refine AWp.region ?_
    refine AOps.cons rfl rfl (q_assign) ?_
    refine AOps.nil ?_
    refine AWp.ret ?_
    show Fin te Try.f59 _ _
    refine q_ret (0) [_] [_] ?_
    by_cases h6 : t = 6
    · subst h6; rw [canS_6n (by omega)]; rfl
    · rw [canS_ne h6, canR, if_pos (by omega)]; rfl
   ·
    refine AOps.cons rfl rfl (q_pick) ?_
    refine AOps.nil ?_
    refine AWp.cond_f rfl ?_
    refine AWp.skip ?_
    refine AWp.seq ?_
    refine AWp.seq ?_
    refine AWp.region ?_
    have hne : t ≠ 6 → canS t b = canR t b := canS_ne
    refine AOps.cons rfl rfl (q_move) ?_
    refine AOps.nil ?_
    refine AWp.block ?_
    refine AWp.seq ?_
    refine AWp.region ?_
    refine AOps.dec rfl rfl (q_eql) (fun h4_0 => ?_) (fun h4_0 => ?_)
    ·
     refine AOps.cons rfl rfl (q_assign) ?_
     refine AOps.nil ?_
     refine AWp.cond_t rfl ?_
     refine AWp.seq ?_
     refine AWp.region ?_
     refine AOps.cons rfl rfl (q_move) ?_
     refine AOps.cons rfl rfl (q_len) ?_
     refine AOps.cons rfl rfl (q_eql) ?_
     refine AOps.cons rfl rfl (q_assign) ?_
     refine AOps.nil ?_
     refine AWp.ret ?_
     show Fin te Try.f59 _ _
     refine q_ret (0) [_] [_] ?_
     rw [canS_ne (by omega), canR, if_neg (by omega), if_pos h4_0]; exact congrArg tf (decide_eq_decide.2 (by omega))
    ·
     refine AOps.cons rfl rfl (q_assign) ?_
     refine AOps.nil ?_
     refine AWp.cond_f rfl ?_
     refine AWp.seq ?_
     refine AWp.region ?_
     refine AOps.dec rfl rfl (q_eql) (fun h6_0 => ?_) (fun h6_0 => ?_)
     ·
      refine AOps.cons rfl rfl (q_assign) ?_
      refine AOps.nil ?_
      refine AWp.cond_t rfl ?_
      refine AWp.seq ?_
      refine AWp.region ?_
      refine AOps.cons rfl rfl (q_move) ?_
      refine AOps.cons rfl rfl (q_len) ?_
      refine AOps.cons rfl rfl (q_eql) ?_
      refine AOps.cons rfl rfl (q_assign) ?_
      refine AOps.nil ?_
      refine AWp.ret ?_
      show Fin te Try.f59 _ _
      refine q_ret (0) [_] [_] ?_
      rw [canS_ne (by omega), canR, if_neg (by omega), if_neg h4_0, if_pos h6_0]; exact congrArg tf (decide_eq_decide.2 (by omega))
     ·
      refine AOps.cons rfl rfl (q_assign) ?_
      refine AOps.nil ?_
      refine AWp.cond_f rfl ?_
      refine AWp.seq ?_
      refine AWp.seq ?_
      refine AWp.region ?_
      refine AOps.dec rfl rfl (q_eql) (fun h8_0 => ?_) (fun h8_0 => ?_)
      ·
       refine AOps.cons rfl rfl (q_assign) ?_
       refine AOps.nil ?_
       refine AWp.cond_t rfl ?_
       refine AWp.skip ?_
       refine AWp.cond_t rfl ?_
       refine AWp.seq ?_
       refine AWp.region ?_
       refine AOps.cons rfl rfl (q_move) ?_
       refine AOps.cons rfl rfl (by first | exact q_conv_zs | exact q_conv_ls) ?_
       refine AOps.cons rfl rfl (q_call (lv) (hc := c_ciceroneref01_Can _ (by first | assumption | omega | decide | (simp; omega) | (simp [*]; done)))) ?_
       refine AOps.cons rfl rfl (q_assign) ?_
       refine AOps.nil ?_
       refine AWp.ret ?_
       show Fin te Try.f59 _ _
       refine q_ret (0) [_] [_] ?_
       rw [canS_ne (by omega), canR, if_neg (by omega), if_neg h4_0, if_neg h6_0, if_pos (by omega)]; rfl
      ·
       refine AOps.cons rfl rfl (q_assign) ?_
       refine AOps.nil ?_
       refine AWp.cond_f rfl ?_
       refine AWp.seq ?_
       refine AWp.region ?_
       refine AOps.dec rfl rfl (q_eql) (fun h9_0 => ?_) (fun h9_0 => ?_)
       ·
        refine AOps.cons rfl rfl (q_assign) ?_
        refine AOps.nil ?_
        refine AWp.cond_t rfl ?_
        refine AWp.skip ?_
        refine AWp.cond_t rfl ?_
        refine AWp.seq ?_
        refine AWp.region ?_
        refine AOps.cons rfl rfl (q_move) ?_
        refine AOps.cons rfl rfl (by first | exact q_conv_zs | exact q_conv_ls) ?_
        refine AOps.cons rfl rfl (q_call (lv) (hc := c_ciceroneref01_Can _ (by first | assumption | omega | decide | (simp; omega) | (simp [*]; done)))) ?_
        refine AOps.cons rfl rfl (q_assign) ?_
        refine AOps.nil ?_
        refine AWp.ret ?_
        show Fin te Try.f59 _ _
        refine q_ret (0) [_] [_] ?_
        rw [canS_ne (by omega), canR, if_neg (by omega), if_neg h4_0, if_neg h6_0, if_pos (by omega)]; rfl
       ·
        refine AOps.cons rfl rfl (q_assign) ?_
        refine AOps.nil ?_
        refine AWp.cond_f rfl ?_
        refine AWp.region ?_
        refine AOps.dec rfl rfl (q_eql) (fun h10_0 => ?_) (fun h10_0 => ?_)
        ·
         refine AOps.cons rfl rfl (q_assign) ?_
         refine AOps.nil ?_
         refine AWp.cond_t rfl ?_
         refine AWp.seq ?_
         refine AWp.region ?_
         refine AOps.cons rfl rfl (q_move) ?_
         refine AOps.cons rfl rfl (by first | exact q_conv_zs | exact q_conv_ls) ?_
         refine AOps.cons rfl rfl (q_call (lv) (hc := c_ciceroneref01_Can _ (by first | assumption | omega | decide | (simp; omega) | (simp [*]; done)))) ?_
         refine AOps.cons rfl rfl (q_assign) ?_
         refine AOps.nil ?_
         refine AWp.ret ?_
         show Fin te Try.f59 _ _
         refine q_ret (0) [_] [_] ?_
         rw [canS_ne (by omega), canR, if_neg (by omega), if_neg h4_0, if_neg h6_0, if_pos (by omega)]; rfl
        ·
         refine AOps.cons rfl rfl (q_assign) ?_
         refine AOps.nil ?_
         refine AWp.cond_f rfl ?_
         refine AWp.seq ?_
         refine AWp.region ?_
         refine AOps.dec rfl rfl (q_eql) (fun h12_0 => ?_) (fun h12_0 => ?_)
         ·
          refine AOps.cons rfl rfl (q_assign) ?_
          refine AOps.nil ?_
          refine AWp.cond_t rfl ?_
          refine AWp.seq ?_
          refine AWp.region ?_
          refine AOps.cons rfl rfl (q_move) ?_
          refine AOps.cons rfl rfl (q_len) ?_
          refine AOps.dec rfl rfl (q_gtr) (fun h13_2 => ?_) (fun h13_2 => ?_)
          ·
           refine AOps.cons rfl rfl (q_move) ?_
           refine AOps.gcons rfl rfl rfl rfl rfl (q_move) ?_
           refine AOps.gcons rfl rfl rfl rfl rfl (q_sl) ?_
           refine AOps.gcons rfl rfl rfl rfl rfl (by first | exact q_conv_zs | exact q_conv_ls) ?_
           refine AOps.gcons rfl rfl rfl rfl rfl (q_call (lv) (hc := c_ciceroneref01_Can _ (by first | assumption | omega | decide | (simp; omega) | (simp [*]; done)))) ?_
           refine AOps.cons rfl rfl (q_pick) ?_
           refine AOps.cons rfl rfl (q_assign) ?_
           refine AOps.nil ?_
           refine AWp.ret ?_
           show Fin te Try.f59 _ _
           refine q_ret (0) [_] [_] ?_
           rw [canS_ne (by omega), canR, if_neg (by omega), if_neg h4_0, if_neg h6_0, if_neg (by omega), if_pos h12_0, decide_eq_true (by omega)]; rfl
          ·
           refine AOps.cons rfl rfl (q_move) ?_
           refine AOps.gskip rfl rfl rfl rfl rfl rfl rfl rfl ?_
           refine AOps.gskip rfl rfl rfl rfl rfl rfl rfl rfl ?_
           refine AOps.gskip rfl rfl rfl rfl rfl rfl rfl rfl ?_
           refine AOps.gskip rfl rfl rfl rfl rfl rfl rfl rfl ?_
           refine AOps.cons rfl rfl (q_pick) ?_
           refine AOps.cons rfl rfl (q_assign) ?_
           refine AOps.nil ?_
           refine AWp.ret ?_
           show Fin te Try.f59 _ _
           refine q_ret (0) [_] [_] ?_
           rw [canS_ne (by omega), canR, if_neg (by omega), if_neg h4_0, if_neg h6_0, if_neg (by omega), if_pos h12_0, decide_eq_false (by omega)]; rfl
         ·
          refine AOps.cons rfl rfl (q_assign) ?_
          refine AOps.nil ?_
          refine AWp.cond_f rfl ?_
          refine AWp.seq ?_
          refine AWp.region ?_
          refine AOps.dec rfl rfl (q_eql) (fun h14_0 => ?_) (fun h14_0 => ?_)
          ·
           refine AOps.cons rfl rfl (q_assign) ?_
           refine AOps.nil ?_
           refine AWp.cond_t rfl ?_
           refine AWp.seq ?_
           refine AWp.region ?_
           refine AOps.cons rfl rfl (q_move) ?_
           refine AOps.cons rfl rfl (q_call (lv) (hc := c_ciceroneref03_SOA _ _ (by first | assumption | omega | decide | (simp; omega) | (simp [*]; done)))) ?_
           refine AOps.cons rfl rfl (q_move) ?_
           refine AOps.cons rfl rfl (q_extract) ?_
           refine AOps.cons rfl rfl (q_extract) ?_
           refine AOps.cons rfl rfl (q_alloc 1605) ?_
           refine AOps.cons rfl rfl (q_store) ?_
           refine AOps.cons rfl rfl (q_assign) ?_
           refine AOps.nil ?_
           refine AWp.seq ?_
           refine AWp.region ?_
           refine AOps.cons rfl rfl (q_move) ?_
           refine AOps.cons rfl rfl (q_assign) ?_
           refine AOps.nil ?_
           refine AWp.ret ?_
           show Fin te Try.f59 _ _
           refine q_ret (0) [_] [_] ?_
           obtain rfl : t = 6 := h14_0
           rw [canS_6 (by omega)]; rfl
          ·
           refine AOps.cons rfl rfl (q_assign) ?_
           refine AOps.nil ?_
           refine AWp.cond_f rfl ?_
           refine AWp.seq ?_
           refine AWp.region ?_
           refine AOps.dec rfl rfl (q_eql) (fun h17_0 => ?_) (fun h17_0 => ?_)
           ·
            refine AOps.cons rfl rfl (q_assign) ?_
            refine AOps.nil ?_
            refine AWp.cond_t rfl ?_
            refine AWp.seq ?_
            refine AWp.region ?_
            refine AOps.cons rfl rfl (q_move) ?_
            refine AOps.cons rfl rfl (q_call (lv) (hc := c_ciceroneref03_texts _ _ (by first | assumption | omega | decide | (simp; omega) | (simp [*]; done)))) ?_
            refine AOps.cons rfl rfl (q_assign) ?_
            refine AOps.nil ?_
            refine AWp.ret ?_
            show Fin te Try.f59 _ _
            refine q_ret (0) [_] [_] ?_
            rw [canS_ne (by omega), canR, if_neg (by omega), if_neg h4_0, if_neg h6_0, if_neg (by omega), if_neg h12_0, if_pos h17_0]; rfl
           ·
            refine AOps.cons rfl rfl (q_assign) ?_
            refine AOps.nil ?_
            refine AWp.cond_f rfl ?_
            refine AWp.seq ?_
            refine AWp.region ?_
            refine AOps.dec rfl rfl (q_eql) (fun h19_0 => ?_) (fun h19_0 => ?_)
            ·
             refine AOps.cons rfl rfl (q_assign) ?_
             refine AOps.nil ?_
             refine AWp.cond_t rfl ?_
             refine AWp.seq ?_
             refine AWp.region ?_
             refine AOps.cons rfl rfl (q_move) ?_
             refine AOps.cons rfl rfl (q_call (lv) (hc := c_ciceroneref03_options _ _ (by first | assumption | omega | decide | (simp; omega) | (simp [*]; done)))) ?_
             refine AOps.cons rfl rfl (q_assign) ?_
             refine AOps.nil ?_
             refine AWp.ret ?_
             show Fin te Try.f59 _ _
             refine q_ret (0) [_] [_] ?_
             rw [canS_ne (by omega), canR, if_neg (by omega), if_neg h4_0, if_neg h6_0, if_neg (by omega), if_neg h12_0, if_neg h17_0, if_pos h19_0]; rfl
            ·
             refine AOps.cons rfl rfl (q_assign) ?_
             refine AOps.nil ?_
             refine AWp.cond_f rfl ?_
             refine AWp.skip ?_
             refine AWp.seq ?_
             refine AWp.region ?_
             refine AOps.cons rfl rfl (q_assign) ?_
             refine AOps.nil ?_
             refine AWp.ret ?_
             show Fin te Try.f59 _ _
             refine q_ret (0) [_] [_] ?_
             rw [canS_ne (by omega), canR, if_neg (by omega), if_neg h4_0, if_neg h6_0, if_neg (by omega), if_neg h12_0, if_neg h17_0, if_neg h19_0]; rfl
end Go.Proofs.Ytkfccjbihcbmiaa.Fw


set_option linter.unusedVariables false
set_option linter.unusedSimpArgs false
namespace Go.Proofs.Ytkfccjbihcbmiaa.Fw
open Go.RowKit
def idx {α : Type} (g : α → Bool) : List α → Int
  | [] => -1
  | a :: l => if g a then 0 else if idx g l = -1 then -1 else idx g l + 1
theorem idx_ge {α : Type} (g : α → Bool) : ∀ l, -1 ≤ idx g l
  | [] => by simp [idx]
  | a :: l => by
    have := idx_ge g l
    simp only [idx]
    split
    · omega
    · split <;> omega
theorem idx_none {α : Type} {g : α → Bool} : ∀ {l : List α}, (∀ x ∈ l, g x = false) → idx g l = -1
  | [], _ => rfl
  | a :: l, h => by
    simp [idx, h a (by simp), idx_none (l := l) fun x hx => h x (by simp [hx])]
theorem idx_at {α : Type} [Inhabited α] {g : α → Bool} : ∀ {l : List α} {i : Nat}, i < l.length → (∀ x ∈ l.take i, g x = false) → g (l.getD i default) = true → idx g l = i
  | [], i, h, _, _ => by simp at h
  | a :: l, 0, _, _, h => by
    have : g a = true := by simpa using h
    simp [idx, this]
  | a :: l, i + 1, h, h1, h2 => by
    have h3 : g a = false := h1 a (by simp)
    have h4 := idx_at (l := l) (i := i) (g := g) (by simpa using h) (fun x hx => h1 x (by simp [hx])) (by simpa using h2)
    simp only [idx, h3, Bool.false_eq_true, if_false, h4]
    rw [if_neg (by omega)]
    omega
theorem idx_step {α : Type} [Inhabited α] {g : α → Bool} {l : List α} {i : Nat} (h : i < l.length) (h1 : ∀ x ∈ l.take i, g x = false) (h2 : g (l.getD i default) = false) : ∀ x ∈ l.take (i + 1), g x = false := by
  intro x hx
  rw [List.take_succ_eq_append_getElem h] at hx
  rcases List.mem_append.1 hx with hx | hx
  · exact h1 x hx
  · simp only [List.mem_singleton] at hx
    subst hx
    simpa [List.getD_eq_getElem?_getD, List.getElem?_eq_getElem h] using h2
theorem idx_any_iff {α : Type} {g : α → Bool} : ∀ {l : List α}, 0 ≤ idx g l ↔ l.any g = true
  | [] => by simp [idx]
  | a :: l => by
    have h1 := idx_ge g l
    have h2 := idx_any_iff (g := g) (l := l)
    unfold idx
    rw [List.any_cons]
    by_cases ha : g a = true
    · simp [ha]
    · rw [if_neg ha]
      simp only [Bool.not_eq_true] at ha
      rw [ha, Bool.false_or, ← h2]
      split <;> omega
theorem idx_any {α : Type} {g : α → Bool} {l : List α} : decide (0 ≤ idx g l) = l.any g := by
  rw [Bool.eq_iff_iff, decide_eq_true_iff]
  exact idx_any_iff
theorem fvs_caps {h : Heap} {lo hi l : Nat} {a b : AV} {caps : List AV} (e : FVal h lo hi a b) (hl : l ≤ lo) (hc : AV.oks l caps = true) : FVals h lo hi (a :: caps) (b :: caps) := ⟨e, fvs_ok (AV.oks_mono hl hc)⟩
set_option maxRecDepth 20000 in
set_option maxHeartbeats 2000000 in
theorem c_IndexFunc_int (l : List (Int)) (lv lv' lw : Nat) (caps : List AV) (g : Int → Bool) {fid : Nat} (hl : l.length ≤ 140737488351232) (hcaps : AV.oks lw caps = true) (hg : ∀ x ∈ l, AC Try.prog fid (i64 x :: caps) emp (Ret (tf (g x)))) : AC Try.prog 95 [.fz lv l.length (cl (ic) l), .fn (.func fid) [] caps] emp (Ret (i64 (idx g l))) := by
 refine AC.intro te_ok (fn := Try.f95) ⟨Try.func95, rfl, rfl⟩ (Nat.le_of_ble_eq_true rfl) ?_
 refine AWp.seq ?_
 refine AWp.region ?_
 refine AOps.cons rfl rfl (q_assign) ?_
 refine AOps.nil ?_
 refine AWp.seq ?_
 refine AWp.seq ?_
 refine AWp.region ?_
 refine AOps.cons rfl rfl (q_move) ?_
 refine AOps.cons rfl rfl (q_len) ?_
 refine AOps.cons rfl rfl (q_move) ?_
 refine AOps.nil ?_
 refine AWp.block ?_
 refine AWp.loopR (α := Nat) [4, 5, 8, 9, 10, 11, 12, 13, 14, 15, 16, 17, 18] (fun i => [(8, i64 i)]) (fun i => []) (fun i => i ≤ l.length ∧ ∀ x ∈ l.take i, g x = false) (fun i => l.length - i) 0 ?_ (Back.mk' (HasT.cons HasT.nil) HasH.nil) ?_
 ·
  exact ⟨Nat.zero_le _, by simp⟩
 ·
  rintro i ⟨hi, hI⟩
  refine AWp.seq ?_
  refine AWp.region ?_
  refine AOps.dec rfl rfl (q_lss) (fun h2_0 => ?_) (fun h2_0 => ?_)
  ·
   refine AOps.nil ?_
   refine AWp.seq ?_
   refine AWp.cond_t rfl ?_
   refine AWp.skip ?_
   refine AWp.seq ?_
   refine AWp.block ?_
   refine AWp.seq ?_
   refine AWp.region ?_
   refine AOps.cons rfl rfl (q_move) ?_
   refine AOps.cons rfl rfl (q_assign) ?_
   refine AOps.nil ?_
   refine AWp.seq ?_
   refine AWp.region ?_
   refine AOps.cons rfl rfl (q_move) ?_
   refine AOps.cons rfl rfl (q_move) ?_
   refine AOps.cons rfl rfl (q_move) ?_
   refine AOps.cons rfl rfl (q_ix) ?_
   refine AOps.cons rfl rfl (q_load) ?_
   refine AOps.bool rfl rfl (q_call (lv + lv' + lw) (hA := by exact fvs_caps (l := lw) (fv_okb rfl (by first | rfl | exact ble_of (by omega) | (simp [AV.ok, AV.oks]; done))) (by omega) hcaps) (hc := (hg _ (getD_mem (i := i) (by omega))))) (fun h4_5 => ?_) (fun h4_5 => ?_)
   ·
    refine AOps.nil ?_
    refine AWp.cond_t rfl ?_
    refine AWp.seq ?_
    refine AWp.region ?_
    refine AOps.cons rfl rfl (q_move) ?_
    refine AOps.cons rfl rfl (q_assign) ?_
    refine AOps.nil ?_
    refine AWp.ret ?_
    show Fin te Try.f95 _ _
    refine q_ret (0) [_] [_] ?_
    exact i64_eq (idx_at (by omega) hI h4_5).symm
   ·
    refine AOps.nil ?_
    refine AWp.cond_f rfl ?_
    refine AWp.skip ?_
    refine AWp.region ?_
    refine AOps.cons rfl rfl (q_add) ?_
    refine AOps.cons rfl rfl (q_move) ?_
    refine AOps.nil ?_
    refine ⟨i + 1, ?_, Back.mk' (HasT.cons HasT.nil) HasH.nil, ?_⟩
    ·
     exact ⟨by omega, idx_step (by omega) hI h4_5⟩
    ·
     first | omega | (simp; omega)
  ·
   refine AOps.nil ?_
   refine AWp.seq ?_
   refine AWp.cond_f rfl ?_
   refine AWp.exit ?_
   refine AWp.seq ?_
   refine AWp.region ?_
   refine AOps.cons rfl rfl (q_assign) ?_
   refine AOps.nil ?_
   refine AWp.ret ?_
   show Fin te Try.f95 _ _
   refine q_ret (0) [_] [_] ?_
   exact i64_eq (idx_none (by rwa [List.take_of_length_le (by omega)] at hI)).symm
set_option maxRecDepth 20000 in
set_option maxHeartbeats 2000000 in
theorem c_ContainsFunc_int (l : List (Int)) (lv lv' lw : Nat) (caps : List AV) (g : Int → Bool) {fid : Nat} (hl : l.length ≤ 140737488351232) (hcaps : AV.oks lw caps = true) (hg : ∀ x ∈ l, AC Try.prog fid (i64 x :: caps) emp (Ret (tf (g x)))) : AC Try.prog 79 [.fz lv l.length (cl (ic) l), .fn (.func fid) [] caps] emp (Ret (tf (l.any g))) := by
 refine AC.intro te_ok (fn := Try.f79) ⟨Try.func79, rfl, rfl⟩ (Nat.le_of_ble_eq_true rfl) ?_
 refine AWp.seq ?_
 refine AWp.region ?_
 refine AOps.cons rfl rfl (q_assign) ?_
 refine AOps.nil ?_
 refine AWp.seq ?_
 refine AWp.region ?_
 refine AOps.cons rfl rfl (q_move) ?_
 refine AOps.cons rfl rfl (q_move) ?_
 refine AOps.cons rfl rfl (q_call (lv + lv' + lw) (hA := by exact ⟨fv_okb rfl (ble_of (by omega)), fv_okb (b := .fn (.func fid) [] caps) rfl (by simp [AV.ok, AV.oks, AV.oks_mono (show lw ≤ lv + lv' + lw by omega) hcaps]), trivial⟩) (hc := (c_IndexFunc_int l lv lv' lw caps g hl hcaps hg))) ?_
 refine AOps.cons rfl rfl (q_geq) ?_
 refine AOps.cons rfl rfl (q_assign) ?_
 refine AOps.nil ?_
 refine AWp.ret ?_
 show Fin te Try.f79 _ _
 refine q_ret (0) [_] [_] ?_
 exact congrArg tf idx_any
end Go.Proofs.Ytkfccjbihcbmiaa.Fw


set_option linter.unusedVariables false
set_option linter.unusedSimpArgs false
namespace Go.Proofs.Ytkfccjbihcbmiaa.Fw
open Go.RowKit
theorem Weak.niltmp (k id esz : Nat) {α : Type} (f : α → List AV) {s : AS} (hk : s.t k = .v (.slice none 0 0) := by exact rfl) (hid : s.h id = none := by exact rfl) :
    Weak s ((s.seth id (some (.row (cl f []) esz 0))).put (some k) (.sl id 0 0 ([] : List α).length esz)) := by
  intro n Λ w φ a hs
  have hn := hs.hs.dom id hid
  have hc : Chg w φ Λ s.h id ⟨none, 0⟩ w := ⟨hs.hs, Nat.le_refl _, rfl, rfl, rfl, fun _ _ _ => rfl, (fun b' o' h => by cases h), (fun l hl => by rw [hn] at hl; cases hl), (fun l hl => by rw [hn] at hl; cases hl)⟩
  have h1 : HSim w (upd φ id (some ⟨none, 0⟩)) Λ (upd s.h id (some (.row (cl f []) esz 0))) := hc.hsim ⟨rfl, .inl ⟨rfl, rfl⟩⟩
  refine ⟨upd φ id (some ⟨none, 0⟩), ⟨hs.defs, hs.size, fun i => ?_, h1⟩, hc.goes⟩
  show Rep w _ Λ (upd s.t k (.sl id 0 0 0 esz) i) _
  by_cases he : i = k
  · subst he
    rw [upd_same]
    have := hs.tmps i
    rw [hk] at this
    generalize a.tmps.getD i undef = v at this
    cases this
    exact .sl0 (upd_same _ _ _) rfl
  · rw [upd_other _ _ _ _ he]
    exact hc.rep (hs.tmps i)
end Go.Proofs.Ytkfccjbihcbmiaa.Fw


set_option linter.unusedVariables false
set_option linter.unusedSimpArgs false
namespace Go.Proofs.Ytkfccjbihcbmiaa.Fw
open Go.RowKit
section
variable {n : Nat} {s : AS} {o : Oper} {d : Option Tmp}
end
end Go.Proofs.Ytkfccjbihcbmiaa.Fw


set_option linter.unusedVariables false
set_option linter.unusedSimpArgs false
namespace Go.Proofs.Ytkfccjbihcbmiaa.Fw
open Go.RowKit
section
variable {n : Nat} {s : AS} {o : Oper} {d : Option Tmp}
end
end Go.Proofs.Ytkfccjbihcbmiaa.Fw


set_option linter.unusedVariables false
set_option linter.unusedSimpArgs false
namespace Go.Proofs.Ytkfccjbihcbmiaa.Fw
open Go.RowKit
section
variable {n : Nat} {s : AS} {o : Oper} {d : Option Tmp}
theorem OpOk.weak {P : Program} {s1 s2 : AS} (h : OpOk P n o s s1) (hw : Weak s1 s2) : OpOk P n o s s2 := by
  intro Λ w φ a hs next QQ hn
  refine h Λ w φ a hs next QQ fun w' φ' a' hs' g => ?_
  obtain ⟨φ2, hs2, g2⟩ := hw n Λ w' φ' a' hs'
  exact hn w' φ2 a' hs2 (g.trans g2)
end
end Go.Proofs.Ytkfccjbihcbmiaa.Fw


set_option linter.unusedVariables false
set_option linter.unusedSimpArgs false
set_option linter.unusedSectionVars false
namespace Go.Proofs.Ytkfccjbihcbmiaa.Fw
open Go.RowKit
section pure
variable {κ β : Type} [DecidableEq κ]
def mget : List (κ × β) → κ → Option β
  | [], _ => none
  | (a, b) :: m, k => if a = k then some b else mget m k
def mput : List (κ × β) → κ → β → List (κ × β)
  | [], k, v => [(k, v)]
  | (a, b) :: m, k, v => if a = k then (k, v) :: m else (a, b) :: mput m k v
def mdel : List (κ × β) → κ → List (κ × β)
  | [], _ => []
  | (a, b) :: m, k => if a = k then m else (a, b) :: mdel m k
def MNd (m : List (κ × β)) : Prop := (m.map (·.1)).Nodup
theorem mget_put (m : List (κ × β)) (k k' : κ) (v : β) : mget (mput m k v) k' = if k = k' then some v else mget m k' := by
  induction m with
  | nil => simp [mput, mget]
  | cons p m ih =>
    obtain ⟨a, b⟩ := p
    simp only [mput]
    split
    · rename_i h; subst h
      simp only [mget]
      split <;> rfl
    · rename_i h
      simp only [mget, ih]
      by_cases h1 : a = k'
      · subst h1
        rw [if_pos rfl, if_neg (fun e => h e.symm), if_pos rfl]
      · rw [if_neg h1, if_neg h1]
theorem mput_mem {m : List (κ × β)} {k x : κ} {v : β} (h : x ∈ (mput m k v).map (·.1)) : x = k ∨ x ∈ m.map (·.1) := by
  induction m with
  | nil => simp [mput] at h; exact .inl h
  | cons p m ih =>
    obtain ⟨a, b⟩ := p
    simp only [mput] at h
    split at h
    · rename_i e; subst e; exact .inr (by simpa using h)
    · simp only [List.map_cons, List.mem_cons] at h ⊢
      rcases h with h | h
      · exact .inr (.inl h)
      · rcases ih h with h | h
        · exact .inl h
        · exact .inr (.inr h)
theorem MNd.put {m : List (κ × β)} (hn : MNd m) (k : κ) (v : β) : MNd (mput m k v) := by
  induction m with
  | nil => simp [mput, MNd]
  | cons p m ih =>
    obtain ⟨a, b⟩ := p
    have hn' : a ∉ m.map (·.1) ∧ MNd m := by simpa [MNd] using hn
    simp only [mput]
    split
    · rename_i e; subst e; exact hn
    · rename_i e
      show ((a, b) :: mput m k v |>.map (·.1)).Nodup
      rw [List.map_cons, List.nodup_cons]
      refine ⟨fun h => ?_, ih hn'.2⟩
      rcases mput_mem h with h | h
      · exact e h
      · exact hn'.1 h
theorem MNd.nil : MNd ([] : List (κ × β)) := by simp [MNd]
theorem mfind (m : List (κ × β)) (k : κ) : (mget m k = none ∧ (∀ (i : Nat) (q : κ × β), m[i]? = some q → q.1 ≠ k) ∧ (∀ v, mput m k v = m ++ [(k, v)]) ∧ mdel m k = m) ∨
    ∃ j p, m[j]? = some p ∧ p.1 = k ∧ (∀ (i : Nat) (q : κ × β), i < j → m[i]? = some q → q.1 ≠ k) ∧ mget m k = some p.2 ∧ (∀ v, mput m k v = m.set j (k, v)) ∧ mdel m k = m.eraseIdx j := by
  induction m with
  | nil => exact .inl ⟨rfl, by simp, fun v => rfl, rfl⟩
  | cons p m ih =>
    obtain ⟨a, b⟩ := p
    by_cases h : a = k
    · refine .inr ⟨0, (a, b), rfl, h, by simp, by rw [mget, if_pos h], fun v => by rw [mput, if_pos h]; rfl, by rw [mdel, if_pos h]; rfl⟩
    · rcases ih with ⟨h1, h2, h3, h4⟩ | ⟨j, p, h1, h2, h3, h4, h5, h6⟩
      · refine .inl ⟨by rw [mget, if_neg h, h1], fun i q hq => ?_, fun v => by rw [mput, if_neg h, h3]; rfl, by rw [mdel, if_neg h, h4]⟩
        cases i with
        | zero => simp at hq; subst hq; exact h
        | succ i => exact h2 i q (by simpa using hq)
      · refine .inr ⟨j + 1, p, by simpa using h1, h2, fun i q hi hq => ?_, by rw [mget, if_neg h, h4], fun v => by rw [mput, if_neg h, h5]; rfl, by rw [mdel, if_neg h, h6]; rfl⟩
        cases i with
        | zero => simp at hq; subst hq; exact h
        | succ i => exact h3 i q (by omega) (by simpa using hq)
end pure
structure MKey (κ : Type) where
  kv : κ → Value
  d : TypeDesc
  isKey : ∀ k, MapKept.IsKey d (kv k)
  inj : ∀ a b, kv a = kv b → a = b
  same : ∀ k, Instr.sameBits 10000 (kv k) (kv k) = true
def MInt : MKey Int := ⟨fun k => .int .i64 k, .int .i64, fun _ => rfl, fun a b h => by cases h; rfl, fun k => by simp [Instr.sameBits]⟩
def MStr : MKey (List UInt8) := ⟨fun k => .string ⟨⟨k⟩⟩, .string, fun _ => trivial, fun a b h => by cases h; rfl, fun k => MapKept.sameBits_self (d := .string) (show MapKept.IsKey .string (.string ⟨⟨k⟩⟩) from trivial) 10000⟩
theorem findNow_none {d : TypeDesc} {kk : Value} (hk : MapKept.IsKey d kk) : ∀ (l : List MapEntry) (i : Nat), (∀ e ∈ l, MapKept.IsKey d e.key ∧ e.key ≠ kk) → Instr.findNow d kk l i = some none
  | [], _, _ => rfl
  | e :: l, i, h => by
    obtain ⟨r, hr, hiff⟩ := MapKept.sameNow_of_keys hk (h e (by simp)).1
    cases r with
    | true => exact absurd (hiff.1 rfl).symm (h e (by simp)).2
    | false =>
      simp only [Instr.findNow, hr]
      exact findNow_none hk l (i + 1) fun e he => h e (by simp [he])
theorem findNow_some {d : TypeDesc} {kk : Value} (hk : MapKept.IsKey d kk) : ∀ (l : List MapEntry) (i j : Nat) (e : MapEntry), l[j]? = some e → e.key = kk → (∀ i' e', i' < j → l[i']? = some e' → MapKept.IsKey d e'.key ∧ e'.key ≠ kk) →
    Instr.findNow d kk l i = some (some (i + j, e.val))
  | [], _, _, _, h, _, _ => by simp at h
  | x :: l, i, 0, e, h, he, _ => by
    simp at h; subst h
    obtain ⟨r, hr, hiff⟩ := MapKept.sameNow_of_keys hk (he ▸ hk : MapKept.IsKey d x.key)
    have : r = true := hiff.2 he.symm
    subst this
    simp [Instr.findNow, hr]
  | x :: l, i, j + 1, e, h, he, hb => by
    have h0 := hb 0 x (by omega) rfl
    obtain ⟨r, hr, hiff⟩ := MapKept.sameNow_of_keys hk h0.1
    cases r with
    | true => exact absurd (hiff.1 rfl).symm h0.2
    | false =>
      simp only [Instr.findNow, hr]
      have := findNow_some hk l (i + 1) j e (by simpa using h) he fun i' e' hi he' => hb (i' + 1) e' (by omega) (by simpa using he')
      rw [this]
      congr 3; omega
section rules
variable {n : Nat} {s : AS} {o : Oper} {d : Option Tmp} {κ β : Type} [DecidableEq κ]
def me (K : MKey κ) (f : β → AV) (m : List (κ × β)) : List (Value × AV) := m.map fun p => (K.kv p.1, f p.2)
structure MEnts (w : World) (φ : PMap) (Λ : Lent) (K : MKey κ) (f : β → AV) (m : List (κ × β)) (ents : Array MapEntry) : Prop where
  size : ents.size = m.length
  at' : ∀ (j : Nat) p, m[j]? = some p → ∃ e, ents[j]? = some e ∧ e.key = K.kv p.1 ∧ Rep w φ Λ (f p.2) e.val
theorem map_at {w : World} {φ : PMap} {Λ : Lent} {h : Heap} (hs : HSim w φ Λ h) {id : Nat} {K : MKey κ} {f : β → AV} {m : List (κ × β)} (hob : h id = some (.map (me K f m))) :
    ∃ l b ents clock, φ id = some l ∧ l.bo = some (b, 0) ∧ l.ver = 0 ∧ w.heap[b]? = some (.map ents clock) ∧ MEnts w φ Λ K f m ents := by
  obtain ⟨l, hl, b, ents, clock, h1, h2, h3, h4, h5⟩ := hs.heap id _ hob
  refine ⟨l, b, ents, clock, hl, h1, h2, h3, by rw [h4, me, List.length_map], fun j p hp => ?_⟩
  exact h5 j (K.kv p.1, f p.2) (by rw [me, List.getElem?_map, hp]; rfl)
theorem MEnts.key {w : World} {φ : PMap} {Λ : Lent} {K : MKey κ} {f : β → AV} {m : List (κ × β)} {ents : Array MapEntry} (h : MEnts w φ Λ K f m ents) {i : Nat} {e : MapEntry} (he : ents[i]? = some e) : ∃ p, m[i]? = some p ∧ e.key = K.kv p.1 := by
  have hlt : i < m.length := by
    have := (Array.getElem?_eq_some_iff.1 he).1
    rw [← h.size]; exact this
  obtain ⟨e', h1, h2, _⟩ := h.at' i m[i] (List.getElem?_eq_getElem hlt)
  rw [he] at h1; cases h1
  exact ⟨_, List.getElem?_eq_getElem hlt, h2⟩
theorem MEnts.none {w : World} {φ : PMap} {Λ : Lent} {K : MKey κ} {f : β → AV} {m : List (κ × β)} {ents : Array MapEntry} (h : MEnts w φ Λ K f m ents) {k : κ} (hk : ∀ (i : Nat) (q : κ × β), m[i]? = some q → q.1 ≠ k) :
    Instr.findNow K.d (K.kv k) ents.toList 0 = some none := by
  refine findNow_none (K.isKey k) _ 0 fun e he => ?_
  obtain ⟨i, hi, rfl⟩ := List.getElem_of_mem he
  obtain ⟨p, h1, h2⟩ := h.key (i := i) (e := ents.toList[i]) (by rw [← Array.getElem?_toList, List.getElem?_eq_getElem hi])
  rw [h2]
  exact ⟨K.isKey _, fun e => hk i p h1 (K.inj _ _ e)⟩
theorem MEnts.some {w : World} {φ : PMap} {Λ : Lent} {K : MKey κ} {f : β → AV} {m : List (κ × β)} {ents : Array MapEntry} (h : MEnts w φ Λ K f m ents) {k : κ} {j : Nat} {p : κ × β} (h1 : m[j]? = some p) (h2 : p.1 = k) (hk : ∀ (i : Nat) (q : κ × β), i < j → m[i]? = some q → q.1 ≠ k) :
    ∃ e, ents[j]? = some e ∧ e.key = K.kv k ∧ Rep w φ Λ (f p.2) e.val ∧ Instr.findNow K.d (K.kv k) ents.toList 0 = some (some (j, e.val)) := by
  obtain ⟨e, q1, q2, q3⟩ := h.at' j p h1
  refine ⟨e, q1, by rw [q2, h2], q3, ?_⟩
  have := findNow_some (K.isKey k) ents.toList 0 j e (by rw [Array.getElem?_toList, q1]) (by rw [q2, h2]) fun i' e' hi he' => ?_
  · rwa [Nat.zero_add] at this
  · rw [Array.getElem?_toList] at he'
    obtain ⟨p', g1, g2⟩ := h.key he'
    rw [g2]
    exact ⟨K.isKey _, fun e => hk i' p' hi g1 (K.inj _ _ e)⟩
theorem rep_mp {w : World} {φ : PMap} {Λ : Lent} {id : Nat} {l : Loc} {b : Nat} {v : Value} (h : Rep w φ Λ (.mp id 0) v) (hl : φ id = some l) (hv : l.ver = 0) (hb : l.bo = some (b, 0)) : v = .map (some b) := by
  cases h with
  | mp h1 h2 h3 => rw [hl] at h1; cases h1; rw [hb] at h3; cases h3; rfl
  | mpx h1 h2 => rw [hl] at h1; cases h1; omega
def mres (f : β → AV) (z : AV) : Option β → AV
  | some b => f b
  | none => z
theorem mres_tf (x : Option Bool) : mres (fun b => tf b) (tf false) x = tf (x.getD false) := by cases x <;> rfl
theorem mres_int (x : Option Int) : mres (fun b => i64 b) (i64 0) x = i64 (x.getD 0) := by cases x <;> rfl
theorem objIn_me {S : Nat → Bool} {K : MKey κ} {f : β → AV} {m : List (κ × β)} (h : ∀ b, (f b).refs S = true) : ObjIn S (.map (me K f m)) := by
  intro p hp
  rw [me, List.mem_map] at hp
  obtain ⟨q, _, rfl⟩ := hp
  exact h q.2
theorem me_vals {K : MKey κ} {f : β → AV} {m : List (κ × β)} : (me K f m).map (·.2) = m.map fun p => f p.2 := by simp [me]
theorem me_oks {K : MKey κ} {f : β → AV} {m : List (κ × β)} {lv : Nat} (h : ∀ b, (f b).ok lv = true) : AV.oks lv ((me K f m).map (·.2)) = true := by
  rw [me_vals]
  refine AV.oks_of fun c hc => ?_
  rw [List.mem_map] at hc
  obtain ⟨q, _, rfl⟩ := hc
  exact h q.2
theorem lobj_me {ρ : Nat → Bool} {σ : IdMap} {h : Heap} {lo hi : Nat} {rn : Bool} {K : MKey κ} {f : β → AV} {m : List (κ × β)} (h3 : ∀ b, (f b).ok lo = true) : LObj ρ σ h lo hi rn (.map (me K f m)) (.map (me K f m)) := ⟨rfl, lvs_ok (me_oks h3)⟩
theorem hb_me {g : Nat → Nat} {K : MKey κ} {f : β → AV} {m : List (κ × β)} {lv : Nat} (h : ∀ b, (f b).ok lv = true) : (AObj.map (me K f m)).ren g = .map (me K f m) := by
  simp only [AObj.ren]
  congr 1
  simp only [me, List.map_map]
  refine List.map_congr_left fun p _ => ?_
  simp only [Function.comp]
  rw [AV.ren_ok (h p.2)]
theorem hl_me {lv : Nat} {S : Nat → Bool} {K : MKey κ} {f : β → AV} {m : List (κ × β)} (h : ∀ b, (f b).ok lv = true) : (AObj.map (me K f m)).lev lv = true ∧ ObjIn S (.map (me K f m)) :=
  ⟨AV.levs_ok (me_oks h), objIn_me fun b => AV.refs_ok (h b)⟩
theorem q_makeMap (id : Nat) (K : MKey κ) (f : β → AV) {t : TypeId} (ho : o.op = .makeMap t none := by exact rfl) (hid : s.h id = none := by exact rfl)
    (hdd : o.dst = d := by conv => lhs; whnf) (hd : d.all (Nat.blt · n) = true := by exact rfl) : OpOk Try.prog n o s ((s.seth id (some (.map (me K f [])))).put d (.mp id 0)) :=
  .chg hdd hd fun Λ w φ a hs => by
    have hc := Chg.alloc hs.hs hid (.map #[] 0) 0 0
    refine ⟨_, _, _, ?_, hc, ?_, .map (some w.heap.size), .inl rfl, .mp (upd_same _ _ _) rfl rfl⟩
    · simp [execOp, ho, Instr.makeMap]
    · exact ⟨w.heap.size, #[], 0, rfl, rfl, (MapKept.heap_alloc w _).1, rfl, fun j p hp => by simp [me] at hp⟩
theorem run_lookup {P : Program} {w : World} {φ : PMap} {Λ : Lent} {K : MKey κ} {f : β → AV} {m : List (κ × β)} {ents : Array MapEntry} {b clock : Nat} {t kt et : TypeId} {z : Value} {k : κ} {ok : Bool} (hu : P.underlying t = some (.map kt et)) (hd : P.underlying kt = some K.d)
    (hz : (zeroValue et).run P w = .ok z w) (hb : w.heap[b]? = some (.map ents clock)) (hm : MEnts w φ Λ K f m ents) {za : AV} (hza : Rep w φ Λ za z) :
    ∃ v, Rep w φ Λ (mres f za (mget m k)) v ∧ (Instr.lookup t (.map (some b)) (K.kv k) ok).run P w = .ok (if ok then .tuple #[v, .bool (mget m k).isSome] else v) w := by
  have hck := MapKept.run_checkKey (w := w) hd (K.isKey k) ents.isEmpty 9999
  rcases mfind m k with ⟨h1, h2, _, _⟩ | ⟨j, p, h1, h2, h3, h4, _, _⟩
  · have hf := MapKept.run_findKey (w := w) hd (hm.none h2)
    refine ⟨z, by rw [h1]; exact hza, ?_⟩
    rw [h1]
    simp [Instr.lookup, run_underlying hu, MapKept.run_getObj_map hb, hck, hf, hz, Result.andThen]
  · obtain ⟨e, e1, e2, e3, e4⟩ := hm.some h1 h2 h3
    have hf := MapKept.run_findKey (w := w) hd e4
    refine ⟨e.val, by rw [h4]; exact e3, ?_⟩
    rw [h4]
    simp [Instr.lookup, run_underlying hu, MapKept.run_getObj_map hb, hck, hf, Result.andThen]
theorem q_lookup {t kt et : TypeId} {x y : Operand} {id : Nat} (K : MKey κ) {f : β → AV} {m : List (κ × β)} {k : κ} {ti tj : TI} {r : AV} (ho : o.op = .lookup t x y false := by exact rfl) (hx : s.ev x = .mp id 0 := by exact rfl) (hy : s.ev y = .v (K.kv k) := by exact rfl)
    (hob : s.h id = some (.map (me K f m)) := by exact rfl) (ht : te.get t = some ti := by exact rfl) (hk : ti.k = .map kt et := by exact rfl) (hkd : Try.prog.underlying kt = some K.d := by exact rfl) (he : te.get et = some tj := by exact rfl) (ha : tj.k.agg = false := by exact rfl)
    (hr : mres f (.v ((tj.zero.map ZC.val).headD undef)) (mget m k) = r := by first | exact mres_tf _ | exact mres_int _ | exact rfl)
    (hdd : o.dst = d := by conv => lhs; whnf) (hd : d.all (Nat.blt · n) = true := by exact rfl) : OpOk Try.prog n o s (s.put d r) :=
  .val hdd hd fun Λ w φ a hs => by
    obtain ⟨l, b, ents, clock, h1, h2, h3, h4, h5⟩ := map_at hs.hs hob
    have hxv := hs.ev x
    rw [hx] at hxv
    have e1 := rep_mp hxv h1 h3 h2
    have e2 := ev_v hs hy
    obtain ⟨z, z1, z2, z3⟩ := (te_ok.tells he).run_zero w
    rw [ha] at z3
    obtain ⟨v, v1, v2⟩ := run_lookup (P := Try.prog) (k := k) (ok := false) ((te_ok.tells ht).map hk) hkd z1 h4 h5 (za := .v ((tj.zero.map ZC.val).headD undef)) (by rw [z3]; exact .v)
    exact ⟨v, by simp [execOp, ho, e1, e2, v2], hr ▸ v1⟩
theorem q_lookupo {t kt et : TypeId} {x y : Operand} {id : Nat} (K : MKey κ) {f : β → AV} {m : List (κ × β)} {k : κ} {ti tj : TI} {r : AV} (ho : o.op = .lookup t x y true := by exact rfl) (hx : s.ev x = .mp id 0 := by exact rfl) (hy : s.ev y = .v (K.kv k) := by exact rfl)
    (hob : s.h id = some (.map (me K f m)) := by exact rfl) (ht : te.get t = some ti := by exact rfl) (hk : ti.k = .map kt et := by exact rfl) (hkd : Try.prog.underlying kt = some K.d := by exact rfl) (he : te.get et = some tj := by exact rfl) (ha : tj.k.agg = false := by exact rfl)
    (hr : mres f (.v ((tj.zero.map ZC.val).headD undef)) (mget m k) = r := by first | exact mres_tf _ | exact mres_int _ | exact rfl)
    (hdd : o.dst = d := by conv => lhs; whnf) (hd : d.all (Nat.blt · n) = true := by exact rfl) : OpOk Try.prog n o s (s.put d (.tup [r, tf (mget m k).isSome])) :=
  .val hdd hd fun Λ w φ a hs => by
    obtain ⟨l, b, ents, clock, h1, h2, h3, h4, h5⟩ := map_at hs.hs hob
    have hxv := hs.ev x
    rw [hx] at hxv
    have e1 := rep_mp hxv h1 h3 h2
    have e2 := ev_v hs hy
    obtain ⟨z, z1, z2, z3⟩ := (te_ok.tells he).run_zero w
    rw [ha] at z3
    obtain ⟨v, v1, v2⟩ := run_lookup (P := Try.prog) (k := k) (ok := true) ((te_ok.tells ht).map hk) hkd z1 h4 h5 (za := .v ((tj.zero.map ZC.val).headD undef)) (by rw [z3]; exact .v)
    refine ⟨_, by simp [execOp, ho, e1, e2, v2]; rfl, .tup (fun j => if j = 0 then v else .bool (mget m k).isSome) rfl (fun j hj => ?_) (fun j c hj => ?_)⟩
    · match j, hj with
      | 0, _ => rfl
      | 1, _ => rfl
    · match j, hj with
      | 0, hj => cases hj; exact hr ▸ v1
      | 1, hj => cases hj; exact .v
theorem Chg.map {w : World} {φ : PMap} {Λ : Lent} {h : Heap} (hs : HSim w φ Λ h) {id b : Nat} {l : Loc} {ents : Array MapEntry} {clock : Nat} (hl : φ id = some l) (hbo : l.bo = some (b, 0)) (hb : w.heap[b]? = some (.map ents clock)) (ob : Obj) :
    Chg w φ Λ h id l { w with heap := w.heap.setIfInBounds b ob } where
  hs := hs
  size := by simp
  os := rfl
  tape := rfl
  output := rfl
  other k hk hne := (MapKept.heap_set hb).2 k (hne l b 0 hl hbo)
  loc b' o' h' := by
    rw [hbo] at h'; cases h'
    exact ⟨by have := (Array.getElem?_eq_some_iff.1 hb).1; simpa using this, .inr ⟨l, 0, hl, hbo⟩⟩
  ver l0 h0 := by rw [hl] at h0; cases h0; exact .inl rfl
  sizes l0 h0 _ b0 o0 arr T mm hb0 hh := by
    rw [hl] at h0; cases h0
    rw [hbo] at hb0; cases hb0
    rw [hb] at hh; cases hh
theorem q_mapUpdate {t kt et : TypeId} {x y z : Operand} {id : Nat} (K : MKey κ) {f : β → AV} {m : List (κ × β)} {k : κ} (v : β) {ti : TI} (ho : o.op = .mapUpdate t x y z := by exact rfl) (hx : s.ev x = .mp id 0 := by exact rfl) (hy : s.ev y = .v (K.kv k) := by exact rfl)
    (hob : s.h id = some (.map (me K f m)) := by exact rfl) (hz : s.ev z = f v := by exact rfl) (ht : te.get t = some ti := by exact rfl) (hk : ti.k = .map kt et := by exact rfl) (hkd : Try.prog.underlying kt = some K.d := by exact rfl)
    (hdd : o.dst = d := by conv => lhs; whnf) (hd : d.all (Nat.blt · n) = true := by exact rfl) : OpOk Try.prog n o s ((s.seth id (some (.map (me K f (mput m k v))))).put d (.v undef)) :=
  .chg hdd hd fun Λ w φ a hs => by
    obtain ⟨l, b, ents, clock, h1, h2, h3, h4, h5⟩ := map_at hs.hs hob
    have hxv := hs.ev x
    rw [hx] at hxv
    have e1 := rep_mp hxv h1 h3 h2
    have e2 := ev_v hs hy
    have e3 := hs.ev z
    rw [hz] at e3
    have hu := (te_ok.tells ht).map hk
    have hck := MapKept.run_checkKey (w := w) hkd (K.isKey k) false 9999
    rcases mfind m k with ⟨g1, g2, g3, _⟩ | ⟨j, p, g1, g2, g3, g4, g5, _⟩
    · have hf := MapKept.run_findKey (w := w) hkd (h5.none g2)
      have hc := Chg.map hs.hs h1 h2 h4 (.map (ents.push { key := K.kv k, val := a.eval z, born := clock }) (clock + 1))
      refine ⟨.skip, _, l, ?_, hc, ⟨b, _, _, h2, h3, (MapKept.heap_set h4).1, ?_, fun q r hq => ?_⟩, undef, .inr ⟨rfl, rfl⟩, .v⟩
      · simp [execOp, ho, e1, e2, Instr.mapUpdate, run_underlying hu, MapKept.run_getObj_map h4, hck, hf, Result.andThen, MapKept.run_setObj_map _ h4]
      · rw [g3]; simp [me, h5.size]
      · rw [g3, me, List.getElem?_map, Option.map_eq_some_iff] at hq
        obtain ⟨p, hp, rfl⟩ := hq
        by_cases hlt : q < m.length
        · rw [List.getElem?_append_left hlt] at hp
          obtain ⟨e, q1, q2, q3⟩ := h5.at' q p hp
          exact ⟨e, by rw [Array.getElem?_push, if_neg (by rw [h5.size]; omega)]; exact q1, q2, hc.rep q3⟩
        · rw [List.getElem?_append_right (by omega)] at hp
          have hq0 : q - m.length = 0 := by
            have := (List.getElem?_eq_some_iff.1 hp).1
            simp at this; omega
          rw [hq0] at hp
          simp at hp; subst hp
          exact ⟨{ key := K.kv k, val := a.eval z, born := clock }, by rw [Array.getElem?_push, if_pos (by rw [h5.size]; omega)], rfl, hc.rep e3⟩
    · obtain ⟨e, q1, q2, q3, q4⟩ := h5.some g1 g2 g3
      have hf := MapKept.run_findKey (w := w) hkd q4
      have hc := Chg.map hs.hs h1 h2 h4 (.map (ents.modify j fun e => { e with key := K.kv k, val := a.eval z }) clock)
      refine ⟨.skip, _, l, ?_, hc, ⟨b, _, _, h2, h3, (MapKept.heap_set h4).1, ?_, fun q r hq => ?_⟩, undef, .inr ⟨rfl, rfl⟩, .v⟩
      · simp [execOp, ho, e1, e2, Instr.mapUpdate, run_underlying hu, MapKept.run_getObj_map h4, hck, hf, Result.andThen, MapKept.run_setObj_map _ h4, q1, q2, Instr.keyThatStays, K.same]
      · rw [g5]; simp [me, h5.size]
      · rw [g5, me, List.getElem?_map, Option.map_eq_some_iff] at hq
        obtain ⟨p', hp, rfl⟩ := hq
        rw [List.getElem?_set] at hp
        by_cases hjq : j = q
        · subst hjq
          have hlt := (List.getElem?_eq_some_iff.1 g1).1
          simp [hlt] at hp; subst hp
          exact ⟨{ e with key := K.kv k, val := a.eval z }, by rw [Array.getElem?_modify, if_pos rfl, q1]; rfl, rfl, hc.rep e3⟩
        · rw [if_neg hjq] at hp
          obtain ⟨e', r1, r2, r3⟩ := h5.at' q p' hp
          exact ⟨e', by rw [Array.getElem?_modify, if_neg hjq]; exact r1, r2, hc.rep r3⟩
end rules
end Go.Proofs.Ytkfccjbihcbmiaa.Fw


set_option linter.unusedVariables false
set_option linter.unusedSimpArgs false
namespace Go.Proofs.Ytkfccjbihcbmiaa.Fw
open Go.RowKit
theorem or8 (a b : UInt8) : ((((a.toNat : Int) * 2 ^ 8).toNat ||| ((b.toNat : Int)).toNat : Nat) : Int) = ((a.toNat * 256 + b.toNat : Nat) : Int) := by
  have hb := b.toNat_lt
  have e : ((a.toNat : Int) * 2 ^ 8).toNat = 2 ^ 8 * a.toNat := by omega
  rw [e, Int.toNat_natCast, ← Nat.two_pow_add_eq_or_of_lt (by omega : b.toNat < 2 ^ 8) a.toNat]
  omega
theorem q_or_bytes {n : Nat} {s : AS} {o : Oper} {d : Option Tmp} {t u : TypeId} {x y : Operand} {p q : UInt8} (ho : o.op = .binOp .or t x y u := by exact rfl) (hx : s.ev x = i64 ((p.toNat : Int) * 2 ^ 8) := by exact rfl) (hy : s.ev y = i64 q.toNat := by exact rfl)
    (hdd : o.dst = d := by conv => lhs; whnf) (hd : d.all (Nat.blt · n) = true := by exact rfl) : OpOk Try.prog n o s (s.put d (i64 ((p.toNat * 256 + q.toNat : Nat) : Int))) := by
  have hp := p.toNat_lt
  have hq := q.toNat_lt
  rw [← or8]
  exact q_or ho hx hy (by omega) (by omega) hdd hd
def wideB (b : Nat) (n : Int) : Bool := decide (n < 0) || decide (n ≥ 1 * 2 ^ b)
theorem wideB4 {n : Int} : wideB 4 n = false ↔ 0 ≤ n ∧ n ≤ 15 := by simp [wideB]; omega
theorem wideB16 {n : Int} : wideB 16 n = false ↔ 0 ≤ n ∧ n ≤ 65535 := by simp [wideB]; omega
theorem pow_le {b : Nat} (hb : b ≤ 16) : 0 ≤ (2 : Int) ^ b ∧ (2 : Int) ^ b ≤ 65536 := by
  have h : ∀ b : _root_.Fin 17, 0 ≤ (2 : Int) ^ b.val ∧ (2 : Int) ^ b.val ≤ 65536 := by decide
  exact h ⟨b, by omega⟩
structure Hd where
  id : Int
  resp : Bool
  op : Int
  aa : Bool
  tc : Bool
  rd : Bool
  ra : Bool
  code : Int
abbrev Hd.cells (h : Hd) : List AV := [i64 h.id, tf h.resp, i64 h.op, tf h.aa, tf h.tc, tf h.rd, tf h.ra, i64 h.code]
def Hd.can (h : Hd) (c0 c1 c2 c3 : Int) : Prop := (0 ≤ h.id ∧ h.id ≤ 65535) ∧ (0 ≤ h.op ∧ h.op ≤ 15) ∧ (0 ≤ h.code ∧ h.code ≤ 15) ∧ (0 ≤ c0 ∧ c0 ≤ 65535) ∧ (0 ≤ c1 ∧ c1 ≤ 65535) ∧ (0 ≤ c2 ∧ c2 ≤ 65535) ∧ (0 ≤ c3 ∧ c3 ≤ 65535)
instance (h : Hd) (c0 c1 c2 c3 : Int) : Decidable (h.can c0 c1 c2 c3) := by unfold Hd.can; infer_instance
def Hd.flN (h : Hd) (i : Nat) : Int := h.op * 2048 + h.code + (if 0 < i ∧ h.resp = true then 32768 else 0) + (if 1 < i ∧ h.aa = true then 1024 else 0) + (if 2 < i ∧ h.tc = true then 512 else 0) + (if 3 < i ∧ h.rd = true then 256 else 0) + (if 4 < i ∧ h.ra = true then 128 else 0)
def two (n : Int) : List UInt8 := [byte (n / 2 ^ 8), byte n]
def Hd.nums (h : Hd) (c0 c1 c2 c3 : Int) : List Int := [h.id, h.flN 5, c0, c1, c2, c3]
def Hd.bytes (h : Hd) (c0 c1 c2 c3 : Int) : List UInt8 := (h.nums c0 c1 c2 c3).flatMap two
theorem Hd.bytes_length (h : Hd) (c0 c1 c2 c3 : Int) : (h.bytes c0 c1 c2 c3).length = 12 := rfl
theorem can_iff {h : Hd} {c0 c1 c2 c3 : Int} : h.can c0 c1 c2 c3 ↔ wideB 16 h.id = false ∧ (wideB 4 h.op = false ∧ wideB 4 h.code = false) ∧ wideB 16 c0 = false ∧ wideB 16 c1 = false ∧ wideB 16 c2 = false ∧ wideB 16 c3 = false := by
  simp only [wideB16, wideB4, Hd.can, and_assoc]
theorem or_pow (x k : Nat) (h : x / 2 ^ k % 2 = 0) : x ||| 2 ^ k = x + 2 ^ k := by
  have h1 : x = 2 ^ (k + 1) * (x / 2 ^ (k + 1)) + x % 2 ^ k := by
    have e1 := Nat.div_add_mod x (2 ^ k)
    have e2 := Nat.div_add_mod (x / 2 ^ k) 2
    rw [h, Nat.add_zero, Nat.div_div_eq_div_mul, ← Nat.pow_succ] at e2
    rw [Nat.pow_succ, Nat.mul_assoc, ← Nat.pow_succ, e2]
    exact e1.symm
  have hlt : x % 2 ^ k < 2 ^ k := Nat.mod_lt _ (Nat.two_pow_pos k)
  generalize hq : x / 2 ^ (k + 1) = q at h1
  generalize hr : x % 2 ^ k = r at h1 hlt
  subst h1
  have e3 : 2 ^ (k + 1) = 2 ^ k * 2 := Nat.pow_succ ..
  rw [Nat.two_pow_add_eq_or_of_lt (by omega : r < 2 ^ (k + 1)) q, Nat.or_assoc]
  have e4 : r ||| 2 ^ k = 2 ^ k * 1 + r := by
    rw [Nat.two_pow_add_eq_or_of_lt hlt 1, Nat.mul_one, Nat.or_comm]
  rw [e4, ← Nat.two_pow_add_eq_or_of_lt (by omega : 2 ^ k * 1 + r < 2 ^ (k + 1)) q, ← Nat.two_pow_add_eq_or_of_lt (by omega : r < 2 ^ (k + 1)) q]
  omega
theorem or_int {x : Int} {k : Nat} {m : Int} (h0 : 0 ≤ x) (hm : m = 2 ^ k) (h : x.toNat / 2 ^ k % 2 = 0) : ((x.toNat ||| m.toNat : Nat) : Int) = x + m := by
  subst hm
  have : ((2 : Int) ^ k).toNat = 2 ^ k := by
    have : (2 : Int) ^ k = ((2 ^ k : Nat) : Int) := by simp
    rw [this, Int.toNat_natCast]
  rw [this, or_pow _ _ h]
  simp
  omega
theorem fl_start {h : Hd} (hop : 0 ≤ h.op ∧ h.op ≤ 15) (hco : 0 ≤ h.code ∧ h.code ≤ 15) : (((h.op * 2 ^ 11).toNat ||| h.code.toNat : Nat) : Int) = h.op * 2048 + h.code := by
  have e : (h.op * 2 ^ 11).toNat = 2 ^ 11 * h.op.toNat := by omega
  rw [e, ← Nat.two_pow_add_eq_or_of_lt (by omega : h.code.toNat < 2 ^ 11) h.op.toNat]
  omega
theorem fl_start' {h : Hd} (hop : 0 ≤ h.op ∧ h.op ≤ 15) (hco : 0 ≤ h.code ∧ h.code ≤ 15) : (((h.op * 2 ^ 11).toNat ||| h.code.toNat : Nat) : Int) = h.flN 0 := by
  rw [fl_start hop hco]
  simp [Hd.flN]
theorem Hd.fl_pos {h : Hd} (hop : 0 ≤ h.op ∧ h.op ≤ 15) (hco : 0 ≤ h.code ∧ h.code ≤ 15) (i : Nat) : 0 ≤ h.flN i ∧ h.flN i ≤ 65535 := by
  unfold Hd.flN
  repeat' split
  all_goals omega
theorem Hd.fl0 {h : Hd} (hop : 0 ≤ h.op ∧ h.op ≤ 15) (hco : 0 ≤ h.code ∧ h.code ≤ 15) (hb : h.resp = true) : (((h.flN 0).toNat ||| (32768 : Int).toNat : Nat) : Int) = h.flN 1 := by
  rw [or_int (k := 15) (hop.1 |> fun _ => (Hd.fl_pos hop hco 0).1) (by decide) (by simp [Hd.flN]; omega)]
  simp [Hd.flN, hb]
theorem Hd.fl1 {h : Hd} (hop : 0 ≤ h.op ∧ h.op ≤ 15) (hco : 0 ≤ h.code ∧ h.code ≤ 15) (hb : h.aa = true) : (((h.flN 1).toNat ||| (1024 : Int).toNat : Nat) : Int) = h.flN 2 := by
  rw [or_int (k := 10) (Hd.fl_pos hop hco 1).1 (by decide) (by cases hr : h.resp <;> simp [Hd.flN, hr] <;> omega)]
  simp [Hd.flN, hb]
theorem Hd.fl2 {h : Hd} (hop : 0 ≤ h.op ∧ h.op ≤ 15) (hco : 0 ≤ h.code ∧ h.code ≤ 15) (hb : h.tc = true) : (((h.flN 2).toNat ||| (512 : Int).toNat : Nat) : Int) = h.flN 3 := by
  rw [or_int (k := 9) (Hd.fl_pos hop hco 2).1 (by decide) (by cases hr : h.resp <;> cases ha : h.aa <;> simp [Hd.flN, hr, ha] <;> omega)]
  simp [Hd.flN, hb]
theorem Hd.fl3 {h : Hd} (hop : 0 ≤ h.op ∧ h.op ≤ 15) (hco : 0 ≤ h.code ∧ h.code ≤ 15) (hb : h.rd = true) : (((h.flN 3).toNat ||| (256 : Int).toNat : Nat) : Int) = h.flN 4 := by
  rw [or_int (k := 8) (Hd.fl_pos hop hco 3).1 (by decide) (by cases hr : h.resp <;> cases ha : h.aa <;> cases ht : h.tc <;> simp [Hd.flN, hr, ha, ht] <;> omega)]
  simp [Hd.flN, hb]
theorem Hd.fl4 {h : Hd} (hop : 0 ≤ h.op ∧ h.op ≤ 15) (hco : 0 ≤ h.code ∧ h.code ≤ 15) (hb : h.ra = true) : (((h.flN 4).toNat ||| (128 : Int).toNat : Nat) : Int) = h.flN 5 := by
  rw [or_int (k := 7) (Hd.fl_pos hop hco 4).1 (by decide) (by cases hr : h.resp <;> cases ha : h.aa <;> cases ht : h.tc <;> cases hd : h.rd <;> simp [Hd.flN, hr, ha, ht, hd] <;> omega)]
  simp [Hd.flN, hb]
theorem Hd.fl_skip {h : Hd} (i : Nat) (hb : (i = 0 → h.resp = false) ∧ (i = 1 → h.aa = false) ∧ (i = 2 → h.tc = false) ∧ (i = 3 → h.rd = false) ∧ (i = 4 → h.ra = false)) : h.flN i = h.flN (i + 1) := by
  obtain ⟨h0, h1, h2, h3, h4⟩ := hb
  rcases i with _ | _ | _ | _ | _ | i
  · simp [Hd.flN, h0 rfl]
  · simp [Hd.flN, h1 rfl]
  · simp [Hd.flN, h2 rfl]
  · simp [Hd.flN, h3 rfl]
  · simp [Hd.flN, h4 rfl]
  · simp [Hd.flN]
def hB (h : Hd) (c0 c1 c2 c3 : Int) : List UInt8 := if h.can c0 c1 c2 c3 then h.bytes c0 c1 c2 c3 else []
def hE (h : Hd) (c0 c1 c2 c3 : Int) : Int := if h.can c0 c1 c2 c3 then 0 else 1
theorem hB_yes {h : Hd} {c0 c1 c2 c3 : Int} (k : h.can c0 c1 c2 c3) : hB h c0 c1 c2 c3 = h.bytes c0 c1 c2 c3 := if_pos k
theorem hE_yes {h : Hd} {c0 c1 c2 c3 : Int} (k : h.can c0 c1 c2 c3) : hE h c0 c1 c2 c3 = 0 := if_pos k
theorem hB_no {h : Hd} {c0 c1 c2 c3 : Int} (k : ¬ h.can c0 c1 c2 c3) : hB h c0 c1 c2 c3 = [] := if_neg k
theorem hE_no {h : Hd} {c0 c1 c2 c3 : Int} (k : ¬ h.can c0 c1 c2 c3) : hE h c0 c1 c2 c3 = 1 := if_neg k
abbrev Hd.flags (h : Hd) : List Bool := [h.resp, h.aa, h.tc, h.rd, h.ra]
abbrev masks : List Int := [32768, 1024, 512, 256, 128]
theorem masks_at (i : Nat) : 0 ≤ masks.getD i default ∧ masks.getD i default ≤ 32768 := by
  match i with
  | 0 | 1 | 2 | 3 | 4 => simp
  | i + 5 => simp
theorem Hd.fl_on {h : Hd} (hop : 0 ≤ h.op ∧ h.op ≤ 15) (hco : 0 ≤ h.code ∧ h.code ≤ 15) {i : Nat} (hi : i < 5) (hb : h.flags.getD i default = true) : (((h.flN i).toNat ||| (masks.getD i default).toNat : Nat) : Int) = h.flN (i + 1) := by
  match i, hi, hb with
  | 0, _, hb => exact Hd.fl0 hop hco hb
  | 1, _, hb => exact Hd.fl1 hop hco hb
  | 2, _, hb => exact Hd.fl2 hop hco hb
  | 3, _, hb => exact Hd.fl3 hop hco hb
  | 4, _, hb => exact Hd.fl4 hop hco hb
theorem Hd.fl_off {h : Hd} {i : Nat} (hi : i < 5) (hb : h.flags.getD i default = false) : h.flN i = h.flN (i + 1) := by
  match i, hi, hb with
  | 0, _, hb => exact Hd.fl_skip 0 (by simp_all)
  | 1, _, hb => exact Hd.fl_skip 1 (by simp_all)
  | 2, _, hb => exact Hd.fl_skip 2 (by simp_all)
  | 3, _, hb => exact Hd.fl_skip 3 (by simp_all)
  | 4, _, hb => exact Hd.fl_skip 4 (by simp_all)
theorem two_step {l : List Int} {j : Nat} (hj : j < l.length) : (l.take (j + 1)).flatMap two = (l.take j).flatMap two ++ [byte (l.getD j default / 2 ^ 8), byte (l.getD j default)] := by
  rw [List.take_succ_eq_append_getElem hj, List.flatMap_append]
  simp [two, List.getD_eq_getElem?_getD, List.getElem?_eq_getElem hj]
theorem two_len : ∀ l : List Int, (l.flatMap two).length = 2 * l.length
  | [] => rfl
  | a :: l => by rw [List.flatMap_cons, List.length_append, two_len l, List.length_cons]; simp [two]; omega
theorem Hd.can_of {h : Hd} {c0 c1 c2 c3 : Int} (h1 : [h.id].any (wideB 16) = false) (h2 : [h.op, h.code].any (wideB 4) = false) (h3 : [c0, c1, c2, c3].any (wideB 16) = false) : h.can c0 c1 c2 c3 := by
  simp only [List.any_cons, List.any_nil, Bool.or_false, Bool.or_eq_false_iff] at h1 h2 h3
  exact can_iff.2 ⟨h1, h2, h3⟩
theorem Hd.not_can1 {h : Hd} {c0 c1 c2 c3 : Int} (h1 : [h.id].any (wideB 16) = true) : ¬ h.can c0 c1 c2 c3 := fun hc => by
  obtain ⟨q1, _⟩ := can_iff.1 hc
  simp [q1] at h1
theorem Hd.not_can2 {h : Hd} {c0 c1 c2 c3 : Int} (h1 : [h.op, h.code].any (wideB 4) = true) : ¬ h.can c0 c1 c2 c3 := fun hc => by
  obtain ⟨_, ⟨q1, q2⟩, _⟩ := can_iff.1 hc
  simp [q1, q2] at h1
theorem Hd.not_can3 {h : Hd} {c0 c1 c2 c3 : Int} (h1 : [c0, c1, c2, c3].any (wideB 16) = true) : ¬ h.can c0 c1 c2 c3 := fun hc => by
  obtain ⟨_, _, q1, q2, q3, q4⟩ := can_iff.1 hc
  simp [q1, q2, q3, q4] at h1
set_option maxRecDepth 20000 in
set_option maxHeartbeats 2000000 in
theorem c_header_wide_1 (n : Int) (b lv : Nat) (hb : b ≤ 16) : AC Try.prog 91 [i64 n, .fp lv [i64 b]] emp (Ret (tf (wideB b n))) := by
 have hp := pow_le hb
 refine AC.intro te_ok (fn := Try.f91) ⟨Try.func91, rfl, rfl⟩ (Nat.le_of_ble_eq_true rfl) ?_
 refine AWp.seq ?_
 refine AWp.region ?_
 refine AOps.cons rfl rfl (q_assign) ?_
 refine AOps.nil ?_
 refine AWp.seq ?_
 refine AWp.region ?_
 refine AOps.cons rfl rfl (q_move) ?_
 refine AOps.dec rfl rfl (q_lss) (fun h1_1 => ?_) (fun h1_1 => ?_)
 ·
  refine AOps.cons rfl rfl (q_move) ?_
  refine AOps.gskip rfl rfl rfl rfl rfl rfl rfl rfl ?_
  refine AOps.gskip rfl rfl rfl rfl rfl rfl rfl rfl ?_
  refine AOps.gskip rfl rfl rfl rfl rfl rfl rfl rfl ?_
  refine AOps.gskip rfl rfl rfl rfl rfl rfl rfl rfl ?_
  refine AOps.cons rfl rfl (q_pick) ?_
  refine AOps.cons rfl rfl (q_assign) ?_
  refine AOps.nil ?_
  refine AWp.ret ?_
  show Fin te Try.f91 _ _
  refine q_ret (0) [_] [_] ?_
  simp [wideB, h1_1, resVal]
 ·
  refine AOps.cons rfl rfl (q_move) ?_
  refine AOps.gcons rfl rfl rfl rfl rfl (q_move) ?_
  refine AOps.gcons rfl rfl rfl rfl rfl (q_load) ?_
  refine AOps.gcons rfl rfl rfl rfl rfl (q_shl b) ?_
  refine AOps.gcons rfl rfl rfl rfl rfl (q_geq) ?_
  refine AOps.cons rfl rfl (q_pick) ?_
  refine AOps.cons rfl rfl (q_assign) ?_
  refine AOps.nil ?_
  refine AWp.ret ?_
  show Fin te Try.f91 _ _
  refine q_ret (0) [_] [_] ?_
  simp [wideB, h1_1, resVal]
set_option maxRecDepth 20000 in
set_option maxHeartbeats 2000000 in
theorem c_header_wide (b : Nat) (l : List Int) (lv : Nat) (hb : b ≤ 16) (hl : l.length ≤ 140737488351232) : AC Try.prog 60 [i64 b, .fz lv l.length (cl ic l)] emp (Ret (tf (l.any (wideB b)))) := by
 refine AC.intro te_ok (fn := Try.f60) ⟨Try.func60, rfl, rfl⟩ (Nat.le_of_ble_eq_true rfl) ?_
 refine AWp.seq ?_
 refine AWp.region ?_
 refine AOps.cons rfl rfl (q_box 100) ?_
 refine AOps.cons rfl rfl (q_assign) ?_
 refine AOps.nil ?_
 refine AWp.seq ?_
 refine AWp.region ?_
 refine AOps.cons rfl rfl (q_move) ?_
 refine AOps.cons rfl rfl (q_makeFunc [] [_]) ?_
 refine AOps.cons rfl rfl (q_call (lv) (hc := (c_ContainsFunc_int l lv 0 (lv + 1) _ (wideB b) hl (by simp [AV.oks, AV.ok]) (fun n _ => c_header_wide_1 n b _ hb)))) ?_
 refine AOps.cons rfl rfl (q_assign) ?_
 refine AOps.nil ?_
 refine AWp.ret ?_
 show Fin te Try.f60 _ _
 refine q_ret (0) [_] [_] ?_
 rfl
set_option maxRecDepth 20000 in
set_option maxHeartbeats 2000000 in
theorem co_header_Encode (h : Hd) (c0 c1 c2 c3 : Int) : AC Try.prog 26 [.agg [i64 h.id, tf h.resp, i64 h.op, tf h.aa, tf h.tc, tf h.rd, tf h.ra, i64 h.code], .agg [i64 c0, i64 c1, i64 c2, i64 c3]] (hlook []) (RetH (.tup [.sl 8 0 0 (hB h c0 c1 c2 c3).length 1, i64 (hE h c0 c1 c2 c3)]) [(8, .row (cl bc (hB h c0 c1 c2 c3)) 1 0)]) := by
 refine AC.intro te_ok (fn := Try.f26) ⟨Try.func26, rfl, rfl⟩ (Nat.le_of_ble_eq_true rfl) ?_
 refine AWp.seq ?_
 refine AWp.region ?_
 refine AOps.cons rfl rfl (q_box 100) ?_
 refine AOps.cons rfl rfl (q_box 101) ?_
 refine AOps.cons rfl rfl (q_nilz (0) bc) ?_
 refine AOps.cons rfl rfl (q_assign) ?_
 refine AOps.nil ?_
 refine AWp.seq ?_
 refine AWp.seq ?_
 refine AWp.region ?_
 refine AOps.cons rfl rfl (q_fa) ?_
 refine AOps.cons rfl rfl (q_load) ?_
 refine AOps.cons rfl rfl (q_bs 202 ic [_] [(_, _)]) ?_
 refine AOps.bool rfl rfl (q_call (0) (hc := (c_header_wide 16 [h.id] _ (by decide) (by simp)))) (fun h1_3 => ?_) (fun h1_3 => ?_)
 ·
  refine AOps.cons rfl rfl (q_move) ?_
  refine AOps.gskip rfl rfl rfl rfl rfl rfl rfl rfl ?_
  refine AOps.gskip rfl rfl rfl rfl rfl rfl rfl rfl ?_
  refine AOps.gskip rfl rfl rfl rfl rfl rfl rfl rfl ?_
  refine AOps.gskip rfl rfl rfl rfl rfl rfl rfl rfl ?_
  refine AOps.gskip rfl rfl rfl rfl rfl rfl rfl rfl ?_
  refine AOps.gskip rfl rfl rfl rfl rfl rfl rfl rfl ?_
  refine AOps.cons rfl rfl (q_pick) ?_
  refine AOps.cons rfl rfl (q_move) ?_
  refine AOps.gskip rfl rfl rfl rfl rfl rfl rfl rfl ?_
  refine AOps.gskip rfl rfl rfl rfl rfl rfl rfl rfl ?_
  refine AOps.cons rfl rfl (q_pick) ?_
  refine AOps.nil ?_
  refine AWp.cond_t rfl ?_
  refine AWp.seq ?_
  refine AWp.region ?_
  refine AOps.cons rfl rfl (q_nilrow 8 1 bc) ?_
  refine AOps.cons rfl rfl (q_assign) ?_
  refine AOps.nil ?_
  refine AWp.ret ?_
  show Fin te Try.f26 _ _
  rw [hB_no (Hd.not_can1 h1_3), hE_no (Hd.not_can1 h1_3)]
  refine q_retH (0) [8] [_, _] [.sl 8 0 0 _ 1, _] [(8, .row (cl bc _) 1 0)] ?_
  rfl
 ·
  refine AOps.cons rfl rfl (q_move) ?_
  refine AOps.gcons rfl rfl rfl rfl rfl (q_fa) ?_
  refine AOps.gcons rfl rfl rfl rfl rfl (q_load) ?_
  refine AOps.gcons rfl rfl rfl rfl rfl (q_fa) ?_
  refine AOps.gcons rfl rfl rfl rfl rfl (q_load) ?_
  refine AOps.gcons rfl rfl rfl rfl rfl (q_bs 209 ic [_, _] [(_, _), (_, _)]) ?_
  refine AOps.gbool rfl rfl rfl rfl rfl (q_call (0) (hc := (c_header_wide 4 [h.op, h.code] _ (by decide) (by simp)))) (fun h1_10 => ?_) (fun h1_10 => ?_)
  ·
   refine AOps.cons rfl rfl (q_pick) ?_
   refine AOps.cons rfl rfl (q_move) ?_
   refine AOps.gskip rfl rfl rfl rfl rfl rfl rfl rfl ?_
   refine AOps.gskip rfl rfl rfl rfl rfl rfl rfl rfl ?_
   refine AOps.cons rfl rfl (q_pick) ?_
   refine AOps.nil ?_
   refine AWp.cond_t rfl ?_
   refine AWp.seq ?_
   refine AWp.region ?_
   refine AOps.cons rfl rfl (q_nilrow 8 1 bc) ?_
   refine AOps.cons rfl rfl (q_assign) ?_
   refine AOps.nil ?_
   refine AWp.ret ?_
   show Fin te Try.f26 _ _
   rw [hB_no (Hd.not_can2 h1_10), hE_no (Hd.not_can2 h1_10)]
   refine q_retH (0) [8] [_, _] [.sl 8 0 0 _ 1, _] [(8, .row (cl bc _) 1 0)] ?_
   rfl
  ·
   refine AOps.cons rfl rfl (q_pick) ?_
   refine AOps.cons rfl rfl (q_move) ?_
   refine AOps.gcons rfl rfl rfl rfl rfl (q_sla) ?_
   refine AOps.gbool rfl rfl rfl rfl rfl (q_call (0) (hA := by exact ⟨fv_ok rfl, fv_row rfl rfl rfl (Nat.le_of_ble_eq_true rfl) (by decide) rfl, trivial⟩) (hc := (c_header_wide 16 [c0, c1, c2, c3] _ (by decide) (by simp)))) (fun h1_14 => ?_) (fun h1_14 => ?_)
   ·
    refine AOps.cons rfl rfl (q_pick) ?_
    refine AOps.nil ?_
    refine AWp.cond_t rfl ?_
    refine AWp.seq ?_
    refine AWp.region ?_
    refine AOps.cons rfl rfl (q_nilrow 8 1 bc) ?_
    refine AOps.cons rfl rfl (q_assign) ?_
    refine AOps.nil ?_
    refine AWp.ret ?_
    show Fin te Try.f26 _ _
    rw [hB_no (Hd.not_can3 h1_14), hE_no (Hd.not_can3 h1_14)]
    refine q_retH (0) [8] [_, _] [.sl 8 0 0 _ 1, _] [(8, .row (cl bc _) 1 0)] ?_
    rfl
   ·
    refine AOps.cons rfl rfl (q_pick) ?_
    refine AOps.nil ?_
    refine AWp.cond_f rfl ?_
    refine AWp.skip ?_
    refine AWp.seq ?_
    refine AWp.region ?_
    have hcan : h.can c0 c1 c2 c3 := Hd.can_of h1_3 h1_10 h1_14
    obtain ⟨hid, hop, hco, hc0, hc1, hc2, hc3⟩ := id hcan
    refine AOps.cons rfl rfl (q_fa) ?_
    refine AOps.cons rfl rfl (q_load) ?_
    refine AOps.cons rfl rfl (q_shl 11) ?_
    refine AOps.cons rfl rfl (q_fa) ?_
    refine AOps.cons rfl rfl (q_load) ?_
    refine AOps.cons rfl rfl (q_or) ?_
    refine AOps.cons rfl rfl (q_assign) ?_
    refine AOps.nil ?_
    refine AWp.seq ?_
    refine AWp.region ?_
    refine AOps.cons rfl rfl (q_buildA ic [32768, 1024, 512, 256, 128] [(_, _), (_, _), (_, _), (_, _), (_, _)]) ?_
    refine AOps.cons rfl rfl (q_alloc 501) ?_
    refine AOps.cons rfl rfl (q_store) ?_
    refine AOps.nil ?_
    refine AWp.seq ?_
    refine AWp.seq ?_
    refine AWp.region ?_
    refine AOps.cons rfl rfl (q_fa) ?_
    refine AOps.cons rfl rfl (q_load) ?_
    refine AOps.cons rfl rfl (q_fa) ?_
    refine AOps.cons rfl rfl (q_load) ?_
    refine AOps.cons rfl rfl (q_fa) ?_
    refine AOps.cons rfl rfl (q_load) ?_
    refine AOps.cons rfl rfl (q_fa) ?_
    refine AOps.cons rfl rfl (q_load) ?_
    refine AOps.cons rfl rfl (q_fa) ?_
    refine AOps.cons rfl rfl (q_load) ?_
    refine AOps.cons rfl rfl (q_buildA tc [_, _, _, _, _] [(_, _), (_, _), (_, _), (_, _), (_, _)]) ?_
    refine AOps.cons rfl rfl (q_move) ?_
    refine AOps.nil ?_
    refine AWp.block ?_
    refine AWp.loopR (α := Nat) [6, 8, 9, 47, 48, 49, 50, 51, 52, 53, 54, 55, 56, 57] (fun i => [(47, i64 i), (6, i64 (h.flN i))]) (fun i => []) (fun i => i ≤ 5) (fun i => 5 - i) 0 ?_ (Back.mk' (HasT.cons (HasT.cons HasT.nil (h1 := by exact i64_eq (fl_start' hop hco)) )) HasH.nil) ?_
    ·
     decide
    ·
     rintro i hi
     refine AWp.seq ?_
     refine AWp.region ?_
     refine AOps.dec rfl rfl (q_lss) (fun h6_0 => ?_) (fun h6_0 => ?_)
     ·
      refine AOps.nil ?_
      refine AWp.seq ?_
      refine AWp.cond_t rfl ?_
      refine AWp.skip ?_
      refine AWp.seq ?_
      refine AWp.block ?_
      refine AWp.seq ?_
      refine AWp.region ?_
      refine AOps.cons rfl rfl (q_move) ?_
      refine AOps.bool rfl rfl (q_ixagg) (fun h7_1 => ?_) (fun h7_1 => ?_)
      ·
       refine AOps.cons rfl rfl (q_assign) ?_
       refine AOps.cons rfl rfl (q_assign) ?_
       refine AOps.nil ?_
       refine AWp.seq ?_
       refine AWp.region ?_
       refine AOps.cons rfl rfl (q_move) ?_
       refine AOps.nil ?_
       refine AWp.cond_t rfl ?_
       refine AWp.region ?_
       have hfl := Hd.fl_pos hop hco i
       have hm : 0 ≤ ([32768, 1024, 512, 256, 128] : List Int).getD (i : Int).toNat default ∧ ([32768, 1024, 512, 256, 128] : List Int).getD (i : Int).toNat default ≤ 32768 := masks_at i
       refine AOps.cons rfl rfl (q_move) ?_
       refine AOps.cons rfl rfl (q_move) ?_
       refine AOps.cons rfl rfl (q_ixa) ?_
       refine AOps.cons rfl rfl (q_load) ?_
       refine AOps.cons rfl rfl (q_or) ?_
       refine AOps.cons rfl rfl (q_assign) ?_
       refine AOps.nil ?_
       refine AWp.region ?_
       refine AOps.cons rfl rfl (q_add) ?_
       refine AOps.cons rfl rfl (q_move) ?_
       refine AOps.nil ?_
       refine ⟨i + 1, ?_, Back.mk' (HasT.cons (HasT.cons HasT.nil (h1 := by exact i64_eq (Hd.fl_on hop hco (by omega) h7_1)) )) HasH.nil, ?_⟩
       ·
        omega
       ·
        first | omega | (simp; omega)
      ·
       refine AOps.cons rfl rfl (q_assign) ?_
       refine AOps.cons rfl rfl (q_assign) ?_
       refine AOps.nil ?_
       refine AWp.seq ?_
       refine AWp.region ?_
       refine AOps.cons rfl rfl (q_move) ?_
       refine AOps.nil ?_
       refine AWp.cond_f rfl ?_
       refine AWp.skip ?_
       refine AWp.region ?_
       refine AOps.cons rfl rfl (q_add) ?_
       refine AOps.cons rfl rfl (q_move) ?_
       refine AOps.nil ?_
       refine ⟨i + 1, ?_, Back.mk' (HasT.cons (HasT.cons HasT.nil (h1 := by exact i64_eq (Hd.fl_off (by omega) h7_1)) )) HasH.nil, ?_⟩
       ·
        omega
       ·
        first | omega | (simp; omega)
     ·
      refine AOps.nil ?_
      refine AWp.seq ?_
      refine AWp.cond_f rfl ?_
      refine AWp.exit ?_
      refine AWp.seq ?_
      refine AWp.region ?_
      obtain rfl : i = 5 := by omega
      refine AOps.cons rfl rfl (q_nilrow 8 1 bc) ?_
      refine AOps.nil ?_
      refine AWp.seq ?_
      refine AWp.seq ?_
      refine AWp.region ?_
      refine AOps.cons rfl rfl (q_fa) ?_
      refine AOps.cons rfl rfl (q_load) ?_
      refine AOps.cons rfl rfl (q_move) ?_
      refine AOps.cons rfl rfl (q_ixa) ?_
      refine AOps.cons rfl rfl (q_load) ?_
      refine AOps.cons rfl rfl (q_ixa) ?_
      refine AOps.cons rfl rfl (q_load) ?_
      refine AOps.cons rfl rfl (q_ixa) ?_
      refine AOps.cons rfl rfl (q_load) ?_
      refine AOps.cons rfl rfl (q_ixa) ?_
      refine AOps.cons rfl rfl (q_load) ?_
      refine AOps.cons rfl rfl (q_buildA ic [_, _, _, _, _, _] [(_, _), (_, _), (_, _), (_, _), (_, _), (_, _)]) ?_
      refine AOps.cons rfl rfl (q_move) ?_
      refine AOps.nil ?_
      refine AWp.block ?_
      refine AWp.loopR (α := Nat × List UInt8 × Nat) [10, 12, 70, 71, 72, 73, 74, 75, 76, 77, 78, 79, 80, 81] (fun x_ => [(70, i64 (x_.1)), (10, .sl 8 (x_.2.2) 0 (x_.2.1).length 1)]) (fun x_ => [(8, .row (cl bc (x_.2.1)) 1 (x_.2.2))]) (fun x_ => (x_.1) ≤ 6 ∧ (x_.2.1) = ((h.nums c0 c1 c2 c3).take (x_.1)).flatMap two) (fun x_ => 6 - (x_.1)) (0, [], 0) ?_ (Back.mk' (HasT.cons (HasT.cons HasT.nil)) (HasH.cons HasH.nil)) ?_
      ·
       exact ⟨by decide, rfl⟩
      ·
       rintro ⟨j, acc, v⟩ hI13
       change j ≤ 6 ∧ acc = ((h.nums c0 c1 c2 c3).take j).flatMap two at hI13
       obtain ⟨hj, hacc⟩ := hI13
       refine AWp.as (s' := AS.over _ [10, 12, 70, 71, 72, 73, 74, 75, 76, 77, 78, 79, 80, 81] [(70, i64 j), (10, .sl 8 v 0 acc.length 1)] [(8, .row (cl bc acc) 1 v)]) rfl ?_
       have hal : acc.length ≤ 1000 := by rw [hacc, two_len, List.length_take]; omega
       refine AWp.seq ?_
       refine AWp.region ?_
       refine AOps.dec rfl rfl (q_lss) (fun h13_0 => ?_) (fun h13_0 => ?_)
       ·
        refine AOps.nil ?_
        refine AWp.seq ?_
        refine AWp.cond_t rfl ?_
        refine AWp.skip ?_
        refine AWp.seq ?_
        refine AWp.block ?_
        refine AWp.seq ?_
        refine AWp.region ?_
        refine AOps.cons rfl rfl (q_ixagg) ?_
        refine AOps.cons rfl rfl (q_assign) ?_
        refine AOps.nil ?_
        refine AWp.region ?_
        refine AOps.cons rfl rfl (q_move) ?_
        refine AOps.cons rfl rfl (q_move) ?_
        refine AOps.cons rfl rfl (q_shr 8) ?_
        refine AOps.cons rfl rfl (q_conv_u8) ?_
        refine AOps.cons rfl rfl (q_move) ?_
        refine AOps.cons rfl rfl (q_conv_u8) ?_
        refine AOps.cons rfl rfl (q_bs 1606 bc [_, _] [(_, _), (_, _)]) ?_
        refine AOps.cons rfl rfl (q_app) ?_
        refine AOps.cons rfl rfl (q_assign) ?_
        refine AOps.nil ?_
        refine AWp.region ?_
        refine AOps.cons rfl rfl (q_add) ?_
        refine AOps.cons rfl rfl (q_move) ?_
        refine AOps.nil ?_
        refine ⟨(j + 1, _, _), ?_, Back.mk' (HasT.cons (HasT.cons HasT.nil)) (HasH.cons HasH.nil), ?_⟩
        ·
         try dsimp only
         exact ⟨by omega, by rw [two_step (by show j < 6; omega), hacc]; rfl⟩
        ·
         try dsimp only
         first | omega | (simp; omega)
       ·
        refine AOps.nil ?_
        refine AWp.seq ?_
        refine AWp.cond_f rfl ?_
        refine AWp.exit ?_
        refine AWp.seq ?_
        refine AWp.region ?_
        refine AOps.cons rfl rfl (q_move) ?_
        refine AOps.cons rfl rfl (q_assign) ?_
        refine AOps.cons rfl rfl (q_assign) ?_
        refine AOps.nil ?_
        refine AWp.ret ?_
        show Fin te Try.f26 _ _
        obtain rfl : j = 6 := by omega
        obtain rfl : acc = h.bytes c0 c1 c2 c3 := hacc
        rw [hB_yes hcan, hE_yes hcan]
        refine q_retH (0) [8] [_, _] [.sl 8 0 0 _ 1, _] [(8, .row (cl bc _) 1 0)] ?_
        rfl
theorem c_header_Encode (h : Hd) (c0 c1 c2 c3 : Int) : AC Try.prog 26 [.agg h.cells, .agg [i64 c0, i64 c1, i64 c2, i64 c3]] emp (Ret (.tup [.fz 0 (hB h c0 c1 c2 c3).length (cl bc (hB h c0 c1 c2 c3)), i64 (hE h c0 c1 c2 c3)])) :=
  (co_header_Encode h c0 c1 c2 c3).fz 0 (fv_tup ⟨fv_row0 rfl .row (fun _ => rfl) (by decide) (fun _ => rfl), fv_ok rfl, trivial⟩)
def hnum (b : List UInt8) (j : Nat) : Int := ((b.getD (2 * j) default).toNat * 256 + (b.getD (2 * j + 1) default).toNat : Nat)
theorem num_lt (b : List UInt8) (j : Nat) : 0 ≤ hnum b j ∧ hnum b j ≤ 65535 := by
  unfold hnum
  have h0 := (b.getD (2 * j) default).toNat_lt
  have h1 := (b.getD (2 * j + 1) default).toNat_lt
  omega
def bitAt (f : Int) (k : Nat) : Bool := decide (f / 2 ^ k % 2 = 1)
def dE (b : List UInt8) : Int := if b.length < 12 then 20 else if hnum b 1 / 16 % 8 = 0 then 0 else 21
def dH (b : List UInt8) : Hd := if dE b = 0 then ⟨hnum b 0, bitAt (hnum b 1) 15, hnum b 1 / 2048 % 16, bitAt (hnum b 1) 10, bitAt (hnum b 1) 9, bitAt (hnum b 1) 8, bitAt (hnum b 1) 7, hnum b 1 % 16⟩ else ⟨0, false, 0, false, false, false, false, 0⟩
def dC (b : List UInt8) (j : Nat) : Int := if dE b = 0 then hnum b j else 0
theorem dE_short {b : List UInt8} (h : b.length < 12) : dE b = 20 := if_pos h
theorem dE_bits {b : List UInt8} (h : ¬ b.length < 12) (k : ¬ hnum b 1 / 16 % 8 = 0) : dE b = 21 := by rw [dE, if_neg h, if_neg k]
theorem dE_ok {b : List UInt8} (h : ¬ b.length < 12) (k : hnum b 1 / 16 % 8 = 0) : dE b = 0 := by rw [dE, if_neg h, if_pos k]
theorem and_mask (x m k : Nat) : x &&& (m * 2 ^ k) = (x / 2 ^ k &&& m) * 2 ^ k := by
  apply Nat.eq_of_testBit_eq
  intro i
  simp only [Nat.testBit_and, Nat.testBit_mul_two_pow, Nat.testBit_div_two_pow]
  by_cases h : k ≤ i
  · simp only [h, decide_true, Bool.true_and]
    rw [show i - k + k = i by omega]
  · simp [h]
theorem and_bit (f : Int) (h : 0 ≤ f) (k : Nat) {m : Int} (hm : m = 2 ^ k) : ((f.toNat &&& m.toNat : Nat) : Int) = f / 2 ^ k % 2 * 2 ^ k := by
  subst hm
  have e : ((2 : Int) ^ k).toNat = 1 * 2 ^ k := by
    have : (2 : Int) ^ k = ((2 ^ k : Nat) : Int) := by simp
    rw [this, Int.toNat_natCast, Nat.one_mul]
  rw [e, and_mask, Nat.and_one_is_mod]
  obtain ⟨f, rfl⟩ := Int.eq_ofNat_of_zero_le h
  simp
theorem dec_bit (f : Int) (h : 0 ≤ f) (k : Nat) {m : Int} (hm : m = 2 ^ k) : decide (¬ ((f.toNat &&& m.toNat : Nat) : Int) = 0) = bitAt f k := by
  rw [and_bit f h k hm, bitAt]
  have hp : (0 : Int) < 2 ^ k := Int.pow_pos (by decide)
  generalize f / 2 ^ k = y
  rcases (show y % 2 = 0 ∨ y % 2 = 1 by omega) with hz | hz
  · simp [hz]
  · have hne : ¬ (1 : Int) * 2 ^ k = 0 := by omega
    simp [hz]
    omega
theorem and_15 (f : Int) (h : 0 ≤ f) : ((f.toNat &&& (15 : Int).toNat : Nat) : Int) = f % 16 := by
  obtain ⟨f, rfl⟩ := Int.eq_ofNat_of_zero_le h
  have := Nat.and_two_pow_sub_one_eq_mod f 4
  simp at this ⊢
  omega
theorem and_7 (f : Int) (h : 0 ≤ f) : ((f.toNat &&& (7 : Int).toNat : Nat) : Int) = f % 8 := by
  obtain ⟨f, rfl⟩ := Int.eq_ofNat_of_zero_le h
  have := Nat.and_two_pow_sub_one_eq_mod f 3
  simp at this ⊢
  omega
theorem and_1 (f : Int) (h : 0 ≤ f) : ((f.toNat &&& (1 : Int).toNat : Nat) : Int) = f % 2 := by
  obtain ⟨f, rfl⟩ := Int.eq_ofNat_of_zero_le h
  have := Nat.and_two_pow_sub_one_eq_mod f 1
  simp at this ⊢
theorem and_112 (f : Int) (h : 0 ≤ f) : ((f.toNat &&& (112 : Int).toNat : Nat) : Int) = f / 16 % 8 * 16 := by
  obtain ⟨f, rfl⟩ := Int.eq_ofNat_of_zero_le h
  have e := and_mask f 7 4
  have := Nat.and_two_pow_sub_one_eq_mod (f / 16) 3
  simp at e this ⊢
  rw [e, this]
  omega
theorem list6 {ns : List Int} {b : List UInt8} (h : ns.length = 6) (k : ∀ j, j < 6 → ns.getD j default = hnum b j) : ns = [hnum b 0, hnum b 1, hnum b 2, hnum b 3, hnum b 4, hnum b 5] := by
  match ns, h, k with
  | [a0, a1, a2, a3, a4, a5], _, k =>
    have h0 := k 0 (by omega)
    have h1 := k 1 (by omega)
    have h2 := k 2 (by omega)
    have h3 := k 3 (by omega)
    have h4 := k 4 (by omega)
    have h5 := k 5 (by omega)
    simp at h0 h1 h2 h3 h4 h5
    rw [h0, h1, h2, h3, h4, h5]
theorem hns_step {ns : List Int} {b : List UInt8} {i : Nat} {v : Int} (hl : ns.length = 6) (hi : i < 6) (hI : ∀ k, k < i → ns.getD k default = hnum b k) (hv : v = hnum b i) : ∀ k, k < i + 1 → (ns.set i v).getD k default = hnum b k := by
  intro k hk
  rcases Nat.lt_or_ge k i with h | h
  · rw [← hI k h]
    simp [List.getD_eq_getElem?_getD, List.getElem?_set, show i ≠ k by omega]
  · obtain rfl : k = i := by omega
    simp [List.getD_eq_getElem?_getD, hl, hi, hv]
theorem dH_prog (n0 f : Int) (h : 0 ≤ f) : (⟨n0, bitAt f 15, f / 2048 % 16, bitAt f 10, bitAt f 9, bitAt f 8, bitAt f 7, f % 16⟩ : Hd) =
    ⟨n0, decide (¬ ((f.toNat &&& (32768 : Int).toNat : Nat) : Int) = 0), (((f / 2 ^ 11).toNat &&& (15 : Int).toNat : Nat) : Int), decide (¬ ((f.toNat &&& (1024 : Int).toNat : Nat) : Int) = 0), decide (¬ ((f.toNat &&& (512 : Int).toNat : Nat) : Int) = 0), decide (¬ ((f.toNat &&& (256 : Int).toNat : Nat) : Int) = 0), decide (¬ ((f.toNat &&& (128 : Int).toNat : Nat) : Int) = 0), ((f.toNat &&& (15 : Int).toNat : Nat) : Int)⟩ := by
  rw [dec_bit f h 15 (by decide), dec_bit f h 10 (by decide), dec_bit f h 9 (by decide), dec_bit f h 8 (by decide), dec_bit f h 7 (by decide), and_15 f h, and_15 (f / 2 ^ 11) (by omega)]
  simp
theorem bit_sh (f : Int) (h : 0 ≤ f) (k : Nat) : decide ((((f / 2 ^ k).toNat &&& (1 : Int).toNat : Nat) : Int) = 1) = bitAt f k := by
  rw [and_1 (f / 2 ^ k) (Int.ediv_nonneg h (Int.le_of_lt (Int.pow_pos (by decide)))), bitAt]
theorem dH_ref (n0 f : Int) (h : 0 ≤ f) : (⟨n0, bitAt f 15, f / 2048 % 16, bitAt f 10, bitAt f 9, bitAt f 8, bitAt f 7, f % 16⟩ : Hd) =
    ⟨n0, decide ((((f / 2 ^ 15).toNat &&& (1 : Int).toNat : Nat) : Int) = 1), (((f / 2 ^ 11).toNat &&& (15 : Int).toNat : Nat) : Int), decide ((((f / 2 ^ 10).toNat &&& (1 : Int).toNat : Nat) : Int) = 1), decide ((((f / 2 ^ 9).toNat &&& (1 : Int).toNat : Nat) : Int) = 1), decide ((((f / 2 ^ 8).toNat &&& (1 : Int).toNat : Nat) : Int) = 1), decide ((((f / 2 ^ 7).toNat &&& (1 : Int).toNat : Nat) : Int) = 1), ((f.toNat &&& (15 : Int).toNat : Nat) : Int)⟩ := by
  rw [bit_sh f h 15, bit_sh f h 10, bit_sh f h 9, bit_sh f h 8, bit_sh f h 7, and_15 f h, and_15 (f / 2 ^ 11) (by omega)]
  simp
theorem dH_ok {b : List UInt8} (h : dE b = 0) : dH b = ⟨hnum b 0, bitAt (hnum b 1) 15, hnum b 1 / 2048 % 16, bitAt (hnum b 1) 10, bitAt (hnum b 1) 9, bitAt (hnum b 1) 8, bitAt (hnum b 1) 7, hnum b 1 % 16⟩ := if_pos h
theorem dH_no {b : List UInt8} (h : ¬ dE b = 0) : dH b = ⟨0, false, 0, false, false, false, false, 0⟩ := if_neg h
theorem dC_ok {b : List UInt8} (h : dE b = 0) (j : Nat) : dC b j = hnum b j := if_pos h
theorem dC_no {b : List UInt8} (h : ¬ dE b = 0) (j : Nat) : dC b j = 0 := if_neg h
set_option maxRecDepth 20000 in
set_option maxHeartbeats 2000000 in
theorem c_header_Decode (b : List UInt8) (lv : Nat) (hl : b.length ≤ 140737488355328) : AC Try.prog 69 [.fz lv b.length (cl bc b)] emp (Ret (.tup [.agg (dH b).cells, .agg [i64 (dC b 2), i64 (dC b 3), i64 (dC b 4), i64 (dC b 5)], i64 (dE b)])) := by
 refine AC.intro te_ok (fn := Try.f69) ⟨Try.func69, rfl, rfl⟩ (Nat.le_of_ble_eq_true rfl) ?_
 refine AWp.seq ?_
 refine AWp.region ?_
 refine AOps.cons rfl rfl (q_alloc 100) ?_
 refine AOps.cons rfl rfl (q_alloc 101) ?_
 refine AOps.cons rfl rfl (q_assign) ?_
 refine AOps.nil ?_
 refine AWp.seq ?_
 refine AWp.seq ?_
 refine AWp.region ?_
 refine AOps.cons rfl rfl (q_move) ?_
 refine AOps.cons rfl rfl (q_len) ?_
 refine AOps.dec rfl rfl (q_lss) (fun h1_2 => ?_) (fun h1_2 => ?_)
 ·
  refine AOps.nil ?_
  refine AWp.cond_t rfl ?_
  refine AWp.seq ?_
  refine AWp.region ?_
  refine AOps.cons rfl rfl (q_build []) ?_
  refine AOps.cons rfl rfl (q_buildA ic [0, 0, 0, 0] []) ?_
  refine AOps.cons rfl rfl (q_store) ?_
  refine AOps.cons rfl rfl (q_store) ?_
  refine AOps.cons rfl rfl (q_assign) ?_
  refine AOps.nil ?_
  refine AWp.ret ?_
  show Fin te Try.f69 _ _
  have e := dE_short (b := b) (by omega)
  rw [dH_no (by omega), dC_no (by omega), dC_no (by omega), dC_no (by omega), dC_no (by omega), e]
  refine q_ret (0) [_, _, _] [_, _, _] ?_
  rfl
 ·
  refine AOps.nil ?_
  refine AWp.cond_f rfl ?_
  refine AWp.skip ?_
  refine AWp.seq ?_
  refine AWp.region ?_
  refine AOps.cons rfl rfl (q_alloc 400) ?_
  refine AOps.nil ?_
  refine AWp.seq ?_
  refine AWp.seq ?_
  refine AWp.region ?_
  refine AOps.cons rfl rfl (q_move) ?_
  refine AOps.nil ?_
  refine AWp.block ?_
  refine AWp.loopR (α := Nat × List Int) [6, 14, 15, 16, 17, 18, 19, 20, 21, 22, 23, 24, 25, 26, 27, 28, 29, 30, 31, 32, 33, 34] (fun x_ => [(14, i64 (x_.1))]) (fun x_ => [(400, .box (cl ic (x_.2)))]) (fun x_ => (x_.1) ≤ 6 ∧ (x_.2).length = 6 ∧ ∀ k, k < (x_.1) → (x_.2).getD k default = hnum b k) (fun x_ => 6 - (x_.1)) (0, [0, 0, 0, 0, 0, 0]) ?_ (Back.mk' (HasT.cons HasT.nil) (HasH.cons HasH.nil)) ?_
  ·
   exact ⟨by omega, rfl, fun k hk => by omega⟩
  ·
   rintro ⟨i, ns⟩ hI5
   change i ≤ 6 ∧ ns.length = 6 ∧ ∀ k, k < i → ns.getD k default = hnum b k at hI5
   obtain ⟨hi, hns, hI⟩ := hI5
   refine AWp.as (s' := AS.over _ [6, 14, 15, 16, 17, 18, 19, 20, 21, 22, 23, 24, 25, 26, 27, 28, 29, 30, 31, 32, 33, 34] [(14, i64 i)] [(400, .box (cl ic ns))]) rfl ?_
   refine AWp.seq ?_
   refine AWp.region ?_
   refine AOps.dec rfl rfl (q_lss) (fun h5_0 => ?_) (fun h5_0 => ?_)
   ·
    refine AOps.nil ?_
    refine AWp.seq ?_
    refine AWp.cond_t rfl ?_
    refine AWp.skip ?_
    refine AWp.seq ?_
    refine AWp.block ?_
    refine AWp.seq ?_
    refine AWp.region ?_
    have h0 := (b.getD (2 * (i : Int)).toNat default).toNat_lt
    have h1 := (b.getD (2 * (i : Int) + 1).toNat default).toNat_lt
    refine AOps.cons rfl rfl (q_move) ?_
    refine AOps.cons rfl rfl (q_assign) ?_
    refine AOps.nil ?_
    refine AWp.draws [⟨0, [6], [], some 17, _, none⟩,
        ⟨1, [0], [], some 18, _, none⟩,
        ⟨2, [6], [], some 19, _, none⟩,
        ⟨3, [19], [], some 20, _, none⟩,
        ⟨4, [18, 20], [], some 21, _, none⟩,
        ⟨5, [21], [], some 22, _, none⟩,
        ⟨6, [22], [], some 23, _, none⟩,
        ⟨7, [23], [], some 24, _, none⟩,
        ⟨8, [0], [], some 25, _, none⟩,
        ⟨9, [6], [], some 26, _, none⟩,
        ⟨10, [26], [], some 27, _, none⟩,
        ⟨11, [27], [], some 28, _, none⟩,
        ⟨12, [25, 28], [], some 29, _, none⟩,
        ⟨13, [29], [], some 30, _, none⟩,
        ⟨14, [30], [], some 31, _, none⟩,
        ⟨15, [24, 31], [], some 32, _, none⟩,
        ⟨16, [5, 17], [400], some 33, _, none⟩,
        ⟨17, [32, 33], [400], none, _, some (400, _)⟩]
     [⟨0, [6], [], some 17, .any, none⟩,
         ⟨1, [0], [], some 18, .any, none⟩,
         ⟨2, [6], [], some 19, .any, none⟩,
         ⟨3, [19], [], some 20, .any, none⟩,
         ⟨4, [18, 20], [], some 21, .any, none⟩,
         ⟨5, [21], [], some 22, .any, none⟩,
         ⟨6, [22], [], some 23, .any, none⟩,
         ⟨7, [23], [], some 24, .any, none⟩,
         ⟨8, [0], [], some 25, .any, none⟩,
         ⟨9, [6], [], some 26, .any, none⟩,
         ⟨10, [26], [], some 27, .any, none⟩,
         ⟨11, [27], [], some 28, .any, none⟩,
         ⟨12, [25, 28], [], some 29, .any, none⟩,
         ⟨13, [29], [], some 30, .any, none⟩,
         ⟨14, [30], [], some 31, .any, none⟩,
         ⟨15, [24, 31], [], some 32, .any, none⟩,
         ⟨16, [5, 17], [400], some 33, .any, none⟩,
         ⟨17, [32, 33], [400], none, .any, some (400, .box [])⟩]
     mixed_ok rfl (by kernel_rfl) ⟨DS.ok_over fun s0 => OpAt.go rfl rfl (q_move),
         DS.ok_over fun s0 => OpAt.go rfl rfl (q_move),
         DS.ok_over fun s0 => OpAt.go rfl rfl (q_move),
         DS.ok_over fun s0 => OpAt.go rfl rfl (q_mul),
         DS.ok_over fun s0 => OpAt.go rfl rfl (q_ix),
         DS.ok_over fun s0 => OpAt.go rfl rfl (q_load),
         DS.ok_over fun s0 => OpAt.go rfl rfl (q_conv_8i),
         DS.ok_over fun s0 => OpAt.go rfl rfl (q_shl 8),
         DS.ok_over fun s0 => OpAt.go rfl rfl (q_move),
         DS.ok_over fun s0 => OpAt.go rfl rfl (q_move),
         DS.ok_over fun s0 => OpAt.go rfl rfl (q_mul),
         DS.ok_over fun s0 => OpAt.go rfl rfl (q_add),
         DS.ok_over fun s0 => OpAt.go rfl rfl (q_ix),
         DS.ok_over fun s0 => OpAt.go rfl rfl (q_load),
         DS.ok_over fun s0 => OpAt.go rfl rfl (q_conv_8i),
         DS.ok_over fun s0 => OpAt.go rfl rfl (q_or_bytes),
         DS.ok_over fun s0 => OpAt.go rfl rfl (q_ixa),
         DS.ok_over fun s0 => OpAt.go rfl rfl (q_store), trivial⟩ ?_
    dsimp only [final, DS.upd, AS.seto]
    refine AWp.region ?_
    refine AOps.cons rfl rfl (q_add) ?_
    refine AOps.cons rfl rfl (q_move) ?_
    refine AOps.nil ?_
    refine ⟨(i + 1, _), ?_, Back.mk' (HasT.cons HasT.nil) (HasH.cons HasH.nil), ?_⟩
    ·
     try dsimp only
     exact ⟨by omega, by simp [hns], hns_step hns (by omega) hI (by simp only [hnum]; rfl)⟩
    ·
     try dsimp only
     first | omega | (simp; omega)
   ·
    refine AOps.nil ?_
    refine AWp.seq ?_
    refine AWp.cond_f rfl ?_
    refine AWp.exit ?_
    refine AWp.seq ?_
    refine AWp.region ?_
    obtain rfl : i = 6 := by omega
    obtain rfl := list6 hns hI
    have hf := num_lt b 1
    refine AOps.cons rfl rfl (q_ixa) ?_
    refine AOps.cons rfl rfl (q_load) ?_
    refine AOps.cons rfl rfl (q_assign) ?_
    refine AOps.nil ?_
    refine AWp.seq ?_
    refine AWp.seq ?_
    refine AWp.region ?_
    refine AOps.cons rfl rfl (q_move) ?_
    refine AOps.cons rfl rfl (q_and) ?_
    refine AOps.dec rfl rfl (q_neq) (fun h10_2 => ?_) (fun h10_2 => ?_)
    ·
     refine AOps.nil ?_
     refine AWp.cond_t rfl ?_
     refine AWp.seq ?_
     refine AWp.region ?_
     refine AOps.cons rfl rfl (q_build []) ?_
     refine AOps.cons rfl rfl (q_buildA ic [0, 0, 0, 0] []) ?_
     refine AOps.cons rfl rfl (q_store) ?_
     refine AOps.cons rfl rfl (q_store) ?_
     refine AOps.cons rfl rfl (q_assign) ?_
     refine AOps.nil ?_
     refine AWp.ret ?_
     show Fin te Try.f69 _ _
     have e := dE_bits (b := b) (by omega) (by rw [and_112 _ hf.1] at h10_2; omega)
     rw [dH_no (by omega), dC_no (by omega), dC_no (by omega), dC_no (by omega), dC_no (by omega), e]
     refine q_ret (0) [_, _, _] [_, _, _] ?_
     rfl
    ·
     refine AOps.nil ?_
     refine AWp.cond_f rfl ?_
     refine AWp.skip ?_
     refine AWp.seq ?_
     refine AWp.region ?_
     refine AOps.cons rfl rfl (q_ixa) ?_
     refine AOps.cons rfl rfl (q_load) ?_
     refine AOps.cons rfl rfl (q_move) ?_
     refine AOps.cons rfl rfl (q_and) ?_
     refine AOps.cons rfl rfl (q_neq) ?_
     refine AOps.cons rfl rfl (q_move) ?_
     refine AOps.cons rfl rfl (q_shr 11) ?_
     refine AOps.cons rfl rfl (q_and) ?_
     refine AOps.cons rfl rfl (q_move) ?_
     refine AOps.cons rfl rfl (q_and) ?_
     refine AOps.cons rfl rfl (q_neq) ?_
     refine AOps.cons rfl rfl (q_move) ?_
     refine AOps.cons rfl rfl (q_and) ?_
     refine AOps.cons rfl rfl (q_neq) ?_
     refine AOps.cons rfl rfl (q_move) ?_
     refine AOps.cons rfl rfl (q_and) ?_
     refine AOps.cons rfl rfl (q_neq) ?_
     refine AOps.cons rfl rfl (q_move) ?_
     refine AOps.cons rfl rfl (q_and) ?_
     refine AOps.cons rfl rfl (q_neq) ?_
     refine AOps.cons rfl rfl (q_move) ?_
     refine AOps.cons rfl rfl (q_and) ?_
     refine AOps.cons rfl rfl (q_build [(_, _), (_, _), (_, _), (_, _), (_, _), (_, _), (_, _), (_, _)]) ?_
     refine AOps.cons rfl rfl (q_alloc 1323) ?_
     refine AOps.cons rfl rfl (q_store) ?_
     refine AOps.nil ?_
     refine AWp.seq ?_
     refine AWp.draws [⟨0, [8], [1323], some 65, _, none⟩,
         ⟨1, [5], [400], some 66, _, none⟩,
         ⟨2, [66], [400], some 67, _, none⟩,
         ⟨3, [67], [400], some 68, _, none⟩,
         ⟨4, [2, 65], [100], none, _, some (100, _)⟩,
         ⟨5, [3, 68], [101], none, _, some (101, _)⟩,
         ⟨6, [], [], some 4, _, none⟩]
      [⟨0, [8], [1323], some 65, .any, none⟩,
          ⟨1, [5], [400], some 66, .any, none⟩,
          ⟨2, [66], [400], some 67, .any, none⟩,
          ⟨3, [67], [400], some 68, .any, none⟩,
          ⟨4, [2, 65], [100], none, .any, some (100, .box [])⟩,
          ⟨5, [3, 68], [101], none, .any, some (101, .box [])⟩,
          ⟨6, [], [], some 4, .any, none⟩]
      mixed_ok rfl (by kernel_rfl) ⟨DS.ok_over fun s0 => OpAt.go rfl rfl (q_load),
          DS.ok_over fun s0 => OpAt.go rfl rfl (q_sla),
          DS.ok_over fun s0 => OpAt.go rfl rfl (q_arrPtr),
          DS.ok_over fun s0 => OpAt.go rfl rfl (q_load),
          DS.ok_over fun s0 => OpAt.go rfl rfl (q_store),
          DS.ok_over fun s0 => OpAt.go rfl rfl (q_store),
          DS.ok_over fun s0 => OpAt.go rfl rfl (q_assign), trivial⟩ ?_
     dsimp only [final, DS.upd, AS.seto]
     refine AWp.ret ?_
     show Fin te Try.f69 _ _
     have e := dE_ok (b := b) (by omega) (by rw [and_112 _ hf.1] at h10_2; omega)
     rw [dH_ok e, dC_ok e, dC_ok e, dC_ok e, dC_ok e, e]
     refine q_ret (0) [_, _, _] [_, _, _] ?_
     rw [dH_prog _ _ hf.1]; rfl
set_option maxRecDepth 20000 in
set_option maxHeartbeats 2000000 in
theorem c_ciceroneref02_Decode (b : List UInt8) (lv : Nat) (hl : b.length ≤ 140737488355328) : AC Try.prog 40 [.fz lv b.length (cl bc b)] emp (Ret (.tup [.agg (dH b).cells, .agg [i64 (dC b 2), i64 (dC b 3), i64 (dC b 4), i64 (dC b 5)], i64 (dE b)])) := by
 refine AC.intro te_ok (fn := Try.f40) ⟨Try.func40, rfl, rfl⟩ (Nat.le_of_ble_eq_true rfl) ?_
 refine AWp.seq ?_
 refine AWp.region ?_
 refine AOps.cons rfl rfl (q_alloc 100) ?_
 refine AOps.cons rfl rfl (q_alloc 101) ?_
 refine AOps.cons rfl rfl (q_assign) ?_
 refine AOps.nil ?_
 refine AWp.seq ?_
 refine AWp.seq ?_
 refine AWp.region ?_
 refine AOps.cons rfl rfl (q_move) ?_
 refine AOps.cons rfl rfl (q_len) ?_
 refine AOps.dec rfl rfl (q_lss) (fun h1_2 => ?_) (fun h1_2 => ?_)
 ·
  refine AOps.nil ?_
  refine AWp.cond_t rfl ?_
  refine AWp.seq ?_
  refine AWp.region ?_
  refine AOps.cons rfl rfl (q_build []) ?_
  refine AOps.cons rfl rfl (q_buildA ic [0, 0, 0, 0] []) ?_
  refine AOps.cons rfl rfl (q_store) ?_
  refine AOps.cons rfl rfl (q_store) ?_
  refine AOps.cons rfl rfl (q_assign) ?_
  refine AOps.nil ?_
  refine AWp.ret ?_
  show Fin te Try.f40 _ _
  have e := dE_short (b := b) (by omega)
  rw [dH_no (by omega), dC_no (by omega), dC_no (by omega), dC_no (by omega), dC_no (by omega), e]
  refine q_ret (0) [_, _, _] [_, _, _] ?_
  rfl
 ·
  refine AOps.nil ?_
  refine AWp.cond_f rfl ?_
  refine AWp.skip ?_
  refine AWp.seq ?_
  refine AWp.region ?_
  refine AOps.cons rfl rfl (q_alloc 400) ?_
  refine AOps.nil ?_
  refine AWp.seq ?_
  refine AWp.seq ?_
  refine AWp.region ?_
  refine AOps.cons rfl rfl (q_move) ?_
  refine AOps.nil ?_
  refine AWp.block ?_
  refine AWp.loopR (α := Nat × List Int) [6, 14, 15, 16, 17, 18, 19, 20, 21, 22, 23, 24, 25, 26, 27, 28, 29, 30, 31, 32, 33, 34] (fun x_ => [(14, i64 (x_.1))]) (fun x_ => [(400, .box (cl ic (x_.2)))]) (fun x_ => (x_.1) ≤ 6 ∧ (x_.2).length = 6 ∧ ∀ k, k < (x_.1) → (x_.2).getD k default = hnum b k) (fun x_ => 6 - (x_.1)) (0, [0, 0, 0, 0, 0, 0]) ?_ (Back.mk' (HasT.cons HasT.nil) (HasH.cons HasH.nil)) ?_
  ·
   exact ⟨by omega, rfl, fun k hk => by omega⟩
  ·
   rintro ⟨i, ns⟩ hI5
   change i ≤ 6 ∧ ns.length = 6 ∧ ∀ k, k < i → ns.getD k default = hnum b k at hI5
   obtain ⟨hi, hns, hI⟩ := hI5
   refine AWp.as (s' := AS.over _ [6, 14, 15, 16, 17, 18, 19, 20, 21, 22, 23, 24, 25, 26, 27, 28, 29, 30, 31, 32, 33, 34] [(14, i64 i)] [(400, .box (cl ic ns))]) rfl ?_
   refine AWp.seq ?_
   refine AWp.region ?_
   refine AOps.dec rfl rfl (q_lss) (fun h5_0 => ?_) (fun h5_0 => ?_)
   ·
    refine AOps.nil ?_
    refine AWp.seq ?_
    refine AWp.cond_t rfl ?_
    refine AWp.skip ?_
    refine AWp.seq ?_
    refine AWp.block ?_
    refine AWp.seq ?_
    refine AWp.region ?_
    have h0 := (b.getD (2 * (i : Int)).toNat default).toNat_lt
    have h1 := (b.getD (2 * (i : Int) + 1).toNat default).toNat_lt
    refine AOps.cons rfl rfl (q_move) ?_
    refine AOps.cons rfl rfl (q_assign) ?_
    refine AOps.nil ?_
    refine AWp.draws [⟨0, [6], [], some 17, _, none⟩,
        ⟨1, [0], [], some 18, _, none⟩,
        ⟨2, [6], [], some 19, _, none⟩,
        ⟨3, [19], [], some 20, _, none⟩,
        ⟨4, [18, 20], [], some 21, _, none⟩,
        ⟨5, [21], [], some 22, _, none⟩,
        ⟨6, [22], [], some 23, _, none⟩,
        ⟨7, [23], [], some 24, _, none⟩,
        ⟨8, [0], [], some 25, _, none⟩,
        ⟨9, [6], [], some 26, _, none⟩,
        ⟨10, [26], [], some 27, _, none⟩,
        ⟨11, [27], [], some 28, _, none⟩,
        ⟨12, [25, 28], [], some 29, _, none⟩,
        ⟨13, [29], [], some 30, _, none⟩,
        ⟨14, [30], [], some 31, _, none⟩,
        ⟨15, [24, 31], [], some 32, _, none⟩,
        ⟨16, [5, 17], [400], some 33, _, none⟩,
        ⟨17, [32, 33], [400], none, _, some (400, _)⟩]
     [⟨0, [6], [], some 17, .any, none⟩,
         ⟨1, [0], [], some 18, .any, none⟩,
         ⟨2, [6], [], some 19, .any, none⟩,
         ⟨3, [19], [], some 20, .any, none⟩,
         ⟨4, [18, 20], [], some 21, .any, none⟩,
         ⟨5, [21], [], some 22, .any, none⟩,
         ⟨6, [22], [], some 23, .any, none⟩,
         ⟨7, [23], [], some 24, .any, none⟩,
         ⟨8, [0], [], some 25, .any, none⟩,
         ⟨9, [6], [], some 26, .any, none⟩,
         ⟨10, [26], [], some 27, .any, none⟩,
         ⟨11, [27], [], some 28, .any, none⟩,
         ⟨12, [25, 28], [], some 29, .any, none⟩,
         ⟨13, [29], [], some 30, .any, none⟩,
         ⟨14, [30], [], some 31, .any, none⟩,
         ⟨15, [24, 31], [], some 32, .any, none⟩,
         ⟨16, [5, 17], [400], some 33, .any, none⟩,
         ⟨17, [32, 33], [400], none, .any, some (400, .box [])⟩]
     mixed_ok rfl (by kernel_rfl) ⟨DS.ok_over fun s0 => OpAt.go rfl rfl (q_move),
         DS.ok_over fun s0 => OpAt.go rfl rfl (q_move),
         DS.ok_over fun s0 => OpAt.go rfl rfl (q_move),
         DS.ok_over fun s0 => OpAt.go rfl rfl (q_mul),
         DS.ok_over fun s0 => OpAt.go rfl rfl (q_ix),
         DS.ok_over fun s0 => OpAt.go rfl rfl (q_load),
         DS.ok_over fun s0 => OpAt.go rfl rfl (q_conv_8i),
         DS.ok_over fun s0 => OpAt.go rfl rfl (q_mul),
         DS.ok_over fun s0 => OpAt.go rfl rfl (q_move),
         DS.ok_over fun s0 => OpAt.go rfl rfl (q_move),
         DS.ok_over fun s0 => OpAt.go rfl rfl (q_mul),
         DS.ok_over fun s0 => OpAt.go rfl rfl (q_add),
         DS.ok_over fun s0 => OpAt.go rfl rfl (q_ix),
         DS.ok_over fun s0 => OpAt.go rfl rfl (q_load),
         DS.ok_over fun s0 => OpAt.go rfl rfl (q_conv_8i),
         DS.ok_over fun s0 => OpAt.go rfl rfl (q_add),
         DS.ok_over fun s0 => OpAt.go rfl rfl (q_ixa),
         DS.ok_over fun s0 => OpAt.go rfl rfl (q_store), trivial⟩ ?_
    dsimp only [final, DS.upd, AS.seto]
    refine AWp.region ?_
    refine AOps.cons rfl rfl (q_add) ?_
    refine AOps.cons rfl rfl (q_move) ?_
    refine AOps.nil ?_
    refine ⟨(i + 1, _), ?_, Back.mk' (HasT.cons HasT.nil) (HasH.cons HasH.nil), ?_⟩
    ·
     try dsimp only
     exact ⟨by omega, by simp [hns], hns_step hns (by omega) hI (by simp only [hnum]; norm_cast)⟩
    ·
     try dsimp only
     first | omega | (simp; omega)
   ·
    refine AOps.nil ?_
    refine AWp.seq ?_
    refine AWp.cond_f rfl ?_
    refine AWp.exit ?_
    refine AWp.seq ?_
    refine AWp.region ?_
    obtain rfl : i = 6 := by omega
    obtain rfl := list6 hns hI
    have hf := num_lt b 1
    refine AOps.cons rfl rfl (q_ixa) ?_
    refine AOps.cons rfl rfl (q_load) ?_
    refine AOps.cons rfl rfl (q_assign) ?_
    refine AOps.nil ?_
    refine AWp.seq ?_
    refine AWp.seq ?_
    refine AWp.region ?_
    refine AOps.cons rfl rfl (q_move) ?_
    refine AOps.cons rfl rfl (q_shr 4) ?_
    refine AOps.cons rfl rfl (q_and) ?_
    refine AOps.dec rfl rfl (q_neq) (fun h10_3 => ?_) (fun h10_3 => ?_)
    ·
     refine AOps.nil ?_
     refine AWp.cond_t rfl ?_
     refine AWp.seq ?_
     refine AWp.region ?_
     refine AOps.cons rfl rfl (q_build []) ?_
     refine AOps.cons rfl rfl (q_buildA ic [0, 0, 0, 0] []) ?_
     refine AOps.cons rfl rfl (q_store) ?_
     refine AOps.cons rfl rfl (q_store) ?_
     refine AOps.cons rfl rfl (q_assign) ?_
     refine AOps.nil ?_
     refine AWp.ret ?_
     show Fin te Try.f40 _ _
     have e := dE_bits (b := b) (by omega) (by rw [and_7 _ (by omega)] at h10_3; omega)
     rw [dH_no (by omega), dC_no (by omega), dC_no (by omega), dC_no (by omega), dC_no (by omega), e]
     refine q_ret (0) [_, _, _] [_, _, _] ?_
     rfl
    ·
     refine AOps.nil ?_
     refine AWp.cond_f rfl ?_
     refine AWp.skip ?_
     refine AWp.seq ?_
     refine AWp.region ?_
     refine AOps.cons rfl rfl (q_ixa) ?_
     refine AOps.cons rfl rfl (q_load) ?_
     refine AOps.cons rfl rfl (q_move) ?_
     refine AOps.cons rfl rfl (q_shr 15) ?_
     refine AOps.cons rfl rfl (q_and) ?_
     refine AOps.cons rfl rfl (q_eql) ?_
     refine AOps.cons rfl rfl (q_move) ?_
     refine AOps.cons rfl rfl (q_shr 11) ?_
     refine AOps.cons rfl rfl (q_and) ?_
     refine AOps.cons rfl rfl (q_move) ?_
     refine AOps.cons rfl rfl (q_shr 10) ?_
     refine AOps.cons rfl rfl (q_and) ?_
     refine AOps.cons rfl rfl (q_eql) ?_
     refine AOps.cons rfl rfl (q_move) ?_
     refine AOps.cons rfl rfl (q_shr 9) ?_
     refine AOps.cons rfl rfl (q_and) ?_
     refine AOps.cons rfl rfl (q_eql) ?_
     refine AOps.cons rfl rfl (q_move) ?_
     refine AOps.cons rfl rfl (q_shr 8) ?_
     refine AOps.cons rfl rfl (q_and) ?_
     refine AOps.cons rfl rfl (q_eql) ?_
     refine AOps.cons rfl rfl (q_move) ?_
     refine AOps.cons rfl rfl (q_shr 7) ?_
     refine AOps.cons rfl rfl (q_and) ?_
     refine AOps.cons rfl rfl (q_eql) ?_
     refine AOps.cons rfl rfl (q_move) ?_
     refine AOps.cons rfl rfl (q_and) ?_
     refine AOps.cons rfl rfl (q_build [(_, _), (_, _), (_, _), (_, _), (_, _), (_, _), (_, _), (_, _)]) ?_
     refine AOps.cons rfl rfl (q_alloc 1328) ?_
     refine AOps.cons rfl rfl (q_store) ?_
     refine AOps.nil ?_
     refine AWp.seq ?_
     refine AWp.draws [⟨0, [8], [1328], some 71, _, none⟩,
         ⟨1, [5], [400], some 72, _, none⟩,
         ⟨2, [72], [400], some 73, _, none⟩,
         ⟨3, [5], [400], some 74, _, none⟩,
         ⟨4, [74], [400], some 75, _, none⟩,
         ⟨5, [5], [400], some 76, _, none⟩,
         ⟨6, [76], [400], some 77, _, none⟩,
         ⟨7, [5], [400], some 78, _, none⟩,
         ⟨8, [78], [400], some 79, _, none⟩,
         ⟨9, [73, 75, 77, 79], [], some 80, _, none⟩,
         ⟨10, [2, 71], [100], none, _, some (100, _)⟩,
         ⟨11, [3, 80], [101], none, _, some (101, _)⟩,
         ⟨12, [], [], some 4, _, none⟩]
      [⟨0, [8], [1328], some 71, .any, none⟩,
          ⟨1, [5], [400], some 72, .any, none⟩,
          ⟨2, [72], [400], some 73, .any, none⟩,
          ⟨3, [5], [400], some 74, .any, none⟩,
          ⟨4, [74], [400], some 75, .any, none⟩,
          ⟨5, [5], [400], some 76, .any, none⟩,
          ⟨6, [76], [400], some 77, .any, none⟩,
          ⟨7, [5], [400], some 78, .any, none⟩,
          ⟨8, [78], [400], some 79, .any, none⟩,
          ⟨9, [73, 75, 77, 79], [], some 80, .any, none⟩,
          ⟨10, [2, 71], [100], none, .any, some (100, .box [])⟩,
          ⟨11, [3, 80], [101], none, .any, some (101, .box [])⟩,
          ⟨12, [], [], some 4, .any, none⟩]
      mixed_ok rfl (by kernel_rfl) ⟨DS.ok_over fun s0 => OpAt.go rfl rfl (q_load),
          DS.ok_over fun s0 => OpAt.go rfl rfl (q_ixa),
          DS.ok_over fun s0 => OpAt.go rfl rfl (q_load),
          DS.ok_over fun s0 => OpAt.go rfl rfl (q_ixa),
          DS.ok_over fun s0 => OpAt.go rfl rfl (q_load),
          DS.ok_over fun s0 => OpAt.go rfl rfl (q_ixa),
          DS.ok_over fun s0 => OpAt.go rfl rfl (q_load),
          DS.ok_over fun s0 => OpAt.go rfl rfl (q_ixa),
          DS.ok_over fun s0 => OpAt.go rfl rfl (q_load),
          DS.ok_over fun s0 => OpAt.go rfl rfl (q_buildA ic [_, _, _, _] [(_, _), (_, _), (_, _), (_, _)]),
          DS.ok_over fun s0 => OpAt.go rfl rfl (q_store),
          DS.ok_over fun s0 => OpAt.go rfl rfl (q_store),
          DS.ok_over fun s0 => OpAt.go rfl rfl (q_assign), trivial⟩ ?_
     dsimp only [final, DS.upd, AS.seto]
     refine AWp.ret ?_
     show Fin te Try.f40 _ _
     have e := dE_ok (b := b) (by omega) (by rw [and_7 _ (by omega)] at h10_3; omega)
     rw [dH_ok e, dC_ok e, dC_ok e, dC_ok e, dC_ok e, e]
     refine q_ret (0) [_, _, _] [_, _, _] ?_
     rw [dH_ref _ _ hf.1]; rfl
end Go.Proofs.Ytkfccjbihcbmiaa.Fw


set_option linter.unusedVariables false
set_option linter.unusedSimpArgs false
set_option linter.unusedSectionVars false
namespace Go.Proofs.Ytkfccjbihcbmiaa.Fw
open Go.RowKit
section
variable {P : Program} {n : Nat} {ops : Array Oper} {Q : APost} {QP : Value → AS → Prop}
def OpAtX (P : Program) (n : Nat) (ops : Array Oper) (QP : Value → AS → Prop) (i : Nat) (s s' : AS) : Prop :=
  ∀ Λ w φ a, Sim n w φ Λ s a → ∀ (K : Act → World → Prop) (QQ : Exit → Act → World → Prop), (∀ w' φ' a', Sim n w' φ' Λ s' a' → Goes w φ w' φ' → K a' w') →
    (∀ x s2 w' φ' a', QP x s2 → Sim n w' φ' Λ s2 a' → Goes w φ w' φ' → QQ (.panic [{ v := x, recovered := false }]) a' w') → wpOp P ops QQ i K a w
theorem OpAt.x {i : Nat} {s s' : AS} (h : OpAt P n ops i s s') : OpAtX P n ops QP i s s' := fun Λ w φ a hs K QQ hK _ => h Λ w φ a hs K QQ hK
theorem OpAtX.go {i : Nat} {o : Oper} {s s' : AS} (ho : ops[i]? = some o) (hg : o.guard = none) (h : OpX P n o (fun e s2 => match e with | .panic x => QP x s2 | _ => False) s (fun s2 => s2 = s')) : OpAtX P n ops QP i s s' := by
  intro Λ w φ a hs K QQ hK hP
  simp only [wpOp, ho, Region.wanted, hg, if_true]
  exact .inl (h Λ w φ a hs _ _ (fun s2 w' φ' a' e hs' g => hK w' φ' a' (e ▸ hs') g) (fun x s2 w' φ' a' q hs' g => hP x s2 w' φ' a' q hs' g))
def DS.OkX (P : Program) (n : Nat) (ops : Array Oper) (QP : Value → AS → Prop) (e : DS) (s : AS) : Prop :=
  ∀ s', (∀ t ∈ e.rt, s'.t t = s.t t) → (∀ k ∈ e.rh, s'.h k = s.h k) → OpAtX P n ops QP e.i s' (e.upd s')
theorem DS.OkX.congr {e : DS} {s s2 : AS} (h : e.OkX P n ops QP s) (ht : ∀ t ∈ e.rt, s2.t t = s.t t) (hh : ∀ k ∈ e.rh, s2.h k = s.h k) : e.OkX P n ops QP s2 :=
  fun s' h1 h2 => h s' (fun t k => (h1 t k).trans (ht t k)) (fun t k => (h2 t k).trans (hh t k))
theorem DS.OkX.over {a b : DS} {s : AS} (hi : indep a b = true) (h : b.OkX P n ops QP s) : b.OkX P n ops QP (a.upd s) := by
  obtain ⟨h1, h2, h3, h4⟩ := indep_spec hi
  refine h.congr (fun t ht => ?_) (fun k hk => ?_)
  · rw [DS.upd_t, if_neg]
    intro e
    exact (h1 t e).1 ht
  · rw [DS.upd_h]
    cases hw : a.wh with
    | none => rfl
    | some p =>
      simp only
      rw [if_neg]
      intro e
      exact h3 p.1 p.2 hw (e ▸ hk)
theorem DS.OkX.under {a b : DS} {s : AS} (hi : indep a b = true) (h : b.OkX P n ops QP (a.upd s)) : b.OkX P n ops QP s := by
  obtain ⟨h1, h2, h3, h4⟩ := indep_spec hi
  refine h.congr (fun t ht => ?_) (fun k hk => ?_)
  · rw [DS.upd_t, if_neg]
    intro e
    exact (h1 t e).1 ht
  · rw [DS.upd_h]
    cases hw : a.wh with
    | none => rfl
    | some p =>
      simp only
      rw [if_neg]
      intro e
      exact h3 p.1 p.2 hw (e ▸ hk)
def GoodX (P : Program) (n : Nat) (ops : Array Oper) (QP : Value → AS → Prop) : List DS → AS → Prop
  | [], _ => True
  | e :: r, s => e.OkX P n ops QP s ∧ GoodX P n ops QP r (e.upd s)
theorem GoodX.front {x : DS} {post : List DS} : ∀ {pre : List DS} {s : AS}, GoodX P n ops QP (pre ++ x :: post) s → (∀ y ∈ pre, indep y x = true ∧ y.wf = true) → x.wf = true →
    GoodX P n ops QP (x :: (pre ++ post)) s ∧ final (pre ++ x :: post) s = final (x :: (pre ++ post)) s
  | [], s, h, _, _ => ⟨h, rfl⟩
  | y :: pre, s, h, hi, hx => by
    obtain ⟨h1, h2⟩ := h
    obtain ⟨h3, h4⟩ := GoodX.front (pre := pre) (s := y.upd s) h2 (fun z hz => hi z (List.mem_cons_of_mem _ hz)) hx
    obtain ⟨h5, h6⟩ := h3
    obtain ⟨hy, hyw⟩ := hi y List.mem_cons_self
    have hc := upd_comm (indep_symm hy) hyw s
    refine ⟨⟨h5.under hy, ?_⟩, ?_⟩
    · show y.OkX P n ops QP (x.upd s) ∧ GoodX P n ops QP (pre ++ post) (y.upd (x.upd s))
      rw [← hc]
      exact ⟨h1.over (indep_symm hy), h6⟩
    · show final (pre ++ x :: post) (y.upd s) = final (pre ++ post) (y.upd (x.upd s))
      rw [h4, ← hc]
      rfl
theorem wpAny_ofX {es : List DS} (hok : drawOk ops es = true) {QQ : Exit → Act → World → Prop} {Λ : Lent} : ∀ (rem : List DS) (listed : Array Bool) (s : AS) (a : Act) (w : World) (φ : PMap), Sim n w φ Λ s a →
    listed.size = ops.size → Down ops listed → (∀ k, k < ops.size → listed.getD k true = false → ∃ e ∈ rem, e.i = k) → (∀ e ∈ rem, listed.getD e.i true = false) → rem.Sublist es →
    GoodX P n ops QP rem s → (∀ w' φ' a', Sim n w' φ' Λ (final rem s) a' → Goes w φ w' φ' → QQ .normal a' w') → (∀ x s2 w' φ' a', QP x s2 → Sim n w' φ' Λ s2 a' → Goes w φ w' φ' → QQ (.panic [{ v := x, recovered := false }]) a' w') → wpAny P .any ops QQ rem.length listed a w := by
  simp only [drawOk, Bool.and_eq_true] at hok
  obtain ⟨⟨⟨hlen, hidx⟩, hedge⟩, hpair⟩ := hok
  have hlen := Nat.eq_of_beq_eq_true hlen
  have hix : ∀ (k : Nat) e, es[k]? = some e → e.i = k ∧ e.wf = true := by
    intro k e hk
    have hm : (e, k) ∈ es.zipIdx := by
      rw [List.mem_iff_getElem?]
      exact ⟨k, by simp [hk]⟩
    have := List.all_eq_true.1 hidx _ hm
    simp only [Bool.and_eq_true] at this
    exact ⟨Nat.eq_of_beq_eq_true this.1, this.2⟩
  have hed : ∀ k o, ops[k]? = some o → ∀ e ∈ o.after, Region.binds .any e = true → e.on < k := by
    intro k o hk e he hb
    have hlt : k < ops.size := (Array.getElem?_eq_some_iff.1 hk).1
    have := List.all_eq_true.1 hedge k (List.mem_range.2 hlt)
    simp only [hk] at this
    have h2 := List.all_eq_true.1 this e (by simpa using he)
    simp only [hb, Bool.not_true, Bool.false_or] at h2
    exact Nat.blt_eq.mp h2
  have hmem : ∀ x ∈ es, es[x.i]? = some x ∧ x.wf = true := by
    intro x hx
    obtain ⟨k, hk⟩ := List.mem_iff_getElem?.1 hx
    obtain ⟨h1, h2⟩ := hix k x hk
    rw [h1]
    exact ⟨hk, h2⟩
  have hpw : es.Pairwise (fun x y => x.i < y.i) := by
    rw [List.pairwise_iff_getElem]
    intro a b ha hb hab
    rw [(hix a es[a] (List.getElem?_eq_getElem ha)).1, (hix b es[b] (List.getElem?_eq_getElem hb)).1]
    exact hab
  have hind : ∀ x ∈ es, ∀ y ∈ es, x.i < y.i → indep x y = true ∨ dep ops ops.size y.i x.i = true := by
    intro x hx y hy hlt
    have hyl : y.i < es.length := (List.getElem?_eq_some_iff.1 (hmem y hy).1).1
    have h1 := List.all_eq_true.1 (List.all_eq_true.1 hpair y.i (List.mem_range.2 hyl)) x.i (List.mem_range.2 hlt)
    simp only [(hmem x hx).1, (hmem y hy).1, Bool.or_eq_true] at h1
    exact h1
  have hflip : ∀ (listed : Array Bool) (k : Nat), listed.size = ops.size → listed.getD k true = false → listed.getD k false = false := by
    intro listed k _ h
    rw [Array.getD_eq_getD_getElem?] at h ⊢
    cases hk : listed[k]? with
    | none => rw [hk] at h; simp at h
    | some b => rw [hk] at h; simpa using h
  intro rem
  generalize hr : rem.length = m
  induction m generalizing rem with
  | zero =>
    intro listed s a w φ hs hsz hdown hall hun hsub hgood hQ hP
    have hnil : rem = [] := List.eq_nil_of_length_eq_zero hr
    subst hnil
    refine ⟨?_, hQ w φ a hs (Goes.refl _ _)⟩
    rw [List.eq_nil_iff_forall_not_mem]
    intro j hj
    obtain ⟨h1, o, ho, _⟩ := mem_ready.1 hj
    obtain ⟨e, he, _⟩ := hall j (Array.getElem?_eq_some_iff.1 ho).1 h1
    simp at he
  | succ m ih =>
    intro listed s a w φ hs hsz hdown hall hun hsub hgood hQ hP
    have hpr : rem.Pairwise (fun x y => x.i < y.i) := List.Pairwise.sublist hsub hpw
    constructor
    · intro hnone
      exfalso
      cases rem with
      | nil => simp at hr
      | cons x0 r =>
        have hx0 := hsub.subset List.mem_cons_self
        have hlt : x0.i < ops.size := by rw [← hlen]; exact (List.getElem?_eq_some_iff.1 (hmem x0 hx0).1).1
        have : x0.i ∈ Region.ready .any ops listed := by
          rw [mem_ready]
          refine ⟨hun x0 List.mem_cons_self, ops[x0.i], Array.getElem?_eq_getElem hlt, fun e he hb => ?_⟩
          have hlt2 := hed x0.i _ (Array.getElem?_eq_getElem hlt) e he hb
          cases hl : listed.getD e.on true with
          | false =>
            obtain ⟨e', he', hi'⟩ := hall e.on (by omega) hl
            rcases List.mem_cons.1 he' with rfl | he'
            · omega
            · have := (List.pairwise_cons.1 hpr).1 e' he'
              omega
          | true =>
            rw [Array.getD_eq_getD_getElem?, Array.getElem?_eq_getElem (by omega)] at hl ⊢
            exact hl
        rw [hnone] at this
        simp at this
    · intro i hi
      obtain ⟨h1, o, ho, hpre⟩ := mem_ready.1 hi
      have hilt : i < ops.size := (Array.getElem?_eq_some_iff.1 ho).1
      obtain ⟨x, hx, hxi⟩ := hall i hilt h1
      subst hxi
      obtain ⟨pre, post, rfl⟩ := List.append_of_mem hx
      have hxe := hsub.subset hx
      have hpp := (List.pairwise_append.1 hpr).2.2
      have hin : ∀ y ∈ pre, indep y x = true ∧ y.wf = true := by
        intro y hy
        have hym : y ∈ pre ++ x :: post := List.mem_append_left _ hy
        have hye := hsub.subset hym
        refine ⟨?_, (hmem y hye).2⟩
        rcases hind y hye x hxe (hpp y hy x List.mem_cons_self) with h | h
        · exact h
        · have h2 := dep_listed hdown hsz _ _ _ h (fun o' ho' e he hb => by
            rw [ho] at ho'
            cases ho'
            exact hpre e he hb)
          have h3 := hflip listed y.i hsz (hun y hym)
          rw [h3] at h2
          cases h2
      obtain ⟨hg, hfin⟩ := GoodX.front hgood hin (hmem x hxe).2
      have hstep := hg.1 s (fun _ _ => rfl) (fun _ _ => rfl)
      refine hstep Λ w φ a hs _ QQ (fun w' φ' a' hs' g => ?_) hP
      have hlen2 : (pre ++ post).length = m := by simp at hr ⊢; omega
      have hne : ∀ y ∈ pre ++ post, y.i ≠ x.i := by
        intro y hy
        rcases List.mem_append.1 hy with hy | hy
        · have := hpp y hy x List.mem_cons_self
          omega
        · have := (List.pairwise_cons.1 (List.pairwise_append.1 hpr).2.1).1 y hy
          omega
      refine ih (pre ++ post) hlen2 (listed.setIfInBounds x.i true) (x.upd s) a' w' φ' hs' (by simpa using hsz) ?_ ?_ ?_ ?_ hg.2 ?_ (fun x s2 w2 φ2 a2 q hs2 g2 => hP x s2 w2 φ2 a2 q hs2 (g.trans g2))
      · intro k o' ho' hk e he hb
        by_cases hkx : k = x.i
        · subst hkx
          rw [ho] at ho'
          cases ho'
          exact getD_set_true (hpre e he hb)
        · rw [getD_set_ne true (fun e => hkx e.symm)] at hk
          exact getD_set_true (hdown k o' ho' hk e he hb)
      · intro k hk hk2
        by_cases hkx : k = x.i
        · subst hkx
          rw [Array.getD_eq_getD_getElem?, Array.getElem?_setIfInBounds_self_of_lt (by omega)] at hk2
          simp at hk2
        · rw [getD_set_ne true (fun e => hkx e.symm)] at hk2
          obtain ⟨e, he, hei⟩ := hall k hk hk2
          refine ⟨e, ?_, hei⟩
          rcases List.mem_append.1 he with h | h
          · exact List.mem_append_left _ h
          · rcases List.mem_cons.1 h with rfl | h
            · exact absurd hei.symm hkx
            · exact List.mem_append_right _ h
      · intro e he
        rw [getD_set_ne true (fun h => hne e he h.symm)]
        refine hun e ?_
        rcases List.mem_append.1 he with h | h
        · exact List.mem_append_left _ h
        · exact List.mem_append_right _ (List.mem_cons_of_mem _ h)
      · refine List.Sublist.trans ?_ hsub
        exact List.Sublist.append (List.Sublist.refl _) (List.sublist_cons_self _ _)
      · intro w2 φ2 a2 hs2 g2
        refine hQ w2 φ2 a2 ?_ (g.trans g2)
        rw [hfin]
        exact hs2
theorem AWp.drawX {id : Nat} {s : AS} {QP : Value → AS → Prop} (es : List DS) (hmix : P.follows .mixedOrders = true) (hok : drawOk ops es = true) (hgood : GoodX P n ops QP es s) (hQ : Q .normal (final es s)) (hQP : ∀ x s2, QP x s2 → Q (.panic x) s2) :
    AWp P n (.region id ops true) Q s := by
  intro Λ w φ a hs QQ hQQ
  refine wp_region_any hmix ?_
  have hlen : es.length = ops.size := by
    simp only [drawOk, Bool.and_eq_true] at hok
    exact Nat.eq_of_beq_eq_true hok.1.1.1
  have hix : ∀ (k : Nat) e, es[k]? = some e → e.i = k := by
    intro k e hk
    simp only [drawOk, Bool.and_eq_true] at hok
    have hm : (e, k) ∈ es.zipIdx := by
      rw [List.mem_iff_getElem?]
      exact ⟨k, by simp [hk]⟩
    have := List.all_eq_true.1 hok.1.1.2 _ hm
    simp only [Bool.and_eq_true] at this
    exact Nat.eq_of_beq_eq_true this.1
  have := wpAny_ofX (P := P) (n := n) hok (QQ := QQ) (Λ := Λ) es (Array.replicate ops.size false) s a w.drew φ hs.drew (by simp) ?_ ?_ ?_ (List.Sublist.refl _) hgood
    (fun w' φ' a' hs' g => hQQ .normal _ w' φ' a' hQ hs' ((goes_drew w φ).trans g)) (fun x s2 w' φ' a' q hs' g => hQQ (.panic x) s2 w' φ' a' (hQP x s2 q) hs' ((goes_drew w φ).trans g))
  · rw [hlen] at this
    exact this
  · intro k o ho hk
    have hlt : k < ops.size := (Array.getElem?_eq_some_iff.1 ho).1
    rw [Array.getD_eq_getD_getElem?, Array.getElem?_replicate, if_pos hlt] at hk
    simp at hk
  · intro k hk _
    have hk' : k < es.length := by omega
    exact ⟨es[k], List.getElem_mem hk', hix k _ (List.getElem?_eq_getElem hk')⟩
  · intro e he
    obtain ⟨k, hk⟩ := List.mem_iff_getElem?.1 he
    have hkl : k < ops.size := by rw [← hlen]; exact (List.getElem?_eq_some_iff.1 hk).1
    rw [hix k e hk, Array.getD_eq_getD_getElem?, Array.getElem?_replicate, if_pos hkl]
    rfl
theorem DS.okX_over {e : DS} {s : AS} (h : ∀ s0, OpAtX P n ops QP e.i (over s e.rt e.rh s0) (e.upd (over s e.rt e.rh s0))) : e.OkX P n ops QP s := fun s' h1 h2 => by
  have := h s'
  rwa [over_eq h1 h2] at this
theorem AWp.drawsX {id : Nat} {s : AS} (QP : Value → AS → Prop) (es ks : List DS) (hmix : P.follows .mixedOrders = true) (hk : es.map DS.strip = ks) (hok : drawOk ops ks = true) (hgood : GoodX P n ops QP es s) (hQ : Q .normal (final es s)) (hQP : ∀ x s2, QP x s2 → Q (.panic x) s2) :
    AWp P n (.region id ops true) Q s := AWp.drawX es hmix (by rw [← drawOk_strip, hk]; exact hok) hgood hQ hQP
end
end Go.Proofs.Ytkfccjbihcbmiaa.Fw


set_option linter.unusedVariables false
set_option linter.unusedSimpArgs false
set_option linter.unusedSectionVars false
namespace Go.Proofs.Ytkfccjbihcbmiaa.Fw
open Go.RowKit
def RetP (o : Option Value) (r : AV) (hl : List (Nat × AObj)) (hp : Int → List (Nat × AObj)) : AEnd → Heap → Prop := fun e h =>
  match o with
  | none => e = .ret r ∧ h = hlook hl
  | some x => e = .panic x ∧ ∃ k, h = hlook (hp k)
section rules
variable {n : Nat} {s : AS} {o : Oper} {d : Option Tmp} {Q : APost}
theorem callP {K : AS → Prop} {fop : Operand} {argops : Array Operand} {tys : Array TypeId} {f : FuncId} {first caps A : List AV} {r r' : AV} {po : Option Value} {hp hp' : Int → List (Nat × AObj)} (lv : Nat) (σ ν : IdMap) (hb : List (Nat × AObj)) {hl : List (Nat × AObj)} (hl' : List (Nat × AObj))
    (ho : o.op = .call { callee := .value fop, args := argops, argTypes := tys }) (hf : s.ev fop = .fn (.func f) first caps) (hc : AC Try.prog f A (hlook hb) (RetP po r hl hp)) (hwf : (σ ++ ν : IdMap).wf = true) (hwf1 : σ.wf = true) (h8 : (σ.all fun p => Nat.blt p.1 8) = true)
    (hfresh : (ν.all fun p => (s.h p.2).isNone) = true)
    (hobj : BObjs (fun _ => false) σ s.h lv (lv + 1) σ hb) (hA : LVals (fun _ => false) σ s.h lv (lv + 1) (first ++ argops.toList.map s.ev ++ caps) A) (hB : HB (IdMap.to (σ ++ ν)) (σ ++ ν) hl hl') (hL : HL lv (IdMap.has (σ ++ ν)) hl)
    (hBp : ∀ k, HB (IdMap.to σ) σ (hp k) (hp' k)) (hLp : ∀ k, HL lv (IdMap.has σ) (hp k))
    (hr : r.lev lv = true) (hr2 : r.refs (IdMap.has (σ ++ ν)) = true) (hr3 : r.ren (IdMap.to (σ ++ ν)) = r') (hdd : o.dst = d) (hd : d.all (Nat.blt · n) = true)
    (hret : po = none → K ((s.setl hl').put d r')) (hpan : ∀ x k, po = some x → Q (.panic x) (s.setl (hp' k))) : OpX Try.prog n o Q s K := by
  refine OpX.callB lv σ hb ho hf hwf1 (fun c hc => ?_) hobj hA hc hdd hd (fun r2 h' hR => ?_) (fun x h' hR => ?_)
  · obtain ⟨k, hk⟩ := Option.isSome_iff_exists.1 hc
    exact Nat.blt_eq.mp (List.all_eq_true.1 h8 _ (get_mem hk))
  · cases po with
    | none =>
      obtain ⟨h1, h2⟩ := hR
      cases h1
      subst h2
      exact ⟨σ ++ ν, hback hwf hfresh hB hL, hr, hr2, by rw [back_setl hwf hB, hr3]; exact hret rfl⟩
    | some x => exact absurd hR.1 (by simp)
  · cases po with
    | none => exact absurd hR.1 (by simp)
    | some y =>
      obtain ⟨h1, k, h2⟩ := hR
      cases h1
      subst h2
      have hwf' : (σ ++ [] : IdMap).wf = true := by rw [List.append_nil]; exact hwf1
      have e := List.append_nil σ
      have hb1 := hBp k
      have hb2 := hLp k
      refine ⟨σ, ?_, by rw [back_setl hwf1 hb1]; exact hpan x k rfl⟩
      have := hback (ν := []) (lv := lv) (h := s.h) (hl := hp k) (hl' := hp' k) hwf' rfl (by rw [e]; exact hb1) (by rw [e]; exact hb2)
      rwa [e] at this
theorem AOps.callP {ops : Array Oper} {i : Nat} {rest : List Nat} {fop : Operand} {argops : Array Operand} {tys : Array TypeId} {f : FuncId} {first caps A : List AV} {r r' : AV} {po : Option Value} {hp hp' : Int → List (Nat × AObj)} (lv : Nat) (σ ν : IdMap) {hb : List (Nat × AObj)} {hl : List (Nat × AObj)} (hl' : List (Nat × AObj))
    (hc : AC Try.prog f A (hlook hb) (RetP po r hl hp)) (hret : po = none → AOps Try.prog n ops Q rest ((s.setl hl').put d r')) (hpan : ∀ x k, po = some x → Q (.panic x) (s.setl (hp' k)))
    (hi : ops[i]? = some o := by exact rfl) (hg : o.guard = none := by exact rfl) (ho : o.op = .call { callee := .value fop, args := argops, argTypes := tys } := by exact rfl) (hf : s.ev fop = .fn (.func f) first caps := by exact rfl)
    (hwf : (σ ++ ν : IdMap).wf = true := by exact rfl) (hwf1 : σ.wf = true := by exact rfl) (h8 : (σ.all fun p => Nat.blt p.1 8) = true := by exact rfl) (hfresh : (ν.all fun p => (s.h p.2).isNone) = true := by exact rfl)
    (hobj : BObjs (fun _ => false) σ s.h lv (lv + 1) σ hb := by repeat' (first | exact trivial | exact lv_ok rfl | exact lv_sl rfl rfl | exact lv_ptr rfl rfl | exact lv_mp rfl rfl | exact lobj_row (fun _ => rfl) | refine lobj_box ?_ | refine ⟨rfl, ⟨_, rfl, ?_⟩, ?_⟩ | refine ⟨?_, ?_⟩))
    (hA : LVals (fun _ => false) σ s.h lv (lv + 1) (first ++ argops.toList.map s.ev ++ caps) A := by repeat' (first | exact trivial | exact lv_ok rfl | exact lv_ptr rfl rfl | exact lv_sl rfl rfl | exact lv_mp rfl rfl | exact lv_nilz | exact lv_row0 rfl rfl .row (fun _ => rfl) (Nat.le_of_ble_eq_true rfl) (fun _ => rfl) | refine ⟨?_, ?_⟩ | exact lv_row1 rfl rfl .row (fun _ => rfl) (fun _ => rfl) (by first | omega | (simp; omega))))
    (hB : HB (IdMap.to (σ ++ ν)) (σ ++ ν) hl hl' := by repeat' (first | exact trivial | exact hb_rowc (lv := 0) (fun _ => rfl) | exact rfl | refine ⟨rfl, rfl, ?_, ?_⟩))
    (hL : HL lv (IdMap.has (σ ++ ν)) hl := by repeat' (first | exact trivial | exact hl_row (fun _ => rfl) | exact ⟨rfl, rfl⟩ | refine ⟨?_, ?_⟩))
    (hBp : ∀ k, HB (IdMap.to σ) σ (hp k) (hp' k) := by intro k; repeat' (first | exact trivial | exact hb_rowc (lv := 0) (fun _ => rfl) | exact rfl | refine ⟨rfl, rfl, ?_, ?_⟩))
    (hLp : ∀ k, HL lv (IdMap.has σ) (hp k) := by intro k; repeat' (first | exact trivial | exact hl_row (fun _ => rfl) | exact ⟨rfl, rfl⟩ | refine ⟨?_, ?_⟩))
    (hr : r.lev lv = true := by exact rfl) (hr2 : r.refs (IdMap.has (σ ++ ν)) = true := by exact rfl) (hr3 : r.ren (IdMap.to (σ ++ ν)) = r' := by conv => lhs; whnf) (hdd : o.dst = d := by conv => lhs; whnf) (hd : d.all (Nat.blt · n) = true := by exact rfl) :
    AOps Try.prog n ops Q (i :: rest) s :=
  AOps.consx hi hg (Fw.callP lv σ ν hb hl' ho hf hc hwf hwf1 h8 hfresh hobj hA hB hL hBp hLp hr hr2 hr3 hdd hd hret hpan)
theorem at_callP {ops : Array Oper} {i : Nat} {QP : Value → AS → Prop} {fop : Operand} {argops : Array Operand} {tys : Array TypeId} {f : FuncId} {first caps A : List AV} {r r' : AV} {po : Option Value} {hp hp' : Int → List (Nat × AObj)} (lv : Nat) (σ ν : IdMap) {hb : List (Nat × AObj)} {hl : List (Nat × AObj)} (hl' : List (Nat × AObj))
    (hc : AC Try.prog f A (hlook hb) (RetP po r hl hp)) (hpan : ∀ x k, po = some x → QP x (s.setl (hp' k)))
    (hi : ops[i]? = some o := by exact rfl) (hg : o.guard = none := by exact rfl) (ho : o.op = .call { callee := .value fop, args := argops, argTypes := tys } := by exact rfl) (hf : s.ev fop = .fn (.func f) first caps := by exact rfl)
    (hwf : (σ ++ ν : IdMap).wf = true := by exact rfl) (hwf1 : σ.wf = true := by exact rfl) (h8 : (σ.all fun p => Nat.blt p.1 8) = true := by exact rfl) (hfresh : (ν.all fun p => (s.h p.2).isNone) = true := by exact rfl)
    (hobj : BObjs (fun _ => false) σ s.h lv (lv + 1) σ hb := by repeat' (first | exact trivial | exact lv_ok rfl | exact lv_sl rfl rfl | exact lv_ptr rfl rfl | exact lv_mp rfl rfl | exact lobj_row (fun _ => rfl) | refine lobj_box ?_ | refine ⟨rfl, ⟨_, rfl, ?_⟩, ?_⟩ | refine ⟨?_, ?_⟩))
    (hA : LVals (fun _ => false) σ s.h lv (lv + 1) (first ++ argops.toList.map s.ev ++ caps) A := by repeat' (first | exact trivial | exact lv_ok rfl | exact lv_ptr rfl rfl | exact lv_sl rfl rfl | exact lv_mp rfl rfl | exact lv_nilz | exact lv_row0 rfl rfl .row (fun _ => rfl) (Nat.le_of_ble_eq_true rfl) (fun _ => rfl) | refine ⟨?_, ?_⟩ | exact lv_row1 rfl rfl .row (fun _ => rfl) (fun _ => rfl) (by first | omega | (simp; omega))))
    (hB : HB (IdMap.to (σ ++ ν)) (σ ++ ν) hl hl' := by repeat' (first | exact trivial | exact hb_rowc (lv := 0) (fun _ => rfl) | exact rfl | refine ⟨rfl, rfl, ?_, ?_⟩))
    (hL : HL lv (IdMap.has (σ ++ ν)) hl := by repeat' (first | exact trivial | exact hl_row (fun _ => rfl) | exact ⟨rfl, rfl⟩ | refine ⟨?_, ?_⟩))
    (hBp : ∀ k, HB (IdMap.to σ) σ (hp k) (hp' k) := by intro k; repeat' (first | exact trivial | exact hb_rowc (lv := 0) (fun _ => rfl) | exact rfl | refine ⟨rfl, rfl, ?_, ?_⟩))
    (hLp : ∀ k, HL lv (IdMap.has σ) (hp k) := by intro k; repeat' (first | exact trivial | exact hl_row (fun _ => rfl) | exact ⟨rfl, rfl⟩ | refine ⟨?_, ?_⟩))
    (hr : r.lev lv = true := by exact rfl) (hr2 : r.refs (IdMap.has (σ ++ ν)) = true := by exact rfl) (hr3 : r.ren (IdMap.to (σ ++ ν)) = r' := by conv => lhs; whnf) (hdd : o.dst = d := by conv => lhs; whnf) (hd : d.all (Nat.blt · n) = true := by exact rfl) :
    OpAtX Try.prog n ops QP i s ((s.setl hl').put d r') :=
  OpAtX.go hi hg (Fw.callP (Q := fun e s2 => match e with | .panic x => QP x s2 | _ => False) lv σ ν hb hl' ho hf hc hwf hwf1 h8 hfresh hobj hA hB hL hBp hLp hr hr2 hr3 hdd hd (fun _ => rfl) hpan)
theorem q_mkif {t : TypeId} {x : Operand} {v : Value} {ti : TI} (ho : o.op = .makeInterface t x := by exact rfl) (hx : s.ev x = .v v := by exact rfl) (ht : te.get t = some ti := by exact rfl) (hk : (match ti.k with | .int _ | .bool | .str => true | _ => false) = true := by exact rfl)
    (hdd : o.dst = d := by conv => lhs; whnf) (hd : d.all (Nat.blt · n) = true := by exact rfl) : OpOk Try.prog n o s (s.put d (.v (.iface t v))) :=
  .val hdd hd fun Λ w φ a hs => by
    obtain ⟨ds, h1, h2⟩ := (te_ok.tells ht).desc
    refine ⟨.iface t v, ?_, .v⟩
    cases hk0 : ti.k <;> rw [hk0] at h2 hk <;> cases ds <;> simp_all [TK.chk, execOp, ev_v hs hx, Instr.makeInterface, run_underlying h1]
theorem AOps.panic {ops : Array Oper} {i : Nat} {rest : List Nat} {x : Operand} {t : TypeId} {v : Value} (hQ : Q (.panic (.iface t v)) s) (hi : ops[i]? = some o := by exact rfl) (hg : o.guard = none := by exact rfl) (ho : o.op = .panic x := by exact rfl) (hx : s.ev x = .v (.iface t v) := by exact rfl) :
    AOps Try.prog n ops Q (i :: rest) s :=
  AOps.consx hi hg fun Λ w φ a hs next QQ hN hP => by
    have e := ev_v hs hx
    have hrun : (execOp a.eval o).run Try.prog w = .halt (.panic (.iface t v)) w := by simp [execOp, ho, e, Instr.panic, goPanic]
    unfold Oper.wp
    rw [hrun]
    exact hP (.iface t v) s w φ a hQ hs (Goes.refl _ _)
theorem Post.panicH {te' : TE} {fn : Func} {po : Option Value} {r : AV} {hl : List (Nat × AObj)} {hp : Int → List (Nat × AObj)} {x : Value} (lv : Nat) (k : Int) (hx : po = some x) (hobj : BObjs (inl []) (idm (hp k)) s.h lv lv (idm (hp k)) (hp k)) (hpk : pinKept s.h (keys (hp k)) = true) :
    Post te' fn (RetP po r hl hp) (.panic x) s := by
  refine ⟨hlook (hp k), fun w φ Λ v k1 k2 => ?_, ?_⟩
  · obtain ⟨φ2, g1, g2, g3⟩ := seen [] rfl k1 hobj hpk
    exact ⟨φ2, g1, .any, g2⟩
  · rw [hx]; exact ⟨rfl, k, rfl⟩
theorem Fin.retP {fn : Func} {po : Option Value} {r : AV} {hl : List (Nat × AObj)} {hp : Int → List (Nat × AObj)} (hx : po = none) (h : Fin te fn (RetH r hl) s) : Fin te fn (RetP po r hl hp) s := by
  obtain ⟨xs, r', h', a, b, c, e⟩ := h
  subst hx
  exact ⟨xs, r', h', a, b, c, e⟩
end rules
section jumps
variable {P : Program} {n : Nat} {Q : APost} {s : AS}
def AExit.jumpTo {α : Type} (l : Nat) (S : α → AS) (I : α → Prop) (Q : APost) : APost
  | .goto l', s' => l' = l ∧ ∃ x, I x ∧ Weak s' (S x)
  | e, s' => Q e s'
def AExit.jumpBack {α : Type} (l : Nat) (S : α → AS) (I : α → Prop) (μ : α → Nat) (m : Nat) (Q : APost) : APost
  | .goto l', s' => l' = l ∧ ∃ x, I x ∧ Weak s' (S x) ∧ μ x < m
  | e, s' => Q e s'
theorem wp_scope_ghost {c rest : Code} {a : Act} {w : World} {Q : Exit → Act → World → Prop} (l : Nat) (J : Nat → Act → World → Prop) (hf : findLabel c l = some rest)
    (first : c.wp P (Exit.jump l (fun a' w' => ∃ m, J m a' w') Q) a w)
    (pass : ∀ m a w, J m a w → rest.wp P (Exit.jump l (fun a' w' => ∃ m', m' < m ∧ J m' a' w') Q) a w) : (Code.scope c).wp P Q a w := by
  intro b k cs
  have hg : gotoIn l (.inScope c :: k) = some (.code rest :: .inScope c :: k) := by simp [gotoIn, hf]
  have key : ∀ m a w, J m a w → ∃ e a' w', Q e a' w' ∧ Arrives P (lone (b.at a (.code rest :: .inScope c :: k)) cs w) b k cs e a' w' := by
    intro m
    induction m using Nat.strongRecOn with
    | _ m ih =>
      intro a w hJ
      obtain ⟨e, a₁, w₁, hq, harr⟩ := pass m a w hJ b (.inScope c :: k) cs
      cases e with
      | normal => exact ⟨.normal, a₁, w₁, hq, Steps.trans harr (.one step_inScope)⟩
      | exit id => exact ⟨.exit id, a₁, w₁, hq, fun k' hk => harr k' (by simp [exitTo, hk])⟩
      | goto l' =>
        obtain ⟨rfl, m', hlt, hJ'⟩ := hq
        obtain ⟨e₂, a₂, w₂, hq₂, harr₂⟩ := ih m' hlt a₁ w₁ hJ'
        exact ⟨e₂, a₂, w₂, hq₂, .of_steps (harr _ hg) harr₂⟩
      | ret => exact ⟨_, a₁, w₁, hq, harr⟩
      | panic ch => exact ⟨_, a₁, w₁, hq, harr⟩
      | outgrown => exact ⟨_, a₁, w₁, hq, harr⟩
  obtain ⟨e, a₁, w₁, hq, harr⟩ := first b (.inScope c :: k) cs
  cases e with
  | normal => exact ⟨.normal, a₁, w₁, hq, .head step_scope (Steps.trans harr (.one step_inScope))⟩
  | exit id => exact ⟨.exit id, a₁, w₁, hq, fun k' hk => .head step_scope (harr k' (by simp [exitTo, hk]))⟩
  | goto l' =>
    obtain ⟨rfl, m, hJ'⟩ := hq
    obtain ⟨e₂, a₂, w₂, hq₂, harr₂⟩ := key m a₁ w₁ hJ'
    exact ⟨e₂, a₂, w₂, hq₂, .of_steps (.head step_scope (harr _ hg)) harr₂⟩
  | ret => exact ⟨_, a₁, w₁, hq, .of_steps (.one step_scope) harr⟩
  | panic ch => exact ⟨_, a₁, w₁, hq, .of_steps (.one step_scope) harr⟩
  | outgrown => exact ⟨_, a₁, w₁, hq, .of_steps (.one step_scope) harr⟩
theorem AWp.jumps {α : Type} {c rest : Code} (l : Nat) (S : α → AS) (I : α → Prop) (μ : α → Nat) (hf : findLabel c l = some (.seq .skip rest))
    (first : (∀ s', (∃ x, I x ∧ Weak s' (S x)) → AWp P n (.seq (.label l) rest) (AExit.jumpTo l S I Q) s') → AWp P n c (AExit.jumpTo l S I Q) s)
    (pass : ∀ x, I x → AWp P n rest (AExit.jumpBack l S I μ (μ x) Q) (S x)) : AWp P n (.scope c) Q s := by
  have hpass : ∀ x, I x → AWp P n rest (AExit.jumpTo l S I Q) (S x) := fun x hx => (pass x hx).mono fun e s2 q => by
    cases e with
    | goto l' => obtain ⟨h1, y, h2, h3, _⟩ := q; exact ⟨h1, y, h2, h3⟩
    | normal => exact q
    | exit id => exact q
    | ret => exact q
    | panic v => exact q
  have h1 := first fun s' ⟨x, hx, hw⟩ => AWp.seq (AWp.label (AWp.weak hw ((hpass x hx).mono fun e s2 q => q)))
  intro Λ w φ a hs QQ hQ
  refine wp_scope_ghost l (fun m a' w' => ∃ x φ', μ x = m ∧ I x ∧ Sim n w' φ' Λ (S x) a' ∧ Goes w φ w' φ') hf ?_ ?_
  · refine h1 Λ w φ a hs _ fun ae s2 w2 φ2 a2 q2 hs2 g2 => ?_
    cases ae with
    | goto l' =>
      obtain ⟨e, x, hx, hw⟩ := q2
      obtain ⟨φ3, hs3, g3⟩ := hw n Λ w2 φ2 a2 hs2
      exact ⟨e, μ x, x, φ3, rfl, hx, hs3, g2.trans g3⟩
    | normal => exact hQ .normal s2 w2 φ2 a2 q2 hs2 g2
    | exit id => exact hQ (.exit id) s2 w2 φ2 a2 q2 hs2 g2
    | ret => exact hQ .ret s2 w2 φ2 a2 q2 hs2 g2
    | panic v => exact hQ (.panic v) s2 w2 φ2 a2 q2 hs2 g2
  · rintro m a' w' ⟨x, φ', hm, hx, hs', g⟩
    refine wp_seq (wp_skip ?_)
    refine pass x hx Λ w' φ' a' hs' _ fun ae s2 w2 φ2 a2 q2 hs2 g2 => ?_
    cases ae with
    | goto l' =>
      obtain ⟨e, y, hy, hw, hlt⟩ := q2
      obtain ⟨φ3, hs3, g3⟩ := hw n Λ w2 φ2 a2 hs2
      exact ⟨e, μ y, by omega, y, φ3, rfl, hy, hs3, (g.trans g2).trans g3⟩
    | normal => exact hQ .normal s2 w2 φ2 a2 q2 hs2 (g.trans g2)
    | exit id => exact hQ (.exit id) s2 w2 φ2 a2 q2 hs2 (g.trans g2)
    | ret => exact hQ .ret s2 w2 φ2 a2 q2 hs2 (g.trans g2)
    | panic v => exact hQ (.panic v) s2 w2 φ2 a2 q2 hs2 (g.trans g2)
end jumps
end Go.Proofs.Ytkfccjbihcbmiaa.Fw


set_option linter.unusedVariables false
set_option linter.unusedSimpArgs false
set_option linter.unusedSectionVars false
namespace Go.Proofs.Ytkfccjbihcbmiaa.Fw
open Go.RowKit
section rules
variable {n : Nat} {s : AS} {o : Oper} {d : Option Tmp} {Q : APost}
theorem q_cap_nil {t e : TypeId} {x : Operand} {ti : TI} (ho : o.op = .call { callee := .builtin .cap, args := #[x], argTypes := #[t] } := by exact rfl) (hx : s.ev x = .v (.slice none 0 0) := by exact rfl) (ht : te.get t = some ti := by exact rfl) (hk : ti.k = .slice e := by exact rfl)
    (hdd : o.dst = d := by conv => lhs; whnf) (hd : d.all (Nat.blt · n) = true := by exact rfl) : OpOk Try.prog n o s (s.put d (i64 0)) :=
  .val hdd hd fun Λ w φ a hs => ⟨.int .i64 0, by
    have hu := (te_ok.tells ht).slice hk
    simp [execOp, ho, resolve, invoke, builtin, ev_v hs hx, Builtin.cap_, run_underlying hu, goInt], .v⟩
theorem q_sl_nil {t e : TypeId} {x hi : Operand} {ti tj : TI} (ho : o.op = .slice t x none (some hi) none := by exact rfl) (hx : s.ev x = .v (.slice none 0 0) := by exact rfl) (hy : s.ev hi = i64 0 := by exact rfl) (ht : te.get t = some ti := by exact rfl) (hk : ti.k = .slice e := by exact rfl) (he : te.get e = some tj := by exact rfl)
    (hdd : o.dst = d := by conv => lhs; whnf) (hd : d.all (Nat.blt · n) = true := by exact rfl) : OpOk Try.prog n o s (s.put d (.v (.slice none 0 0))) :=
  .val hdd hd fun Λ w φ a hs => ⟨.slice none 0 0, by
    have hu := (te_ok.tells ht).slice hk
    have hb := run_sliceBounds (P := Try.prog) (w := w) hs (sl := true) (len := 0) (cap := 0) (lo := none) (hi := some hi) (mx := none) (l := 0) (h := 0) (m := 0) rfl ⟨_, _, hy, by decide, rfl⟩ rfl (fun h => by cases h) (Nat.le_refl _) (Nat.le_refl _) (Nat.le_refl _)
    simp only [Option.map_some, Option.map_none] at hb
    simp [execOp, ho, ev_v hs hx, Instr.sliceAt, Instr.slice, run_underlying hu, hb, (te_ok.tells he).run_sizeOf], .v⟩
theorem run_append_make {P : Program} {w : World} {t t2 ty e : TypeId} {k k2 : IntKind} {f : TypeInfo} {z : Value} (ht : P.underlying t = some (.slice e)) (h2 : P.underlying t2 = some (.int k2)) (hi : P.info? e = some f) (hz : f.zero = some z) {m : Nat} (h0 : 0 < m) (hs0 : 0 < f.size)
    (hb : m * f.bytes ≤ 140737488355328) (h63 : m ≤ 9223372036854775807) :
    ∃ arr, (Builtin.append_ #[t, t2] ty #[.slice none 0 0, .int k m]).run P w = .ok (.slice (some ⟨w.heap.size, 0, none⟩) m (grownCap w m 0 e)) (w.drew.alloc (.cells arr e)) ∧ arr.size = (m + (grownCap w m 0 e - m)) * z.cells.size := by
  have hn : ¬ (m ≤ 0) := by omega
  have h48 := growslice_fits (need := m) (old := 0) (by omega) hb
  have h48' : ¬ (281474976710656 < Builtin.nextslicecap m 0 * f.bytes) := by omega
  have hw : IntKind.i64.wrap (m : Int) = m := wrap64 (by omega) (by omega)
  have hneg : ¬ ((m : Int) < 0) := by omega
  have hbig : ¬ (281474976710656 < (m : Int) * (f.bytes : Int)) := by
    have : ((m * f.bytes : Nat) : Int) ≤ 140737488355328 := by omega
    rw [Int.natCast_mul] at this
    omega
  have hmax : ¬ (9223372036854775807 < (m : Int)) := by omega
  have hs : ¬ (m * f.size = 0) := by have := Nat.mul_pos h0 hs0; omega
  refine ⟨#[] ++ Builtin.zeroCells z.cells m ++ Builtin.zeroCells z.cells (grownCap w m 0 e - m), ?_, ?_⟩
  · simp [Builtin.append_, run_underlying ht, run_underlying h2, sizeOf, typeInfo, zeroValue, hi, hz, asInt, asIntOf, hw, hneg, hbig, hn, hmax, h48', Question.forced, newRow, grownCap, Builtin.firstCells, hs]
    omega
  · simp [Builtin.zeroCells, Nat.add_mul]
theorem q_app_make (id m : Nat) {α : Type} (f : α → List AV) {t t2 e : TypeId} {x y : Operand} {k : IntKind} {esz bt : Nat} {ti tj tk : TI} {k2 : IntKind} (ho : o.op = .call { callee := .builtin .append, args := #[x, y], argTypes := #[t, t2] } := by exact rfl) (hx : s.ev x = .v (.slice none 0 0) := by exact rfl) (hy : s.ev y = .v (.int k m) := by exact rfl)
    (ht : te.get t = some ti := by exact rfl) (hk : ti.k = .slice e := by exact rfl) (he : te.get e = some tj := by exact rfl) (hesz : tj.size = esz := by exact rfl) (hbt : tj.bytes = bt := by conv => lhs; whnf) (hz0 : Nat.beq tj.zero.length tj.size = true := by exact rfl) (hp : 0 < esz := by exact Nat.le_of_ble_eq_true rfl)
    (ht2 : te.get t2 = some tk := by exact rfl) (hk2 : tk.k = .int k2 := by exact rfl) (hid : s.h id = none := by exact rfl) (h0 : 0 < m := by omega) (hb : m * bt ≤ 140737488355328 := by first | omega | (simp; omega)) (h63 : m ≤ 9223372036854775807 := by omega)
    (hdd : o.dst = d := by conv => lhs; whnf) (hd : d.all (Nat.blt · n) = true := by exact rfl) : OpOk Try.prog n o s ((s.seth id (some (.row (cl f []) esz 0))).put d (.sl id 0 0 m esz)) :=
  .chg hdd hd fun Λ w φ a hs => by
    subst hesz
    subst hbt
    obtain ⟨f', z, f1, f2, f3, f4, z1, z2, z3⟩ := (te_ok.tells he).info
    have hu := (te_ok.tells ht).slice hk
    have hu2 := (te_ok.tells ht2).int hk2
    obtain ⟨arr, hrun, hsz⟩ := run_append_make (P := Try.prog) (w := w) (ty := o.type) (k := k) hu hu2 f1 f4 h0 (by rw [f2]; exact hp) (by rw [f3]; exact hb) h63
    have hsw := hs.hs.drew
    have hc := Chg.alloc hsw hid (.cells arr e) 0 0
    have hc2 : Chg w φ Λ s.h id ⟨some (w.heap.size, 0), 0⟩ (w.drew.alloc (.cells arr e)) :=
      ⟨hs.hs, hc.size, hc.os, hc.tape, hc.output, hc.other, hc.loc, hc.ver, hc.sizes⟩
    have hge := grownCap_ge w m 0 e
    have hsz2 : arr.size = grownCap w m 0 e * tj.size := by
      rw [hsz, z1]
      have : (tj.zero.map ZC.val).toArray.size = tj.size := by simp [z2]
      rw [this]
      have hm : m + (grownCap w m 0 e - m) = grownCap w m 0 e := by omega
      rw [hm]
    refine ⟨_, _, _, ?_, hc2, objRep_row (w0 := w.drew) (Nat.zero_le _) (fun j c hj => by simp [cl] at hj), .slice (some ⟨w.heap.size, 0, none⟩) m (grownCap w m 0 e), .inl rfl, ?_⟩
    · simp [execOp, ho, resolve, invoke, builtin, ev_v hs hx, ev_v hs hy, hrun]
    · have := Rep.sl (w := w.drew.alloc (.cells arr e)) (φ := upd φ id (some ⟨some (w.heap.size, 0), 0⟩)) (Λ := Λ) (id := id) (ver := 0) (off := 0) (len := m) (esz := tj.size) (cap := grownCap w m 0 e) (upd_same _ _ _) rfl rfl (heap_alloc_new w.drew _) (by omega) hge
      exact this
end rules
end Go.Proofs.Ytkfccjbihcbmiaa.Fw


set_option linter.unusedVariables false
set_option linter.unusedSimpArgs false
namespace Go.Proofs.Ytkfccjbihcbmiaa.Fw
open Go.RowKit
def toHd (h : Hdr) : Hd := ⟨h.id, h.resp, h.op, h.aa, h.tc, h.rd, h.ra, h.code⟩
def shB (n : Int) : Bool := decide (0 ≤ n) && decide (n ≤ 65535)
def badT (n : Int) : Bool := decide (n < 0) || decide (65536 ≤ n)
theorem badT_sh (n : Int) : badT n = !shB n := by
  unfold badT shB
  by_cases h1 : n < 0 <;> by_cases h2 : 65536 ≤ n <;> simp [h1, h2] <;> omega
def twoB (l : List Int) : Bool := !(l.any badT)
theorem twoB_two (a b : Int) : twoB [a, b] = (shB a && shB b) := by
  simp [twoB, badT_sh]
def qOk (q : Qu) : Bool := canN q.nm && twoB [q.ty, q.cs]
def rOk (r : Rr) : Bool := canN r.nm && twoB [r.ty, r.cs] && !decide (r.ttl < 0) && !decide (4294967296 ≤ r.ttl) && canS r.ty r.da
def Msg.rrs (m : Msg) : List Rr := m.an ++ m.au ++ m.ad
def hdO (m : Msg) : Prop := (toHd m.h).can m.qs.length m.an.length m.au.length m.ad.length
instance (m : Msg) : Decidable (hdO m) := by unfold hdO; infer_instance
def canM (m : Msg) : Bool := decide (hdO m) && !(m.qs.any fun q => !qOk q) && !(m.rrs.any fun r => !rOk r)
theorem any_nall {α : Type} {p : α → Bool} {l : List α} : (!(l.any fun x => !p x)) = l.all p := by
  induction l with
  | nil => rfl
  | cons a l ih => rw [List.any_cons, List.all_cons, ← ih, Bool.not_or, Bool.not_not]
theorem c_CanA (t : Int) (b : List UInt8) (lv : Nat) (h : b.length ≤ 140737488351232) : AC Try.prog 53 [i64 t, .fz lv b.length (cl bc b)] emp (Ret (tf (canS t b))) := by
  by_cases h6 : t = 6
  · subst h6; exact c_Can6 b lv h
  · rw [canS_ne h6]; exact c_rdata_Can t b lv h h6
theorem flatten_take_step {α : Type} [Inhabited α] {L : List (List α)} {i : Nat} (h : i < L.length) : (L.take (i + 1)).flatten = (L.take i).flatten ++ L.getD i default := by
  rw [take_step' h]; simp
theorem flatten_take_le {α : Type} (L : List (List α)) (i : Nat) : (L.take i).flatten.length ≤ L.flatten.length := by
  have : L.flatten = (L.take i).flatten ++ (L.drop i).flatten := by rw [← List.flatten_append, List.take_append_drop]
  rw [this, List.length_append]; omega
set_option maxRecDepth 20000 in
set_option maxHeartbeats 2000000 in
theorem c_Grow_rr (m : Nat) (h : m * 64 ≤ 140737488351232) : AC Try.prog 63 [.v (.slice none 0 0), i64 m] (hlook []) (RetH (.sl 8 0 0 0 5) [(8, .row (cl rrc []) 5 0)]) := by
 refine AC.intro te_ok (fn := Try.f63) ⟨Try.func63, rfl, rfl⟩ (Nat.le_of_ble_eq_true rfl) ?_
 refine AWp.seq ?_
 refine AWp.region ?_
 refine AOps.cons rfl rfl (q_assign) ?_
 refine AOps.nil ?_
 refine AWp.seq ?_
 refine AWp.seq ?_
 refine AWp.region ?_
 refine AOps.cons rfl rfl (q_move) ?_
 refine AOps.dec rfl rfl (q_lss) (fun h1_1 => ?_) (fun h1_1 => ?_)
 ·
  exfalso; omega
 ·
  refine AOps.nil ?_
  refine AWp.cond_f rfl ?_
  refine AWp.skip ?_
  refine AWp.seq ?_
  refine AWp.seq ?_
  refine AWp.region ?_
  refine AOps.cons rfl rfl (q_move) ?_
  refine AOps.cons rfl rfl (q_move) ?_
  refine AOps.cons rfl rfl (q_cap_nil) ?_
  refine AOps.cons rfl rfl (q_move) ?_
  refine AOps.cons rfl rfl (q_len) ?_
  refine AOps.cons rfl rfl (q_sub) ?_
  refine AOps.cons rfl rfl (q_sub) ?_
  refine AOps.cons rfl rfl (q_assign) ?_
  refine AOps.nil ?_
  refine AWp.seq ?_
  refine AWp.region ?_
  refine AOps.cons rfl rfl (q_move) ?_
  refine AOps.dec rfl rfl (q_gtr) (fun h4_1 => ?_) (fun h4_1 => ?_)
  ·
   refine AOps.nil ?_
   refine AWp.cond_t rfl ?_
   refine AWp.region ?_
   refine AOps.cons rfl rfl (q_move) ?_
   refine AOps.cons rfl rfl (q_move) ?_
   refine AOps.cons rfl rfl (q_cap_nil) ?_
   refine AOps.cons rfl rfl (q_sl_nil) ?_
   refine AOps.cons rfl rfl (q_move) ?_
   refine AOps.cons rfl rfl (q_app_make 8 m rrc (esz := 5)) ?_
   refine AOps.cons rfl rfl (q_move) ?_
   refine AOps.cons rfl rfl (q_len) ?_
   refine AOps.cons rfl rfl (q_sl) ?_
   refine AOps.cons rfl rfl (q_assign) ?_
   refine AOps.nil ?_
   refine AWp.seq ?_
   refine AWp.region ?_
   refine AOps.cons rfl rfl (q_move) ?_
   refine AOps.cons rfl rfl (q_assign) ?_
   refine AOps.nil ?_
   refine AWp.ret ?_
   show Fin te Try.f63 _ _
   refine q_retH (0) [] [_] [.sl 8 0 0 0 5] [(8, .row (cl rrc []) 5 0)] ?_
   rfl
  ·
   refine AOps.nil ?_
   refine AWp.cond_f rfl ?_
   refine AWp.skip ?_
   refine AWp.seq ?_
   refine AWp.region ?_
   refine AOps.cons rfl rfl (q_move) ?_
   refine AOps.cons rfl rfl (q_assign) ?_
   refine AOps.weak (Weak.niltmp 4 8 5 rrc) ?_
   refine AOps.nil ?_
   refine AWp.ret ?_
   show Fin te Try.f63 _ _
   refine q_retH (0) [] [_] [.sl 8 0 0 0 5] [(8, .row (cl rrc []) 5 0)] ?_
   rfl
set_option maxRecDepth 20000 in
set_option maxHeartbeats 2000000 in
theorem c_Concat_rr (L : List (List Rr)) (lv : Nat) (hL : L.length ≤ 1000) (h : L.flatten.length * 64 ≤ 140737488351232) : AC Try.prog 30 [.fz lv L.length (cl (lc 0 rrc) L)] emp (Ret (.fz 0 L.flatten.length (cl rrc L.flatten))) := by
 refine AC.intro te_ok (fn := Try.f30) ⟨Try.func30, rfl, rfl⟩ (Nat.le_of_ble_eq_true rfl) ?_
 refine AWp.seq ?_
 refine AWp.region ?_
 refine AOps.cons rfl rfl (q_assign) ?_
 refine AOps.nil ?_
 refine AWp.seq ?_
 refine AWp.region ?_
 refine AOps.cons rfl rfl (q_assign) ?_
 refine AOps.nil ?_
 refine AWp.seq ?_
 refine AWp.seq ?_
 refine AWp.region ?_
 refine AOps.cons rfl rfl (q_move) ?_
 refine AOps.cons rfl rfl (q_len) ?_
 refine AOps.cons rfl rfl (q_move) ?_
 refine AOps.nil ?_
 refine AWp.block ?_
 refine AWp.loopR (α := Nat) [3, 5, 11, 12, 13, 14, 15, 16, 17, 18, 19, 20, 21, 22] (fun i => [(11, i64 i), (3, i64 (L.take i).flatten.length)]) (fun i => []) (fun i => i ≤ L.length) (fun i => L.length - i) 0 ?_ (Back.mk' (HasT.cons (HasT.cons HasT.nil)) HasH.nil) ?_
 ·
  exact Nat.zero_le _
 ·
  rintro i hi
  have hle := flatten_take_le L i
  have hle2 := flatten_take_le L (i + 1)
  refine AWp.seq ?_
  refine AWp.region ?_
  refine AOps.dec rfl rfl (q_lss) (fun h3_0 => ?_) (fun h3_0 => ?_)
  ·
   refine AOps.nil ?_
   refine AWp.seq ?_
   refine AWp.cond_t rfl ?_
   refine AWp.skip ?_
   refine AWp.seq ?_
   refine AWp.block ?_
   refine AWp.seq ?_
   refine AWp.region ?_
   refine AOps.cons rfl rfl (q_ix) ?_
   refine AOps.cons rfl rfl (q_load) ?_
   refine AOps.cons rfl rfl (q_assign) ?_
   refine AOps.nil ?_
   refine AWp.seq ?_
   refine AWp.region ?_
   have hst := flatten_take_step (L := L) (i := i) (by omega)
   rw [hst, List.length_append] at hle2
   have hgl : (L[i]?.getD default).length = (L.getD i default).length := by rw [← List.getD_eq_getElem?_getD]
   have hgt : (L.getD (i : Int).toNat default).length = (L.getD i default).length := rfl
   refine AOps.cons rfl rfl (q_move) ?_
   refine AOps.cons rfl rfl (q_move) ?_
   refine AOps.cons rfl rfl (q_len) ?_
   refine AOps.cons rfl rfl (q_add) ?_
   refine AOps.cons rfl rfl (q_assign) ?_
   refine AOps.nil ?_
   refine AWp.seq ?_
   refine AWp.region ?_
   refine AOps.cons rfl rfl (q_move) ?_
   refine AOps.dec rfl rfl (q_lss) (fun h6_1 => ?_) (fun h6_1 => ?_)
   ·
    exfalso; omega
   ·
    refine AOps.nil ?_
    refine AWp.cond_f rfl ?_
    refine AWp.skip ?_
    refine AWp.region ?_
    refine AOps.cons rfl rfl (q_add) ?_
    refine AOps.cons rfl rfl (q_move) ?_
    refine AOps.nil ?_
    refine ⟨i + 1, ?_, Back.mk' (HasT.cons (HasT.cons HasT.nil (h1 := by exact i64_eq (by rw [flatten_take_step (by omega), List.length_append]; rfl)) )) HasH.nil, ?_⟩
    ·
     first | assumption | omega | decide | (simp; omega) | (simp [*]; done)
    ·
     first | omega | (simp; omega)
  ·
   refine AOps.nil ?_
   refine AWp.seq ?_
   refine AWp.cond_f rfl ?_
   refine AWp.exit ?_
   refine AWp.seq ?_
   refine AWp.region ?_
   obtain rfl : i = L.length := by omega
   rw [List.take_length]
   refine AOps.cons rfl rfl (q_move) ?_
   refine AOps.cons rfl rfl (q_callB (0) [] [(8, 10018)] [(_, _)] (hc := (c_Grow_rr L.flatten.length h))) ?_
   refine AOps.cons rfl rfl (q_assign) ?_
   refine AOps.nil ?_
   refine AWp.seq ?_
   refine AWp.seq ?_
   refine AWp.region ?_
   refine AOps.cons rfl rfl (q_move) ?_
   refine AOps.cons rfl rfl (q_len) ?_
   refine AOps.cons rfl rfl (q_move) ?_
   refine AOps.nil ?_
   refine AWp.block ?_
   refine AWp.loopR (α := Nat × List Rr × Nat) [6, 8, 27, 28, 29, 30, 31, 32, 33, 34] (fun x_ => [(27, i64 (x_.1)), (6, .sl 10018 (x_.2.2) 0 (x_.2.1).length 5)]) (fun x_ => [(10018, .row (cl rrc (x_.2.1)) 5 (x_.2.2))]) (fun x_ => (x_.1) ≤ L.length ∧ (x_.2.1) = (L.take (x_.1)).flatten) (fun x_ => L.length - (x_.1)) (0, [], 0) ?_ (Back.mk' (HasT.cons (HasT.cons HasT.nil)) (HasH.cons HasH.nil)) ?_
   ·
    exact ⟨Nat.zero_le _, rfl⟩
   ·
    rintro ⟨i, acc, v⟩ hI11
    change i ≤ L.length ∧ acc = (L.take i).flatten at hI11
    obtain ⟨hi, ha⟩ := hI11
    refine AWp.as (s' := AS.over _ [6, 8, 27, 28, 29, 30, 31, 32, 33, 34] [(27, i64 i), (6, .sl 10018 v 0 acc.length 5)] [(10018, .row (cl rrc acc) 5 v)]) rfl ?_
    have hle := flatten_take_le L i
    have hle2 := flatten_take_le L (i + 1)
    have hal := congrArg List.length ha
    refine AWp.seq ?_
    refine AWp.region ?_
    refine AOps.dec rfl rfl (q_lss) (fun h11_0 => ?_) (fun h11_0 => ?_)
    ·
     refine AOps.nil ?_
     refine AWp.seq ?_
     refine AWp.cond_t rfl ?_
     refine AWp.skip ?_
     refine AWp.seq ?_
     refine AWp.block ?_
     refine AWp.seq ?_
     refine AWp.region ?_
     refine AOps.cons rfl rfl (q_ix) ?_
     refine AOps.cons rfl rfl (q_load) ?_
     refine AOps.cons rfl rfl (q_assign) ?_
     refine AOps.nil ?_
     refine AWp.region ?_
     have hst := flatten_take_step (L := L) (i := i) (by omega)
     rw [hst, List.length_append] at hle2
     have hgl : (L[i]?.getD default).length = (L.getD i default).length := by rw [← List.getD_eq_getElem?_getD]
     have hgt : (L.getD (i : Int).toNat default).length = (L.getD i default).length := rfl
     refine AOps.cons rfl rfl (q_move) ?_
     refine AOps.cons rfl rfl (q_move) ?_
     refine AOps.cons rfl rfl (q_app) ?_
     refine AOps.cons rfl rfl (q_assign) ?_
     refine AOps.nil ?_
     refine AWp.region ?_
     refine AOps.cons rfl rfl (q_add) ?_
     refine AOps.cons rfl rfl (q_move) ?_
     refine AOps.nil ?_
     refine ⟨(i + 1, acc ++ L.getD i default, v + 1), ?_, Back.mk' (HasT.cons (HasT.cons HasT.nil)) (HasH.cons HasH.nil), ?_⟩
     ·
      try dsimp only
      exact ⟨by omega, by rw [ha, flatten_take_step (by omega)]⟩
     ·
      try dsimp only
      first | omega | (simp; omega)
    ·
     refine AOps.nil ?_
     refine AWp.seq ?_
     refine AWp.cond_f rfl ?_
     refine AWp.exit ?_
     refine AWp.seq ?_
     refine AWp.region ?_
     refine AOps.cons rfl rfl (q_move) ?_
     refine AOps.cons rfl rfl (q_assign) ?_
     refine AOps.nil ?_
     refine AWp.ret ?_
     show Fin te Try.f30 _ _
     obtain rfl : i = L.length := by omega
     rw [List.take_length] at ha
     subst ha
     refine q_ret (0) [_] [_] ?_
     rfl
set_option maxRecDepth 20000 in
set_option maxHeartbeats 2000000 in
theorem c_wire_two_1 (n : Int) : AC Try.prog 80 [i64 n] emp (Ret (tf (badT n))) := by
 refine AC.intro te_ok (fn := Try.f80) ⟨Try.func80, rfl, rfl⟩ (Nat.le_of_ble_eq_true rfl) ?_
 refine AWp.seq ?_
 refine AWp.region ?_
 refine AOps.cons rfl rfl (q_assign) ?_
 refine AOps.nil ?_
 refine AWp.seq ?_
 refine AWp.region ?_
 refine AOps.cons rfl rfl (q_move) ?_
 refine AOps.dec rfl rfl (q_lss) (fun h1_1 => ?_) (fun h1_1 => ?_)
 ·
  refine AOps.cons rfl rfl (q_move) ?_
  refine AOps.gskip rfl rfl rfl rfl rfl rfl rfl rfl ?_
  refine AOps.gskip rfl rfl rfl rfl rfl rfl rfl rfl ?_
  refine AOps.cons rfl rfl (q_pick) ?_
  refine AOps.cons rfl rfl (q_assign) ?_
  refine AOps.nil ?_
  refine AWp.ret ?_
  show Fin te Try.f80 _ _
  refine q_ret (0) [_] [_] ?_
  exact congrArg tf (by simp [badT, *])
 ·
  refine AOps.cons rfl rfl (q_move) ?_
  refine AOps.gcons rfl rfl rfl rfl rfl (q_move) ?_
  refine AOps.gcons rfl rfl rfl rfl rfl (q_geq) ?_
  refine AOps.cons rfl rfl (q_pick) ?_
  refine AOps.cons rfl rfl (q_assign) ?_
  refine AOps.nil ?_
  refine AWp.ret ?_
  show Fin te Try.f80 _ _
  refine q_ret (0) [_] [_] ?_
  exact congrArg tf (by simp [badT, *])
set_option maxRecDepth 20000 in
set_option maxHeartbeats 2000000 in
theorem c_wire_two (l : List Int) (lv : Nat) (hl : l.length ≤ 140737488351232) : AC Try.prog 51 [.fz lv l.length (cl ic l)] emp (Ret (tf (twoB l))) := by
 refine AC.intro te_ok (fn := Try.f51) ⟨Try.func51, rfl, rfl⟩ (Nat.le_of_ble_eq_true rfl) ?_
 refine AWp.seq ?_
 refine AWp.region ?_
 refine AOps.cons rfl rfl (q_assign) ?_
 refine AOps.nil ?_
 refine AWp.seq ?_
 refine AWp.region ?_
 refine AOps.cons rfl rfl (q_move) ?_
 refine AOps.cons rfl rfl (q_call (lv) (hc := (c_ContainsFunc_int l lv 0 (lv + 1) [] badT hl rfl (fun n _ => c_wire_two_1 n)))) ?_
 refine AOps.cons rfl rfl (q_not) ?_
 refine AOps.cons rfl rfl (q_assign) ?_
 refine AOps.nil ?_
 refine AWp.ret ?_
 show Fin te Try.f51 _ _
 refine q_ret (0) [_] [_] ?_
 rfl
set_option maxRecDepth 20000 in
set_option maxHeartbeats 2000000 in
theorem c_wire_Can_1 (q : Qu) (h : q.nm.length ≤ 140737488351232) : AC Try.prog 49 [.agg (quc q)] emp (Ret (tf (!qOk q))) := by
 refine AC.intro te_ok (fn := Try.f49) ⟨Try.func49, rfl, rfl⟩ (Nat.le_of_ble_eq_true rfl) ?_
 refine AWp.seq ?_
 refine AWp.region ?_
 refine AOps.cons rfl rfl (q_box 100) ?_
 refine AOps.cons rfl rfl (q_assign) ?_
 refine AOps.nil ?_
 refine AWp.seq ?_
 refine AWp.region ?_
 refine AOps.cons rfl rfl (q_fa) ?_
 refine AOps.cons rfl rfl (q_load) ?_
 refine AOps.bool rfl rfl (q_call (0) (hc := (c_name_Can q.nm (by omega)))) (fun h1_2 => ?_) (fun h1_2 => ?_)
 ·
  refine AOps.cons rfl rfl (q_not) ?_
  refine AOps.cons rfl rfl (q_move) ?_
  refine AOps.gcons rfl rfl rfl rfl rfl (q_fa) ?_
  refine AOps.gcons rfl rfl rfl rfl rfl (q_load) ?_
  refine AOps.gcons rfl rfl rfl rfl rfl (q_fa) ?_
  refine AOps.gcons rfl rfl rfl rfl rfl (q_load) ?_
  refine AOps.gcons rfl rfl rfl rfl rfl (q_bs 209 ic [_, _] [(_, _), (_, _)]) ?_
  refine AOps.gcons rfl rfl rfl rfl rfl (q_call (0) (hc := (c_wire_two [q.ty, q.cs] 1 (by simp)))) ?_
  refine AOps.gcons rfl rfl rfl rfl rfl (q_not) ?_
  refine AOps.cons rfl rfl (q_pick) ?_
  refine AOps.cons rfl rfl (q_assign) ?_
  refine AOps.nil ?_
  refine AWp.ret ?_
  show Fin te Try.f49 _ _
  refine q_ret (0) [_] [_] ?_
  exact congrArg tf (by simp [qOk, *])
 ·
  refine AOps.cons rfl rfl (q_not) ?_
  refine AOps.cons rfl rfl (q_move) ?_
  refine AOps.gskip rfl rfl rfl rfl rfl rfl rfl rfl ?_
  refine AOps.gskip rfl rfl rfl rfl rfl rfl rfl rfl ?_
  refine AOps.gskip rfl rfl rfl rfl rfl rfl rfl rfl ?_
  refine AOps.gskip rfl rfl rfl rfl rfl rfl rfl rfl ?_
  refine AOps.gskip rfl rfl rfl rfl rfl rfl rfl rfl ?_
  refine AOps.gskip rfl rfl rfl rfl rfl rfl rfl rfl ?_
  refine AOps.gskip rfl rfl rfl rfl rfl rfl rfl rfl ?_
  refine AOps.cons rfl rfl (q_pick) ?_
  refine AOps.cons rfl rfl (q_assign) ?_
  refine AOps.nil ?_
  refine AWp.ret ?_
  show Fin te Try.f49 _ _
  refine q_ret (0) [_] [_] ?_
  exact congrArg tf (by simp [qOk, *])
set_option maxRecDepth 20000 in
set_option maxHeartbeats 2000000 in
theorem c_wire_Can_2 (r : Rr) (h : r.nm.length ≤ 140737488351232) (hd : r.da.length ≤ 140737488351232) : AC Try.prog 52 [.agg (rrc r)] emp (Ret (tf (!rOk r))) := by
 refine AC.intro te_ok (fn := Try.f52) ⟨Try.func52, rfl, rfl⟩ (Nat.le_of_ble_eq_true rfl) ?_
 refine AWp.seq ?_
 refine AWp.region ?_
 refine AOps.cons rfl rfl (q_box 100) ?_
 refine AOps.cons rfl rfl (q_assign) ?_
 refine AOps.nil ?_
 refine AWp.seq ?_
 refine AWp.region ?_
 refine AOps.cons rfl rfl (q_fa) ?_
 refine AOps.cons rfl rfl (q_load) ?_
 refine AOps.bool rfl rfl (q_call (0) (hc := (c_name_Can r.nm (by omega)))) (fun h1_2 => ?_) (fun h1_2 => ?_)
 ·
  refine AOps.cons rfl rfl (q_not) ?_
  refine AOps.cons rfl rfl (q_move) ?_
  refine AOps.gcons rfl rfl rfl rfl rfl (q_fa) ?_
  refine AOps.gcons rfl rfl rfl rfl rfl (q_load) ?_
  refine AOps.gcons rfl rfl rfl rfl rfl (q_fa) ?_
  refine AOps.gcons rfl rfl rfl rfl rfl (q_load) ?_
  refine AOps.gcons rfl rfl rfl rfl rfl (q_bs 209 ic [_, _] [(_, _), (_, _)]) ?_
  refine AOps.gbool rfl rfl rfl rfl rfl (q_call (0) (hc := (c_wire_two [r.ty, r.cs] 1 (by simp)))) (fun h1_10 => ?_) (fun h1_10 => ?_)
  ·
   refine AOps.gcons rfl rfl rfl rfl rfl (q_not) ?_
   refine AOps.cons rfl rfl (q_pick) ?_
   refine AOps.cons rfl rfl (q_move) ?_
   refine AOps.gcons rfl rfl rfl rfl rfl (q_fa) ?_
   refine AOps.gcons rfl rfl rfl rfl rfl (q_load) ?_
   refine AOps.gdec rfl rfl rfl rfl rfl (q_lss) (fun h1_16 => ?_) (fun h1_16 => ?_)
   ·
    refine AOps.cons rfl rfl (q_pick) ?_
    refine AOps.cons rfl rfl (q_move) ?_
    refine AOps.gskip rfl rfl rfl rfl rfl rfl rfl rfl ?_
    refine AOps.gskip rfl rfl rfl rfl rfl rfl rfl rfl ?_
    refine AOps.gskip rfl rfl rfl rfl rfl rfl rfl rfl ?_
    refine AOps.cons rfl rfl (q_pick) ?_
    refine AOps.cons rfl rfl (q_move) ?_
    refine AOps.gskip rfl rfl rfl rfl rfl rfl rfl rfl ?_
    refine AOps.gskip rfl rfl rfl rfl rfl rfl rfl rfl ?_
    refine AOps.gskip rfl rfl rfl rfl rfl rfl rfl rfl ?_
    refine AOps.gskip rfl rfl rfl rfl rfl rfl rfl rfl ?_
    refine AOps.gskip rfl rfl rfl rfl rfl rfl rfl rfl ?_
    refine AOps.gskip rfl rfl rfl rfl rfl rfl rfl rfl ?_
    refine AOps.cons rfl rfl (q_pick) ?_
    refine AOps.cons rfl rfl (q_assign) ?_
    refine AOps.nil ?_
    refine AWp.ret ?_
    show Fin te Try.f52 _ _
    refine q_ret (0) [_] [_] ?_
    exact congrArg tf (by simp [rOk, *])
   ·
    refine AOps.cons rfl rfl (q_pick) ?_
    refine AOps.cons rfl rfl (q_move) ?_
    refine AOps.gcons rfl rfl rfl rfl rfl (q_fa) ?_
    refine AOps.gcons rfl rfl rfl rfl rfl (q_load) ?_
    refine AOps.gdec rfl rfl rfl rfl rfl (q_geq) (fun h1_21 => ?_) (fun h1_21 => ?_)
    ·
     refine AOps.cons rfl rfl (q_pick) ?_
     refine AOps.cons rfl rfl (q_move) ?_
     refine AOps.gskip rfl rfl rfl rfl rfl rfl rfl rfl ?_
     refine AOps.gskip rfl rfl rfl rfl rfl rfl rfl rfl ?_
     refine AOps.gskip rfl rfl rfl rfl rfl rfl rfl rfl ?_
     refine AOps.gskip rfl rfl rfl rfl rfl rfl rfl rfl ?_
     refine AOps.gskip rfl rfl rfl rfl rfl rfl rfl rfl ?_
     refine AOps.gskip rfl rfl rfl rfl rfl rfl rfl rfl ?_
     refine AOps.cons rfl rfl (q_pick) ?_
     refine AOps.cons rfl rfl (q_assign) ?_
     refine AOps.nil ?_
     refine AWp.ret ?_
     show Fin te Try.f52 _ _
     refine q_ret (0) [_] [_] ?_
     exact congrArg tf (by simp [rOk, *])
    ·
     refine AOps.cons rfl rfl (q_pick) ?_
     refine AOps.cons rfl rfl (q_move) ?_
     refine AOps.gcons rfl rfl rfl rfl rfl (q_fa) ?_
     refine AOps.gcons rfl rfl rfl rfl rfl (q_load) ?_
     refine AOps.gcons rfl rfl rfl rfl rfl (q_fa) ?_
     refine AOps.gcons rfl rfl rfl rfl rfl (q_load) ?_
     refine AOps.gcons rfl rfl rfl rfl rfl (q_call (0) (hc := (c_CanA r.ty r.da _ hd))) ?_
     refine AOps.gcons rfl rfl rfl rfl rfl (q_not) ?_
     refine AOps.cons rfl rfl (q_pick) ?_
     refine AOps.cons rfl rfl (q_assign) ?_
     refine AOps.nil ?_
     refine AWp.ret ?_
     show Fin te Try.f52 _ _
     refine q_ret (0) [_] [_] ?_
     exact congrArg tf (by simp [rOk, *])
  ·
   refine AOps.gcons rfl rfl rfl rfl rfl (q_not) ?_
   refine AOps.cons rfl rfl (q_pick) ?_
   refine AOps.cons rfl rfl (q_move) ?_
   refine AOps.gskip rfl rfl rfl rfl rfl rfl rfl rfl ?_
   refine AOps.gskip rfl rfl rfl rfl rfl rfl rfl rfl ?_
   refine AOps.gskip rfl rfl rfl rfl rfl rfl rfl rfl ?_
   refine AOps.cons rfl rfl (q_pick) ?_
   refine AOps.cons rfl rfl (q_move) ?_
   refine AOps.gskip rfl rfl rfl rfl rfl rfl rfl rfl ?_
   refine AOps.gskip rfl rfl rfl rfl rfl rfl rfl rfl ?_
   refine AOps.gskip rfl rfl rfl rfl rfl rfl rfl rfl ?_
   refine AOps.cons rfl rfl (q_pick) ?_
   refine AOps.cons rfl rfl (q_move) ?_
   refine AOps.gskip rfl rfl rfl rfl rfl rfl rfl rfl ?_
   refine AOps.gskip rfl rfl rfl rfl rfl rfl rfl rfl ?_
   refine AOps.gskip rfl rfl rfl rfl rfl rfl rfl rfl ?_
   refine AOps.gskip rfl rfl rfl rfl rfl rfl rfl rfl ?_
   refine AOps.gskip rfl rfl rfl rfl rfl rfl rfl rfl ?_
   refine AOps.gskip rfl rfl rfl rfl rfl rfl rfl rfl ?_
   refine AOps.cons rfl rfl (q_pick) ?_
   refine AOps.cons rfl rfl (q_assign) ?_
   refine AOps.nil ?_
   refine AWp.ret ?_
   show Fin te Try.f52 _ _
   refine q_ret (0) [_] [_] ?_
   exact congrArg tf (by simp [rOk, *])
 ·
  refine AOps.cons rfl rfl (q_not) ?_
  refine AOps.cons rfl rfl (q_move) ?_
  refine AOps.gskip rfl rfl rfl rfl rfl rfl rfl rfl ?_
  refine AOps.gskip rfl rfl rfl rfl rfl rfl rfl rfl ?_
  refine AOps.gskip rfl rfl rfl rfl rfl rfl rfl rfl ?_
  refine AOps.gskip rfl rfl rfl rfl rfl rfl rfl rfl ?_
  refine AOps.gskip rfl rfl rfl rfl rfl rfl rfl rfl ?_
  refine AOps.gskip rfl rfl rfl rfl rfl rfl rfl rfl ?_
  refine AOps.gskip rfl rfl rfl rfl rfl rfl rfl rfl ?_
  refine AOps.cons rfl rfl (q_pick) ?_
  refine AOps.cons rfl rfl (q_move) ?_
  refine AOps.gskip rfl rfl rfl rfl rfl rfl rfl rfl ?_
  refine AOps.gskip rfl rfl rfl rfl rfl rfl rfl rfl ?_
  refine AOps.gskip rfl rfl rfl rfl rfl rfl rfl rfl ?_
  refine AOps.cons rfl rfl (q_pick) ?_
  refine AOps.cons rfl rfl (q_move) ?_
  refine AOps.gskip rfl rfl rfl rfl rfl rfl rfl rfl ?_
  refine AOps.gskip rfl rfl rfl rfl rfl rfl rfl rfl ?_
  refine AOps.gskip rfl rfl rfl rfl rfl rfl rfl rfl ?_
  refine AOps.cons rfl rfl (q_pick) ?_
  refine AOps.cons rfl rfl (q_move) ?_
  refine AOps.gskip rfl rfl rfl rfl rfl rfl rfl rfl ?_
  refine AOps.gskip rfl rfl rfl rfl rfl rfl rfl rfl ?_
  refine AOps.gskip rfl rfl rfl rfl rfl rfl rfl rfl ?_
  refine AOps.gskip rfl rfl rfl rfl rfl rfl rfl rfl ?_
  refine AOps.gskip rfl rfl rfl rfl rfl rfl rfl rfl ?_
  refine AOps.gskip rfl rfl rfl rfl rfl rfl rfl rfl ?_
  refine AOps.cons rfl rfl (q_pick) ?_
  refine AOps.cons rfl rfl (q_assign) ?_
  refine AOps.nil ?_
  refine AWp.ret ?_
  show Fin te Try.f52 _ _
  refine q_ret (0) [_] [_] ?_
  exact congrArg tf (by simp [rOk, *])
end Go.Proofs.Ytkfccjbihcbmiaa.Fw


set_option linter.unusedVariables false
set_option linter.unusedSimpArgs false
namespace Go.Proofs.Ytkfccjbihcbmiaa.Fw
open Go.RowKit
def NmOk (m : Msg) : Prop := (∀ x ∈ m.qs, x.nm.length ≤ 140737488351232) ∧ ∀ x ∈ m.rrs, x.nm.length ≤ 140737488351232
theorem hE_iff {h : Hd} {c0 c1 c2 c3 : Int} : hE h c0 c1 c2 c3 = 0 ↔ h.can c0 c1 c2 c3 := by
  unfold hE; split <;> simp [*]
theorem hdO_counts {m : Msg} (h : hdO m) : m.qs.length ≤ 65535 ∧ m.an.length ≤ 65535 ∧ m.au.length ≤ 65535 ∧ m.ad.length ≤ 65535 := by
  obtain ⟨_, _, _, a, b, c, d⟩ := h
  exact ⟨by omega, by omega, by omega, by omega⟩
theorem rrs_flat (m : Msg) : [m.an, m.au, m.ad].flatten = m.rrs := by simp [Msg.rrs]
theorem rrs_da {m : Msg} (h : MsgOk m) : ∀ x ∈ m.rrs, x.da.length ≤ 140737488351232 := by
  obtain ⟨_, h1, h2, h3⟩ := h
  intro x hx
  simp only [Msg.rrs, List.mem_append] at hx
  rcases hx with (hx | hx) | hx
  · exact h1.2 x hx
  · exact h2.2 x hx
  · exact h3.2 x hx
set_option maxRecDepth 20000 in
set_option maxHeartbeats 2000000 in
theorem c_IndexFunc_qu (l : List (Qu)) (lv lv' lw : Nat) (caps : List AV) (g : Qu → Bool) {fid : Nat} (hl : l.length ≤ 140737488351232) (hcaps : AV.oks lw caps = true) (hg : ∀ x ∈ l, AC Try.prog fid (.agg (quc x) :: caps) emp (Ret (tf (g x)))) : AC Try.prog 77 [.fz lv l.length (cl (quc) l), .fn (.func fid) [] caps] emp (Ret (i64 (idx g l))) := by
 refine AC.intro te_ok (fn := Try.f77) ⟨Try.func77, rfl, rfl⟩ (Nat.le_of_ble_eq_true rfl) ?_
 refine AWp.seq ?_
 refine AWp.region ?_
 refine AOps.cons rfl rfl (q_assign) ?_
 refine AOps.nil ?_
 refine AWp.seq ?_
 refine AWp.seq ?_
 refine AWp.region ?_
 refine AOps.cons rfl rfl (q_move) ?_
 refine AOps.cons rfl rfl (q_len) ?_
 refine AOps.cons rfl rfl (q_move) ?_
 refine AOps.nil ?_
 refine AWp.block ?_
 refine AWp.loopR (α := Nat) [4, 5, 8, 9, 10, 11, 12, 13, 14, 15, 16, 17, 18] (fun i => [(8, i64 i)]) (fun i => []) (fun i => i ≤ l.length ∧ ∀ x ∈ l.take i, g x = false) (fun i => l.length - i) 0 ?_ (Back.mk' (HasT.cons HasT.nil) HasH.nil) ?_
 ·
  exact ⟨Nat.zero_le _, by simp⟩
 ·
  rintro i ⟨hi, hI⟩
  refine AWp.seq ?_
  refine AWp.region ?_
  refine AOps.dec rfl rfl (q_lss) (fun h2_0 => ?_) (fun h2_0 => ?_)
  ·
   refine AOps.nil ?_
   refine AWp.seq ?_
   refine AWp.cond_t rfl ?_
   refine AWp.skip ?_
   refine AWp.seq ?_
   refine AWp.block ?_
   refine AWp.seq ?_
   refine AWp.region ?_
   refine AOps.cons rfl rfl (q_move) ?_
   refine AOps.cons rfl rfl (q_assign) ?_
   refine AOps.nil ?_
   refine AWp.seq ?_
   refine AWp.region ?_
   refine AOps.cons rfl rfl (q_move) ?_
   refine AOps.cons rfl rfl (q_move) ?_
   refine AOps.cons rfl rfl (q_move) ?_
   refine AOps.cons rfl rfl (q_ix) ?_
   refine AOps.cons rfl rfl (q_load) ?_
   refine AOps.bool rfl rfl (q_call (lv + lv' + lw) (hA := by exact fvs_caps (l := lw) (fv_okb rfl (by first | rfl | exact ble_of (by omega) | (simp [AV.ok, AV.oks]; done))) (by omega) hcaps) (hc := (hg _ (getD_mem (i := i) (by omega))))) (fun h4_5 => ?_) (fun h4_5 => ?_)
   ·
    refine AOps.nil ?_
    refine AWp.cond_t rfl ?_
    refine AWp.seq ?_
    refine AWp.region ?_
    refine AOps.cons rfl rfl (q_move) ?_
    refine AOps.cons rfl rfl (q_assign) ?_
    refine AOps.nil ?_
    refine AWp.ret ?_
    show Fin te Try.f77 _ _
    refine q_ret (0) [_] [_] ?_
    exact i64_eq (idx_at (by omega) hI h4_5).symm
   ·
    refine AOps.nil ?_
    refine AWp.cond_f rfl ?_
    refine AWp.skip ?_
    refine AWp.region ?_
    refine AOps.cons rfl rfl (q_add) ?_
    refine AOps.cons rfl rfl (q_move) ?_
    refine AOps.nil ?_
    refine ⟨i + 1, ?_, Back.mk' (HasT.cons HasT.nil) HasH.nil, ?_⟩
    ·
     exact ⟨by omega, idx_step (by omega) hI h4_5⟩
    ·
     first | omega | (simp; omega)
  ·
   refine AOps.nil ?_
   refine AWp.seq ?_
   refine AWp.cond_f rfl ?_
   refine AWp.exit ?_
   refine AWp.seq ?_
   refine AWp.region ?_
   refine AOps.cons rfl rfl (q_assign) ?_
   refine AOps.nil ?_
   refine AWp.ret ?_
   show Fin te Try.f77 _ _
   refine q_ret (0) [_] [_] ?_
   exact i64_eq (idx_none (by rwa [List.take_of_length_le (by omega)] at hI)).symm
set_option maxRecDepth 20000 in
set_option maxHeartbeats 2000000 in
theorem c_ContainsFunc_qu (l : List (Qu)) (lv lv' lw : Nat) (caps : List AV) (g : Qu → Bool) {fid : Nat} (hl : l.length ≤ 140737488351232) (hcaps : AV.oks lw caps = true) (hg : ∀ x ∈ l, AC Try.prog fid (.agg (quc x) :: caps) emp (Ret (tf (g x)))) : AC Try.prog 48 [.fz lv l.length (cl (quc) l), .fn (.func fid) [] caps] emp (Ret (tf (l.any g))) := by
 refine AC.intro te_ok (fn := Try.f48) ⟨Try.func48, rfl, rfl⟩ (Nat.le_of_ble_eq_true rfl) ?_
 refine AWp.seq ?_
 refine AWp.region ?_
 refine AOps.cons rfl rfl (q_assign) ?_
 refine AOps.nil ?_
 refine AWp.seq ?_
 refine AWp.region ?_
 refine AOps.cons rfl rfl (q_move) ?_
 refine AOps.cons rfl rfl (q_move) ?_
 refine AOps.cons rfl rfl (q_call (lv + lv' + lw) (hA := by exact ⟨fv_okb rfl (ble_of (by omega)), fv_okb (b := .fn (.func fid) [] caps) rfl (by simp [AV.ok, AV.oks, AV.oks_mono (show lw ≤ lv + lv' + lw by omega) hcaps]), trivial⟩) (hc := (c_IndexFunc_qu l lv lv' lw caps g hl hcaps hg))) ?_
 refine AOps.cons rfl rfl (q_geq) ?_
 refine AOps.cons rfl rfl (q_assign) ?_
 refine AOps.nil ?_
 refine AWp.ret ?_
 show Fin te Try.f48 _ _
 refine q_ret (0) [_] [_] ?_
 exact congrArg tf idx_any
set_option maxRecDepth 20000 in
set_option maxHeartbeats 2000000 in
theorem c_IndexFunc_rr (l : List (Rr)) (lv lv' lw : Nat) (caps : List AV) (g : Rr → Bool) {fid : Nat} (hl : l.length ≤ 140737488351232) (hcaps : AV.oks lw caps = true) (hg : ∀ x ∈ l, AC Try.prog fid (.agg (rrc x) :: caps) emp (Ret (tf (g x)))) : AC Try.prog 86 [.fz lv l.length (cl (rrc) l), .fn (.func fid) [] caps] emp (Ret (i64 (idx g l))) := by
 refine AC.intro te_ok (fn := Try.f86) ⟨Try.func86, rfl, rfl⟩ (Nat.le_of_ble_eq_true rfl) ?_
 refine AWp.seq ?_
 refine AWp.region ?_
 refine AOps.cons rfl rfl (q_assign) ?_
 refine AOps.nil ?_
 refine AWp.seq ?_
 refine AWp.seq ?_
 refine AWp.region ?_
 refine AOps.cons rfl rfl (q_move) ?_
 refine AOps.cons rfl rfl (q_len) ?_
 refine AOps.cons rfl rfl (q_move) ?_
 refine AOps.nil ?_
 refine AWp.block ?_
 refine AWp.loopR (α := Nat) [4, 5, 8, 9, 10, 11, 12, 13, 14, 15, 16, 17, 18] (fun i => [(8, i64 i)]) (fun i => []) (fun i => i ≤ l.length ∧ ∀ x ∈ l.take i, g x = false) (fun i => l.length - i) 0 ?_ (Back.mk' (HasT.cons HasT.nil) HasH.nil) ?_
 ·
  exact ⟨Nat.zero_le _, by simp⟩
 ·
  rintro i ⟨hi, hI⟩
  refine AWp.seq ?_
  refine AWp.region ?_
  refine AOps.dec rfl rfl (q_lss) (fun h2_0 => ?_) (fun h2_0 => ?_)
  ·
   refine AOps.nil ?_
   refine AWp.seq ?_
   refine AWp.cond_t rfl ?_
   refine AWp.skip ?_
   refine AWp.seq ?_
   refine AWp.block ?_
   refine AWp.seq ?_
   refine AWp.region ?_
   refine AOps.cons rfl rfl (q_move) ?_
   refine AOps.cons rfl rfl (q_assign) ?_
   refine AOps.nil ?_
   refine AWp.seq ?_
   refine AWp.region ?_
   refine AOps.cons rfl rfl (q_move) ?_
   refine AOps.cons rfl rfl (q_move) ?_
   refine AOps.cons rfl rfl (q_move) ?_
   refine AOps.cons rfl rfl (q_ix) ?_
   refine AOps.cons rfl rfl (q_load) ?_
   refine AOps.bool rfl rfl (q_call (lv + lv' + lw) (hA := by exact fvs_caps (l := lw) (fv_okb rfl (by first | rfl | exact ble_of (by omega) | (simp [AV.ok, AV.oks]; done))) (by omega) hcaps) (hc := (hg _ (getD_mem (i := i) (by omega))))) (fun h4_5 => ?_) (fun h4_5 => ?_)
   ·
    refine AOps.nil ?_
    refine AWp.cond_t rfl ?_
    refine AWp.seq ?_
    refine AWp.region ?_
    refine AOps.cons rfl rfl (q_move) ?_
    refine AOps.cons rfl rfl (q_assign) ?_
    refine AOps.nil ?_
    refine AWp.ret ?_
    show Fin te Try.f86 _ _
    refine q_ret (0) [_] [_] ?_
    exact i64_eq (idx_at (by omega) hI h4_5).symm
   ·
    refine AOps.nil ?_
    refine AWp.cond_f rfl ?_
    refine AWp.skip ?_
    refine AWp.region ?_
    refine AOps.cons rfl rfl (q_add) ?_
    refine AOps.cons rfl rfl (q_move) ?_
    refine AOps.nil ?_
    refine ⟨i + 1, ?_, Back.mk' (HasT.cons HasT.nil) HasH.nil, ?_⟩
    ·
     exact ⟨by omega, idx_step (by omega) hI h4_5⟩
    ·
     first | omega | (simp; omega)
  ·
   refine AOps.nil ?_
   refine AWp.seq ?_
   refine AWp.cond_f rfl ?_
   refine AWp.exit ?_
   refine AWp.seq ?_
   refine AWp.region ?_
   refine AOps.cons rfl rfl (q_assign) ?_
   refine AOps.nil ?_
   refine AWp.ret ?_
   show Fin te Try.f86 _ _
   refine q_ret (0) [_] [_] ?_
   exact i64_eq (idx_none (by rwa [List.take_of_length_le (by omega)] at hI)).symm
set_option maxRecDepth 20000 in
set_option maxHeartbeats 2000000 in
theorem c_ContainsFunc_rr (l : List (Rr)) (lv lv' lw : Nat) (caps : List AV) (g : Rr → Bool) {fid : Nat} (hl : l.length ≤ 140737488351232) (hcaps : AV.oks lw caps = true) (hg : ∀ x ∈ l, AC Try.prog fid (.agg (rrc x) :: caps) emp (Ret (tf (g x)))) : AC Try.prog 54 [.fz lv l.length (cl (rrc) l), .fn (.func fid) [] caps] emp (Ret (tf (l.any g))) := by
 refine AC.intro te_ok (fn := Try.f54) ⟨Try.func54, rfl, rfl⟩ (Nat.le_of_ble_eq_true rfl) ?_
 refine AWp.seq ?_
 refine AWp.region ?_
 refine AOps.cons rfl rfl (q_assign) ?_
 refine AOps.nil ?_
 refine AWp.seq ?_
 refine AWp.region ?_
 refine AOps.cons rfl rfl (q_move) ?_
 refine AOps.cons rfl rfl (q_move) ?_
 refine AOps.cons rfl rfl (q_call (lv + lv' + lw) (hA := by exact ⟨fv_okb rfl (ble_of (by omega)), fv_okb (b := .fn (.func fid) [] caps) rfl (by simp [AV.ok, AV.oks, AV.oks_mono (show lw ≤ lv + lv' + lw by omega) hcaps]), trivial⟩) (hc := (c_IndexFunc_rr l lv lv' lw caps g hl hcaps hg))) ?_
 refine AOps.cons rfl rfl (q_geq) ?_
 refine AOps.cons rfl rfl (q_assign) ?_
 refine AOps.nil ?_
 refine AWp.ret ?_
 show Fin te Try.f54 _ _
 refine q_ret (0) [_] [_] ?_
 exact congrArg tf idx_any
set_option maxRecDepth 20000 in
set_option maxHeartbeats 2000000 in
theorem c_wire_counts (m : Msg) : AC Try.prog 27 [.agg (msgC m)] emp (Ret (.agg [i64 m.qs.length, i64 m.an.length, i64 m.au.length, i64 m.ad.length])) := by
 refine AC.intro te_ok (fn := Try.f27) ⟨Try.func27, rfl, rfl⟩ (Nat.le_of_ble_eq_true rfl) ?_
 refine AWp.seq ?_
 refine AWp.region ?_
 refine AOps.cons rfl rfl (q_box 100) ?_
 refine AOps.cons rfl rfl (q_alloc 101) ?_
 refine AOps.nil ?_
 refine AWp.seq ?_
 refine AWp.region ?_
 refine AOps.cons rfl rfl (q_fa) ?_
 refine AOps.cons rfl rfl (q_load) ?_
 refine AOps.cons rfl rfl (q_len) ?_
 refine AOps.cons rfl rfl (q_fa) ?_
 refine AOps.cons rfl rfl (q_load) ?_
 refine AOps.cons rfl rfl (q_len) ?_
 refine AOps.cons rfl rfl (q_fa) ?_
 refine AOps.cons rfl rfl (q_load) ?_
 refine AOps.cons rfl rfl (q_len) ?_
 refine AOps.cons rfl rfl (q_fa) ?_
 refine AOps.cons rfl rfl (q_load) ?_
 refine AOps.cons rfl rfl (q_len) ?_
 refine AOps.cons rfl rfl (q_buildA ic [_, _, _, _] [(_, _), (_, _), (_, _), (_, _)]) ?_
 refine AOps.cons rfl rfl (q_store) ?_
 refine AOps.nil ?_
 refine AWp.ret ?_
 show Fin te Try.f27 _ _
 refine q_ret (0) [_] [_] ?_
 rfl
set_option maxRecDepth 20000 in
set_option maxHeartbeats 2000000 in
theorem c_wire_Can (m : Msg) (h : MsgOk m) (hn : NmOk m) : AC Try.prog 22 [.agg (msgC m)] emp (Ret (tf (canM m))) := by
 obtain ⟨q1, q2, q3, q4⟩ := id h
 obtain ⟨n1, n2⟩ := id hn
 have q5 := rrs_da h
 refine AC.intro te_ok (fn := Try.f22) ⟨Try.func22, rfl, rfl⟩ (Nat.le_of_ble_eq_true rfl) ?_
 refine AWp.seq ?_
 refine AWp.region ?_
 refine AOps.cons rfl rfl (q_box 100) ?_
 refine AOps.cons rfl rfl (q_assign) ?_
 refine AOps.nil ?_
 refine AWp.seq ?_
 refine AWp.seq ?_
 refine AWp.draws [⟨0, [1], [100], some 7, _, none⟩,
     ⟨1, [7], [100], some 8, _, none⟩,
     ⟨2, [1], [100], some 9, _, none⟩,
     ⟨3, [9], [], some 10, _, none⟩,
     ⟨4, [8, 10], [], some 11, _, none⟩,
     ⟨5, [11], [], some 6, _, none⟩,
     ⟨6, [6], [], some 12, _, none⟩,
     ⟨7, [6], [], some 13, _, none⟩,
     ⟨8, [12], [], some 3, _, none⟩,
     ⟨9, [13], [], some 4, _, none⟩]
  [⟨0, [1], [100], some 7, .any, none⟩,
      ⟨1, [7], [100], some 8, .any, none⟩,
      ⟨2, [1], [100], some 9, .any, none⟩,
      ⟨3, [9], [], some 10, .any, none⟩,
      ⟨4, [8, 10], [], some 11, .any, none⟩,
      ⟨5, [11], [], some 6, .any, none⟩,
      ⟨6, [6], [], some 12, .any, none⟩,
      ⟨7, [6], [], some 13, .any, none⟩,
      ⟨8, [12], [], some 3, .any, none⟩,
      ⟨9, [13], [], some 4, .any, none⟩]
  mixed_ok rfl (by kernel_rfl) ⟨DS.ok_over fun s0 => OpAt.go rfl rfl (q_fa),
      DS.ok_over fun s0 => OpAt.go rfl rfl (q_load),
      DS.ok_over fun s0 => OpAt.go rfl rfl (q_load),
      DS.ok_over fun s0 => OpAt.go rfl rfl (q_call (0) (hc := (c_wire_counts m))),
      DS.ok_over fun s0 => OpAt.go rfl rfl (q_call (0) (hc := (c_header_Encode (toHd m.h) m.qs.length m.an.length m.au.length m.ad.length))),
      DS.ok_over fun s0 => OpAt.go rfl rfl (q_move),
      DS.ok_over fun s0 => OpAt.go rfl rfl (q_extract),
      DS.ok_over fun s0 => OpAt.go rfl rfl (q_extract),
      DS.ok_over fun s0 => OpAt.go rfl rfl (q_assign),
      DS.ok_over fun s0 => OpAt.go rfl rfl (q_assign), trivial⟩ ?_
 dsimp only [final, DS.upd, AS.seto]
 refine AWp.seq ?_
 refine AWp.region ?_
 refine AOps.cons rfl rfl (q_move) ?_
 refine AOps.dec rfl rfl (q_neq) (fun h2_1 => ?_) (fun h2_1 => ?_)
 ·
  refine AOps.nil ?_
  refine AWp.cond_t rfl ?_
  refine AWp.seq ?_
  refine AWp.region ?_
  refine AOps.cons rfl rfl (q_assign) ?_
  refine AOps.nil ?_
  refine AWp.ret ?_
  show Fin te Try.f22 _ _
  have hO : ¬ hdO m := fun e => h2_1 (hE_iff.2 e)
  refine q_ret (0) [_] [_] ?_
  exact congrArg tf (by simp [canM, hO])
 ·
  refine AOps.nil ?_
  refine AWp.cond_f rfl ?_
  refine AWp.skip ?_
  refine AWp.seq ?_
  refine AWp.seq ?_
  refine AWp.region ?_
  have hO : hdO m := hE_iff.1 (by omega)
  obtain ⟨k1, k2, k3, k4⟩ := hdO_counts hO
  refine AOps.cons rfl rfl (q_fa) ?_
  refine AOps.cons rfl rfl (q_load) ?_
  refine AOps.bool rfl rfl (q_call (0) (hc := (c_ContainsFunc_qu m.qs 0 0 0 [] (fun q => !qOk q) (by omega) rfl (fun q hq => c_wire_Can_1 q (n1 q hq))))) (fun h4_2 => ?_) (fun h4_2 => ?_)
  ·
   refine AOps.nil ?_
   refine AWp.cond_t rfl ?_
   refine AWp.seq ?_
   refine AWp.region ?_
   refine AOps.cons rfl rfl (q_assign) ?_
   refine AOps.nil ?_
   refine AWp.ret ?_
   show Fin te Try.f22 _ _
   refine q_ret (0) [_] [_] ?_
   exact congrArg tf (by rw [canM, h4_2]; simp)
  ·
   refine AOps.nil ?_
   refine AWp.cond_f rfl ?_
   refine AWp.skip ?_
   refine AWp.seq ?_
   refine AWp.region ?_
   refine AOps.cons rfl rfl (q_assign) ?_
   refine AOps.nil ?_
   refine AWp.seq ?_
   refine AWp.region ?_
   refine AOps.cons rfl rfl (q_fa) ?_
   refine AOps.cons rfl rfl (q_load) ?_
   refine AOps.cons rfl rfl (q_fa) ?_
   refine AOps.cons rfl rfl (q_load) ?_
   refine AOps.cons rfl rfl (q_fa) ?_
   refine AOps.cons rfl rfl (q_load) ?_
   refine AOps.cons rfl rfl (q_bs 806 (lc 0 rrc) [m.an, m.au, m.ad] [(_, _), (_, _), (_, _)]) ?_
   refine AOps.cons rfl rfl (q_call (0) (hc := (c_Concat_rr [m.an, m.au, m.ad] 1 (by simp) (by simp; omega)))) ?_
   refine AOps.cons rfl rfl (q_move) ?_
   refine AOps.cons rfl rfl (q_call (0) (hc := (c_ContainsFunc_rr [m.an, m.au, m.ad].flatten 0 0 0 [] (fun r => !rOk r) (by simp; omega) rfl (fun r hr => c_wire_Can_2 r (n2 r (by rw [← rrs_flat]; exact hr)) (q5 r (by rw [← rrs_flat]; exact hr)))))) ?_
   refine AOps.cons rfl rfl (q_not) ?_
   refine AOps.cons rfl rfl (q_assign) ?_
   refine AOps.nil ?_
   refine AWp.ret ?_
   show Fin te Try.f22 _ _
   refine q_ret (0) [_] [_] ?_
   rw [rrs_flat]; exact congrArg tf (by rw [canM, h4_2, decide_eq_true hO]; simp)
end Go.Proofs.Ytkfccjbihcbmiaa.Fw


set_option linter.unusedVariables false
set_option linter.unusedSimpArgs false
namespace Go.Proofs.Ytkfccjbihcbmiaa.Fw
open Go.RowKit
def Nm (ls : List (List UInt8)) : Prop := GoodN ls ∧ (joinN ls).length ≤ 255
theorem can_nm {n : List UInt8} (h : canN n = true) : ∃ ls, Nm ls ∧ n = joinN ls := by
  obtain ⟨ls, g, e, hl⟩ := canN_iff.1 h
  exact ⟨ls, ⟨g, hl⟩, e⟩
theorem Nm.can {ls : List (List UInt8)} (h : Nm ls) : canN (joinN ls) = true := can_join h.1 h.2
theorem Nm.lab {ls : List (List UInt8)} (h : Nm ls) : labN (joinN ls) = ls := labN_join h.1 h.2
theorem Nm.low {ls : List (List UInt8)} (h : Nm ls) : Nm (lowL ls) := ⟨h.1.low, by rw [low_length h.1]; exact h.2⟩
theorem Nm.lowN {ls : List (List UInt8)} (h : Nm ls) : lowN (joinN ls) = joinN (lowL ls) := lowN_join h.1 h.2
theorem Nm.cnt {ls : List (List UInt8)} (h : Nm ls) : cntN (joinN ls) = ls.length := by rw [cntN, h.lab]
theorem Nm.drop {ls : List (List UInt8)} (h : Nm ls) (j : Nat) : Nm (ls.drop j) := by
  refine ⟨fun x hx => h.1 x (List.mem_of_mem_drop hx), ?_⟩
  have h2 := h.2
  induction j generalizing ls with
  | zero => exact h.2
  | succ j ih =>
    cases ls with
    | nil => simpa using h.2
    | cons l ls =>
      have := joinN_le (l := l) (ls := ls)
      exact ih (ls := ls) ⟨h.1.tail, by omega⟩ (by omega)
theorem Nm.inj {a b : List (List UInt8)} (ha : Nm a) (hb : Nm b) : joinN a = joinN b ↔ a = b := ⟨joinN_inj ha.1 hb.1, fun e => by rw [e]⟩
theorem Nm.same {a b : List (List UInt8)} (ha : Nm a) (hb : Nm b) : sameN (joinN a) (joinN b) = decide (lowL a = lowL b) := by
  rw [sameN, ha.can, hb.can, ha.lowN, hb.lowN, decide_eq_decide.2 (ha.low.inj hb.low)]
  rfl
theorem Nm.tail {a : List (List UInt8)} (ha : Nm a) (k : Int) : tailN (joinN a) k = joinN (a.drop (a.length - min (max k 0).toNat a.length)) := by
  rw [tailN, if_pos ha.can, ha.lab]
theorem Nm.par {a : List (List UInt8)} (ha : Nm a) : parS (joinN a) = (if a = [] then [] else joinN (a.drop 1)) ∧ hasP (joinN a) = decide (a ≠ []) := by
  have h : hasP (joinN a) = decide (a ≠ []) := by rw [hasP, ha.lab]
  refine ⟨?_, h⟩
  rw [parS, h, parN, ha.lab]
  by_cases e : a = [] <;> simp [e]
structure Wr where
  b : List UInt8
  m : List (List UInt8 × Int)
  deriving Inhabited
def Wr.put (w : Wr) (l : List UInt8) (ls : List (List UInt8)) : Wr := ⟨w.b ++ (byte (l.length : Int) :: l), if (w.b.length : Int) < 16384 then mput w.m (joinN (l :: ls)) w.b.length else w.m⟩
def wrName : List (List UInt8) → Wr → Wr
  | [], w => ⟨w.b ++ [0], w.m⟩
  | l :: ls, w => match mget w.m (joinN (l :: ls)) with
    | some a => ⟨w.b ++ two (49152 + a), w.m⟩
    | none => wrName ls (w.put l ls)
def nmC : List (List UInt8) → Wr → Nat
  | [], w => 1
  | l :: ls, w => match mget w.m (joinN (l :: ls)) with
    | some a => 1
    | none => 1 + nmC ls (w.put l ls)
theorem wrName_hit {l : List UInt8} {ls : List (List UInt8)} {w : Wr} {a : Int} (h : mget w.m (joinN (l :: ls)) = some a) : wrName (l :: ls) w = ⟨w.b ++ two (49152 + a), w.m⟩ ∧ nmC (l :: ls) w = 1 := by simp [wrName, nmC, h]
theorem wrName_no {l : List UInt8} {ls : List (List UInt8)} {w : Wr} (h : mget w.m (joinN (l :: ls)) = none) : wrName (l :: ls) w = wrName ls (w.put l ls) ∧ nmC (l :: ls) w = 1 + nmC ls (w.put l ls) := by simp [wrName, nmC, h]
def WOk (w : Wr) : Prop := ∀ k a, mget w.m k = some a → 0 ≤ a ∧ a < 16384
theorem WOk.put {w : Wr} (h : WOk w) (l : List UInt8) (ls : List (List UInt8)) : WOk (w.put l ls) := by
  intro k a hk
  unfold Wr.put at hk
  split at hk
  · rw [mget_put] at hk
    split at hk
    · cases hk; omega
    · exact h k a hk
  · exact h k a hk
theorem take_label {l : List UInt8} {ls : List (List UInt8)} : (joinN (l :: ls)).take (((joinN (l :: ls)).length : Int) - (joinN ls).length).toNat = byte (l.length : Int) :: l := by
  have e : (((joinN (l :: ls)).length : Int) - (joinN ls).length).toNat = l.length + 1 := by rw [joinN_cons]; simp; omega
  rw [e, joinN_cons]
  simp
theorem or_c000 {a : Int} (h0 : 0 ≤ a) (h1 : a < 16384) : (((49152 : Int).toNat ||| a.toNat : Nat) : Int) = 49152 + a := by
  have e : ((49152 : Int).toNat) = 2 ^ 14 * 3 := by decide
  rw [e, ← Nat.two_pow_add_eq_or_of_lt (by omega : a.toNat < 2 ^ 14) 3]
  omega
theorem q_orc {n : Nat} {s : AS} {o : Oper} {d : Option Tmp} {t u : TypeId} {x y : Operand} {a : Int} (ho : o.op = .binOp .or t x y u := by exact rfl) (hx : s.ev x = i64 49152 := by exact rfl) (hy : s.ev y = i64 a := by exact rfl)
    (h0 : 0 ≤ a := by first | omega | (simp [*]; done)) (h1 : a < 16384 := by first | omega | (simp [*]; done)) (hdd : o.dst = d := by conv => lhs; whnf) (hd : d.all (Nat.blt · n) = true := by exact rfl) : OpOk Try.prog n o s (s.put d (i64 (49152 + a))) := by
  rw [← or_c000 h0 h1]
  exact q_or ho hx hy (by omega) (by omega) hdd hd
theorem Nm_tl {l : List UInt8} {ls : List (List UInt8)} (h : Nm (l :: ls)) : Nm ls := ⟨h.1.tail, by have := joinN_le (l := l) (ls := ls); have := h.2; omega⟩
theorem flat_two (l : List Int) : (l.flatMap two).length = 2 * l.length := by
  induction l with
  | nil => rfl
  | cons a l ih => rw [List.flatMap_cons, List.length_append, ih, List.length_cons]; show 2 + _ = _; omega
set_option maxRecDepth 20000 in
set_option maxHeartbeats 2000000 in
theorem c_short (b : List UInt8) (m : List (List UInt8 × Int)) (v : Nat) (l : List Int) (lv : Nat) (hb : b.length + 2 * l.length ≤ 100000000000) : AC Try.prog 29 [.ptr 0 0 0, .fz lv l.length (cl ic l)] (hlook [(0, .box [.sl 1 (v) 0 (b).length 1, .mp 2 0]), (1, .row (cl bc (b)) 1 (v)), (2, .map (me MStr (fun b : Int => i64 b) (m)))]) (RetH (.tup []) [(0, .box [.sl 1 (v + l.length) 0 (b ++ l.flatMap two).length 1, .mp 2 0]), (1, .row (cl bc (b ++ l.flatMap two)) 1 (v + l.length)), (2, .map (me MStr (fun b : Int => i64 b) (m)))]) := by
 refine AC.intro te_ok (fn := Try.f29) ⟨Try.func29, rfl, rfl⟩ (Nat.le_of_ble_eq_true rfl) ?_
 refine AWp.seq ?_
 refine AWp.region ?_
 refine AOps.cons rfl rfl (q_move) ?_
 refine AOps.cons rfl rfl (q_len) ?_
 refine AOps.cons rfl rfl (q_move) ?_
 refine AOps.nil ?_
 refine AWp.block ?_
 refine AWp.loopR (α := Nat × List UInt8) [5, 8, 9, 10, 11, 12, 13, 14, 15, 16, 17, 18, 19, 20, 21, 22, 23, 24, 25, 26] (fun x_ => [(8, i64 (x_.1))]) (fun x_ => [(0, .box [.sl 1 (v + (x_.1)) 0 (x_.2).length 1, .mp 2 0]), (1, .row (cl bc (x_.2)) 1 (v + (x_.1)))]) (fun x_ => (x_.1) ≤ l.length ∧ (x_.2) = b ++ (l.take (x_.1)).flatMap two) (fun x_ => l.length - (x_.1)) (0, b) ?_ (Back.mk' (HasT.cons HasT.nil) (HasH.cons (HasH.cons HasH.nil))) ?_
 ·
  exact ⟨Nat.zero_le _, by simp⟩
 ·
  rintro ⟨i, acc⟩ hI1
  change i ≤ l.length ∧ acc = b ++ (l.take i).flatMap two at hI1
  obtain ⟨hi, ha⟩ := hI1
  refine AWp.as (s' := AS.over _ [5, 8, 9, 10, 11, 12, 13, 14, 15, 16, 17, 18, 19, 20, 21, 22, 23, 24, 25, 26] [(8, i64 i)] [(0, .box [.sl 1 (v + i) 0 acc.length 1, .mp 2 0]), (1, .row (cl bc acc) 1 (v + i))]) rfl ?_
  have hal := congrArg List.length ha
  rw [List.length_append, flat_two, List.length_take] at hal
  refine AWp.seq ?_
  refine AWp.region ?_
  refine AOps.dec rfl rfl (q_lss) (fun h1_0 => ?_) (fun h1_0 => ?_)
  ·
   refine AOps.nil ?_
   refine AWp.seq ?_
   refine AWp.cond_t rfl ?_
   refine AWp.skip ?_
   refine AWp.seq ?_
   refine AWp.block ?_
   refine AWp.seq ?_
   refine AWp.region ?_
   refine AOps.cons rfl rfl (q_ix) ?_
   refine AOps.cons rfl rfl (q_load) ?_
   refine AOps.cons rfl rfl (q_assign) ?_
   refine AOps.nil ?_
   refine AWp.region ?_
   refine AOps.cons rfl rfl (q_move) ?_
   refine AOps.cons rfl rfl (q_move) ?_
   refine AOps.cons rfl rfl (q_nil) ?_
   refine AOps.cons rfl rfl (q_fa) ?_
   refine AOps.cons rfl rfl (q_load) ?_
   refine AOps.cons rfl rfl (q_move) ?_
   refine AOps.cons rfl rfl (q_shr 8) ?_
   refine AOps.cons rfl rfl (q_conv_u8) ?_
   refine AOps.cons rfl rfl (q_move) ?_
   refine AOps.cons rfl rfl (q_conv_u8) ?_
   refine AOps.cons rfl rfl (q_bs 410 bc [_, _] [(_, _), (_, _)]) ?_
   refine AOps.cons rfl rfl (q_app) ?_
   refine AOps.cons rfl rfl (q_nil) ?_
   refine AOps.cons rfl rfl (q_fa) ?_
   refine AOps.cons rfl rfl (q_store) ?_
   refine AOps.nil ?_
   refine AWp.region ?_
   refine AOps.cons rfl rfl (q_add) ?_
   refine AOps.cons rfl rfl (q_move) ?_
   refine AOps.nil ?_
   refine ⟨(i + 1, acc ++ two (l.getD i default)), ?_, Back.mk' (HasT.cons HasT.nil) (HasH.cons (HasH.cons HasH.nil)), ?_⟩
   ·
    try dsimp only
    exact ⟨by omega, by rw [ha, take_step' (by omega)]; simp⟩
   ·
    try dsimp only
    first | omega | (simp; omega)
  ·
   refine AOps.nil ?_
   refine AWp.seq ?_
   refine AWp.cond_f rfl ?_
   refine AWp.exit ?_
   show Fin te Try.f29 _ _
   obtain rfl : i = l.length := by omega
   rw [List.take_length] at ha
   subst ha
   refine q_retH (0) [] [] [] [(_, _), (_, _), (_, _)] ?_ (hobj := by repeat' (first | exact trivial | exact lv_ok rfl | exact lv_sl rfl rfl | exact lv_rn rfl rfl .row rfl | exact lv_ptr rfl rfl | exact lv_mp rfl rfl | exact lv_nilz | exact lv_row0 rfl rfl .row (fun _ => rfl) (Nat.le_of_ble_eq_true rfl) (fun _ => rfl) | exact lobj_row (fun _ => rfl) | exact lobj_rown (fun _ => rfl) | exact lobj_me (fun _ => rfl) | refine lobj_box ?_ | refine ⟨rfl, ⟨_, rfl, ?_⟩, ?_⟩ | refine ⟨?_, ?_⟩))
   rfl
set_option maxRecDepth 20000 in
set_option maxHeartbeats 2000000 in
theorem c_wname (ls0 : List (List UInt8)) (w0 : Wr) (v0 : Nat) (hn : Nm ls0) (hw : WOk w0) (hb : w0.b.length ≤ 10000000000) : AC Try.prog 28 [.ptr 0 0 0, str (joinN ls0)] (hlook [(0, .box [.sl 1 (v0) 0 (w0.b).length 1, .mp 2 0]), (1, .row (cl bc (w0.b)) 1 (v0)), (2, .map (me MStr (fun b : Int => i64 b) (w0.m)))]) (RetH (.tup []) [(0, .box [.sl 1 (v0 + nmC ls0 w0) 0 ((wrName ls0 w0).b).length 1, .mp 2 0]), (1, .row (cl bc ((wrName ls0 w0).b)) 1 (v0 + nmC ls0 w0)), (2, .map (me MStr (fun b : Int => i64 b) ((wrName ls0 w0).m)))]) := by
 refine AC.intro te_ok (fn := Try.f28) ⟨Try.func28, rfl, rfl⟩ (Nat.le_of_ble_eq_true rfl) ?_
 refine AWp.seq ?_
 refine AWp.block ?_
 refine AWp.loopR (α := List (List UInt8) × Wr × Nat) [1, 4, 5, 6, 7, 8, 9, 10, 11, 12, 13, 14, 15, 16, 17, 18, 19, 20, 21, 22, 23, 24, 25, 26, 27, 28, 29, 30, 31, 32, 33, 34, 35, 36, 37, 38, 39, 40, 41, 42, 43, 44, 45, 46, 47, 48, 49, 50, 51, 52, 53, 54, 55, 56, 57, 58, 59, 60, 61, 62] (fun x_ => [(1, str (joinN (x_.1)))]) (fun x_ => [(0, .box [.sl 1 ((x_.2.2)) 0 ((x_.2.1).b).length 1, .mp 2 0]), (1, .row (cl bc ((x_.2.1).b)) 1 ((x_.2.2))), (2, .map (me MStr (fun b : Int => i64 b) ((x_.2.1).m)))]) (fun x_ => Nm (x_.1) ∧ WOk (x_.2.1) ∧ (x_.2.1).b.length + (joinN (x_.1)).length ≤ w0.b.length + 255 ∧ wrName (x_.1) (x_.2.1) = wrName ls0 w0 ∧ (x_.2.2) + nmC (x_.1) (x_.2.1) = v0 + nmC ls0 w0) (fun x_ => (x_.1).length) (ls0, w0, v0) ?_ (Back.mk' (HasT.cons HasT.nil) (HasH.cons (HasH.cons (HasH.cons HasH.nil (h2 := by exact objIn_me (fun _ => rfl)) )))) ?_
 ·
  exact ⟨hn, hw, by have := hn.2; show w0.b.length + (joinN ls0).length ≤ _; omega, rfl, rfl⟩
 ·
  rintro ⟨ls, w, v⟩ hI0
  change Nm ls ∧ WOk w ∧ w.b.length + (joinN ls).length ≤ w0.b.length + 255 ∧ wrName ls w = wrName ls0 w0 ∧ v + nmC ls w = v0 + nmC ls0 w0 at hI0
  obtain ⟨hN, hW, hB, hE, hV⟩ := hI0
  refine AWp.as (s' := AS.over _ [1, 4, 5, 6, 7, 8, 9, 10, 11, 12, 13, 14, 15, 16, 17, 18, 19, 20, 21, 22, 23, 24, 25, 26, 27, 28, 29, 30, 31, 32, 33, 34, 35, 36, 37, 38, 39, 40, 41, 42, 43, 44, 45, 46, 47, 48, 49, 50, 51, 52, 53, 54, 55, 56, 57, 58, 59, 60, 61, 62] [(1, str (joinN ls))] [(0, .box [.sl 1 (v) 0 (w.b).length 1, .mp 2 0]), (1, .row (cl bc (w.b)) 1 (v)), (2, .map (me MStr (fun b : Int => i64 b) (w.m)))]) rfl ?_
  have hc := hN.cnt
  have h255 := hN.2
  refine AWp.seq ?_
  refine AWp.seq ?_
  refine AWp.region ?_
  refine AOps.cons rfl rfl (q_move) ?_
  refine AOps.cons rfl rfl (q_call (0) (hc := c_name_Count _ (by first | assumption | omega | decide | (simp; omega) | (simp [*]; done)))) ?_
  refine AOps.dec rfl rfl (q_gtr) (fun h0_2 => ?_) (fun h0_2 => ?_)
  ·
   refine AOps.nil ?_
   refine AWp.cond_t rfl ?_
   refine AWp.skip ?_
   refine AWp.block ?_
   refine AWp.seq ?_
   refine AWp.seq ?_
   refine AWp.region ?_
   obtain ⟨l, ls, rfl⟩ : ∃ l ls', ls = l :: ls' := by
     cases ls with
     | nil => rw [hc] at h0_2; simp at h0_2
     | cons l ls' => exact ⟨l, ls', rfl⟩
   refine AOps.cons rfl rfl (q_move) ?_
   refine AOps.cons rfl rfl (q_nil) ?_
   refine AOps.cons rfl rfl (q_fa) ?_
   refine AOps.cons rfl rfl (q_load) ?_
   refine AOps.cons rfl rfl (q_move) ?_
   refine AOps.cons rfl rfl (q_lookupo MStr) ?_
   refine AOps.cons rfl rfl (q_move) ?_
   refine AOps.cons rfl rfl (q_extract) ?_
   refine AOps.bool rfl rfl (q_extract) (fun h1_8 => ?_) (fun h1_8 => ?_)
   ·
    obtain ⟨a, hm⟩ := Option.isSome_iff_exists.1 h1_8
    have ha := hW _ _ hm
    rw [hm]
    refine AOps.cons rfl rfl (q_assign) ?_
    refine AOps.cons rfl rfl (q_assign) ?_
    refine AOps.nil ?_
    refine AWp.seq ?_
    refine AWp.region ?_
    refine AOps.cons rfl rfl (q_move) ?_
    refine AOps.nil ?_
    refine AWp.cond_t rfl ?_
    refine AWp.seq ?_
    refine AWp.region ?_
    refine AOps.cons rfl rfl (q_move) ?_
    refine AOps.cons rfl rfl (q_move) ?_
    refine AOps.cons rfl rfl (q_orc (a := a)) ?_
    refine AOps.cons rfl rfl (q_bs 403 ic [_] [(_, _)]) ?_
    refine AOps.cons rfl rfl (q_callB (0) [(0, 0), (1, 1), (2, 2)] [] [(_, _), (_, _), (_, _)] (hobj := by repeat' (first | exact trivial | exact lv_ok rfl | exact lv_sl rfl rfl | exact lv_ptr rfl rfl | exact lv_mp rfl rfl | exact lobj_row (fun _ => rfl) | exact lobj_me (fun _ => rfl) | refine lobj_box ?_ | refine ⟨rfl, ⟨_, rfl, ?_⟩, ?_⟩ | refine ⟨?_, ?_⟩)) (hB := by repeat' (first | exact trivial | exact hb_rowc (lv := 0) (fun _ => rfl) | exact hb_me (lv := 0) (fun _ => rfl) | exact rfl | refine ⟨rfl, rfl, ?_, ?_⟩)) (hL := by repeat' (first | exact trivial | exact hl_row (fun _ => rfl) | exact hl_me (fun _ => rfl) | exact ⟨rfl, rfl⟩ | refine ⟨?_, ?_⟩)) (hc := (c_short w.b w.m v [49152 + a] 1 (by simp; omega)))) ?_
    refine AOps.nil ?_
    refine AWp.ret ?_
    show Fin te Try.f28 _ _
    rw [← hE, ← hV, (wrName_hit hm).1, (wrName_hit hm).2]
    refine q_retH (0) [] [] [] [(_, _), (_, _), (_, _)] ?_ (hobj := by repeat' (first | exact trivial | exact lv_ok rfl | exact lv_sl rfl rfl | exact lv_rn rfl rfl .row rfl | exact lv_ptr rfl rfl | exact lv_mp rfl rfl | exact lv_nilz | exact lv_row0 rfl rfl .row (fun _ => rfl) (Nat.le_of_ble_eq_true rfl) (fun _ => rfl) | exact lobj_row (fun _ => rfl) | exact lobj_rown (fun _ => rfl) | exact lobj_me (fun _ => rfl) | refine lobj_box ?_ | refine ⟨rfl, ⟨_, rfl, ?_⟩, ?_⟩ | refine ⟨?_, ?_⟩))
    rfl
   ·
    refine AOps.cons rfl rfl (q_assign) ?_
    refine AOps.cons rfl rfl (q_assign) ?_
    refine AOps.nil ?_
    refine AWp.seq ?_
    refine AWp.region ?_
    refine AOps.cons rfl rfl (q_move) ?_
    refine AOps.nil ?_
    refine AWp.cond_f rfl ?_
    refine AWp.skip ?_
    refine AWp.seq ?_
    refine AWp.seq ?_
    refine AWp.region ?_
    refine AOps.cons rfl rfl (q_move) ?_
    refine AOps.cons rfl rfl (q_nil) ?_
    refine AOps.cons rfl rfl (q_fa) ?_
    refine AOps.cons rfl rfl (q_load) ?_
    refine AOps.cons rfl rfl (q_len) ?_
    refine AOps.dec rfl rfl (q_lss) (fun h4_5 => ?_) (fun h4_5 => ?_)
    ·
     refine AOps.nil ?_
     refine AWp.cond_t rfl ?_
     have hput : w.put l ls = ⟨w.b ++ (byte (l.length : Int) :: l), mput w.m (joinN (l :: ls)) w.b.length⟩ := by simp only [Wr.put, if_pos h4_5]
     refine AWp.draws [⟨0, [0], [], some 32, _, none⟩,
         ⟨1, [32], [0], some 33, _, none⟩,
         ⟨2, [33], [0], some 34, _, none⟩,
         ⟨3, [34], [0], some 35, _, none⟩,
         ⟨4, [1], [], some 36, _, none⟩,
         ⟨5, [0], [], some 37, _, none⟩,
         ⟨6, [37], [0], some 38, _, none⟩,
         ⟨7, [38], [0], some 39, _, none⟩,
         ⟨8, [39], [0], some 40, _, none⟩,
         ⟨9, [40], [1], some 41, _, none⟩,
         ⟨10, [35, 36, 41], [2], none, _, some (2, _)⟩]
      [⟨0, [0], [], some 32, .any, none⟩,
          ⟨1, [32], [0], some 33, .any, none⟩,
          ⟨2, [33], [0], some 34, .any, none⟩,
          ⟨3, [34], [0], some 35, .any, none⟩,
          ⟨4, [1], [], some 36, .any, none⟩,
          ⟨5, [0], [], some 37, .any, none⟩,
          ⟨6, [37], [0], some 38, .any, none⟩,
          ⟨7, [38], [0], some 39, .any, none⟩,
          ⟨8, [39], [0], some 40, .any, none⟩,
          ⟨9, [40], [1], some 41, .any, none⟩,
          ⟨10, [35, 36, 41], [2], none, .any, some (2, .box [])⟩]
      mixed_ok rfl (by kernel_rfl) ⟨DS.ok_over fun s0 => OpAt.go rfl rfl (q_move),
          DS.ok_over fun s0 => OpAt.go rfl rfl (q_nil),
          DS.ok_over fun s0 => OpAt.go rfl rfl (q_fa),
          DS.ok_over fun s0 => OpAt.go rfl rfl (q_load),
          DS.ok_over fun s0 => OpAt.go rfl rfl (q_move),
          DS.ok_over fun s0 => OpAt.go rfl rfl (q_move),
          DS.ok_over fun s0 => OpAt.go rfl rfl (q_nil),
          DS.ok_over fun s0 => OpAt.go rfl rfl (q_fa),
          DS.ok_over fun s0 => OpAt.go rfl rfl (q_load),
          DS.ok_over fun s0 => OpAt.go rfl rfl (q_len),
          DS.ok_over fun s0 => OpAt.go rfl rfl (q_mapUpdate MStr _), trivial⟩ ?_
     dsimp only [final, DS.upd, AS.seto]
     refine AWp.seq ?_
     refine AWp.region ?_
     refine AOps.cons rfl rfl (q_move) ?_
     refine AOps.cons rfl rfl (q_call (0) (hc := c_name_Parent _ (by first | assumption | omega | decide | (simp; omega) | (simp [*]; done)))) ?_
     refine AOps.cons rfl rfl (q_move) ?_
     refine AOps.cons rfl rfl (q_extract) ?_
     refine AOps.cons rfl rfl (q_extract) ?_
     refine AOps.cons rfl rfl (q_assign) ?_
     refine AOps.cons rfl rfl (q_assign) ?_
     refine AOps.nil ?_
     refine AWp.seq ?_
     have hp : parS (joinN (l :: ls)) = joinN ls := by rw [hN.par.1, if_neg (by simp)]; rfl
     have hN2 : Nm ls := Nm_tl hN
     have hm : mget w.m (joinN (l :: ls)) = none := by cases hq : mget w.m (joinN (l :: ls)) with
       | none => rfl
       | some _ => rw [hq] at h1_8; cases h1_8
     have hle := joinN_le (l := l) (ls := ls)
     have hJ : (joinN (l :: ls)).length = l.length + 1 + (joinN ls).length := by rw [joinN_cons]; simp; omega
     rw [hp]
     refine AWp.draws [⟨0, [0], [], some 47, _, none⟩,
         ⟨1, [0], [], some 48, _, none⟩,
         ⟨2, [48], [0], some 49, _, none⟩,
         ⟨3, [49], [0], some 50, _, none⟩,
         ⟨4, [50], [0], some 51, _, none⟩,
         ⟨5, [1], [], some 52, _, none⟩,
         ⟨6, [1], [], some 53, _, none⟩,
         ⟨7, [53], [], some 54, _, none⟩,
         ⟨8, [6], [], some 55, _, none⟩,
         ⟨9, [55], [], some 56, _, none⟩,
         ⟨10, [54, 56], [], some 57, _, none⟩,
         ⟨11, [52, 57], [], some 58, _, none⟩,
         ⟨12, [51, 58], [1], some 59, _, some (1, _)⟩,
         ⟨13, [47], [0], some 60, _, none⟩,
         ⟨14, [60], [0], some 61, _, none⟩,
         ⟨15, [59, 61], [0, 1], none, _, some (0, _)⟩]
      [⟨0, [0], [], some 47, .any, none⟩,
          ⟨1, [0], [], some 48, .any, none⟩,
          ⟨2, [48], [0], some 49, .any, none⟩,
          ⟨3, [49], [0], some 50, .any, none⟩,
          ⟨4, [50], [0], some 51, .any, none⟩,
          ⟨5, [1], [], some 52, .any, none⟩,
          ⟨6, [1], [], some 53, .any, none⟩,
          ⟨7, [53], [], some 54, .any, none⟩,
          ⟨8, [6], [], some 55, .any, none⟩,
          ⟨9, [55], [], some 56, .any, none⟩,
          ⟨10, [54, 56], [], some 57, .any, none⟩,
          ⟨11, [52, 57], [], some 58, .any, none⟩,
          ⟨12, [51, 58], [1], some 59, .any, some (1, .box [])⟩,
          ⟨13, [47], [0], some 60, .any, none⟩,
          ⟨14, [60], [0], some 61, .any, none⟩,
          ⟨15, [59, 61], [0, 1], none, .any, some (0, .box [])⟩]
      mixed_ok rfl (by kernel_rfl) ⟨DS.ok_over fun s0 => OpAt.go rfl rfl (q_move),
          DS.ok_over fun s0 => OpAt.go rfl rfl (q_move),
          DS.ok_over fun s0 => OpAt.go rfl rfl (q_nil),
          DS.ok_over fun s0 => OpAt.go rfl rfl (q_fa),
          DS.ok_over fun s0 => OpAt.go rfl rfl (q_load),
          DS.ok_over fun s0 => OpAt.go rfl rfl (q_move),
          DS.ok_over fun s0 => OpAt.go rfl rfl (q_move),
          DS.ok_over fun s0 => OpAt.go rfl rfl (q_len_str),
          DS.ok_over fun s0 => OpAt.go rfl rfl (q_move),
          DS.ok_over fun s0 => OpAt.go rfl rfl (q_len_str),
          DS.ok_over fun s0 => OpAt.go rfl rfl (q_sub),
          DS.ok_over fun s0 => OpAt.go rfl rfl (q_sls_hi),
          DS.ok_over fun s0 => OpAt.go rfl rfl (q_app),
          DS.ok_over fun s0 => OpAt.go rfl rfl (q_nil),
          DS.ok_over fun s0 => OpAt.go rfl rfl (q_fa),
          DS.ok_over fun s0 => OpAt.go rfl rfl (q_store), trivial⟩ ?_
     dsimp only [final, DS.upd, AS.seto]
     refine AWp.region ?_
     refine AOps.cons rfl rfl (q_move) ?_
     refine AOps.cons rfl rfl (q_assign) ?_
     refine AOps.nil ?_
     rw [take_label]
     refine ⟨(ls, ⟨w.b ++ (byte (l.length : Int) :: l), mput w.m (joinN (l :: ls)) w.b.length⟩, v + 1), ?_, Back.mk' (HasT.cons HasT.nil) (HasH.cons (HasH.cons (HasH.cons HasH.nil (h2 := by exact objIn_me (fun _ => rfl)) ))), ?_⟩
     ·
      try dsimp only
      rw [← hput]
      refine ⟨hN2, hW.put l ls, ?_, by rw [← hE, (wrName_no hm).1], by rw [← hV, (wrName_no hm).2]; try omega⟩
      simp only [List.length_append, List.length_cons]; try omega
     ·
      try dsimp only
      simp
    ·
     refine AOps.nil ?_
     refine AWp.cond_f rfl ?_
     refine AWp.skip ?_
     refine AWp.seq ?_
     refine AWp.region ?_
     have hput : w.put l ls = ⟨w.b ++ (byte (l.length : Int) :: l), w.m⟩ := by simp only [Wr.put, if_neg h4_5]
     refine AOps.cons rfl rfl (q_move) ?_
     refine AOps.cons rfl rfl (q_call (0) (hc := c_name_Parent _ (by first | assumption | omega | decide | (simp; omega) | (simp [*]; done)))) ?_
     refine AOps.cons rfl rfl (q_move) ?_
     refine AOps.cons rfl rfl (q_extract) ?_
     refine AOps.cons rfl rfl (q_extract) ?_
     refine AOps.cons rfl rfl (q_assign) ?_
     refine AOps.cons rfl rfl (q_assign) ?_
     refine AOps.nil ?_
     refine AWp.seq ?_
     have hp : parS (joinN (l :: ls)) = joinN ls := by rw [hN.par.1, if_neg (by simp)]; rfl
     have hN2 : Nm ls := Nm_tl hN
     have hm : mget w.m (joinN (l :: ls)) = none := by cases hq : mget w.m (joinN (l :: ls)) with
       | none => rfl
       | some _ => rw [hq] at h1_8; cases h1_8
     have hle := joinN_le (l := l) (ls := ls)
     have hJ : (joinN (l :: ls)).length = l.length + 1 + (joinN ls).length := by rw [joinN_cons]; simp; omega
     rw [hp]
     refine AWp.draws [⟨0, [0], [], some 47, _, none⟩,
         ⟨1, [0], [], some 48, _, none⟩,
         ⟨2, [48], [0], some 49, _, none⟩,
         ⟨3, [49], [0], some 50, _, none⟩,
         ⟨4, [50], [0], some 51, _, none⟩,
         ⟨5, [1], [], some 52, _, none⟩,
         ⟨6, [1], [], some 53, _, none⟩,
         ⟨7, [53], [], some 54, _, none⟩,
         ⟨8, [6], [], some 55, _, none⟩,
         ⟨9, [55], [], some 56, _, none⟩,
         ⟨10, [54, 56], [], some 57, _, none⟩,
         ⟨11, [52, 57], [], some 58, _, none⟩,
         ⟨12, [51, 58], [1], some 59, _, some (1, _)⟩,
         ⟨13, [47], [0], some 60, _, none⟩,
         ⟨14, [60], [0], some 61, _, none⟩,
         ⟨15, [59, 61], [0, 1], none, _, some (0, _)⟩]
      [⟨0, [0], [], some 47, .any, none⟩,
          ⟨1, [0], [], some 48, .any, none⟩,
          ⟨2, [48], [0], some 49, .any, none⟩,
          ⟨3, [49], [0], some 50, .any, none⟩,
          ⟨4, [50], [0], some 51, .any, none⟩,
          ⟨5, [1], [], some 52, .any, none⟩,
          ⟨6, [1], [], some 53, .any, none⟩,
          ⟨7, [53], [], some 54, .any, none⟩,
          ⟨8, [6], [], some 55, .any, none⟩,
          ⟨9, [55], [], some 56, .any, none⟩,
          ⟨10, [54, 56], [], some 57, .any, none⟩,
          ⟨11, [52, 57], [], some 58, .any, none⟩,
          ⟨12, [51, 58], [1], some 59, .any, some (1, .box [])⟩,
          ⟨13, [47], [0], some 60, .any, none⟩,
          ⟨14, [60], [0], some 61, .any, none⟩,
          ⟨15, [59, 61], [0, 1], none, .any, some (0, .box [])⟩]
      mixed_ok rfl (by kernel_rfl) ⟨DS.ok_over fun s0 => OpAt.go rfl rfl (q_move),
          DS.ok_over fun s0 => OpAt.go rfl rfl (q_move),
          DS.ok_over fun s0 => OpAt.go rfl rfl (q_nil),
          DS.ok_over fun s0 => OpAt.go rfl rfl (q_fa),
          DS.ok_over fun s0 => OpAt.go rfl rfl (q_load),
          DS.ok_over fun s0 => OpAt.go rfl rfl (q_move),
          DS.ok_over fun s0 => OpAt.go rfl rfl (q_move),
          DS.ok_over fun s0 => OpAt.go rfl rfl (q_len_str),
          DS.ok_over fun s0 => OpAt.go rfl rfl (q_move),
          DS.ok_over fun s0 => OpAt.go rfl rfl (q_len_str),
          DS.ok_over fun s0 => OpAt.go rfl rfl (q_sub),
          DS.ok_over fun s0 => OpAt.go rfl rfl (q_sls_hi),
          DS.ok_over fun s0 => OpAt.go rfl rfl (q_app),
          DS.ok_over fun s0 => OpAt.go rfl rfl (q_nil),
          DS.ok_over fun s0 => OpAt.go rfl rfl (q_fa),
          DS.ok_over fun s0 => OpAt.go rfl rfl (q_store), trivial⟩ ?_
     dsimp only [final, DS.upd, AS.seto]
     refine AWp.region ?_
     refine AOps.cons rfl rfl (q_move) ?_
     refine AOps.cons rfl rfl (q_assign) ?_
     refine AOps.nil ?_
     rw [take_label]
     refine ⟨(ls, ⟨w.b ++ (byte (l.length : Int) :: l), w.m⟩, v + 1), ?_, Back.mk' (HasT.cons HasT.nil) (HasH.cons (HasH.cons (HasH.cons HasH.nil (h2 := by exact objIn_me (fun _ => rfl)) ))), ?_⟩
     ·
      try dsimp only
      rw [← hput]
      refine ⟨hN2, hW.put l ls, ?_, by rw [← hE, (wrName_no hm).1], by rw [← hV, (wrName_no hm).2]; try omega⟩
      simp only [List.length_append, List.length_cons]; try omega
     ·
      try dsimp only
      simp
  ·
   refine AOps.nil ?_
   refine AWp.cond_f rfl ?_
   refine AWp.exit ?_
   refine AWp.region ?_
   obtain rfl : ls = [] := by
     cases ls with
     | nil => rfl
     | cons l ls' => rw [hc] at h0_2; simp at h0_2; try omega
   refine AOps.cons rfl rfl (q_move) ?_
   refine AOps.cons rfl rfl (q_move) ?_
   refine AOps.cons rfl rfl (q_nil) ?_
   refine AOps.cons rfl rfl (q_fa) ?_
   refine AOps.cons rfl rfl (q_load) ?_
   refine AOps.cons rfl rfl (q_bs 1005 bc [0] [(_, _)]) ?_
   refine AOps.cons rfl rfl (q_app) ?_
   refine AOps.cons rfl rfl (q_nil) ?_
   refine AOps.cons rfl rfl (q_fa) ?_
   refine AOps.cons rfl rfl (q_store) ?_
   refine AOps.nil ?_
   show Fin te Try.f28 _ _
   rw [← hE, ← hV]
   refine q_retH (0) [] [] [] [(_, _), (_, _), (_, _)] ?_ (hobj := by repeat' (first | exact trivial | exact lv_ok rfl | exact lv_sl rfl rfl | exact lv_rn rfl rfl .row rfl | exact lv_ptr rfl rfl | exact lv_mp rfl rfl | exact lv_nilz | exact lv_row0 rfl rfl .row (fun _ => rfl) (Nat.le_of_ble_eq_true rfl) (fun _ => rfl) | exact lobj_row (fun _ => rfl) | exact lobj_rown (fun _ => rfl) | exact lobj_me (fun _ => rfl) | refine lobj_box ?_ | refine ⟨rfl, ⟨_, rfl, ?_⟩, ?_⟩ | refine ⟨?_, ?_⟩))
   rfl
end Go.Proofs.Ytkfccjbihcbmiaa.Fw


