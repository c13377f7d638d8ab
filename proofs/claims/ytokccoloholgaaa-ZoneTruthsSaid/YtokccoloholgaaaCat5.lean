/- The texts R18c, R18d, R18e, W18g, Q18, W18s, W18h, R18h, M18, L18a, one behind the other: what the walks and plain laws need; conditions stand with each theorem. -/
import Derived.Lib.SlBytesConst
import Derived.Test.YtokccoloholgaaaCat4
set_option linter.unusedVariables false
set_option linter.unusedSimpArgs false
namespace Go.Proofs.Ytokccoloholgaaa.Fw
open Go.RowKit
theorem aloP_1 {z : Zo} {i k : Nat} (h : ¬ ¬ (i : Int) = k) : aloP z i k = false := by rw [aloP, decide_eq_false (p := i ≠ k) (by omega)]; rfl
theorem aloP_2 {z : Zo} {i k : Nat} (h : ¬ (z.rs.getD i default).ty = 5) : aloP z i k = false := by rw [aloP, decide_eq_false h, Bool.and_false]; rfl
theorem aloP_3 {z : Zo} {i k : Nat} (h : sameN (z.rs.getD i default).nm (z.rs.getD k default).nm = false) : aloP z i k = false := by rw [aloP, h, Bool.and_false]
theorem aloP_yes {z : Zo} {i k : Nat} (h : ¬ (i : Int) = k) (h2 : (z.rs.getD i default).ty = 5) (h3 : sameN (z.rs.getD i default).nm (z.rs.getD k default).nm = true) : aloP z i k = true := by
  rw [aloP, decide_eq_true (p := i ≠ k) (by omega), decide_eq_true h2, h3]; rfl
theorem range_no_step {p : Nat → Bool} {j : Nat} (h : (List.range j).any p = false) (h2 : p j = false) : (List.range (j + 1)).any p = false := by rw [range_any_step, h, h2]; rfl
theorem aloZ_no {z : Zo} {i : Nat} (hi : i < z.rs.length) (h : (List.range z.rs.length).any (aloP z i) = true) : aloZ z = false := by
  rw [aloZ, range_all_no hi (by rw [h]; rfl)]
theorem aloZ_yes {z : Zo} (h : ∀ j, j < z.rs.length → (List.range z.rs.length).any (aloP z j) = false) : aloZ z = true := by
  rw [aloZ, range_all_iff.2 fun j hj => by rw [h j hj]; rfl]
set_option maxRecDepth 20000 in
set_option maxHeartbeats 2000000 in
theorem c_ciceroneref18_alone (z : Zo) (hz : ZoOk z) : AC Try.prog 41 [.agg (zoC z)] emp (Ret (tf (aloZ z))) := by
 have hrl : z.rs.length * 64 ≤ 140737488351232 := hz.2.1.1
 have hol := hz.1
 refine AC.intro te_ok (fn := Try.f41) ⟨Try.func41, rfl, rfl⟩ (Nat.le_of_ble_eq_true rfl) ?_
 refine AWp.seq ?_
 refine AWp.region ?_
 refine AOps.cons rfl rfl (q_box 100) ?_
 refine AOps.cons rfl rfl (q_assign) ?_
 refine AOps.nil ?_
 refine AWp.seq ?_
 refine AWp.seq ?_
 refine AWp.region ?_
 refine AOps.cons rfl rfl (q_fa) ?_
 refine AOps.cons rfl rfl (q_load) ?_
 refine AOps.cons rfl rfl (q_len) ?_
 refine AOps.cons rfl rfl (q_move) ?_
 refine AOps.nil ?_
 refine AWp.block ?_
 refine AWp.loopR (α := Nat) [2, 3, 4, 5, 6, 10, 11, 12, 13, 14, 15, 16, 17, 18, 19, 20, 21, 22, 23, 24, 25, 26, 27, 28, 29, 30, 31, 32, 33, 34, 35, 36, 37, 38, 39] (fun i => [(10, i64 i)]) (fun i => []) (fun i => i ≤ z.rs.length ∧ ∀ j, j < i → (List.range z.rs.length).any (aloP z j) = false) (fun i => z.rs.length - i) 0 ?_ (Back.mk' (HasT.cons HasT.nil) HasH.nil) ?_
 ·
  exact ⟨Nat.zero_le _, fun j hj => absurd hj (Nat.not_lt_zero j)⟩
 ·
  rintro i ⟨hi, hc⟩
  refine AWp.seq ?_
  refine AWp.region ?_
  refine AOps.dec rfl rfl (q_lss) (fun h2_0 => ?_) (fun h2_0 => ?_)
  ·
   refine AOps.nil ?_
   refine AWp.seq ?_
   refine AWp.cond_t rfl ?_
   refine AWp.skip ?_
   refine AWp.seq ?_
   refine AWp.block ?_
   refine AWp.seq ?_
   refine AWp.region ?_
   refine AOps.cons rfl rfl (q_move) ?_
   refine AOps.cons rfl rfl (q_ix) ?_
   refine AOps.cons rfl rfl (q_load) ?_
   refine AOps.cons rfl rfl (q_alloc 403) ?_
   refine AOps.cons rfl rfl (q_assign) ?_
   refine AOps.cons rfl rfl (q_store) ?_
   refine AOps.nil ?_
   refine AWp.seq ?_
   refine AWp.region ?_
   have hr := hz.2.2 _ (getD_mem' (l := z.rs) (i := i) (by omega))
   have hrd := hz.2.1.2 _ (getD_mem' (l := z.rs) (i := i) (by omega))
   refine AOps.cons rfl rfl (q_fa) ?_
   refine AOps.cons rfl rfl (q_load) ?_
   refine AOps.cons rfl rfl (q_len) ?_
   refine AOps.cons rfl rfl (q_move) ?_
   refine AOps.nil ?_
   refine AWp.block ?_
   refine AWp.loopR (α := Nat) [2, 5, 6, 18, 19, 20, 21, 22, 23, 24, 25, 26, 27, 28, 29, 30, 31, 32, 33, 34, 35, 36, 37, 38] (fun k => [(18, i64 k)]) (fun k => []) (fun k => k ≤ z.rs.length ∧ (List.range k).any (aloP z i) = false) (fun k => z.rs.length - k) 0 ?_ (Back.mk' (HasT.cons HasT.nil) HasH.nil) ?_
   ·
    exact ⟨Nat.zero_le _, rfl⟩
   ·
    rintro k ⟨hki, hk⟩
    refine AWp.seq ?_
    refine AWp.region ?_
    refine AOps.dec rfl rfl (q_lss) (fun h5_0 => ?_) (fun h5_0 => ?_)
    ·
     refine AOps.nil ?_
     refine AWp.seq ?_
     refine AWp.cond_t rfl ?_
     refine AWp.skip ?_
     refine AWp.seq ?_
     refine AWp.block ?_
     refine AWp.seq ?_
     refine AWp.region ?_
     refine AOps.cons rfl rfl (q_move) ?_
     refine AOps.cons rfl rfl (q_ix) ?_
     refine AOps.cons rfl rfl (q_load) ?_
     refine AOps.cons rfl rfl (q_alloc 703) ?_
     refine AOps.cons rfl rfl (q_assign) ?_
     refine AOps.cons rfl rfl (q_store) ?_
     refine AOps.nil ?_
     refine AWp.seq ?_
     refine AWp.region ?_
     have hrk := hz.2.2 _ (getD_mem' (l := z.rs) (i := k) (by omega))
     refine AOps.cons rfl rfl (q_move) ?_
     refine AOps.cons rfl rfl (q_move) ?_
     refine AOps.dec rfl rfl (q_neq) (fun h7_2 => ?_) (fun h7_2 => ?_)
     ·
      refine AOps.cons rfl rfl (q_move) ?_
      refine AOps.gcons rfl rfl rfl rfl rfl (q_fa) ?_
      refine AOps.gcons rfl rfl rfl rfl rfl (q_load) ?_
      refine AOps.gdec rfl rfl rfl rfl rfl (q_eql) (fun h7_6 => ?_) (fun h7_6 => ?_)
      ·
       refine AOps.cons rfl rfl (q_pick) ?_
       refine AOps.cons rfl rfl (q_move) ?_
       refine AOps.gcons rfl rfl rfl rfl rfl (q_fa) ?_
       refine AOps.gcons rfl rfl rfl rfl rfl (q_load) ?_
       refine AOps.gcons rfl rfl rfl rfl rfl (q_fa) ?_
       refine AOps.gcons rfl rfl rfl rfl rfl (q_load) ?_
       refine AOps.gbool rfl rfl rfl rfl rfl (q_call (0) (hc := (c_ciceroneref01_Same (z.rs.getD i default).nm (z.rs.getD k default).nm (by omega) (by omega)))) (fun h7_13 => ?_) (fun h7_13 => ?_)
       ·
        refine AOps.cons rfl rfl (q_pick) ?_
        refine AOps.nil ?_
        refine AWp.cond_t rfl ?_
        refine AWp.seq ?_
        refine AWp.region ?_
        refine AOps.cons rfl rfl (q_assign) ?_
        refine AOps.nil ?_
        refine AWp.ret ?_
        show Fin te Try.f41 _ _
        refine q_ret (0) [_] [_] ?_
        exact congrArg tf (aloZ_no (i := i) (by omega) (range_any_yes (j := k) (by omega) (aloP_yes h7_2 h7_6 h7_13))).symm
       ·
        refine AOps.cons rfl rfl (q_pick) ?_
        refine AOps.nil ?_
        refine AWp.cond_f rfl ?_
        refine AWp.skip ?_
        refine AWp.region ?_
        refine AOps.cons rfl rfl (q_add) ?_
        refine AOps.cons rfl rfl (q_move) ?_
        refine AOps.nil ?_
        refine ⟨k + 1, ?_, Back.mk' (HasT.cons HasT.nil) HasH.nil, ?_⟩
        ·
         exact ⟨by omega, range_no_step hk (aloP_3 h7_13)⟩
        ·
         first | omega | (simp; omega)
      ·
       refine AOps.cons rfl rfl (q_pick) ?_
       refine AOps.cons rfl rfl (q_move) ?_
       refine AOps.gskip rfl rfl rfl rfl rfl rfl rfl rfl ?_
       refine AOps.gskip rfl rfl rfl rfl rfl rfl rfl rfl ?_
       refine AOps.gskip rfl rfl rfl rfl rfl rfl rfl rfl ?_
       refine AOps.gskip rfl rfl rfl rfl rfl rfl rfl rfl ?_
       refine AOps.gskip rfl rfl rfl rfl rfl rfl rfl rfl ?_
       refine AOps.cons rfl rfl (q_pick) ?_
       refine AOps.nil ?_
       refine AWp.cond_f rfl ?_
       refine AWp.skip ?_
       refine AWp.region ?_
       refine AOps.cons rfl rfl (q_add) ?_
       refine AOps.cons rfl rfl (q_move) ?_
       refine AOps.nil ?_
       refine ⟨k + 1, ?_, Back.mk' (HasT.cons HasT.nil) HasH.nil, ?_⟩
       ·
        exact ⟨by omega, range_no_step hk (aloP_2 h7_6)⟩
       ·
        first | omega | (simp; omega)
     ·
      refine AOps.cons rfl rfl (q_move) ?_
      refine AOps.gskip rfl rfl rfl rfl rfl rfl rfl rfl ?_
      refine AOps.gskip rfl rfl rfl rfl rfl rfl rfl rfl ?_
      refine AOps.gskip rfl rfl rfl rfl rfl rfl rfl rfl ?_
      refine AOps.cons rfl rfl (q_pick) ?_
      refine AOps.cons rfl rfl (q_move) ?_
      refine AOps.gskip rfl rfl rfl rfl rfl rfl rfl rfl ?_
      refine AOps.gskip rfl rfl rfl rfl rfl rfl rfl rfl ?_
      refine AOps.gskip rfl rfl rfl rfl rfl rfl rfl rfl ?_
      refine AOps.gskip rfl rfl rfl rfl rfl rfl rfl rfl ?_
      refine AOps.gskip rfl rfl rfl rfl rfl rfl rfl rfl ?_
      refine AOps.cons rfl rfl (q_pick) ?_
      refine AOps.nil ?_
      refine AWp.cond_f rfl ?_
      refine AWp.skip ?_
      refine AWp.region ?_
      refine AOps.cons rfl rfl (q_add) ?_
      refine AOps.cons rfl rfl (q_move) ?_
      refine AOps.nil ?_
      refine ⟨k + 1, ?_, Back.mk' (HasT.cons HasT.nil) HasH.nil, ?_⟩
      ·
       exact ⟨by omega, range_no_step hk (aloP_1 h7_2)⟩
      ·
       first | omega | (simp; omega)
    ·
     refine AOps.nil ?_
     refine AWp.seq ?_
     refine AWp.cond_f rfl ?_
     refine AWp.exit ?_
     refine AWp.region ?_
     refine AOps.cons rfl rfl (q_add) ?_
     refine AOps.cons rfl rfl (q_move) ?_
     refine AOps.nil ?_
     refine ⟨i + 1, ?_, Back.mk' (HasT.cons HasT.nil) HasH.nil, ?_⟩
     ·
      obtain rfl : k = z.rs.length := by omega
      exact ⟨by omega, lt_step hc hk⟩
     ·
      first | omega | (simp; omega)
  ·
   refine AOps.nil ?_
   refine AWp.seq ?_
   refine AWp.cond_f rfl ?_
   refine AWp.exit ?_
   refine AWp.seq ?_
   refine AWp.region ?_
   refine AOps.cons rfl rfl (q_assign) ?_
   refine AOps.nil ?_
   refine AWp.ret ?_
   show Fin te Try.f41 _ _
   refine q_ret (0) [_] [_] ?_
   obtain rfl : i = z.rs.length := by omega
   exact congrArg tf (aloZ_yes hc).symm
set_option maxRecDepth 20000 in
set_option maxHeartbeats 2000000 in
theorem c_ciceroneref18_sameNames (a b : List Rr) (ha : RrsOk a) (hb : RrsOk b) : AC Try.prog 88 [.fz 0 a.length (cl rrc a), .fz 0 b.length (cl rrc b)] emp (Ret (tf (subR a b && subR b a))) := by
 have hal := ha.1
 have hbl := hb.1
 have hL2 : [(a, b), (b, a)].length = 2 := rfl
 refine AC.intro te_ok (fn := Try.f88) ⟨Try.func88, rfl, rfl⟩ (Nat.le_of_ble_eq_true rfl) ?_
 refine AWp.seq ?_
 refine AWp.region ?_
 refine AOps.cons rfl rfl (q_assign) ?_
 refine AOps.nil ?_
 refine AWp.seq ?_
 refine AWp.seq ?_
 refine AWp.region ?_
 refine AOps.cons rfl rfl (q_move) ?_
 refine AOps.cons rfl rfl (q_move) ?_
 refine AOps.cons rfl rfl (q_buildA (lc 0 rrc) [a, b] [(_, _), (_, _)]) ?_
 refine AOps.cons rfl rfl (q_move) ?_
 refine AOps.cons rfl rfl (q_move) ?_
 refine AOps.cons rfl rfl (q_buildA (lc 0 rrc) [b, a] [(_, _), (_, _)]) ?_
 refine AOps.cons rfl rfl (q_bs 206 prC [(a, b), (b, a)] [(_, _), (_, _)]) ?_
 refine AOps.weak (Weak.full 0 [] (t := [(18, .fz 0 [(a, b), (b, a)].length (cl prC [(a, b), (b, a)]))]) (hl := [])) ?_
 refine AOps.cons rfl rfl (q_len) ?_
 refine AOps.cons rfl rfl (q_move) ?_
 refine AOps.nil ?_
 refine AWp.block ?_
 refine AWp.loopR (α := Nat) [4, 6, 8, 9, 11, 20, 21, 22, 23, 24, 25, 26, 27, 28, 29, 30, 31, 32, 33, 34, 35, 36, 37, 38, 39, 40, 41, 42, 43, 44, 45, 46, 47, 48, 49, 50, 51, 52] (fun p => [(20, i64 p)]) (fun p => []) (fun p => p ≤ 2 ∧ ([(a, b), (b, a)].take p).all bothR = true) (fun p => 2 - p) 0 ?_ (Back.mk' (HasT.cons HasT.nil) HasH.nil) ?_
 ·
  exact ⟨Nat.zero_le _, rfl⟩
 ·
  rintro p ⟨hp, hA⟩
  refine AWp.seq ?_
  refine AWp.region ?_
  refine AOps.dec rfl rfl (q_lss) (fun h2_0 => ?_) (fun h2_0 => ?_)
  ·
   refine AOps.nil ?_
   refine AWp.seq ?_
   refine AWp.cond_t rfl ?_
   refine AWp.skip ?_
   refine AWp.seq ?_
   refine AWp.block ?_
   refine AWp.seq ?_
   refine AWp.region ?_
   refine AOps.cons rfl rfl (q_ix) ?_
   refine AOps.cons rfl rfl (q_load) ?_
   refine AOps.cons rfl rfl (q_alloc 402) ?_
   refine AOps.cons rfl rfl (q_store) ?_
   refine AOps.nil ?_
   refine AWp.seq ?_
   refine AWp.region ?_
   obtain ⟨hx1, hx2⟩ := pair_at ha hb (p := p) (by omega)
   have hx1l := hx1.1
   have hx2l := hx2.1
   have hn1 : ([(a, b), (b, a)].getD (p : Int).toNat default).1.length = ([(a, b), (b, a)].getD p default).1.length := rfl
   have hn2 : ([(a, b), (b, a)].getD (p : Int).toNat default).2.length = ([(a, b), (b, a)].getD p default).2.length := rfl
   refine AOps.cons rfl rfl (q_ixa) ?_
   refine AOps.cons rfl rfl (q_load) ?_
   refine AOps.cons rfl rfl (q_len) ?_
   refine AOps.cons rfl rfl (q_move) ?_
   refine AOps.nil ?_
   refine AWp.block ?_
   refine AWp.loopR (α := Nat) [4, 8, 9, 11, 27, 28, 29, 30, 31, 32, 33, 34, 35, 36, 37, 38, 39, 40, 41, 42, 43, 44, 45, 46, 47, 48, 49, 50, 51] (fun i => [(27, i64 i)]) (fun i => []) (fun i => i ≤ ([(a, b), (b, a)].getD p default).1.length ∧ (([(a, b), (b, a)].getD p default).1.take i).all (fun r => ([(a, b), (b, a)].getD p default).2.any (subP r)) = true) (fun i => ([(a, b), (b, a)].getD p default).1.length - i) 0 ?_ (Back.mk' (HasT.cons HasT.nil) HasH.nil) ?_
   ·
    exact ⟨Nat.zero_le _, rfl⟩
   ·
    rintro i ⟨hi, hB⟩
    refine AWp.seq ?_
    refine AWp.region ?_
    refine AOps.dec rfl rfl (q_lss) (fun h5_0 => ?_) (fun h5_0 => ?_)
    ·
     refine AOps.nil ?_
     refine AWp.seq ?_
     refine AWp.cond_t rfl ?_
     refine AWp.skip ?_
     refine AWp.seq ?_
     refine AWp.block ?_
     refine AWp.seq ?_
     refine AWp.region ?_
     have hri := hx1.2 _ (getD_mem' (l := ([(a, b), (b, a)].getD p default).1) (i := i) (by omega))
     refine AOps.cons rfl rfl (q_ix) ?_
     refine AOps.cons rfl rfl (q_load) ?_
     refine AOps.cons rfl rfl (q_alloc 702) ?_
     refine AOps.cons rfl rfl (q_store) ?_
     refine AOps.nil ?_
     refine AWp.seq ?_
     refine AWp.region ?_
     refine AOps.cons rfl rfl (q_assign) ?_
     refine AOps.nil ?_
     refine AWp.seq ?_
     refine AWp.seq ?_
     refine AWp.region ?_
     refine AOps.cons rfl rfl (q_ixa) ?_
     refine AOps.cons rfl rfl (q_load) ?_
     refine AOps.cons rfl rfl (q_len) ?_
     refine AOps.cons rfl rfl (q_move) ?_
     refine AOps.nil ?_
     refine AWp.block ?_
     refine AWp.loopR (α := Nat) [9, 11, 34, 35, 36, 37, 38, 39, 40, 41, 42, 43, 44, 45, 46, 47, 48] (fun j => [(34, i64 j), (9, tf ((([(a, b), (b, a)].getD p default).2.take j).any (subP (([(a, b), (b, a)].getD p default).1.getD i default))))]) (fun j => []) (fun j => j ≤ ([(a, b), (b, a)].getD p default).2.length) (fun j => ([(a, b), (b, a)].getD p default).2.length - j) 0 ?_ (Back.mk' (HasT.cons (HasT.cons HasT.nil)) HasH.nil) ?_
     ·
      exact Nat.zero_le _
     ·
      rintro j hj
      refine AWp.seq ?_
      refine AWp.region ?_
      refine AOps.dec rfl rfl (q_lss) (fun h9_0 => ?_) (fun h9_0 => ?_)
      ·
       refine AOps.nil ?_
       refine AWp.seq ?_
       refine AWp.cond_t rfl ?_
       refine AWp.skip ?_
       refine AWp.seq ?_
       refine AWp.block ?_
       refine AWp.seq ?_
       refine AWp.region ?_
       have hrj := hx2.2 _ (getD_mem' (l := ([(a, b), (b, a)].getD p default).2) (i := j) (by omega))
       refine AOps.cons rfl rfl (q_ix) ?_
       refine AOps.cons rfl rfl (q_load) ?_
       refine AOps.cons rfl rfl (q_alloc 1102) ?_
       refine AOps.cons rfl rfl (q_store) ?_
       refine AOps.nil ?_
       refine AWp.region ?_
       refine AOps.bool rfl rfl (q_move) (fun h11_0 => ?_) (fun h11_0 => ?_)
       ·
        refine AOps.cons rfl rfl (q_move) ?_
        refine AOps.gskip rfl rfl rfl rfl rfl rfl rfl rfl ?_
        refine AOps.gskip rfl rfl rfl rfl rfl rfl rfl rfl ?_
        refine AOps.gskip rfl rfl rfl rfl rfl rfl rfl rfl ?_
        refine AOps.gskip rfl rfl rfl rfl rfl rfl rfl rfl ?_
        refine AOps.gskip rfl rfl rfl rfl rfl rfl rfl rfl ?_
        refine AOps.gskip rfl rfl rfl rfl rfl rfl rfl rfl ?_
        refine AOps.gskip rfl rfl rfl rfl rfl rfl rfl rfl ?_
        refine AOps.cons rfl rfl (q_pick) ?_
        refine AOps.cons rfl rfl (q_assign) ?_
        refine AOps.nil ?_
        refine AWp.region ?_
        refine AOps.cons rfl rfl (q_add) ?_
        refine AOps.cons rfl rfl (q_move) ?_
        refine AOps.nil ?_
        refine ⟨j + 1, ?_, Back.mk' (HasT.cons (HasT.cons HasT.nil (h1 := by exact congrArg tf (by rw [sub_step (by omega), h11_0]; rfl)) )) HasH.nil, ?_⟩
        ·
         first | assumption | omega | decide | (simp; omega) | (simp [*]; done)
        ·
         first | omega | (simp; omega)
       ·
        refine AOps.cons rfl rfl (q_move) ?_
        refine AOps.gcons rfl rfl rfl rfl rfl (q_fa) ?_
        refine AOps.gcons rfl rfl rfl rfl rfl (q_load) ?_
        refine AOps.gcons rfl rfl rfl rfl rfl (by first | exact q_conv_zs | exact q_conv_ls) ?_
        refine AOps.gcons rfl rfl rfl rfl rfl (q_fa) ?_
        refine AOps.gcons rfl rfl rfl rfl rfl (q_load) ?_
        refine AOps.gcons rfl rfl rfl rfl rfl (by first | exact q_conv_zs | exact q_conv_ls) ?_
        refine AOps.gbool rfl rfl rfl rfl rfl (q_call (0) (hc := (c_ciceroneref01_Same (([(a, b), (b, a)].getD p default).1.getD i default).da (([(a, b), (b, a)].getD p default).2.getD j default).da (by omega) (by omega)))) (fun h11_8 => ?_) (fun h11_8 => ?_)
        ·
         refine AOps.cons rfl rfl (q_pick) ?_
         refine AOps.cons rfl rfl (q_assign) ?_
         refine AOps.nil ?_
         refine AWp.region ?_
         refine AOps.cons rfl rfl (q_add) ?_
         refine AOps.cons rfl rfl (q_move) ?_
         refine AOps.nil ?_
         refine ⟨j + 1, ?_, Back.mk' (HasT.cons (HasT.cons HasT.nil (h1 := by exact congrArg tf (by rw [sub_step (by omega), h11_0, Bool.false_or]; exact h11_8.symm)) )) HasH.nil, ?_⟩
         ·
          first | assumption | omega | decide | (simp; omega) | (simp [*]; done)
         ·
          first | omega | (simp; omega)
        ·
         refine AOps.cons rfl rfl (q_pick) ?_
         refine AOps.cons rfl rfl (q_assign) ?_
         refine AOps.nil ?_
         refine AWp.region ?_
         refine AOps.cons rfl rfl (q_add) ?_
         refine AOps.cons rfl rfl (q_move) ?_
         refine AOps.nil ?_
         refine ⟨j + 1, ?_, Back.mk' (HasT.cons (HasT.cons HasT.nil (h1 := by exact congrArg tf (by rw [sub_step (by omega), h11_0, Bool.false_or]; exact h11_8.symm)) )) HasH.nil, ?_⟩
         ·
          first | assumption | omega | decide | (simp; omega) | (simp [*]; done)
         ·
          first | omega | (simp; omega)
      ·
       refine AOps.nil ?_
       refine AWp.seq ?_
       refine AWp.cond_f rfl ?_
       refine AWp.exit ?_
       refine AWp.seq ?_
       refine AWp.region ?_
       refine AOps.bool rfl rfl (q_move) (fun h13_0 => ?_) (fun h13_0 => ?_)
       ·
        refine AOps.cons rfl rfl (q_not) ?_
        refine AOps.nil ?_
        refine AWp.cond_f rfl ?_
        refine AWp.skip ?_
        refine AWp.region ?_
        refine AOps.cons rfl rfl (q_add) ?_
        refine AOps.cons rfl rfl (q_move) ?_
        refine AOps.nil ?_
        refine ⟨i + 1, ?_, Back.mk' (HasT.cons HasT.nil) HasH.nil, ?_⟩
        ·
         have hj2 : j = (([(a, b), (b, a)].getD p default).2).length := by omega
         rw [hj2, List.take_length] at h13_0
         exact ⟨by omega, all_step (i := i) (by omega) hB h13_0⟩
        ·
         first | omega | (simp; omega)
       ·
        refine AOps.cons rfl rfl (q_not) ?_
        refine AOps.nil ?_
        refine AWp.cond_t rfl ?_
        refine AWp.seq ?_
        refine AWp.region ?_
        refine AOps.cons rfl rfl (q_assign) ?_
        refine AOps.nil ?_
        refine AWp.ret ?_
        show Fin te Try.f88 _ _
        refine q_ret (0) [_] [_] ?_
        have hj2 : j = (([(a, b), (b, a)].getD p default).2).length := by omega
        rw [hj2, List.take_length] at h13_0
        exact congrArg tf ((two_all (a := a) (b := b)).symm.trans (all_no (i := p) (by omega) (by rw [bothR, subR_all]; exact all_no (i := i) (by omega) h13_0))).symm
    ·
     refine AOps.nil ?_
     refine AWp.seq ?_
     refine AWp.cond_f rfl ?_
     refine AWp.exit ?_
     refine AWp.region ?_
     refine AOps.cons rfl rfl (q_add) ?_
     refine AOps.cons rfl rfl (q_move) ?_
     refine AOps.nil ?_
     refine ⟨p + 1, ?_, Back.mk' (HasT.cons HasT.nil) HasH.nil, ?_⟩
     ·
      obtain rfl : i = ([(a, b), (b, a)].getD p default).1.length := by omega
      rw [List.take_length] at hB
      exact ⟨by omega, all_step (i := p) (by simp; omega) hA (by rw [bothR, subR_all]; exact hB)⟩
     ·
      first | omega | (simp; omega)
  ·
   refine AOps.nil ?_
   refine AWp.seq ?_
   refine AWp.cond_f rfl ?_
   refine AWp.exit ?_
   refine AWp.seq ?_
   refine AWp.region ?_
   refine AOps.cons rfl rfl (q_assign) ?_
   refine AOps.nil ?_
   refine AWp.ret ?_
   show Fin te Try.f88 _ _
   refine q_ret (0) [_] [_] ?_
   obtain rfl : p = 2 := by omega
   exact congrArg tf ((two_all (a := a) (b := b)).symm.trans hA).symm
end Go.Proofs.Ytokccoloholgaaa.Fw


set_option linter.unusedVariables false
set_option linter.unusedSimpArgs false
namespace Go.Proofs.Ytokccoloholgaaa.Fw
open Go.RowKit
theorem chi_1 {t : Tr} {up : List Int} {k : Int} {n : List UInt8} {j : Nat} (h : ¬ (0 : Int) < j) : childB t up k n j = false := by rw [childB, decide_eq_false (p := 0 < j) (by omega)]; rfl
theorem chi_2 {t : Tr} {up : List Int} {k : Int} {n : List UInt8} {j : Nat} (h : sameN (t.zs.getD j default).o n = false) : childB t up k n j = false := by rw [childB, h, Bool.and_false]
theorem chi_3 {t : Tr} {k : Int} {n : List UInt8} {j : Nat} (hj : j < t.zs.length) (h : ¬ parOf t (t.zs.getD j default) = k) : childB t (parT t) k n j = false := by rw [childB, parT_get hj, decide_eq_false h, Bool.and_false]; rfl
theorem chi_yes {t : Tr} {k : Int} {n : List UInt8} {j : Nat} (hj : j < t.zs.length) (h0 : (0 : Int) < j) (h2 : sameN (t.zs.getD j default).o n = true) (h : parOf t (t.zs.getD j default) = k) : childB t (parT t) k n j = true := by
  rw [childB, parT_get hj, decide_eq_true h, h2, decide_eq_true (p := 0 < j) (by omega)]; rfl
theorem joinQ_1 {t : Tr} {up : List Int} {k : Int} {z : Zo} {r : Rr} (h : ¬ r.ty = 2) : joinQ t up k z r = false := by rw [joinQ, decide_eq_false h]; rfl
theorem joinQ_2 {t : Tr} {up : List Int} {k : Int} {z : Zo} {r : Rr} (h : sameN r.nm z.o = true) : joinQ t up k z r = false := by rw [joinQ, h, Bool.not_true, Bool.and_false]; rfl
theorem joinQ_3 {t : Tr} {up : List Int} {k : Int} {z : Zo} {r : Rr} (h : (List.range t.zs.length).any (childB t up k r.nm) = true) : joinQ t up k z r = false := by rw [joinQ, h, Bool.not_true, Bool.and_false]
theorem joinQ_yes {t : Tr} {up : List Int} {k : Int} {z : Zo} {r : Rr} (h1 : ¬ ¬ r.ty = 2) (h2 : sameN r.nm z.o = false) (h : (List.range t.zs.length).any (childB t up k r.nm) = false) : joinQ t up k z r = true := by
  rw [joinQ, decide_eq_true (Decidable.not_not.1 h1), h2, h]; rfl
theorem joinZ_fin {t : Tr} {up : List Int} {k : Int} (h : ∀ j, j < t.zs.length → kidO t up k j = true) (h2 : (zAt t k).rs.any (joinQ t up k (zAt t k)) = false) : joinZ t up k = true := by rw [joinZ, range_all_iff.2 h, h2]; rfl
theorem joinZ_bad {t : Tr} {up : List Int} {k : Int} (h2 : (zAt t k).rs.any (joinQ t up k (zAt t k)) = true) : joinZ t up k = false := by rw [joinZ, h2, Bool.not_true, Bool.and_false]
set_option maxRecDepth 20000 in
set_option maxHeartbeats 2000000 in
theorem c_ciceroneref18_parent (t : Tr) (k : Int) (ht : TrOk t) (hk : 0 ≤ k ∧ k < t.zs.length) : AC Try.prog 87 [.agg (trC t), i64 k] emp (Ret (i64 (parOf t (zAt t k)))) := by
 have hb1 := ht.1
 have hzk := zo_ok ht hk
 have hkl := hzk.1
 refine AC.intro te_ok (fn := Try.f87) ⟨Try.func87, rfl, rfl⟩ (Nat.le_of_ble_eq_true rfl) ?_
 refine AWp.seq ?_
 refine AWp.region ?_
 refine AOps.cons rfl rfl (q_box 100) ?_
 refine AOps.cons rfl rfl (q_assign) ?_
 refine AOps.nil ?_
 refine AWp.seq ?_
 refine AWp.region ?_
 refine AOps.cons rfl rfl (q_nilrow 200 1 ic) ?_
 refine AOps.nil ?_
 refine AWp.seq ?_
 refine AWp.seq ?_
 refine AWp.region ?_
 refine AOps.cons rfl rfl (q_fa) ?_
 refine AOps.cons rfl rfl (q_load) ?_
 refine AOps.cons rfl rfl (q_len) ?_
 refine AOps.cons rfl rfl (q_move) ?_
 refine AOps.nil ?_
 refine AWp.block ?_
 refine AWp.loopR (α := Nat × List Int × Nat) [5, 6, 10, 11, 12, 13, 14, 15, 16, 17, 18, 19, 20, 21, 22, 23, 24, 25, 26, 27, 28, 29, 30] (fun x_ => [(10, i64 (x_.1)), (5, .sl 200 (x_.2.2) 0 (x_.2.1).length 1)]) (fun x_ => [(200, .row (cl ic (x_.2.1)) 1 (x_.2.2))]) (fun x_ => (x_.1) ≤ t.zs.length ∧ (x_.2.1) = parL t (zAt t k) (x_.1)) (fun x_ => t.zs.length - (x_.1)) (0, [], 0) ?_ (Back.mk' (HasT.cons (HasT.cons HasT.nil)) (HasH.cons HasH.nil)) ?_
 ·
  exact ⟨Nat.zero_le _, rfl⟩
 ·
  rintro ⟨i, acc, v⟩ hI3
  change i ≤ t.zs.length ∧ acc = parL t (zAt t k) i at hI3
  obtain ⟨hi, ha⟩ := hI3
  refine AWp.as (s' := AS.over _ [5, 6, 10, 11, 12, 13, 14, 15, 16, 17, 18, 19, 20, 21, 22, 23, 24, 25, 26, 27, 28, 29, 30] [(10, i64 i), (5, .sl 200 v 0 acc.length 1)] [(200, .row (cl ic acc) 1 v)]) rfl ?_
  have hal : acc.length ≤ i := by rw [ha]; exact parL_len
  refine AWp.seq ?_
  refine AWp.region ?_
  refine AOps.dec rfl rfl (q_lss) (fun h3_0 => ?_) (fun h3_0 => ?_)
  ·
   refine AOps.nil ?_
   refine AWp.seq ?_
   refine AWp.cond_t rfl ?_
   refine AWp.skip ?_
   refine AWp.seq ?_
   refine AWp.block ?_
   refine AWp.seq ?_
   refine AWp.region ?_
   refine AOps.cons rfl rfl (q_move) ?_
   refine AOps.cons rfl rfl (q_assign) ?_
   refine AOps.nil ?_
   refine AWp.seq ?_
   have hzi := ht.2.1 _ (getD_mem' (l := t.zs) (i := i) (by omega))
   have hzl := hzi.1
   cases hbel : belB (zAt t k).o (t.zs.getD i default).o
   ·
    refine AWp.draws [⟨0, [2], [100], some 13, _, none⟩,
        ⟨1, [13], [100], some 14, _, none⟩,
        ⟨2, [1], [], some 15, _, none⟩,
        ⟨3, [14, 15], [], some 16, _, none⟩,
        ⟨4, [16], [], some 17, _, none⟩,
        ⟨5, [17], [], some 18, _, none⟩,
        ⟨6, [2], [100], some 19, _, none⟩,
        ⟨7, [19], [100], some 20, _, none⟩,
        ⟨8, [6], [], some 21, _, none⟩,
        ⟨9, [20, 21], [], some 22, _, none⟩,
        ⟨10, [22], [], some 23, _, none⟩,
        ⟨11, [23], [], some 24, _, none⟩,
        ⟨12, [18, 24], [], some 25, _, none⟩]
     [⟨0, [2], [100], some 13, .any, none⟩,
         ⟨1, [13], [100], some 14, .any, none⟩,
         ⟨2, [1], [], some 15, .any, none⟩,
         ⟨3, [14, 15], [], some 16, .any, none⟩,
         ⟨4, [16], [], some 17, .any, none⟩,
         ⟨5, [17], [], some 18, .any, none⟩,
         ⟨6, [2], [100], some 19, .any, none⟩,
         ⟨7, [19], [100], some 20, .any, none⟩,
         ⟨8, [6], [], some 21, .any, none⟩,
         ⟨9, [20, 21], [], some 22, .any, none⟩,
         ⟨10, [22], [], some 23, .any, none⟩,
         ⟨11, [23], [], some 24, .any, none⟩,
         ⟨12, [18, 24], [], some 25, .any, none⟩]
     mixed_ok rfl (by kernel_rfl) ⟨DS.ok_over fun s0 => OpAt.go rfl rfl (q_fa),
         DS.ok_over fun s0 => OpAt.go rfl rfl (q_load),
         DS.ok_over fun s0 => OpAt.go rfl rfl (q_move),
         DS.ok_over fun s0 => OpAt.go rfl rfl (q_ix),
         DS.ok_over fun s0 => OpAt.go rfl rfl (q_fa),
         DS.ok_over fun s0 => OpAt.go rfl rfl (q_load),
         DS.ok_over fun s0 => OpAt.go rfl rfl (q_fa),
         DS.ok_over fun s0 => OpAt.go rfl rfl (q_load),
         DS.ok_over fun s0 => OpAt.go rfl rfl (q_move),
         DS.ok_over fun s0 => OpAt.go rfl rfl (q_ix),
         DS.ok_over fun s0 => OpAt.go rfl rfl (q_fa),
         DS.ok_over fun s0 => OpAt.go rfl rfl (q_load),
         DS.ok_over fun s0 => OpAt.go rfl rfl ((OpOk.bool_is (c := false) (q_call (0) (hc := (c_ciceroneref18_below (zAt t k).o (t.zs.getD i default).o (by omega) (by omega)))) (hbel))), trivial⟩ ?_
    dsimp only [final, DS.upd, AS.seto]
    refine AWp.cond_f rfl ?_
    refine AWp.skip ?_
    refine AWp.region ?_
    refine AOps.cons rfl rfl (q_add) ?_
    refine AOps.cons rfl rfl (q_move) ?_
    refine AOps.nil ?_
    refine ⟨(i + 1, acc, v), ?_, Back.mk' (HasT.cons (HasT.cons HasT.nil)) (HasH.cons HasH.nil), ?_⟩
    ·
     try dsimp only
     exact ⟨by omega, by rw [parL_step, ha, if_neg (by rw [show belB (zAt t k).o (zAt t (i : Int)).o = false from hbel]; decide), List.append_nil]⟩
    ·
     try dsimp only
     first | omega | (simp; omega)
   ·
    refine AWp.draws [⟨0, [2], [100], some 13, _, none⟩,
        ⟨1, [13], [100], some 14, _, none⟩,
        ⟨2, [1], [], some 15, _, none⟩,
        ⟨3, [14, 15], [], some 16, _, none⟩,
        ⟨4, [16], [], some 17, _, none⟩,
        ⟨5, [17], [], some 18, _, none⟩,
        ⟨6, [2], [100], some 19, _, none⟩,
        ⟨7, [19], [100], some 20, _, none⟩,
        ⟨8, [6], [], some 21, _, none⟩,
        ⟨9, [20, 21], [], some 22, _, none⟩,
        ⟨10, [22], [], some 23, _, none⟩,
        ⟨11, [23], [], some 24, _, none⟩,
        ⟨12, [18, 24], [], some 25, _, none⟩]
     [⟨0, [2], [100], some 13, .any, none⟩,
         ⟨1, [13], [100], some 14, .any, none⟩,
         ⟨2, [1], [], some 15, .any, none⟩,
         ⟨3, [14, 15], [], some 16, .any, none⟩,
         ⟨4, [16], [], some 17, .any, none⟩,
         ⟨5, [17], [], some 18, .any, none⟩,
         ⟨6, [2], [100], some 19, .any, none⟩,
         ⟨7, [19], [100], some 20, .any, none⟩,
         ⟨8, [6], [], some 21, .any, none⟩,
         ⟨9, [20, 21], [], some 22, .any, none⟩,
         ⟨10, [22], [], some 23, .any, none⟩,
         ⟨11, [23], [], some 24, .any, none⟩,
         ⟨12, [18, 24], [], some 25, .any, none⟩]
     mixed_ok rfl (by kernel_rfl) ⟨DS.ok_over fun s0 => OpAt.go rfl rfl (q_fa),
         DS.ok_over fun s0 => OpAt.go rfl rfl (q_load),
         DS.ok_over fun s0 => OpAt.go rfl rfl (q_move),
         DS.ok_over fun s0 => OpAt.go rfl rfl (q_ix),
         DS.ok_over fun s0 => OpAt.go rfl rfl (q_fa),
         DS.ok_over fun s0 => OpAt.go rfl rfl (q_load),
         DS.ok_over fun s0 => OpAt.go rfl rfl (q_fa),
         DS.ok_over fun s0 => OpAt.go rfl rfl (q_load),
         DS.ok_over fun s0 => OpAt.go rfl rfl (q_move),
         DS.ok_over fun s0 => OpAt.go rfl rfl (q_ix),
         DS.ok_over fun s0 => OpAt.go rfl rfl (q_fa),
         DS.ok_over fun s0 => OpAt.go rfl rfl (q_load),
         DS.ok_over fun s0 => OpAt.go rfl rfl ((OpOk.bool_is (c := true) (q_call (0) (hc := (c_ciceroneref18_below (zAt t k).o (t.zs.getD i default).o (by omega) (by omega)))) (hbel))), trivial⟩ ?_
    dsimp only [final, DS.upd, AS.seto]
    refine AWp.cond_t rfl ?_
    refine AWp.region ?_
    refine AOps.cons rfl rfl (q_move) ?_
    refine AOps.cons rfl rfl (q_move) ?_
    refine AOps.cons rfl rfl (q_bs 702 ic [_] [(_, _)]) ?_
    refine AOps.cons rfl rfl (q_app) ?_
    refine AOps.cons rfl rfl (q_assign) ?_
    refine AOps.nil ?_
    refine AWp.region ?_
    refine AOps.cons rfl rfl (q_add) ?_
    refine AOps.cons rfl rfl (q_move) ?_
    refine AOps.nil ?_
    refine ⟨(i + 1, acc ++ [(i : Int)], v + 1), ?_, Back.mk' (HasT.cons (HasT.cons HasT.nil)) (HasH.cons HasH.nil), ?_⟩
    ·
     try dsimp only
     exact ⟨by omega, by rw [parL_step, ha, if_pos (show belB (zAt t k).o (zAt t (i : Int)).o = true from hbel)]⟩
    ·
     try dsimp only
     first | omega | (simp; omega)
  ·
   refine AOps.nil ?_
   refine AWp.seq ?_
   refine AWp.cond_f rfl ?_
   refine AWp.exit ?_
   refine AWp.seq ?_
   obtain rfl : i = t.zs.length := by omega
   have hin := parL_in (t := t) (z := zAt t k) (Nat.le_refl t.zs.length)
   rw [← ha] at hin
   have hnear := parL_near t (zAt t k)
   rw [← ha] at hnear
   refine AWp.draws [⟨0, [2], [100], some 31, _, none⟩,
       ⟨1, [5], [], some 32, _, none⟩,
       ⟨2, [2], [100], some 33, _, none⟩,
       ⟨3, [33], [100], some 34, _, none⟩,
       ⟨4, [1], [], some 35, _, none⟩,
       ⟨5, [34, 35], [], some 36, _, none⟩,
       ⟨6, [36], [], some 37, _, none⟩,
       ⟨7, [37], [], some 38, _, none⟩,
       ⟨8, [31, 32, 38], [200], some 39, _, none⟩,
       ⟨9, [39], [], some 4, _, none⟩]
    [⟨0, [2], [100], some 31, .any, none⟩,
        ⟨1, [5], [], some 32, .any, none⟩,
        ⟨2, [2], [100], some 33, .any, none⟩,
        ⟨3, [33], [100], some 34, .any, none⟩,
        ⟨4, [1], [], some 35, .any, none⟩,
        ⟨5, [34, 35], [], some 36, .any, none⟩,
        ⟨6, [36], [], some 37, .any, none⟩,
        ⟨7, [37], [], some 38, .any, none⟩,
        ⟨8, [31, 32, 38], [200], some 39, .any, none⟩,
        ⟨9, [39], [], some 4, .any, none⟩]
    mixed_ok rfl (by kernel_rfl) ⟨DS.ok_over fun s0 => OpAt.go rfl rfl (q_load),
        DS.ok_over fun s0 => OpAt.go rfl rfl (q_move),
        DS.ok_over fun s0 => OpAt.go rfl rfl (q_fa),
        DS.ok_over fun s0 => OpAt.go rfl rfl (q_load),
        DS.ok_over fun s0 => OpAt.go rfl rfl (q_move),
        DS.ok_over fun s0 => OpAt.go rfl rfl (q_ix),
        DS.ok_over fun s0 => OpAt.go rfl rfl (q_fa),
        DS.ok_over fun s0 => OpAt.go rfl rfl (q_load),
        DS.ok_over fun s0 => OpAt.go rfl rfl (q_call (0) (hc := (c_ciceroneref18_nearest t acc 1 (zAt t k).o ht (by omega) hin (by omega)))),
        DS.ok_over fun s0 => OpAt.go rfl rfl (q_assign), trivial⟩ ?_
   dsimp only [final, DS.upd, AS.seto]
   refine AWp.ret ?_
   show Fin te Try.f87 _ _
   refine q_ret (0) [_] [_] ?_
   exact congrArg i64 hnear
set_option maxRecDepth 20000 in
set_option maxHeartbeats 2000000 in
theorem c_ciceroneref18_delegated (t : Tr) (k : Int) (ht : TrOk t) (hk : 0 ≤ k ∧ k < t.zs.length) : AC Try.prog 42 [.agg (trC t), i64 k] emp (Ret (tf (joinZ t (parT t) k))) := by
 have hb1 := ht.1
 have hzk := zo_ok ht hk
 have hkl := hzk.1
 have hkr : (zAt t k).rs.length * 64 ≤ 140737488351232 := hzk.2.1.1
 refine AC.intro te_ok (fn := Try.f42) ⟨Try.func42, rfl, rfl⟩ (Nat.le_of_ble_eq_true rfl) ?_
 refine AWp.seq ?_
 refine AWp.region ?_
 refine AOps.cons rfl rfl (q_box 100) ?_
 refine AOps.cons rfl rfl (q_assign) ?_
 refine AOps.nil ?_
 refine AWp.seq ?_
 refine AWp.region ?_
 refine AOps.cons rfl rfl (q_fa) ?_
 refine AOps.cons rfl rfl (q_load) ?_
 refine AOps.cons rfl rfl (q_move) ?_
 refine AOps.cons rfl rfl (q_ix) ?_
 refine AOps.cons rfl rfl (q_load) ?_
 refine AOps.cons rfl rfl (q_alloc 205) ?_
 refine AOps.cons rfl rfl (q_store) ?_
 refine AOps.nil ?_
 refine AWp.seq ?_
 refine AWp.seq ?_
 refine AWp.region ?_
 refine AOps.cons rfl rfl (q_fa) ?_
 refine AOps.cons rfl rfl (q_load) ?_
 refine AOps.cons rfl rfl (q_len) ?_
 refine AOps.cons rfl rfl (q_move) ?_
 refine AOps.nil ?_
 refine AWp.block ?_
 refine AWp.loopR (α := Nat) [4, 6, 7, 8, 21, 22, 23, 24, 25, 26, 27, 28, 29, 30, 31, 32, 33, 34, 35, 36, 37, 38, 39, 40, 41, 42, 43, 44, 45, 46, 47, 48, 49, 50, 51, 52, 53, 54, 55, 56, 57, 58, 59] (fun i => [(21, i64 i)]) (fun i => []) (fun i => i ≤ t.zs.length ∧ ∀ j, j < i → kidO t (parT t) k j = true) (fun i => t.zs.length - i) 0 ?_ (Back.mk' (HasT.cons HasT.nil) HasH.nil) ?_
 ·
  exact ⟨Nat.zero_le _, fun j hj => absurd hj (Nat.not_lt_zero j)⟩
 ·
  rintro i ⟨hi, hc⟩
  refine AWp.seq ?_
  refine AWp.region ?_
  refine AOps.dec rfl rfl (q_lss) (fun h3_0 => ?_) (fun h3_0 => ?_)
  ·
   refine AOps.nil ?_
   refine AWp.seq ?_
   refine AWp.cond_t rfl ?_
   refine AWp.skip ?_
   refine AWp.seq ?_
   refine AWp.block ?_
   refine AWp.seq ?_
   refine AWp.region ?_
   have hzi := ht.2.1 _ (getD_mem' (l := t.zs) (i := i) (by omega))
   have hzl := hzi.1
   refine AOps.cons rfl rfl (q_move) ?_
   refine AOps.cons rfl rfl (q_assign) ?_
   refine AOps.nil ?_
   refine AWp.seq ?_
   refine AWp.seq ?_
   refine AWp.region ?_
   refine AOps.cons rfl rfl (q_move) ?_
   refine AOps.dec rfl rfl (q_eql) (fun h5_1 => ?_) (fun h5_1 => ?_)
   ·
    refine AOps.cons rfl rfl (q_move) ?_
    refine AOps.gskip rfl rfl rfl rfl rfl rfl rfl rfl ?_
    refine AOps.gskip rfl rfl rfl rfl rfl rfl rfl rfl ?_
    refine AOps.gskip rfl rfl rfl rfl rfl rfl rfl rfl ?_
    refine AOps.gskip rfl rfl rfl rfl rfl rfl rfl rfl ?_
    refine AOps.gskip rfl rfl rfl rfl rfl rfl rfl rfl ?_
    refine AOps.cons rfl rfl (q_pick) ?_
    refine AOps.nil ?_
    refine AWp.cond_t rfl ?_
    refine AWp.exit ?_
    refine AWp.region ?_
    refine AOps.cons rfl rfl (q_add) ?_
    refine AOps.cons rfl rfl (q_move) ?_
    refine AOps.nil ?_
    refine ⟨i + 1, ?_, Back.mk' (HasT.cons HasT.nil) HasH.nil, ?_⟩
    ·
     exact ⟨by omega, lt_step hc (by rw [kidO, decide_eq_true (p := i = 0) (by omega)]; rfl)⟩
    ·
     first | omega | (simp; omega)
   ·
    refine AOps.cons rfl rfl (q_move) ?_
    refine AOps.gcons rfl rfl rfl rfl rfl (q_load) ?_
    refine AOps.gcons rfl rfl rfl rfl rfl (q_move) ?_
    refine AOps.gcons rfl rfl rfl rfl rfl (q_call (0) (hc := (c_ciceroneref18_parent t i ht ⟨by omega, by omega⟩))) ?_
    refine AOps.gcons rfl rfl rfl rfl rfl (q_move) ?_
    refine AOps.gdec rfl rfl rfl rfl rfl (q_neq) (fun h5_7 => ?_) (fun h5_7 => ?_)
    ·
     refine AOps.cons rfl rfl (q_pick) ?_
     refine AOps.nil ?_
     refine AWp.cond_t rfl ?_
     refine AWp.exit ?_
     refine AWp.region ?_
     refine AOps.cons rfl rfl (q_add) ?_
     refine AOps.cons rfl rfl (q_move) ?_
     refine AOps.nil ?_
     refine ⟨i + 1, ?_, Back.mk' (HasT.cons HasT.nil) HasH.nil, ?_⟩
     ·
      exact ⟨by omega, lt_step hc (by rw [kidO, parT_get (by omega), decide_eq_true (p := parOf t (t.zs.getD i default) ≠ k) h5_7, Bool.or_true]; rfl)⟩
     ·
      first | omega | (simp; omega)
    ·
     refine AOps.cons rfl rfl (q_pick) ?_
     refine AOps.nil ?_
     refine AWp.cond_f rfl ?_
     refine AWp.skip ?_
     refine AWp.seq ?_
     refine AWp.region ?_
     refine AOps.cons rfl rfl (q_fa) ?_
     refine AOps.cons rfl rfl (q_load) ?_
     refine AOps.cons rfl rfl (q_move) ?_
     refine AOps.cons rfl rfl (q_ix) ?_
     refine AOps.cons rfl rfl (q_load) ?_
     refine AOps.cons rfl rfl (q_alloc 705) ?_
     refine AOps.cons rfl rfl (q_store) ?_
     refine AOps.nil ?_
     refine AWp.seq ?_
     refine AWp.region ?_
     have hcl := cutZ_len hzk (t.zs.getD i default).o
     refine AOps.cons rfl rfl (q_load) ?_
     refine AOps.cons rfl rfl (q_fa) ?_
     refine AOps.cons rfl rfl (q_load) ?_
     refine AOps.cons rfl rfl (q_call (0) (hc := (c_rcut (zAt t k) (t.zs.getD i default).o hzk hzl))) ?_
     refine AOps.cons rfl rfl (q_assign) ?_
     refine AOps.nil ?_
     refine AWp.seq ?_
     rcases em2b (sameN (cutZ (zAt t k) (t.zs.getD i default).o) (t.zs.getD i default).o) (subR (atZ (zAt t k) (t.zs.getD i default).o 2) (atZ (t.zs.getD i default) (t.zs.getD i default).o 2) && subR (atZ (t.zs.getD i default) (t.zs.getD i default).o 2) (atZ (zAt t k) (t.zs.getD i default).o 2)) with h1 | ⟨h1, h2⟩ | ⟨h1, h2⟩
     ·
      refine AWp.draws [⟨0, [8], [], some 42, _, none⟩,
          ⟨1, [7], [705], some 43, _, none⟩,
          ⟨2, [43], [705], some 44, _, none⟩,
          ⟨3, [42, 44], [], some 45, _, none⟩,
          ⟨4, [45], [], some 46, _, none⟩,
          ⟨5, [46], [], some 47, _, none⟩,
          ⟨6, [47], [], some 48, .v undef, none⟩,
          ⟨7, [47], [], some 49, .v undef, none⟩,
          ⟨8, [47], [], some 50, .v undef, none⟩,
          ⟨9, [47], [], some 51, .v undef, none⟩,
          ⟨10, [47], [], some 52, .v undef, none⟩,
          ⟨11, [47], [], some 53, .v undef, none⟩,
          ⟨12, [47], [], some 54, .v undef, none⟩,
          ⟨13, [47], [], some 55, .v undef, none⟩,
          ⟨14, [47], [], some 56, .v undef, none⟩,
          ⟨15, [47], [], some 57, .v undef, none⟩,
          ⟨16, [47, 57], [], some 58, _, none⟩]
       [⟨0, [8], [], some 42, .any, none⟩,
           ⟨1, [7], [705], some 43, .any, none⟩,
           ⟨2, [43], [705], some 44, .any, none⟩,
           ⟨3, [42, 44], [], some 45, .any, none⟩,
           ⟨4, [45], [], some 46, .any, none⟩,
           ⟨5, [46], [], some 47, .any, none⟩,
           ⟨6, [47], [], some 48, .any, none⟩,
           ⟨7, [47], [], some 49, .any, none⟩,
           ⟨8, [47], [], some 50, .any, none⟩,
           ⟨9, [47], [], some 51, .any, none⟩,
           ⟨10, [47], [], some 52, .any, none⟩,
           ⟨11, [47], [], some 53, .any, none⟩,
           ⟨12, [47], [], some 54, .any, none⟩,
           ⟨13, [47], [], some 55, .any, none⟩,
           ⟨14, [47], [], some 56, .any, none⟩,
           ⟨15, [47], [], some 57, .any, none⟩,
           ⟨16, [47, 57], [], some 58, .any, none⟩]
       mixed_ok rfl (by kernel_rfl) ⟨DS.ok_over fun s0 => OpAt.go rfl rfl (q_move),
           DS.ok_over fun s0 => OpAt.go rfl rfl (q_fa),
           DS.ok_over fun s0 => OpAt.go rfl rfl (q_load),
           DS.ok_over fun s0 => OpAt.go rfl rfl ((OpOk.bool_is (c := false) (q_call (0) (hc := (c_ciceroneref01_Same (cutZ (zAt t k) (t.zs.getD i default).o) (t.zs.getD i default).o (by omega) (by omega)))) (h1))),
           DS.ok_over fun s0 => OpAt.go rfl rfl ((OpOk.bool_is (c := true) (q_not) (rfl))),
           DS.ok_over fun s0 => OpAt.go rfl rfl (q_move),
           DS.ok_over fun s0 => OpAt.gskip rfl rfl rfl rfl rfl rfl rfl rfl,
           DS.ok_over fun s0 => OpAt.gskip rfl rfl rfl rfl rfl rfl rfl rfl,
           DS.ok_over fun s0 => OpAt.gskip rfl rfl rfl rfl rfl rfl rfl rfl,
           DS.ok_over fun s0 => OpAt.gskip rfl rfl rfl rfl rfl rfl rfl rfl,
           DS.ok_over fun s0 => OpAt.gskip rfl rfl rfl rfl rfl rfl rfl rfl,
           DS.ok_over fun s0 => OpAt.gskip rfl rfl rfl rfl rfl rfl rfl rfl,
           DS.ok_over fun s0 => OpAt.gskip rfl rfl rfl rfl rfl rfl rfl rfl,
           DS.ok_over fun s0 => OpAt.gskip rfl rfl rfl rfl rfl rfl rfl rfl,
           DS.ok_over fun s0 => OpAt.gskip rfl rfl rfl rfl rfl rfl rfl rfl,
           DS.ok_over fun s0 => OpAt.gskip rfl rfl rfl rfl rfl rfl rfl rfl,
           DS.ok_over fun s0 => OpAt.go rfl rfl (q_pick), trivial⟩ ?_
      dsimp only [final, DS.upd, AS.seto]
      refine AWp.cond_t rfl ?_
      refine AWp.seq ?_
      refine AWp.region ?_
      refine AOps.cons rfl rfl (q_assign) ?_
      refine AOps.nil ?_
      refine AWp.ret ?_
      show Fin te Try.f42 _ _
      refine q_ret (0) [_] [_] ?_
      exact congrArg tf (joinZ_no (j := i) (by omega) (kidO_no h5_1 ((parT_get (by omega)).trans (Decidable.not_not.1 h5_7)) (by rw [h1]; rfl))).symm
     ·
      refine AWp.draws [⟨0, [8], [], some 42, _, none⟩,
          ⟨1, [7], [705], some 43, _, none⟩,
          ⟨2, [43], [705], some 44, _, none⟩,
          ⟨3, [42, 44], [], some 45, _, none⟩,
          ⟨4, [45], [], some 46, _, none⟩,
          ⟨5, [46], [], some 47, _, none⟩,
          ⟨6, [5, 47], [205], some 48, _, none⟩,
          ⟨7, [7, 47], [705], some 49, _, none⟩,
          ⟨8, [47, 49], [705], some 50, _, none⟩,
          ⟨9, [47, 48, 50], [], some 51, _, none⟩,
          ⟨10, [7, 47], [705], some 52, _, none⟩,
          ⟨11, [7, 47], [705], some 53, _, none⟩,
          ⟨12, [47, 53], [705], some 54, _, none⟩,
          ⟨13, [47, 52, 54], [], some 55, _, none⟩,
          ⟨14, [47, 51, 55], [], some 56, _, none⟩,
          ⟨15, [47, 56], [], some 57, _, none⟩,
          ⟨16, [47, 57], [], some 58, _, none⟩]
       [⟨0, [8], [], some 42, .any, none⟩,
           ⟨1, [7], [705], some 43, .any, none⟩,
           ⟨2, [43], [705], some 44, .any, none⟩,
           ⟨3, [42, 44], [], some 45, .any, none⟩,
           ⟨4, [45], [], some 46, .any, none⟩,
           ⟨5, [46], [], some 47, .any, none⟩,
           ⟨6, [5, 47], [205], some 48, .any, none⟩,
           ⟨7, [7, 47], [705], some 49, .any, none⟩,
           ⟨8, [47, 49], [705], some 50, .any, none⟩,
           ⟨9, [47, 48, 50], [], some 51, .any, none⟩,
           ⟨10, [7, 47], [705], some 52, .any, none⟩,
           ⟨11, [7, 47], [705], some 53, .any, none⟩,
           ⟨12, [47, 53], [705], some 54, .any, none⟩,
           ⟨13, [47, 52, 54], [], some 55, .any, none⟩,
           ⟨14, [47, 51, 55], [], some 56, .any, none⟩,
           ⟨15, [47, 56], [], some 57, .any, none⟩,
           ⟨16, [47, 57], [], some 58, .any, none⟩]
       mixed_ok rfl (by kernel_rfl) ⟨DS.ok_over fun s0 => OpAt.go rfl rfl (q_move),
           DS.ok_over fun s0 => OpAt.go rfl rfl (q_fa),
           DS.ok_over fun s0 => OpAt.go rfl rfl (q_load),
           DS.ok_over fun s0 => OpAt.go rfl rfl ((OpOk.bool_is (c := true) (q_call (0) (hc := (c_ciceroneref01_Same (cutZ (zAt t k) (t.zs.getD i default).o) (t.zs.getD i default).o (by omega) (by omega)))) (h1))),
           DS.ok_over fun s0 => OpAt.go rfl rfl ((OpOk.bool_is (c := false) (q_not) (rfl))),
           DS.ok_over fun s0 => OpAt.go rfl rfl (q_move),
           DS.ok_over fun s0 => OpAt.ggo rfl rfl rfl rfl rfl (q_load),
           DS.ok_over fun s0 => OpAt.ggo rfl rfl rfl rfl rfl (q_fa),
           DS.ok_over fun s0 => OpAt.ggo rfl rfl rfl rfl rfl (q_load),
           DS.ok_over fun s0 => OpAt.ggo rfl rfl rfl rfl rfl (q_call (0) (hc := (c_rat (zAt t k) (t.zs.getD i default).o 2 hzk hzl))),
           DS.ok_over fun s0 => OpAt.ggo rfl rfl rfl rfl rfl (q_load),
           DS.ok_over fun s0 => OpAt.ggo rfl rfl rfl rfl rfl (q_fa),
           DS.ok_over fun s0 => OpAt.ggo rfl rfl rfl rfl rfl (q_load),
           DS.ok_over fun s0 => OpAt.ggo rfl rfl rfl rfl rfl (q_call (0) (hc := (c_rat (t.zs.getD i default) (t.zs.getD i default).o 2 hzi hzl))),
           DS.ok_over fun s0 => OpAt.ggo rfl rfl rfl rfl rfl ((OpOk.bool_is (c := false) (q_call (0) (hc := (c_ciceroneref18_sameNames (atZ (zAt t k) (t.zs.getD i default).o 2) (atZ (t.zs.getD i default) (t.zs.getD i default).o 2) (atZ_ok hzk _ _) (atZ_ok hzi _ _)))) (h2))),
           DS.ok_over fun s0 => OpAt.ggo rfl rfl rfl rfl rfl ((OpOk.bool_is (c := true) (q_not) (rfl))),
           DS.ok_over fun s0 => OpAt.go rfl rfl (q_pick), trivial⟩ ?_
      dsimp only [final, DS.upd, AS.seto]
      refine AWp.cond_t rfl ?_
      refine AWp.seq ?_
      refine AWp.region ?_
      refine AOps.cons rfl rfl (q_assign) ?_
      refine AOps.nil ?_
      refine AWp.ret ?_
      show Fin te Try.f42 _ _
      refine q_ret (0) [_] [_] ?_
      exact congrArg tf (joinZ_no (j := i) (by omega) (kidO_no h5_1 ((parT_get (by omega)).trans (Decidable.not_not.1 h5_7)) (by rw [Bool.and_assoc, h2, Bool.and_false]))).symm
     ·
      refine AWp.draws [⟨0, [8], [], some 42, _, none⟩,
          ⟨1, [7], [705], some 43, _, none⟩,
          ⟨2, [43], [705], some 44, _, none⟩,
          ⟨3, [42, 44], [], some 45, _, none⟩,
          ⟨4, [45], [], some 46, _, none⟩,
          ⟨5, [46], [], some 47, _, none⟩,
          ⟨6, [5, 47], [205], some 48, _, none⟩,
          ⟨7, [7, 47], [705], some 49, _, none⟩,
          ⟨8, [47, 49], [705], some 50, _, none⟩,
          ⟨9, [47, 48, 50], [], some 51, _, none⟩,
          ⟨10, [7, 47], [705], some 52, _, none⟩,
          ⟨11, [7, 47], [705], some 53, _, none⟩,
          ⟨12, [47, 53], [705], some 54, _, none⟩,
          ⟨13, [47, 52, 54], [], some 55, _, none⟩,
          ⟨14, [47, 51, 55], [], some 56, _, none⟩,
          ⟨15, [47, 56], [], some 57, _, none⟩,
          ⟨16, [47, 57], [], some 58, _, none⟩]
       [⟨0, [8], [], some 42, .any, none⟩,
           ⟨1, [7], [705], some 43, .any, none⟩,
           ⟨2, [43], [705], some 44, .any, none⟩,
           ⟨3, [42, 44], [], some 45, .any, none⟩,
           ⟨4, [45], [], some 46, .any, none⟩,
           ⟨5, [46], [], some 47, .any, none⟩,
           ⟨6, [5, 47], [205], some 48, .any, none⟩,
           ⟨7, [7, 47], [705], some 49, .any, none⟩,
           ⟨8, [47, 49], [705], some 50, .any, none⟩,
           ⟨9, [47, 48, 50], [], some 51, .any, none⟩,
           ⟨10, [7, 47], [705], some 52, .any, none⟩,
           ⟨11, [7, 47], [705], some 53, .any, none⟩,
           ⟨12, [47, 53], [705], some 54, .any, none⟩,
           ⟨13, [47, 52, 54], [], some 55, .any, none⟩,
           ⟨14, [47, 51, 55], [], some 56, .any, none⟩,
           ⟨15, [47, 56], [], some 57, .any, none⟩,
           ⟨16, [47, 57], [], some 58, .any, none⟩]
       mixed_ok rfl (by kernel_rfl) ⟨DS.ok_over fun s0 => OpAt.go rfl rfl (q_move),
           DS.ok_over fun s0 => OpAt.go rfl rfl (q_fa),
           DS.ok_over fun s0 => OpAt.go rfl rfl (q_load),
           DS.ok_over fun s0 => OpAt.go rfl rfl ((OpOk.bool_is (c := true) (q_call (0) (hc := (c_ciceroneref01_Same (cutZ (zAt t k) (t.zs.getD i default).o) (t.zs.getD i default).o (by omega) (by omega)))) (h1))),
           DS.ok_over fun s0 => OpAt.go rfl rfl ((OpOk.bool_is (c := false) (q_not) (rfl))),
           DS.ok_over fun s0 => OpAt.go rfl rfl (q_move),
           DS.ok_over fun s0 => OpAt.ggo rfl rfl rfl rfl rfl (q_load),
           DS.ok_over fun s0 => OpAt.ggo rfl rfl rfl rfl rfl (q_fa),
           DS.ok_over fun s0 => OpAt.ggo rfl rfl rfl rfl rfl (q_load),
           DS.ok_over fun s0 => OpAt.ggo rfl rfl rfl rfl rfl (q_call (0) (hc := (c_rat (zAt t k) (t.zs.getD i default).o 2 hzk hzl))),
           DS.ok_over fun s0 => OpAt.ggo rfl rfl rfl rfl rfl (q_load),
           DS.ok_over fun s0 => OpAt.ggo rfl rfl rfl rfl rfl (q_fa),
           DS.ok_over fun s0 => OpAt.ggo rfl rfl rfl rfl rfl (q_load),
           DS.ok_over fun s0 => OpAt.ggo rfl rfl rfl rfl rfl (q_call (0) (hc := (c_rat (t.zs.getD i default) (t.zs.getD i default).o 2 hzi hzl))),
           DS.ok_over fun s0 => OpAt.ggo rfl rfl rfl rfl rfl ((OpOk.bool_is (c := true) (q_call (0) (hc := (c_ciceroneref18_sameNames (atZ (zAt t k) (t.zs.getD i default).o 2) (atZ (t.zs.getD i default) (t.zs.getD i default).o 2) (atZ_ok hzk _ _) (atZ_ok hzi _ _)))) (h2))),
           DS.ok_over fun s0 => OpAt.ggo rfl rfl rfl rfl rfl ((OpOk.bool_is (c := false) (q_not) (rfl))),
           DS.ok_over fun s0 => OpAt.go rfl rfl (q_pick), trivial⟩ ?_
      dsimp only [final, DS.upd, AS.seto]
      refine AWp.cond_f rfl ?_
      refine AWp.skip ?_
      refine AWp.region ?_
      refine AOps.cons rfl rfl (q_add) ?_
      refine AOps.cons rfl rfl (q_move) ?_
      refine AOps.nil ?_
      refine ⟨i + 1, ?_, Back.mk' (HasT.cons HasT.nil) HasH.nil, ?_⟩
      ·
       exact ⟨by omega, lt_step hc (kidO_yes h1 (by simp only [Bool.and_eq_true] at h2; exact h2.1) (by simp only [Bool.and_eq_true] at h2; exact h2.2))⟩
      ·
       first | omega | (simp; omega)
  ·
   refine AOps.nil ?_
   refine AWp.seq ?_
   refine AWp.cond_f rfl ?_
   refine AWp.exit ?_
   refine AWp.seq ?_
   refine AWp.seq ?_
   refine AWp.region ?_
   obtain rfl : i = t.zs.length := by omega
   refine AOps.cons rfl rfl (q_fa) ?_
   refine AOps.cons rfl rfl (q_load) ?_
   refine AOps.cons rfl rfl (q_len) ?_
   refine AOps.cons rfl rfl (q_move) ?_
   refine AOps.nil ?_
   refine AWp.block ?_
   refine AWp.loopR (α := Nat) [4, 10, 11, 12, 63, 64, 65, 66, 67, 68, 69, 70, 71, 72, 73, 74, 75, 76, 77, 78, 79, 80, 81, 82, 83, 84, 85, 86, 87, 88, 89, 90, 91, 92, 93, 94, 95, 96, 97, 98, 99, 100, 101, 102, 103, 104, 105, 106, 107, 108, 109] (fun e => [(63, i64 e)]) (fun e => []) (fun e => e ≤ (zAt t k).rs.length ∧ ((zAt t k).rs.take e).any (joinQ t (parT t) k (zAt t k)) = false) (fun e => (zAt t k).rs.length - e) 0 ?_ (Back.mk' (HasT.cons HasT.nil) HasH.nil) ?_
   ·
    exact ⟨Nat.zero_le _, rfl⟩
   ·
    rintro e ⟨he, hq⟩
    have hkr2 : (zAt t k).rs.length = (t.zs.getD k.toNat default).rs.length := rfl
    refine AWp.seq ?_
    refine AWp.region ?_
    refine AOps.dec rfl rfl (q_lss) (fun h12_0 => ?_) (fun h12_0 => ?_)
    ·
     refine AOps.nil ?_
     refine AWp.seq ?_
     refine AWp.cond_t rfl ?_
     refine AWp.skip ?_
     refine AWp.seq ?_
     refine AWp.block ?_
     refine AWp.seq ?_
     refine AWp.region ?_
     refine AOps.cons rfl rfl (q_ix) ?_
     refine AOps.cons rfl rfl (q_load) ?_
     refine AOps.cons rfl rfl (q_alloc 1402) ?_
     refine AOps.cons rfl rfl (q_store) ?_
     refine AOps.nil ?_
     refine AWp.seq ?_
     refine AWp.seq ?_
     refine AWp.region ?_
     have hri := hzk.2.2 _ (getD_mem' (l := (zAt t k).rs) (i := e) (by omega))
     refine AOps.cons rfl rfl (q_fa) ?_
     refine AOps.cons rfl rfl (q_load) ?_
     refine AOps.dec rfl rfl (q_neq) (fun h14_2 => ?_) (fun h14_2 => ?_)
     ·
      refine AOps.cons rfl rfl (q_move) ?_
      refine AOps.gskip rfl rfl rfl rfl rfl rfl rfl rfl ?_
      refine AOps.gskip rfl rfl rfl rfl rfl rfl rfl rfl ?_
      refine AOps.gskip rfl rfl rfl rfl rfl rfl rfl rfl ?_
      refine AOps.gskip rfl rfl rfl rfl rfl rfl rfl rfl ?_
      refine AOps.gskip rfl rfl rfl rfl rfl rfl rfl rfl ?_
      refine AOps.cons rfl rfl (q_pick) ?_
      refine AOps.nil ?_
      refine AWp.cond_t rfl ?_
      refine AWp.exit ?_
      refine AWp.region ?_
      refine AOps.cons rfl rfl (q_add) ?_
      refine AOps.cons rfl rfl (q_move) ?_
      refine AOps.nil ?_
      refine ⟨e + 1, ?_, Back.mk' (HasT.cons HasT.nil) HasH.nil, ?_⟩
      ·
       exact ⟨by omega, any_no (i := e) (by omega) hq (joinQ_1 h14_2)⟩
      ·
       first | omega | (simp; omega)
     ·
      refine AOps.cons rfl rfl (q_move) ?_
      refine AOps.gcons rfl rfl rfl rfl rfl (q_fa) ?_
      refine AOps.gcons rfl rfl rfl rfl rfl (q_load) ?_
      refine AOps.gcons rfl rfl rfl rfl rfl (q_fa) ?_
      refine AOps.gcons rfl rfl rfl rfl rfl (q_load) ?_
      refine AOps.gbool rfl rfl rfl rfl rfl (q_call (0) (hc := (c_ciceroneref01_Same ((zAt t k).rs.getD e default).nm (zAt t k).o (by omega) (by omega)))) (fun h14_8 => ?_) (fun h14_8 => ?_)
      ·
       refine AOps.cons rfl rfl (q_pick) ?_
       refine AOps.nil ?_
       refine AWp.cond_t rfl ?_
       refine AWp.exit ?_
       refine AWp.region ?_
       refine AOps.cons rfl rfl (q_add) ?_
       refine AOps.cons rfl rfl (q_move) ?_
       refine AOps.nil ?_
       refine ⟨e + 1, ?_, Back.mk' (HasT.cons HasT.nil) HasH.nil, ?_⟩
       ·
        exact ⟨by omega, any_no (i := e) (by omega) hq (joinQ_2 h14_8)⟩
       ·
        first | omega | (simp; omega)
      ·
       refine AOps.cons rfl rfl (q_pick) ?_
       refine AOps.nil ?_
       refine AWp.cond_f rfl ?_
       refine AWp.skip ?_
       refine AWp.seq ?_
       refine AWp.region ?_
       refine AOps.cons rfl rfl (q_assign) ?_
       refine AOps.nil ?_
       refine AWp.seq ?_
       refine AWp.seq ?_
       refine AWp.region ?_
       refine AOps.cons rfl rfl (q_fa) ?_
       refine AOps.cons rfl rfl (q_load) ?_
       refine AOps.cons rfl rfl (q_len) ?_
       refine AOps.cons rfl rfl (q_move) ?_
       refine AOps.nil ?_
       refine AWp.block ?_
       refine AWp.loopR (α := Nat) [11, 12, 80, 81, 82, 83, 84, 85, 86, 87, 88, 89, 90, 91, 92, 93, 94, 95, 96, 97, 98, 99, 100, 101, 102, 103, 104, 105, 106] (fun j => [(80, i64 j), (11, tf ((List.range j).any (childB t (parT t) k ((zAt t k).rs.getD e default).nm)))]) (fun j => []) (fun j => j ≤ t.zs.length) (fun j => t.zs.length - j) 0 ?_ (Back.mk' (HasT.cons (HasT.cons HasT.nil)) HasH.nil) ?_
       ·
        exact Nat.zero_le _
       ·
        rintro j hj
        refine AWp.seq ?_
        refine AWp.region ?_
        refine AOps.dec rfl rfl (q_lss) (fun h17_0 => ?_) (fun h17_0 => ?_)
        ·
         refine AOps.nil ?_
         refine AWp.seq ?_
         refine AWp.cond_t rfl ?_
         refine AWp.skip ?_
         refine AWp.seq ?_
         refine AWp.block ?_
         refine AWp.seq ?_
         refine AWp.region ?_
         have hzj := ht.2.1 _ (getD_mem' (l := t.zs) (i := j) (by omega))
         have hzjl := hzj.1
         refine AOps.cons rfl rfl (q_move) ?_
         refine AOps.cons rfl rfl (q_assign) ?_
         refine AOps.nil ?_
         rcases find5 ((List.range j).any (childB t (parT t) k ((zAt t k).rs.getD e default).nm)) (0 < (j : Int)) (sameN (t.zs.getD j default).o ((zAt t k).rs.getD e default).nm) (parOf t (t.zs.getD j default) = k) with h1 | ⟨h1, h2⟩ | ⟨h1, h2, h3⟩ | ⟨h1, h2, h3, h4⟩ | ⟨h1, h2, h3, h4⟩
         ·
          refine AWp.draws [⟨0, [11], [], some 83, _, none⟩,
              ⟨1, [83], [], some 84, _, none⟩,
              ⟨2, [84], [], some 85, .v undef, none⟩,
              ⟨3, [84], [], some 86, .v undef, none⟩,
              ⟨4, [84], [], some 87, .v undef, none⟩,
              ⟨5, [87], [], some 88, .v undef, none⟩,
              ⟨6, [87], [], some 89, .v undef, none⟩,
              ⟨7, [87], [], some 90, .v undef, none⟩,
              ⟨8, [87], [], some 91, .v undef, none⟩,
              ⟨9, [87], [], some 92, .v undef, none⟩,
              ⟨10, [87], [], some 93, .v undef, none⟩,
              ⟨11, [87], [], some 94, .v undef, none⟩,
              ⟨12, [87], [], some 95, .v undef, none⟩,
              ⟨13, [87], [], some 96, .v undef, none⟩,
              ⟨14, [84], [], some 97, .v undef, none⟩,
              ⟨15, [84], [], some 98, .v undef, none⟩,
              ⟨16, [98], [], some 99, .v undef, none⟩,
              ⟨17, [98], [], some 100, .v undef, none⟩,
              ⟨18, [98], [], some 101, .v undef, none⟩,
              ⟨19, [98], [], some 102, .v undef, none⟩,
              ⟨20, [98], [], some 103, .v undef, none⟩,
              ⟨21, [84], [], some 104, .v undef, none⟩,
              ⟨22, [84, 104], [], some 105, _, none⟩,
              ⟨23, [105], [], some 11, _, none⟩]
           [⟨0, [11], [], some 83, .any, none⟩,
               ⟨1, [83], [], some 84, .any, none⟩,
               ⟨2, [84], [], some 85, .any, none⟩,
               ⟨3, [84], [], some 86, .any, none⟩,
               ⟨4, [84], [], some 87, .any, none⟩,
               ⟨5, [87], [], some 88, .any, none⟩,
               ⟨6, [87], [], some 89, .any, none⟩,
               ⟨7, [87], [], some 90, .any, none⟩,
               ⟨8, [87], [], some 91, .any, none⟩,
               ⟨9, [87], [], some 92, .any, none⟩,
               ⟨10, [87], [], some 93, .any, none⟩,
               ⟨11, [87], [], some 94, .any, none⟩,
               ⟨12, [87], [], some 95, .any, none⟩,
               ⟨13, [87], [], some 96, .any, none⟩,
               ⟨14, [84], [], some 97, .any, none⟩,
               ⟨15, [84], [], some 98, .any, none⟩,
               ⟨16, [98], [], some 99, .any, none⟩,
               ⟨17, [98], [], some 100, .any, none⟩,
               ⟨18, [98], [], some 101, .any, none⟩,
               ⟨19, [98], [], some 102, .any, none⟩,
               ⟨20, [98], [], some 103, .any, none⟩,
               ⟨21, [84], [], some 104, .any, none⟩,
               ⟨22, [84, 104], [], some 105, .any, none⟩,
               ⟨23, [105], [], some 11, .any, none⟩]
           mixed_ok rfl (by kernel_rfl) ⟨DS.ok_over fun s0 => OpAt.go rfl rfl ((OpOk.bool_is (c := true) (q_move) (h1))),
               DS.ok_over fun s0 => OpAt.go rfl rfl (q_move),
               DS.ok_over fun s0 => OpAt.gskip rfl rfl rfl rfl rfl rfl rfl rfl,
               DS.ok_over fun s0 => OpAt.gskip rfl rfl rfl rfl rfl rfl rfl rfl,
               DS.ok_over fun s0 => OpAt.gskip rfl rfl rfl rfl rfl rfl rfl rfl,
               DS.ok_over fun s0 => OpAt.gskipu rfl rfl rfl rfl rfl rfl rfl,
               DS.ok_over fun s0 => OpAt.gskipu rfl rfl rfl rfl rfl rfl rfl,
               DS.ok_over fun s0 => OpAt.gskipu rfl rfl rfl rfl rfl rfl rfl,
               DS.ok_over fun s0 => OpAt.gskipu rfl rfl rfl rfl rfl rfl rfl,
               DS.ok_over fun s0 => OpAt.gskipu rfl rfl rfl rfl rfl rfl rfl,
               DS.ok_over fun s0 => OpAt.gskipu rfl rfl rfl rfl rfl rfl rfl,
               DS.ok_over fun s0 => OpAt.gskipu rfl rfl rfl rfl rfl rfl rfl,
               DS.ok_over fun s0 => OpAt.gskipu rfl rfl rfl rfl rfl rfl rfl,
               DS.ok_over fun s0 => OpAt.gskipu rfl rfl rfl rfl rfl rfl rfl,
               DS.ok_over fun s0 => OpAt.gskip rfl rfl rfl rfl rfl rfl rfl rfl,
               DS.ok_over fun s0 => OpAt.gskip rfl rfl rfl rfl rfl rfl rfl rfl,
               DS.ok_over fun s0 => OpAt.gskipu rfl rfl rfl rfl rfl rfl rfl,
               DS.ok_over fun s0 => OpAt.gskipu rfl rfl rfl rfl rfl rfl rfl,
               DS.ok_over fun s0 => OpAt.gskipu rfl rfl rfl rfl rfl rfl rfl,
               DS.ok_over fun s0 => OpAt.gskipu rfl rfl rfl rfl rfl rfl rfl,
               DS.ok_over fun s0 => OpAt.gskipu rfl rfl rfl rfl rfl rfl rfl,
               DS.ok_over fun s0 => OpAt.gskip rfl rfl rfl rfl rfl rfl rfl rfl,
               DS.ok_over fun s0 => OpAt.go rfl rfl (q_pick),
               DS.ok_over fun s0 => OpAt.go rfl rfl (q_assign), trivial⟩ ?_
          dsimp only [final, DS.upd, AS.seto]
          refine AWp.region ?_
          refine AOps.cons rfl rfl (q_add) ?_
          refine AOps.cons rfl rfl (q_move) ?_
          refine AOps.nil ?_
          refine ⟨j + 1, ?_, Back.mk' (HasT.cons (HasT.cons HasT.nil (h1 := by exact congrArg tf (by rw [range_any_step, h1]; rfl)) )) HasH.nil, ?_⟩
          ·
           first | assumption | omega | decide | (simp; omega) | (simp [*]; done)
          ·
           first | omega | (simp; omega)
         ·
          refine AWp.draws [⟨0, [11], [], some 83, _, none⟩,
              ⟨1, [83], [], some 84, _, none⟩,
              ⟨2, [12, 84], [], some 85, _, none⟩,
              ⟨3, [84, 85], [], some 86, _, none⟩,
              ⟨4, [84, 86], [], some 87, _, none⟩,
              ⟨5, [87], [], some 88, .v undef, none⟩,
              ⟨6, [87], [], some 89, .v undef, none⟩,
              ⟨7, [87], [], some 90, .v undef, none⟩,
              ⟨8, [87], [], some 91, .v undef, none⟩,
              ⟨9, [87], [], some 92, .v undef, none⟩,
              ⟨10, [87], [], some 93, .v undef, none⟩,
              ⟨11, [87], [], some 94, .v undef, none⟩,
              ⟨12, [87], [], some 95, .v undef, none⟩,
              ⟨13, [87], [], some 96, .v undef, none⟩,
              ⟨14, [84, 87, 96], [], some 97, _, none⟩,
              ⟨15, [84, 97], [], some 98, _, none⟩,
              ⟨16, [98], [], some 99, .v undef, none⟩,
              ⟨17, [98], [], some 100, .v undef, none⟩,
              ⟨18, [98], [], some 101, .v undef, none⟩,
              ⟨19, [98], [], some 102, .v undef, none⟩,
              ⟨20, [98], [], some 103, .v undef, none⟩,
              ⟨21, [84, 98, 103], [], some 104, _, none⟩,
              ⟨22, [84, 104], [], some 105, _, none⟩,
              ⟨23, [105], [], some 11, _, none⟩]
           [⟨0, [11], [], some 83, .any, none⟩,
               ⟨1, [83], [], some 84, .any, none⟩,
               ⟨2, [12, 84], [], some 85, .any, none⟩,
               ⟨3, [84, 85], [], some 86, .any, none⟩,
               ⟨4, [84, 86], [], some 87, .any, none⟩,
               ⟨5, [87], [], some 88, .any, none⟩,
               ⟨6, [87], [], some 89, .any, none⟩,
               ⟨7, [87], [], some 90, .any, none⟩,
               ⟨8, [87], [], some 91, .any, none⟩,
               ⟨9, [87], [], some 92, .any, none⟩,
               ⟨10, [87], [], some 93, .any, none⟩,
               ⟨11, [87], [], some 94, .any, none⟩,
               ⟨12, [87], [], some 95, .any, none⟩,
               ⟨13, [87], [], some 96, .any, none⟩,
               ⟨14, [84, 87, 96], [], some 97, .any, none⟩,
               ⟨15, [84, 97], [], some 98, .any, none⟩,
               ⟨16, [98], [], some 99, .any, none⟩,
               ⟨17, [98], [], some 100, .any, none⟩,
               ⟨18, [98], [], some 101, .any, none⟩,
               ⟨19, [98], [], some 102, .any, none⟩,
               ⟨20, [98], [], some 103, .any, none⟩,
               ⟨21, [84, 98, 103], [], some 104, .any, none⟩,
               ⟨22, [84, 104], [], some 105, .any, none⟩,
               ⟨23, [105], [], some 11, .any, none⟩]
           mixed_ok rfl (by kernel_rfl) ⟨DS.ok_over fun s0 => OpAt.go rfl rfl ((OpOk.bool_is (c := false) (q_move) (h1))),
               DS.ok_over fun s0 => OpAt.go rfl rfl (q_move),
               DS.ok_over fun s0 => OpAt.ggo rfl rfl rfl rfl rfl (q_move),
               DS.ok_over fun s0 => OpAt.ggo rfl rfl rfl rfl rfl ((OpOk.dec_f (q_gtr) (h2))),
               DS.ok_over fun s0 => OpAt.ggo rfl rfl rfl rfl rfl (q_move),
               DS.ok_over fun s0 => OpAt.gskip rfl rfl rfl rfl rfl rfl rfl rfl,
               DS.ok_over fun s0 => OpAt.gskip rfl rfl rfl rfl rfl rfl rfl rfl,
               DS.ok_over fun s0 => OpAt.gskip rfl rfl rfl rfl rfl rfl rfl rfl,
               DS.ok_over fun s0 => OpAt.gskip rfl rfl rfl rfl rfl rfl rfl rfl,
               DS.ok_over fun s0 => OpAt.gskip rfl rfl rfl rfl rfl rfl rfl rfl,
               DS.ok_over fun s0 => OpAt.gskip rfl rfl rfl rfl rfl rfl rfl rfl,
               DS.ok_over fun s0 => OpAt.gskip rfl rfl rfl rfl rfl rfl rfl rfl,
               DS.ok_over fun s0 => OpAt.gskip rfl rfl rfl rfl rfl rfl rfl rfl,
               DS.ok_over fun s0 => OpAt.gskip rfl rfl rfl rfl rfl rfl rfl rfl,
               DS.ok_over fun s0 => OpAt.ggo rfl rfl rfl rfl rfl (q_pick),
               DS.ok_over fun s0 => OpAt.ggo rfl rfl rfl rfl rfl (q_move),
               DS.ok_over fun s0 => OpAt.gskip rfl rfl rfl rfl rfl rfl rfl rfl,
               DS.ok_over fun s0 => OpAt.gskip rfl rfl rfl rfl rfl rfl rfl rfl,
               DS.ok_over fun s0 => OpAt.gskip rfl rfl rfl rfl rfl rfl rfl rfl,
               DS.ok_over fun s0 => OpAt.gskip rfl rfl rfl rfl rfl rfl rfl rfl,
               DS.ok_over fun s0 => OpAt.gskip rfl rfl rfl rfl rfl rfl rfl rfl,
               DS.ok_over fun s0 => OpAt.ggo rfl rfl rfl rfl rfl (q_pick),
               DS.ok_over fun s0 => OpAt.go rfl rfl (q_pick),
               DS.ok_over fun s0 => OpAt.go rfl rfl (q_assign), trivial⟩ ?_
          dsimp only [final, DS.upd, AS.seto]
          refine AWp.region ?_
          refine AOps.cons rfl rfl (q_add) ?_
          refine AOps.cons rfl rfl (q_move) ?_
          refine AOps.nil ?_
          refine ⟨j + 1, ?_, Back.mk' (HasT.cons (HasT.cons HasT.nil (h1 := by exact congrArg tf (by rw [range_any_step, h1, chi_1 h2]; rfl)) )) HasH.nil, ?_⟩
          ·
           first | assumption | omega | decide | (simp; omega) | (simp [*]; done)
          ·
           first | omega | (simp; omega)
         ·
          refine AWp.draws [⟨0, [11], [], some 83, _, none⟩,
              ⟨1, [83], [], some 84, _, none⟩,
              ⟨2, [12, 84], [], some 85, _, none⟩,
              ⟨3, [84, 85], [], some 86, _, none⟩,
              ⟨4, [84, 86], [], some 87, _, none⟩,
              ⟨5, [2, 87], [100], some 88, _, none⟩,
              ⟨6, [87, 88], [100], some 89, _, none⟩,
              ⟨7, [12, 87], [], some 90, _, none⟩,
              ⟨8, [87, 89, 90], [], some 91, _, none⟩,
              ⟨9, [87, 91], [], some 92, _, none⟩,
              ⟨10, [87, 92], [], some 93, _, none⟩,
              ⟨11, [10, 87], [1402], some 94, _, none⟩,
              ⟨12, [87, 94], [1402], some 95, _, none⟩,
              ⟨13, [87, 93, 95], [], some 96, _, none⟩,
              ⟨14, [84, 87, 96], [], some 97, _, none⟩,
              ⟨15, [84, 97], [], some 98, _, none⟩,
              ⟨16, [98], [], some 99, .v undef, none⟩,
              ⟨17, [98], [], some 100, .v undef, none⟩,
              ⟨18, [98], [], some 101, .v undef, none⟩,
              ⟨19, [98], [], some 102, .v undef, none⟩,
              ⟨20, [98], [], some 103, .v undef, none⟩,
              ⟨21, [84, 98, 103], [], some 104, _, none⟩,
              ⟨22, [84, 104], [], some 105, _, none⟩,
              ⟨23, [105], [], some 11, _, none⟩]
           [⟨0, [11], [], some 83, .any, none⟩,
               ⟨1, [83], [], some 84, .any, none⟩,
               ⟨2, [12, 84], [], some 85, .any, none⟩,
               ⟨3, [84, 85], [], some 86, .any, none⟩,
               ⟨4, [84, 86], [], some 87, .any, none⟩,
               ⟨5, [2, 87], [100], some 88, .any, none⟩,
               ⟨6, [87, 88], [100], some 89, .any, none⟩,
               ⟨7, [12, 87], [], some 90, .any, none⟩,
               ⟨8, [87, 89, 90], [], some 91, .any, none⟩,
               ⟨9, [87, 91], [], some 92, .any, none⟩,
               ⟨10, [87, 92], [], some 93, .any, none⟩,
               ⟨11, [10, 87], [1402], some 94, .any, none⟩,
               ⟨12, [87, 94], [1402], some 95, .any, none⟩,
               ⟨13, [87, 93, 95], [], some 96, .any, none⟩,
               ⟨14, [84, 87, 96], [], some 97, .any, none⟩,
               ⟨15, [84, 97], [], some 98, .any, none⟩,
               ⟨16, [98], [], some 99, .any, none⟩,
               ⟨17, [98], [], some 100, .any, none⟩,
               ⟨18, [98], [], some 101, .any, none⟩,
               ⟨19, [98], [], some 102, .any, none⟩,
               ⟨20, [98], [], some 103, .any, none⟩,
               ⟨21, [84, 98, 103], [], some 104, .any, none⟩,
               ⟨22, [84, 104], [], some 105, .any, none⟩,
               ⟨23, [105], [], some 11, .any, none⟩]
           mixed_ok rfl (by kernel_rfl) ⟨DS.ok_over fun s0 => OpAt.go rfl rfl ((OpOk.bool_is (c := false) (q_move) (h1))),
               DS.ok_over fun s0 => OpAt.go rfl rfl (q_move),
               DS.ok_over fun s0 => OpAt.ggo rfl rfl rfl rfl rfl (q_move),
               DS.ok_over fun s0 => OpAt.ggo rfl rfl rfl rfl rfl ((OpOk.dec_t (q_gtr) (h2))),
               DS.ok_over fun s0 => OpAt.ggo rfl rfl rfl rfl rfl (q_move),
               DS.ok_over fun s0 => OpAt.ggo rfl rfl rfl rfl rfl (q_fa),
               DS.ok_over fun s0 => OpAt.ggo rfl rfl rfl rfl rfl (q_load),
               DS.ok_over fun s0 => OpAt.ggo rfl rfl rfl rfl rfl (q_move),
               DS.ok_over fun s0 => OpAt.ggo rfl rfl rfl rfl rfl (q_ix),
               DS.ok_over fun s0 => OpAt.ggo rfl rfl rfl rfl rfl (q_fa),
               DS.ok_over fun s0 => OpAt.ggo rfl rfl rfl rfl rfl (q_load),
               DS.ok_over fun s0 => OpAt.ggo rfl rfl rfl rfl rfl (q_fa),
               DS.ok_over fun s0 => OpAt.ggo rfl rfl rfl rfl rfl (q_load),
               DS.ok_over fun s0 => OpAt.ggo rfl rfl rfl rfl rfl ((OpOk.bool_is (c := false) (q_call (0) (hc := (c_ciceroneref01_Same (t.zs.getD j default).o ((zAt t k).rs.getD e default).nm (by omega) (by omega)))) (h3))),
               DS.ok_over fun s0 => OpAt.ggo rfl rfl rfl rfl rfl (q_pick),
               DS.ok_over fun s0 => OpAt.ggo rfl rfl rfl rfl rfl (q_move),
               DS.ok_over fun s0 => OpAt.gskip rfl rfl rfl rfl rfl rfl rfl rfl,
               DS.ok_over fun s0 => OpAt.gskip rfl rfl rfl rfl rfl rfl rfl rfl,
               DS.ok_over fun s0 => OpAt.gskip rfl rfl rfl rfl rfl rfl rfl rfl,
               DS.ok_over fun s0 => OpAt.gskip rfl rfl rfl rfl rfl rfl rfl rfl,
               DS.ok_over fun s0 => OpAt.gskip rfl rfl rfl rfl rfl rfl rfl rfl,
               DS.ok_over fun s0 => OpAt.ggo rfl rfl rfl rfl rfl (q_pick),
               DS.ok_over fun s0 => OpAt.go rfl rfl (q_pick),
               DS.ok_over fun s0 => OpAt.go rfl rfl (q_assign), trivial⟩ ?_
          dsimp only [final, DS.upd, AS.seto]
          refine AWp.region ?_
          refine AOps.cons rfl rfl (q_add) ?_
          refine AOps.cons rfl rfl (q_move) ?_
          refine AOps.nil ?_
          refine ⟨j + 1, ?_, Back.mk' (HasT.cons (HasT.cons HasT.nil (h1 := by exact congrArg tf (by rw [range_any_step, h1, chi_2 h3]; rfl)) )) HasH.nil, ?_⟩
          ·
           first | assumption | omega | decide | (simp; omega) | (simp [*]; done)
          ·
           first | omega | (simp; omega)
         ·
          refine AWp.draws [⟨0, [11], [], some 83, _, none⟩,
              ⟨1, [83], [], some 84, _, none⟩,
              ⟨2, [12, 84], [], some 85, _, none⟩,
              ⟨3, [84, 85], [], some 86, _, none⟩,
              ⟨4, [84, 86], [], some 87, _, none⟩,
              ⟨5, [2, 87], [100], some 88, _, none⟩,
              ⟨6, [87, 88], [100], some 89, _, none⟩,
              ⟨7, [12, 87], [], some 90, _, none⟩,
              ⟨8, [87, 89, 90], [], some 91, _, none⟩,
              ⟨9, [87, 91], [], some 92, _, none⟩,
              ⟨10, [87, 92], [], some 93, _, none⟩,
              ⟨11, [10, 87], [1402], some 94, _, none⟩,
              ⟨12, [87, 94], [1402], some 95, _, none⟩,
              ⟨13, [87, 93, 95], [], some 96, _, none⟩,
              ⟨14, [84, 87, 96], [], some 97, _, none⟩,
              ⟨15, [84, 97], [], some 98, _, none⟩,
              ⟨16, [2, 98], [100], some 99, _, none⟩,
              ⟨17, [12, 98], [], some 100, _, none⟩,
              ⟨18, [98, 99, 100], [], some 101, _, none⟩,
              ⟨19, [1, 98], [], some 102, _, none⟩,
              ⟨20, [98, 101, 102], [], some 103, _, none⟩,
              ⟨21, [84, 98, 103], [], some 104, _, none⟩,
              ⟨22, [84, 104], [], some 105, _, none⟩,
              ⟨23, [105], [], some 11, _, none⟩]
           [⟨0, [11], [], some 83, .any, none⟩,
               ⟨1, [83], [], some 84, .any, none⟩,
               ⟨2, [12, 84], [], some 85, .any, none⟩,
               ⟨3, [84, 85], [], some 86, .any, none⟩,
               ⟨4, [84, 86], [], some 87, .any, none⟩,
               ⟨5, [2, 87], [100], some 88, .any, none⟩,
               ⟨6, [87, 88], [100], some 89, .any, none⟩,
               ⟨7, [12, 87], [], some 90, .any, none⟩,
               ⟨8, [87, 89, 90], [], some 91, .any, none⟩,
               ⟨9, [87, 91], [], some 92, .any, none⟩,
               ⟨10, [87, 92], [], some 93, .any, none⟩,
               ⟨11, [10, 87], [1402], some 94, .any, none⟩,
               ⟨12, [87, 94], [1402], some 95, .any, none⟩,
               ⟨13, [87, 93, 95], [], some 96, .any, none⟩,
               ⟨14, [84, 87, 96], [], some 97, .any, none⟩,
               ⟨15, [84, 97], [], some 98, .any, none⟩,
               ⟨16, [2, 98], [100], some 99, .any, none⟩,
               ⟨17, [12, 98], [], some 100, .any, none⟩,
               ⟨18, [98, 99, 100], [], some 101, .any, none⟩,
               ⟨19, [1, 98], [], some 102, .any, none⟩,
               ⟨20, [98, 101, 102], [], some 103, .any, none⟩,
               ⟨21, [84, 98, 103], [], some 104, .any, none⟩,
               ⟨22, [84, 104], [], some 105, .any, none⟩,
               ⟨23, [105], [], some 11, .any, none⟩]
           mixed_ok rfl (by kernel_rfl) ⟨DS.ok_over fun s0 => OpAt.go rfl rfl ((OpOk.bool_is (c := false) (q_move) (h1))),
               DS.ok_over fun s0 => OpAt.go rfl rfl (q_move),
               DS.ok_over fun s0 => OpAt.ggo rfl rfl rfl rfl rfl (q_move),
               DS.ok_over fun s0 => OpAt.ggo rfl rfl rfl rfl rfl ((OpOk.dec_t (q_gtr) (h2))),
               DS.ok_over fun s0 => OpAt.ggo rfl rfl rfl rfl rfl (q_move),
               DS.ok_over fun s0 => OpAt.ggo rfl rfl rfl rfl rfl (q_fa),
               DS.ok_over fun s0 => OpAt.ggo rfl rfl rfl rfl rfl (q_load),
               DS.ok_over fun s0 => OpAt.ggo rfl rfl rfl rfl rfl (q_move),
               DS.ok_over fun s0 => OpAt.ggo rfl rfl rfl rfl rfl (q_ix),
               DS.ok_over fun s0 => OpAt.ggo rfl rfl rfl rfl rfl (q_fa),
               DS.ok_over fun s0 => OpAt.ggo rfl rfl rfl rfl rfl (q_load),
               DS.ok_over fun s0 => OpAt.ggo rfl rfl rfl rfl rfl (q_fa),
               DS.ok_over fun s0 => OpAt.ggo rfl rfl rfl rfl rfl (q_load),
               DS.ok_over fun s0 => OpAt.ggo rfl rfl rfl rfl rfl ((OpOk.bool_is (c := true) (q_call (0) (hc := (c_ciceroneref01_Same (t.zs.getD j default).o ((zAt t k).rs.getD e default).nm (by omega) (by omega)))) (h3))),
               DS.ok_over fun s0 => OpAt.ggo rfl rfl rfl rfl rfl (q_pick),
               DS.ok_over fun s0 => OpAt.ggo rfl rfl rfl rfl rfl (q_move),
               DS.ok_over fun s0 => OpAt.ggo rfl rfl rfl rfl rfl (q_load),
               DS.ok_over fun s0 => OpAt.ggo rfl rfl rfl rfl rfl (q_move),
               DS.ok_over fun s0 => OpAt.ggo rfl rfl rfl rfl rfl (q_call (0) (hc := (c_ciceroneref18_parent t j ht ⟨by omega, by omega⟩))),
               DS.ok_over fun s0 => OpAt.ggo rfl rfl rfl rfl rfl (q_move),
               DS.ok_over fun s0 => OpAt.ggo rfl rfl rfl rfl rfl ((OpOk.dec_f (q_eql) (h4))),
               DS.ok_over fun s0 => OpAt.ggo rfl rfl rfl rfl rfl (q_pick),
               DS.ok_over fun s0 => OpAt.go rfl rfl (q_pick),
               DS.ok_over fun s0 => OpAt.go rfl rfl (q_assign), trivial⟩ ?_
          dsimp only [final, DS.upd, AS.seto]
          refine AWp.region ?_
          refine AOps.cons rfl rfl (q_add) ?_
          refine AOps.cons rfl rfl (q_move) ?_
          refine AOps.nil ?_
          refine ⟨j + 1, ?_, Back.mk' (HasT.cons (HasT.cons HasT.nil (h1 := by exact congrArg tf (by rw [range_any_step, h1, chi_3 (by omega) h4]; rfl)) )) HasH.nil, ?_⟩
          ·
           first | assumption | omega | decide | (simp; omega) | (simp [*]; done)
          ·
           first | omega | (simp; omega)
         ·
          refine AWp.draws [⟨0, [11], [], some 83, _, none⟩,
              ⟨1, [83], [], some 84, _, none⟩,
              ⟨2, [12, 84], [], some 85, _, none⟩,
              ⟨3, [84, 85], [], some 86, _, none⟩,
              ⟨4, [84, 86], [], some 87, _, none⟩,
              ⟨5, [2, 87], [100], some 88, _, none⟩,
              ⟨6, [87, 88], [100], some 89, _, none⟩,
              ⟨7, [12, 87], [], some 90, _, none⟩,
              ⟨8, [87, 89, 90], [], some 91, _, none⟩,
              ⟨9, [87, 91], [], some 92, _, none⟩,
              ⟨10, [87, 92], [], some 93, _, none⟩,
              ⟨11, [10, 87], [1402], some 94, _, none⟩,
              ⟨12, [87, 94], [1402], some 95, _, none⟩,
              ⟨13, [87, 93, 95], [], some 96, _, none⟩,
              ⟨14, [84, 87, 96], [], some 97, _, none⟩,
              ⟨15, [84, 97], [], some 98, _, none⟩,
              ⟨16, [2, 98], [100], some 99, _, none⟩,
              ⟨17, [12, 98], [], some 100, _, none⟩,
              ⟨18, [98, 99, 100], [], some 101, _, none⟩,
              ⟨19, [1, 98], [], some 102, _, none⟩,
              ⟨20, [98, 101, 102], [], some 103, _, none⟩,
              ⟨21, [84, 98, 103], [], some 104, _, none⟩,
              ⟨22, [84, 104], [], some 105, _, none⟩,
              ⟨23, [105], [], some 11, _, none⟩]
           [⟨0, [11], [], some 83, .any, none⟩,
               ⟨1, [83], [], some 84, .any, none⟩,
               ⟨2, [12, 84], [], some 85, .any, none⟩,
               ⟨3, [84, 85], [], some 86, .any, none⟩,
               ⟨4, [84, 86], [], some 87, .any, none⟩,
               ⟨5, [2, 87], [100], some 88, .any, none⟩,
               ⟨6, [87, 88], [100], some 89, .any, none⟩,
               ⟨7, [12, 87], [], some 90, .any, none⟩,
               ⟨8, [87, 89, 90], [], some 91, .any, none⟩,
               ⟨9, [87, 91], [], some 92, .any, none⟩,
               ⟨10, [87, 92], [], some 93, .any, none⟩,
               ⟨11, [10, 87], [1402], some 94, .any, none⟩,
               ⟨12, [87, 94], [1402], some 95, .any, none⟩,
               ⟨13, [87, 93, 95], [], some 96, .any, none⟩,
               ⟨14, [84, 87, 96], [], some 97, .any, none⟩,
               ⟨15, [84, 97], [], some 98, .any, none⟩,
               ⟨16, [2, 98], [100], some 99, .any, none⟩,
               ⟨17, [12, 98], [], some 100, .any, none⟩,
               ⟨18, [98, 99, 100], [], some 101, .any, none⟩,
               ⟨19, [1, 98], [], some 102, .any, none⟩,
               ⟨20, [98, 101, 102], [], some 103, .any, none⟩,
               ⟨21, [84, 98, 103], [], some 104, .any, none⟩,
               ⟨22, [84, 104], [], some 105, .any, none⟩,
               ⟨23, [105], [], some 11, .any, none⟩]
           mixed_ok rfl (by kernel_rfl) ⟨DS.ok_over fun s0 => OpAt.go rfl rfl ((OpOk.bool_is (c := false) (q_move) (h1))),
               DS.ok_over fun s0 => OpAt.go rfl rfl (q_move),
               DS.ok_over fun s0 => OpAt.ggo rfl rfl rfl rfl rfl (q_move),
               DS.ok_over fun s0 => OpAt.ggo rfl rfl rfl rfl rfl ((OpOk.dec_t (q_gtr) (h2))),
               DS.ok_over fun s0 => OpAt.ggo rfl rfl rfl rfl rfl (q_move),
               DS.ok_over fun s0 => OpAt.ggo rfl rfl rfl rfl rfl (q_fa),
               DS.ok_over fun s0 => OpAt.ggo rfl rfl rfl rfl rfl (q_load),
               DS.ok_over fun s0 => OpAt.ggo rfl rfl rfl rfl rfl (q_move),
               DS.ok_over fun s0 => OpAt.ggo rfl rfl rfl rfl rfl (q_ix),
               DS.ok_over fun s0 => OpAt.ggo rfl rfl rfl rfl rfl (q_fa),
               DS.ok_over fun s0 => OpAt.ggo rfl rfl rfl rfl rfl (q_load),
               DS.ok_over fun s0 => OpAt.ggo rfl rfl rfl rfl rfl (q_fa),
               DS.ok_over fun s0 => OpAt.ggo rfl rfl rfl rfl rfl (q_load),
               DS.ok_over fun s0 => OpAt.ggo rfl rfl rfl rfl rfl ((OpOk.bool_is (c := true) (q_call (0) (hc := (c_ciceroneref01_Same (t.zs.getD j default).o ((zAt t k).rs.getD e default).nm (by omega) (by omega)))) (h3))),
               DS.ok_over fun s0 => OpAt.ggo rfl rfl rfl rfl rfl (q_pick),
               DS.ok_over fun s0 => OpAt.ggo rfl rfl rfl rfl rfl (q_move),
               DS.ok_over fun s0 => OpAt.ggo rfl rfl rfl rfl rfl (q_load),
               DS.ok_over fun s0 => OpAt.ggo rfl rfl rfl rfl rfl (q_move),
               DS.ok_over fun s0 => OpAt.ggo rfl rfl rfl rfl rfl (q_call (0) (hc := (c_ciceroneref18_parent t j ht ⟨by omega, by omega⟩))),
               DS.ok_over fun s0 => OpAt.ggo rfl rfl rfl rfl rfl (q_move),
               DS.ok_over fun s0 => OpAt.ggo rfl rfl rfl rfl rfl ((OpOk.dec_t (q_eql) (h4))),
               DS.ok_over fun s0 => OpAt.ggo rfl rfl rfl rfl rfl (q_pick),
               DS.ok_over fun s0 => OpAt.go rfl rfl (q_pick),
               DS.ok_over fun s0 => OpAt.go rfl rfl (q_assign), trivial⟩ ?_
          dsimp only [final, DS.upd, AS.seto]
          refine AWp.region ?_
          refine AOps.cons rfl rfl (q_add) ?_
          refine AOps.cons rfl rfl (q_move) ?_
          refine AOps.nil ?_
          refine ⟨j + 1, ?_, Back.mk' (HasT.cons (HasT.cons HasT.nil (h1 := by exact congrArg tf (by rw [range_any_step, h1, chi_yes (by omega) h2 h3 h4]; rfl)) )) HasH.nil, ?_⟩
          ·
           first | assumption | omega | decide | (simp; omega) | (simp [*]; done)
          ·
           first | omega | (simp; omega)
        ·
         refine AOps.nil ?_
         refine AWp.seq ?_
         refine AWp.cond_f rfl ?_
         refine AWp.exit ?_
         refine AWp.seq ?_
         refine AWp.region ?_
         refine AOps.bool rfl rfl (q_move) (fun h21_0 => ?_) (fun h21_0 => ?_)
         ·
          refine AOps.cons rfl rfl (q_not) ?_
          refine AOps.nil ?_
          refine AWp.cond_f rfl ?_
          refine AWp.skip ?_
          refine AWp.region ?_
          refine AOps.cons rfl rfl (q_add) ?_
          refine AOps.cons rfl rfl (q_move) ?_
          refine AOps.nil ?_
          refine ⟨e + 1, ?_, Back.mk' (HasT.cons HasT.nil) HasH.nil, ?_⟩
          ·
           obtain rfl : j = t.zs.length := by omega
           exact ⟨by omega, any_no (i := e) (by omega) hq (joinQ_3 h21_0)⟩
          ·
           first | omega | (simp; omega)
         ·
          refine AOps.cons rfl rfl (q_not) ?_
          refine AOps.nil ?_
          refine AWp.cond_t rfl ?_
          refine AWp.seq ?_
          refine AWp.region ?_
          refine AOps.cons rfl rfl (q_assign) ?_
          refine AOps.nil ?_
          refine AWp.ret ?_
          show Fin te Try.f42 _ _
          refine q_ret (0) [_] [_] ?_
          obtain rfl : j = t.zs.length := by omega
          exact congrArg tf (joinZ_bad (any_yes (i := e) (by omega) (joinQ_yes h14_2 h14_8 h21_0))).symm
    ·
     refine AOps.nil ?_
     refine AWp.seq ?_
     refine AWp.cond_f rfl ?_
     refine AWp.exit ?_
     refine AWp.seq ?_
     refine AWp.region ?_
     refine AOps.cons rfl rfl (q_assign) ?_
     refine AOps.nil ?_
     refine AWp.ret ?_
     show Fin te Try.f42 _ _
     refine q_ret (0) [_] [_] ?_
     obtain rfl : e = (zAt t k).rs.length := by omega
     rw [List.take_length] at hq
     exact congrArg tf (joinZ_fin hc hq).symm
end Go.Proofs.Ytokccoloholgaaa.Fw


set_option linter.unusedVariables false
set_option linter.unusedSimpArgs false
namespace Go.Proofs.Ytokccoloholgaaa.Fw
open Go.RowKit
theorem gd_at {α : Type} [Inhabited α] {l : List α} {k : Nat} (h : k < l.length) : l.getD k default = l[k] := by rw [List.getD_eq_getElem?_getD, List.getElem?_eq_getElem h]; rfl
theorem one_iff {α : Type} [Inhabited α] {p : α → Bool} {l : List α} {i : Nat} (hi : i < l.length) (hp : p (l.getD i default) = true) : (l.filter p).length = 1 ↔ ∀ k, k < l.length → k ≠ i → p (l.getD k default) = false := by
  have e : l = l.take i ++ l.getD i default :: l.drop (i + 1) := by
    rw [gd_at hi, ← List.drop_eq_getElem_cons hi, List.take_append_drop]
  have hlen : (l.filter p).length = ((l.take i).filter p).length + (1 + ((l.drop (i + 1)).filter p).length) := by
    conv => lhs; rw [e]
    rw [List.filter_append, List.filter_cons_of_pos hp, List.length_append, List.length_cons]; omega
  constructor
  · intro h k hk hki
    have h1 : (l.take i).filter p = [] := List.eq_nil_of_length_eq_zero (by omega)
    have h2 : (l.drop (i + 1)).filter p = [] := List.eq_nil_of_length_eq_zero (by omega)
    rw [List.filter_eq_nil_iff] at h1 h2
    cases hq : p (l.getD k default) with
    | false => rfl
    | true =>
      exfalso
      rw [gd_at hk] at hq
      rcases Nat.lt_or_gt_of_ne hki with h3 | h3
      · exact h1 l[k] (List.mem_take_iff_getElem.2 ⟨k, by omega, rfl⟩) hq
      · exact h2 l[k] (List.mem_drop_iff_getElem.2 ⟨k - (i + 1), by omega, by congr 1; omega⟩) hq
  · intro h
    have h1 : (l.take i).filter p = [] := List.filter_eq_nil_iff.2 fun x hx => by
      obtain ⟨k, hk, rfl⟩ := List.mem_take_iff_getElem.1 hx
      have := h k (by omega) (by omega)
      rw [gd_at (by omega)] at this
      rw [this]; decide
    have h2 : (l.drop (i + 1)).filter p = [] := List.filter_eq_nil_iff.2 fun x hx => by
      obtain ⟨k, hk, rfl⟩ := List.mem_drop_iff_getElem.1 hx
      have := h (i + 1 + k) (by omega) (by omega)
      rw [gd_at (by omega)] at this
      rw [this]; decide
    rw [hlen, h1, h2]; rfl
theorem sameN_comm (a b : List UInt8) : sameN a b = sameN b a := by
  unfold sameN
  rw [Bool.and_comm (canN a), show decide (lowN a = lowN b) = decide (lowN b = lowN a) from decide_eq_decide.2 ⟨Eq.symm, Eq.symm⟩]
theorem sameN_self {a : List UInt8} (h : canN a = true) : sameN a a = true := by simp [sameN, h]
theorem recO_can {z : Zo} {r : Rr} (h : recO z r = true) : canN r.nm = true := by
  unfold recO baseO at h
  simp only [Bool.and_eq_true] at h
  exact (withN_can h.1.1.1.1.1.1.1).1
theorem zone_same (z : Zo) : (recsZ z && aloZ z) = (z.rs.all (inZ z) && decide ((atZ z z.o 6).length = 1) && decide (1 ≤ (atZ z z.o 2).length)) := by
  have key : (z.rs.all (recO z) && aloZ z) = z.rs.all (inZ z) := by
    cases hr : z.rs.all (recO z) with
    | false =>
      rw [Bool.false_and]
      obtain ⟨r, h1, h2⟩ : ∃ r ∈ z.rs, recO z r = false := by simpa using hr
      cases hx : z.rs.all (inZ z) with
      | false => rfl
      | true =>
        have := List.all_eq_true.1 hx r h1
        rw [inZ, h2] at this; cases this
    | true =>
      rw [Bool.true_and]
      have hrec := List.all_eq_true.1 hr
      have hc : ∀ i, i < z.rs.length → canN (z.rs.getD i default).nm = true := fun i hi => recO_can (hrec _ (getD_mem' hi))
      rw [Bool.eq_iff_iff, aloZ, range_all_iff, List.all_eq_true]
      constructor
      · intro h r hr
        obtain ⟨i, hi, rfl⟩ := List.getElem_of_mem hr
        have h1 := h i hi
        rw [Bool.not_eq_true', List.any_eq_false] at h1
        rw [inZ, hrec _ hr, Bool.true_and]
        by_cases h5 : z.rs[i].ty = 5
        · rw [decide_eq_true h5, Bool.not_true, Bool.false_or, decide_eq_true_eq, cntS]
          rw [← gd_at hi] at h5 ⊢
          refine (one_iff (p := fun o => sameN o.nm (z.rs.getD i default).nm) hi (sameN_self (hc i hi))).2 fun k hk hki => ?_
          have h2 := h1 k (List.mem_range.2 hk)
          rw [aloP, decide_eq_true (p := i ≠ k) (fun e => hki e.symm), decide_eq_true h5, Bool.true_and, Bool.true_and, sameN_comm] at h2
          exact Bool.eq_false_iff.2 h2
        · rw [decide_eq_false h5]; rfl
      · intro h i hi
        rw [Bool.not_eq_true', List.any_eq_false]
        intro k hk
        rw [List.mem_range] at hk
        have h1 := h _ (getD_mem' hi)
        rw [aloP]
        by_cases hki : i = k
        · rw [decide_eq_false (p := i ≠ k) (not_not_intro hki)]; simp
        by_cases h5 : (z.rs.getD i default).ty = 5
        · rw [inZ, decide_eq_true h5, Bool.not_true, Bool.false_or, Bool.and_eq_true, decide_eq_true_eq, cntS] at h1
          have h2 := (one_iff (p := fun o => sameN o.nm (z.rs.getD i default).nm) hi (sameN_self (hc i hi))).1 h1.2 k hk (fun e => hki e.symm)
          rw [sameN_comm (z.rs.getD i default).nm, h2, Bool.and_false]; decide
        · rw [decide_eq_false h5, Bool.and_false]; simp
  rw [recsZ, ← key]
  cases z.rs.all (recO z) <;> cases aloZ z <;> cases decide ((atZ z z.o 6).length = 1) <;> cases decide (1 ≤ (atZ z z.o 2).length) <;> rfl
theorem zonO_eq (t : Tr) (k : Nat) : zonO t k = ((recsZ (t.zs.getD k default) && aloZ (t.zs.getD k default)) && joinZ t (parT t) k) := by
  rw [zonO, zone_same]
set_option maxRecDepth 20000 in
set_option maxHeartbeats 2000000 in
theorem c_rCan (t : Tr) (ht : TrOk t) : AC Try.prog 11 [.agg (trC t)] emp (Ret (tf (canT t))) := by
 have hb1 := ht.1
 have hsum := sum_take ht
 refine AC.intro te_ok (fn := Try.f11) ⟨Try.func11, rfl, rfl⟩ (Nat.le_of_ble_eq_true rfl) ?_
 refine AWp.seq ?_
 refine AWp.region ?_
 refine AOps.cons rfl rfl (q_box 100) ?_
 refine AOps.cons rfl rfl (q_assign) ?_
 refine AOps.nil ?_
 refine AWp.seq ?_
 refine AWp.seq ?_
 refine AWp.region ?_
 refine AOps.cons rfl rfl (q_fa) ?_
 refine AOps.cons rfl rfl (q_load) ?_
 refine AOps.cons rfl rfl (q_len) ?_
 refine AOps.dec rfl rfl (q_lss) (fun h1_3 => ?_) (fun h1_3 => ?_)
 ·
  refine AOps.cons rfl rfl (q_move) ?_
  refine AOps.gskip rfl rfl rfl rfl rfl rfl rfl rfl ?_
  refine AOps.gskip rfl rfl rfl rfl rfl rfl rfl rfl ?_
  refine AOps.gskip rfl rfl rfl rfl rfl rfl rfl rfl ?_
  refine AOps.gskip rfl rfl rfl rfl rfl rfl rfl rfl ?_
  refine AOps.cons rfl rfl (q_pick) ?_
  refine AOps.cons rfl rfl (q_move) ?_
  refine AOps.gskip rfl rfl rfl rfl rfl rfl rfl rfl ?_
  refine AOps.gskip rfl rfl rfl rfl rfl rfl rfl rfl ?_
  refine AOps.gskip rfl rfl rfl rfl rfl rfl rfl rfl ?_
  refine AOps.gskip rfl rfl rfl rfl rfl rfl rfl rfl ?_
  refine AOps.gskip rfl rfl rfl rfl rfl rfl rfl rfl ?_
  refine AOps.gskip rfl rfl rfl rfl rfl rfl rfl rfl ?_
  refine AOps.cons rfl rfl (q_pick) ?_
  refine AOps.cons rfl rfl (q_move) ?_
  refine AOps.gskip rfl rfl rfl rfl rfl rfl rfl rfl ?_
  refine AOps.gskip rfl rfl rfl rfl rfl rfl rfl rfl ?_
  refine AOps.gskip rfl rfl rfl rfl rfl rfl rfl rfl ?_
  refine AOps.cons rfl rfl (q_pick) ?_
  refine AOps.nil ?_
  refine AWp.cond_t rfl ?_
  refine AWp.seq ?_
  refine AWp.region ?_
  refine AOps.cons rfl rfl (q_assign) ?_
  refine AOps.nil ?_
  refine AWp.ret ?_
  show Fin te Try.f11 _ _
  refine q_ret (0) [_] [_] ?_
  exact congrArg tf (canT_1 h1_3).symm
 ·
  refine AOps.cons rfl rfl (q_move) ?_
  refine AOps.gcons rfl rfl rfl rfl rfl (q_fa) ?_
  refine AOps.gcons rfl rfl rfl rfl rfl (q_load) ?_
  refine AOps.gcons rfl rfl rfl rfl rfl (q_len) ?_
  refine AOps.gdec rfl rfl rfl rfl rfl (q_gtr) (fun h1_8 => ?_) (fun h1_8 => ?_)
  ·
   refine AOps.cons rfl rfl (q_pick) ?_
   refine AOps.cons rfl rfl (q_move) ?_
   refine AOps.gskip rfl rfl rfl rfl rfl rfl rfl rfl ?_
   refine AOps.gskip rfl rfl rfl rfl rfl rfl rfl rfl ?_
   refine AOps.gskip rfl rfl rfl rfl rfl rfl rfl rfl ?_
   refine AOps.gskip rfl rfl rfl rfl rfl rfl rfl rfl ?_
   refine AOps.gskip rfl rfl rfl rfl rfl rfl rfl rfl ?_
   refine AOps.gskip rfl rfl rfl rfl rfl rfl rfl rfl ?_
   refine AOps.cons rfl rfl (q_pick) ?_
   refine AOps.cons rfl rfl (q_move) ?_
   refine AOps.gskip rfl rfl rfl rfl rfl rfl rfl rfl ?_
   refine AOps.gskip rfl rfl rfl rfl rfl rfl rfl rfl ?_
   refine AOps.gskip rfl rfl rfl rfl rfl rfl rfl rfl ?_
   refine AOps.cons rfl rfl (q_pick) ?_
   refine AOps.nil ?_
   refine AWp.cond_t rfl ?_
   refine AWp.seq ?_
   refine AWp.region ?_
   refine AOps.cons rfl rfl (q_assign) ?_
   refine AOps.nil ?_
   refine AWp.ret ?_
   show Fin te Try.f11 _ _
   refine q_ret (0) [_] [_] ?_
   exact congrArg tf (canT_2 h1_8).symm
  ·
   refine AOps.cons rfl rfl (q_pick) ?_
   refine AOps.cons rfl rfl (q_move) ?_
   refine AOps.gcons rfl rfl rfl rfl rfl (q_fa) ?_
   refine AOps.gcons rfl rfl rfl rfl rfl (q_load) ?_
   refine AOps.gcons rfl rfl rfl rfl rfl (q_ix) ?_
   refine AOps.gcons rfl rfl rfl rfl rfl (q_fa) ?_
   refine AOps.gcons rfl rfl rfl rfl rfl (q_load) ?_
   refine AOps.gdec rfl rfl rfl rfl rfl (q_sneq) (fun h1_16 => ?_) (fun h1_16 => ?_)
   ·
    refine AOps.cons rfl rfl (q_pick) ?_
    refine AOps.cons rfl rfl (q_move) ?_
    refine AOps.gskip rfl rfl rfl rfl rfl rfl rfl rfl ?_
    refine AOps.gskip rfl rfl rfl rfl rfl rfl rfl rfl ?_
    refine AOps.gskip rfl rfl rfl rfl rfl rfl rfl rfl ?_
    refine AOps.cons rfl rfl (q_pick) ?_
    refine AOps.nil ?_
    refine AWp.cond_t rfl ?_
    refine AWp.seq ?_
    refine AWp.region ?_
    refine AOps.cons rfl rfl (q_assign) ?_
    refine AOps.nil ?_
    refine AWp.ret ?_
    show Fin te Try.f11 _ _
    refine q_ret (0) [_] [_] ?_
    exact congrArg tf (canT_3 h1_16).symm
   ·
    refine AOps.cons rfl rfl (q_pick) ?_
    refine AOps.cons rfl rfl (q_move) ?_
    refine AOps.gcons rfl rfl rfl rfl rfl (q_load) ?_
    refine AOps.gbool rfl rfl rfl rfl rfl (q_call (0) (hc := (c_ciceroneref18_servers t ht))) (fun h1_20 => ?_) (fun h1_20 => ?_)
    ·
     refine AOps.gcons rfl rfl rfl rfl rfl (q_not) ?_
     refine AOps.cons rfl rfl (q_pick) ?_
     refine AOps.nil ?_
     refine AWp.cond_f rfl ?_
     refine AWp.skip ?_
     refine AWp.seq ?_
     refine AWp.region ?_
     refine AOps.cons rfl rfl (q_assign) ?_
     refine AOps.nil ?_
     refine AWp.seq ?_
     refine AWp.seq ?_
     refine AWp.region ?_
     refine AOps.cons rfl rfl (q_fa) ?_
     refine AOps.cons rfl rfl (q_load) ?_
     refine AOps.cons rfl rfl (q_len) ?_
     refine AOps.cons rfl rfl (q_move) ?_
     refine AOps.nil ?_
     refine AWp.block ?_
     refine AWp.loopR (α := Nat) [2, 3, 4, 5, 7, 36, 37, 38, 39, 40, 41, 42, 43, 44, 45, 46, 47, 48, 49, 50, 51, 52, 53, 54, 55, 56, 57, 58, 59, 60, 61, 62, 63, 64, 65] (fun i => [(36, i64 i), (3, i64 (sumT (t.zs.take i)))]) (fun i => []) (fun i => i ≤ t.zs.length ∧ ∀ j, j < i → orgO t j = true) (fun i => t.zs.length - i) 0 ?_ (Back.mk' (HasT.cons (HasT.cons HasT.nil)) HasH.nil) ?_
     ·
      exact ⟨Nat.zero_le _, fun j hj => absurd hj (Nat.not_lt_zero j)⟩
     ·
      rintro i ⟨hi, hc⟩
      have hsi := hsum i
      refine AWp.seq ?_
      refine AWp.region ?_
      refine AOps.dec rfl rfl (q_lss) (fun h5_0 => ?_) (fun h5_0 => ?_)
      ·
       refine AOps.nil ?_
       refine AWp.seq ?_
       refine AWp.cond_t rfl ?_
       refine AWp.skip ?_
       refine AWp.seq ?_
       refine AWp.block ?_
       refine AWp.seq ?_
       refine AWp.region ?_
       have hzi := ht.2.1 _ (getD_mem' (l := t.zs) (i := i) (by omega))
       have hzl := hzi.1
       have hrl : (t.zs.getD i default).rs.length * 64 ≤ 140737488351232 := hzi.2.1.1
       have hrl2 : (t.zs[i]?.getD default).rs.length * 64 ≤ 140737488351232 := by rw [← List.getD_eq_getElem?_getD]; exact hrl
       have hrl3 : (t.zs.getD (i : Int).toNat default).rs.length = (t.zs.getD i default).rs.length := rfl
       refine AOps.cons rfl rfl (q_move) ?_
       refine AOps.cons rfl rfl (q_ix) ?_
       refine AOps.cons rfl rfl (q_load) ?_
       refine AOps.cons rfl rfl (q_alloc 703) ?_
       refine AOps.cons rfl rfl (q_assign) ?_
       refine AOps.cons rfl rfl (q_store) ?_
       refine AOps.nil ?_
       refine AWp.seq ?_
       refine AWp.region ?_
       refine AOps.cons rfl rfl (q_move) ?_
       refine AOps.cons rfl rfl (q_fa) ?_
       refine AOps.cons rfl rfl (q_load) ?_
       refine AOps.cons rfl rfl (q_len) ?_
       refine AOps.cons rfl rfl (q_add) ?_
       refine AOps.cons rfl rfl (q_assign) ?_
       refine AOps.nil ?_
       refine AWp.seq ?_
       refine AWp.seq ?_
       refine AWp.region ?_
       refine AOps.cons rfl rfl (q_fa) ?_
       refine AOps.cons rfl rfl (q_load) ?_
       refine AOps.cons rfl rfl (q_move) ?_
       refine AOps.cons rfl rfl (q_sl) ?_
       refine AOps.cons rfl rfl (q_len) ?_
       refine AOps.cons rfl rfl (q_move) ?_
       refine AOps.nil ?_
       refine AWp.block ?_
       refine AWp.loopR (α := Nat) [2, 7, 51, 52, 53, 54, 55, 56, 57, 58, 59, 60] (fun j => [(51, i64 j)]) (fun j => []) (fun j => j ≤ i ∧ ((t.zs.take j).any fun o => sameN o.o (t.zs.getD i default).o) = false) (fun j => i - j) 0 ?_ (Back.mk' (HasT.cons HasT.nil) HasH.nil) ?_
       ·
        exact ⟨Nat.zero_le _, rfl⟩
       ·
        rintro j ⟨hji, hj⟩
        refine AWp.seq ?_
        refine AWp.region ?_
        refine AOps.dec rfl rfl (q_lss) (fun h9_0 => ?_) (fun h9_0 => ?_)
        ·
         refine AOps.nil ?_
         refine AWp.seq ?_
         refine AWp.cond_t rfl ?_
         refine AWp.skip ?_
         refine AWp.seq ?_
         refine AWp.block ?_
         refine AWp.seq ?_
         refine AWp.region ?_
         have hji2 : j < i := by have := h9_0; simp at this; omega
         have hgj : (t.zs.take i).getD j default = t.zs.getD j default := by rw [List.getD_eq_getElem?_getD, List.getD_eq_getElem?_getD, List.getElem?_take_of_lt hji2]
         have hzj := ht.2.1 _ (getD_mem' (l := t.zs) (i := j) (by omega))
         have hzjl := hzj.1
         rw [← hgj] at hzjl
         refine AOps.cons rfl rfl (q_ix) ?_
         refine AOps.cons rfl rfl (q_load) ?_
         refine AOps.cons rfl rfl (q_alloc 1102) ?_
         refine AOps.cons rfl rfl (q_store) ?_
         refine AOps.nil ?_
         refine AWp.seq ?_
         refine AWp.region ?_
         refine AOps.cons rfl rfl (q_fa) ?_
         refine AOps.cons rfl rfl (q_load) ?_
         refine AOps.cons rfl rfl (q_fa) ?_
         refine AOps.cons rfl rfl (q_load) ?_
         refine AOps.bool rfl rfl (q_call (0) (hc := (c_ciceroneref01_Same ((t.zs.take i).getD j default).o (t.zs.getD i default).o (by omega) (by omega)))) (fun h11_4 => ?_) (fun h11_4 => ?_)
         ·
          refine AOps.nil ?_
          refine AWp.cond_t rfl ?_
          refine AWp.seq ?_
          refine AWp.region ?_
          refine AOps.cons rfl rfl (q_assign) ?_
          refine AOps.nil ?_
          refine AWp.ret ?_
          show Fin te Try.f11 _ _
          refine q_ret (0) [_] [_] ?_
          rw [hgj] at h11_4
          exact congrArg tf (canT_5 (j := i) (by omega) (by rw [orgO, List.any_eq_true.2 ⟨t.zs.getD j default, List.mem_take_iff_getElem.2 ⟨j, by omega, (gd_at (by omega)).symm⟩, h11_4⟩, Bool.not_true, Bool.and_false])).symm
         ·
          refine AOps.nil ?_
          refine AWp.cond_f rfl ?_
          refine AWp.skip ?_
          refine AWp.region ?_
          refine AOps.cons rfl rfl (q_add) ?_
          refine AOps.cons rfl rfl (q_move) ?_
          refine AOps.nil ?_
          refine ⟨j + 1, ?_, Back.mk' (HasT.cons HasT.nil) HasH.nil, ?_⟩
          ·
           exact ⟨by omega, any_no (i := j) (by omega) hj (by rw [hgj] at h11_4; exact h11_4)⟩
          ·
           first | omega | (simp; omega)
        ·
         refine AOps.nil ?_
         refine AWp.seq ?_
         refine AWp.cond_f rfl ?_
         refine AWp.exit ?_
         refine AWp.seq ?_
         refine AWp.region ?_
         refine AOps.cons rfl rfl (q_fa) ?_
         refine AOps.cons rfl rfl (q_load) ?_
         refine AOps.bool rfl rfl (q_call (0) (hc := (c_ciceroneref01_Can (t.zs.getD i default).o (by omega)))) (fun h14_2 => ?_) (fun h14_2 => ?_)
         ·
          refine AOps.cons rfl rfl (q_not) ?_
          refine AOps.nil ?_
          refine AWp.cond_f rfl ?_
          refine AWp.skip ?_
          refine AWp.region ?_
          refine AOps.cons rfl rfl (q_add) ?_
          refine AOps.cons rfl rfl (q_move) ?_
          refine AOps.nil ?_
          obtain rfl : i = j := by have := h9_0; simp at this; omega
          refine ⟨i + 1, ?_, Back.mk' (HasT.cons (HasT.cons HasT.nil (h1 := by exact i64_eq (by rw [sum_step (by omega)]; omega)) )) HasH.nil, ?_⟩
          ·
           exact ⟨by omega, lt_step hc (by rw [orgO, h14_2, hj]; rfl)⟩
          ·
           first | omega | (simp; omega)
         ·
          refine AOps.cons rfl rfl (q_not) ?_
          refine AOps.nil ?_
          refine AWp.cond_t rfl ?_
          refine AWp.seq ?_
          refine AWp.region ?_
          refine AOps.cons rfl rfl (q_assign) ?_
          refine AOps.nil ?_
          refine AWp.ret ?_
          show Fin te Try.f11 _ _
          refine q_ret (0) [_] [_] ?_
          exact congrArg tf (canT_5 (j := i) (by omega) (by rw [orgO, h14_2]; rfl)).symm
      ·
       refine AOps.nil ?_
       refine AWp.seq ?_
       refine AWp.cond_f rfl ?_
       refine AWp.exit ?_
       refine AWp.seq ?_
       refine AWp.seq ?_
       refine AWp.region ?_
       obtain rfl : i = t.zs.length := by omega
       rw [List.take_length]
       refine AOps.cons rfl rfl (q_move) ?_
       refine AOps.dec rfl rfl (q_gtr) (fun h17_1 => ?_) (fun h17_1 => ?_)
       ·
        refine AOps.nil ?_
        refine AWp.cond_t rfl ?_
        refine AWp.seq ?_
        refine AWp.region ?_
        refine AOps.cons rfl rfl (q_assign) ?_
        refine AOps.nil ?_
        refine AWp.ret ?_
        show Fin te Try.f11 _ _
        refine q_ret (0) [_] [_] ?_
        exact congrArg tf (canT_6 h17_1).symm
       ·
        refine AOps.nil ?_
        refine AWp.cond_f rfl ?_
        refine AWp.skip ?_
        refine AWp.seq ?_
        refine AWp.seq ?_
        refine AWp.region ?_
        refine AOps.cons rfl rfl (q_fa) ?_
        refine AOps.cons rfl rfl (q_load) ?_
        refine AOps.cons rfl rfl (q_len) ?_
        refine AOps.cons rfl rfl (q_move) ?_
        refine AOps.nil ?_
        refine AWp.block ?_
        refine AWp.loopR (α := Nat) [2, 8, 9, 71, 72, 73, 74, 75, 76, 77, 78, 79, 80, 81, 82, 83, 84, 85, 86, 87, 88, 89, 90] (fun i => [(71, i64 i)]) (fun i => []) (fun i => i ≤ t.zs.length ∧ ∀ j, j < i → zonO t j = true) (fun i => t.zs.length - i) 0 ?_ (Back.mk' (HasT.cons HasT.nil) HasH.nil) ?_
        ·
         exact ⟨Nat.zero_le _, fun j hj => absurd hj (Nat.not_lt_zero j)⟩
        ·
         rintro i ⟨hi, hz⟩
         refine AWp.seq ?_
         refine AWp.region ?_
         refine AOps.dec rfl rfl (q_lss) (fun h20_0 => ?_) (fun h20_0 => ?_)
         ·
          refine AOps.nil ?_
          refine AWp.seq ?_
          refine AWp.cond_t rfl ?_
          refine AWp.skip ?_
          refine AWp.seq ?_
          refine AWp.block ?_
          refine AWp.seq ?_
          refine AWp.region ?_
          have hzi := ht.2.1 _ (getD_mem' (l := t.zs) (i := i) (by omega))
          have hzl := hzi.1
          refine AOps.cons rfl rfl (q_move) ?_
          refine AOps.cons rfl rfl (q_ix) ?_
          refine AOps.cons rfl rfl (q_load) ?_
          refine AOps.cons rfl rfl (q_alloc 2203) ?_
          refine AOps.cons rfl rfl (q_assign) ?_
          refine AOps.cons rfl rfl (q_store) ?_
          refine AOps.nil ?_
          refine AWp.seq ?_
          refine AWp.region ?_
          refine AOps.cons rfl rfl (q_load) ?_
          refine AOps.bool rfl rfl (q_call (0) (hc := (c_ciceroneref18_records (t.zs.getD i default) hzi))) (fun h22_1 => ?_) (fun h22_1 => ?_)
          ·
           refine AOps.cons rfl rfl (q_not) ?_
           refine AOps.cons rfl rfl (q_move) ?_
           refine AOps.gcons rfl rfl rfl rfl rfl (q_load) ?_
           refine AOps.gbool rfl rfl rfl rfl rfl (q_call (0) (hc := (c_ciceroneref18_alone (t.zs.getD i default) hzi))) (fun h22_5 => ?_) (fun h22_5 => ?_)
           ·
            refine AOps.gcons rfl rfl rfl rfl rfl (q_not) ?_
            refine AOps.cons rfl rfl (q_pick) ?_
            refine AOps.cons rfl rfl (q_move) ?_
            refine AOps.gcons rfl rfl rfl rfl rfl (q_load) ?_
            refine AOps.gcons rfl rfl rfl rfl rfl (q_move) ?_
            refine AOps.gbool rfl rfl rfl rfl rfl (q_call (0) (hc := (c_ciceroneref18_delegated t i ht ⟨by omega, by omega⟩))) (fun h22_11 => ?_) (fun h22_11 => ?_)
            ·
             refine AOps.gcons rfl rfl rfl rfl rfl (q_not) ?_
             refine AOps.cons rfl rfl (q_pick) ?_
             refine AOps.nil ?_
             refine AWp.cond_f rfl ?_
             refine AWp.skip ?_
             refine AWp.region ?_
             refine AOps.cons rfl rfl (q_add) ?_
             refine AOps.cons rfl rfl (q_move) ?_
             refine AOps.nil ?_
             refine ⟨i + 1, ?_, Back.mk' (HasT.cons HasT.nil) HasH.nil, ?_⟩
             ·
              exact ⟨by omega, lt_step hz (by rw [zonO_eq, h22_1, h22_5, h22_11]; rfl)⟩
             ·
              first | omega | (simp; omega)
            ·
             refine AOps.gcons rfl rfl rfl rfl rfl (q_not) ?_
             refine AOps.cons rfl rfl (q_pick) ?_
             refine AOps.nil ?_
             refine AWp.cond_t rfl ?_
             refine AWp.seq ?_
             refine AWp.region ?_
             refine AOps.cons rfl rfl (q_assign) ?_
             refine AOps.nil ?_
             refine AWp.ret ?_
             show Fin te Try.f11 _ _
             refine q_ret (0) [_] [_] ?_
             exact congrArg tf (canT_7 (j := i) (by omega) (by rw [zonO_eq, h22_11, Bool.and_false])).symm
           ·
            refine AOps.gcons rfl rfl rfl rfl rfl (q_not) ?_
            refine AOps.cons rfl rfl (q_pick) ?_
            refine AOps.cons rfl rfl (q_move) ?_
            refine AOps.gskip rfl rfl rfl rfl rfl rfl rfl rfl ?_
            refine AOps.gskip rfl rfl rfl rfl rfl rfl rfl rfl ?_
            refine AOps.gskip rfl rfl rfl rfl rfl rfl rfl rfl ?_
            refine AOps.gskip rfl rfl rfl rfl rfl rfl rfl rfl ?_
            refine AOps.cons rfl rfl (q_pick) ?_
            refine AOps.nil ?_
            refine AWp.cond_t rfl ?_
            refine AWp.seq ?_
            refine AWp.region ?_
            refine AOps.cons rfl rfl (q_assign) ?_
            refine AOps.nil ?_
            refine AWp.ret ?_
            show Fin te Try.f11 _ _
            refine q_ret (0) [_] [_] ?_
            exact congrArg tf (canT_7 (j := i) (by omega) (by rw [zonO_eq, h22_5, Bool.and_false]; rfl)).symm
          ·
           refine AOps.cons rfl rfl (q_not) ?_
           refine AOps.cons rfl rfl (q_move) ?_
           refine AOps.gskip rfl rfl rfl rfl rfl rfl rfl rfl ?_
           refine AOps.gskip rfl rfl rfl rfl rfl rfl rfl rfl ?_
           refine AOps.gskip rfl rfl rfl rfl rfl rfl rfl rfl ?_
           refine AOps.cons rfl rfl (q_pick) ?_
           refine AOps.cons rfl rfl (q_move) ?_
           refine AOps.gskip rfl rfl rfl rfl rfl rfl rfl rfl ?_
           refine AOps.gskip rfl rfl rfl rfl rfl rfl rfl rfl ?_
           refine AOps.gskip rfl rfl rfl rfl rfl rfl rfl rfl ?_
           refine AOps.gskip rfl rfl rfl rfl rfl rfl rfl rfl ?_
           refine AOps.cons rfl rfl (q_pick) ?_
           refine AOps.nil ?_
           refine AWp.cond_t rfl ?_
           refine AWp.seq ?_
           refine AWp.region ?_
           refine AOps.cons rfl rfl (q_assign) ?_
           refine AOps.nil ?_
           refine AWp.ret ?_
           show Fin te Try.f11 _ _
           refine q_ret (0) [_] [_] ?_
           exact congrArg tf (canT_7 (j := i) (by omega) (by rw [zonO_eq, h22_1]; rfl)).symm
         ·
          refine AOps.nil ?_
          refine AWp.seq ?_
          refine AWp.cond_f rfl ?_
          refine AWp.exit ?_
          refine AWp.seq ?_
          refine AWp.region ?_
          refine AOps.cons rfl rfl (q_assign) ?_
          refine AOps.nil ?_
          refine AWp.ret ?_
          show Fin te Try.f11 _ _
          refine q_ret (0) [_] [_] ?_
          obtain rfl : i = t.zs.length := by omega
          exact congrArg tf (canT_yes h1_3 h1_8 h1_16 h1_20 hc h17_1 hz).symm
    ·
     refine AOps.gcons rfl rfl rfl rfl rfl (q_not) ?_
     refine AOps.cons rfl rfl (q_pick) ?_
     refine AOps.nil ?_
     refine AWp.cond_t rfl ?_
     refine AWp.seq ?_
     refine AWp.region ?_
     refine AOps.cons rfl rfl (q_assign) ?_
     refine AOps.nil ?_
     refine AWp.ret ?_
     show Fin te Try.f11 _ _
     refine q_ret (0) [_] [_] ?_
     exact congrArg tf (canT_4 h1_20).symm
end Go.Proofs.Ytokccoloholgaaa.Fw


set_option linter.unusedVariables false
set_option linter.unusedSimpArgs false
namespace Go.Proofs.Ytokccoloholgaaa.Fw
open Go.RowKit
def Nm (ls : List (List UInt8)) : Prop := GoodN ls ∧ (joinN ls).length ≤ 255
theorem can_nm {n : List UInt8} (h : canN n = true) : ∃ ls, Nm ls ∧ n = joinN ls := by
  obtain ⟨ls, g, e, hl⟩ := canN_iff.1 h
  exact ⟨ls, ⟨g, hl⟩, e⟩
theorem Nm.can {ls : List (List UInt8)} (h : Nm ls) : canN (joinN ls) = true := can_join h.1 h.2
theorem Nm.lab {ls : List (List UInt8)} (h : Nm ls) : labN (joinN ls) = ls := labN_join h.1 h.2
theorem Nm.low {ls : List (List UInt8)} (h : Nm ls) : Nm (lowL ls) := ⟨h.1.low, by rw [low_length h.1]; exact h.2⟩
theorem Nm.lowN {ls : List (List UInt8)} (h : Nm ls) : lowN (joinN ls) = joinN (lowL ls) := lowN_join h.1 h.2
theorem Nm.cnt {ls : List (List UInt8)} (h : Nm ls) : cntN (joinN ls) = ls.length := by rw [cntN, h.lab]
theorem Nm.drop {ls : List (List UInt8)} (h : Nm ls) (j : Nat) : Nm (ls.drop j) := by
  refine ⟨fun x hx => h.1 x (List.mem_of_mem_drop hx), ?_⟩
  have h2 := h.2
  induction j generalizing ls with
  | zero => exact h.2
  | succ j ih =>
    cases ls with
    | nil => simpa using h.2
    | cons l ls =>
      have := joinN_le (l := l) (ls := ls)
      exact ih (ls := ls) ⟨h.1.tail, by omega⟩ (by omega)
theorem Nm.inj {a b : List (List UInt8)} (ha : Nm a) (hb : Nm b) : joinN a = joinN b ↔ a = b := ⟨joinN_inj ha.1 hb.1, fun e => by rw [e]⟩
theorem lowL_length (ls : List (List UInt8)) : (lowL ls).length = ls.length := by simp [lowL]
theorem Nm.same {a b : List (List UInt8)} (ha : Nm a) (hb : Nm b) : sameN (joinN a) (joinN b) = decide (lowL a = lowL b) := by
  rw [sameN, ha.can, hb.can, ha.lowN, hb.lowN, decide_eq_decide.2 (ha.low.inj hb.low)]
  rfl
theorem Nm.tail {a : List (List UInt8)} (ha : Nm a) (k : Int) : tailN (joinN a) k = joinN (a.drop (a.length - min (max k 0).toNat a.length)) := by
  rw [tailN, if_pos ha.can, ha.lab]
theorem lowL_drop (ls : List (List UInt8)) (j : Nat) : lowL (ls.drop j) = (lowL ls).drop j := by simp [lowL, List.map_drop]
theorem Nm.within {a b : List (List UInt8)} (ha : Nm a) (hb : Nm b) : withN (joinN a) (joinN b) = true ↔ lowL b <:+ lowL a := by
  rw [withN, ha.can, hb.can, ha.cnt, hb.cnt, ha.tail, (ha.drop _).same hb, lowL_drop]
  simp only [Bool.true_and, Bool.and_eq_true, decide_eq_true_eq]
  rw [List.suffix_iff_eq_drop, lowL_length, lowL_length]
  constructor
  · rintro ⟨h1, h2⟩
    rw [← h2]
    congr 1
    omega
  · intro h
    have h3 := congrArg List.length h
    rw [List.length_drop, lowL_length, lowL_length] at h3
    refine ⟨by omega, ?_⟩
    conv => rhs; rw [h]
    congr 1
    omega
theorem nm_root : Nm [] := ⟨GoodN.nil, by decide⟩
theorem canR_name {t : Int} {d : List UInt8} (h : t = 2 ∨ t = 5 ∨ t = 12) (hd : d.length ≤ 65535) : canR t d = canN d := by
  rw [canR, if_neg (by omega), if_neg (by omega), if_neg (by omega), if_pos h]
section
variable {t : Tr}
theorem canT_parts (h : canT t = true) : 1 ≤ t.zs.length ∧ t.zs.length ≤ 20 ∧ (t.zs.getD 0 default).o = [0] ∧ srvT t = true ∧ (∀ j, j < t.zs.length → orgO t j = true) ∧ sumT t.zs ≤ 400 ∧ ∀ j, j < t.zs.length → zonO t j = true := by
  unfold canT at h
  simp only [Bool.and_eq_true, decide_eq_true_eq, range_all_iff] at h
  obtain ⟨⟨⟨⟨⟨⟨h1, h2⟩, h3⟩, h4⟩, h5⟩, h6⟩, h7⟩ := h
  exact ⟨h1, h2, h3, h4, h5, h6, h7⟩
theorem canT_in (h : canT t = true) {z : Zo} (hz : z ∈ t.zs) {r : Rr} (hr : r ∈ z.rs) : inZ z r = true := by
  obtain ⟨_, _, _, _, _, _, h7⟩ := canT_parts h
  obtain ⟨i, hi, rfl⟩ := List.getElem_of_mem hz
  have h1 := h7 i hi
  unfold zonO at h1
  simp only [Bool.and_eq_true] at h1
  rw [gd_at hi] at h1
  exact List.all_eq_true.1 h1.1.1.1 r hr
theorem inZ_base' {z : Zo} {r : Rr} (h : inZ z r = true) : baseO z r = true ∧ restO z r = true := by
  unfold inZ recO at h
  simp only [Bool.and_eq_true] at h
  exact h.1
theorem base_can {z : Zo} {r : Rr} (h : baseO z r = true) : canN r.nm = true ∧ withN r.nm z.o = true ∧ canS r.ty r.da = true := by
  unfold baseO at h
  simp only [Bool.and_eq_true] at h
  exact ⟨(withN_can h.1.1.1.1.1.1).1, h.1.1.1.1.1.1, h.2⟩
theorem data_can {z : Zo} {r : Rr} (h : inZ z r = true) (ht : r.ty = 2 ∨ r.ty = 5) : canN r.da = true := by
  have h1 := (base_can (inZ_base' h).1).2.2
  have hl : r.da.length ≤ 65535 := by
    rw [canS_ne (by omega)] at h1
    unfold canR at h1; split at h1
    · cases h1
    · omega
  rw [canS_ne (by omega), canR_name (by omega) hl] at h1
  exact h1
theorem at_mem {z : Zo} {n : List UInt8} {ty : Int} {r : Rr} (h : r ∈ atZ z n ty) : r ∈ z.rs ∧ r.ty = ty ∧ sameN r.nm n = true := by
  obtain ⟨h1, h2⟩ := List.mem_filter.1 h
  unfold atP at h2
  simp only [Bool.and_eq_true, decide_eq_true_eq] at h2
  exact ⟨h1, h2.1, h2.2⟩
theorem at_can (h : canT t = true) {z : Zo} (hz : z ∈ t.zs) {n : List UInt8} {ty : Int} (hty : ty = 2 ∨ ty = 5) {r : Rr} (hr : r ∈ atZ z n ty) : canN r.da = true := by
  obtain ⟨h1, h2, _⟩ := at_mem hr
  exact data_can (canT_in h hz h1) (by omega)
theorem sum_mem {l : List Zo} {z : Zo} (h : z ∈ l) : z.rs.length ≤ sumT l := by
  induction l with
  | nil => cases h
  | cons a l ih =>
    have e : sumT (a :: l) = a.rs.length + sumT l := by simp [sumT]
    rw [e]
    rcases List.mem_cons.1 h with rfl | h
    · omega
    · have := ih h; omega
theorem at_small (h : canT t = true) {z : Zo} (hz : z ∈ t.zs) (n : List UInt8) (ty : Int) : (atZ z n ty).length ≤ 400 := by
  have h1 := List.length_filter_le (atP n ty) z.rs
  have h2 := sum_mem hz
  have h3 := (canT_parts h).2.2.2.2.2.1
  unfold atZ; omega
theorem near_ge {p : Zo → Bool} : ∀ {w : List Int} {b : Int}, (∀ i ∈ w, 0 ≤ i) → 0 ≤ b → 0 ≤ w.foldl (nearS t p) b
  | [], b, _, hb => hb
  | i :: w, b, h, hb => by
    rw [List.foldl_cons]
    refine near_ge (fun j hj => h j (by simp [hj])) ?_
    have := h i (by simp)
    unfold nearS
    split <;> assumption
theorem near_pos {p : Zo → Bool} : ∀ {w : List Int} {b : Int}, (∀ i ∈ w, 0 ≤ i) → (∃ i ∈ w, p (zAt t i) = true) → 0 ≤ w.foldl (nearS t p) b
  | [], b, _, h => by obtain ⟨i, h, _⟩ := h; cases h
  | i :: w, b, hw, h => by
    rw [List.foldl_cons]
    by_cases hb : 0 ≤ nearS t p b i
    · exact near_ge (fun j hj => hw j (by simp [hj])) hb
    · obtain ⟨j, hj, hp⟩ := h
      rcases List.mem_cons.1 hj with rfl | hj
      · exfalso
        apply hb
        have hj0 := hw j (by simp)
        unfold nearS
        rw [hp]
        by_cases hb2 : b < 0
        · rw [decide_eq_true (mostT_neg hb2 _)]; exact hj0
        · split <;> omega
      · exact near_pos (fun j hj => hw j (by simp [hj])) ⟨j, hj, hp⟩
theorem root_with {n : List UInt8} (h : canN n = true) : withN n [0] = true := by
  obtain ⟨ls, a, rfl⟩ := can_nm h
  exact (a.within nm_root).2 List.nil_suffix
theorem home_ok (h : canT t = true) {n : List UInt8} (hn : canN n = true) : 0 ≤ homeT t (everyT t) n ∧ homeT t (everyT t) n < t.zs.length := by
  obtain ⟨h1, _, h3, _⟩ := canT_parts h
  refine ⟨near_pos (fun i hi => (everyT_in t i hi).1) ⟨0, ?_, ?_⟩, (nearF_in (everyT_in t)).2⟩
  · exact List.mem_map.2 ⟨0, List.mem_range.2 (by omega), rfl⟩
  · show withN n (t.zs.getD 0 default).o = true
    rw [h3]; exact root_with hn
end
def hZ (t : Tr) (n : List UInt8) : Zo := zAt t (homeT t (everyT t) n)
def truF (t : Tr) (ty : Int) : Nat → List Rr → List UInt8 → Option (Int × List Rr)
  | 0, _, _ => none
  | k + 1, acc, n => if (atZ (hZ t n) n 5).length = 0 ∨ ty = 5 then some (if theZ (hZ t n) n then 0 else 3, acc ++ atZ (hZ t n) n ty)
      else if acc.length = 8 then none
      else truF t ty k (acc ++ [(atZ (hZ t n) n 5).getD 0 default]) ((atZ (hZ t n) n 5).getD 0 default).da
def truO (t : Tr) (q : Qu) : Option (Int × List Rr) := if canT t && canN q.nm && decide (1 ≤ q.ty) && decide (q.ty ≤ 65535) && decide (q.cs = 1) then truF t q.ty 9 [] q.nm else none
def resC (x : Int × List Rr) : List AV := [i64 x.1, .fz 0 x.2.length (cl rrc x.2)]
def truV (t : Tr) (q : Qu) : Int × List Rr := (truO t q).getD (0, [])
section
variable {t : Tr} {q : Qu}
theorem tru_no1 (h : canT t = false) : truO t q = none := by rw [truO, h]; rfl
theorem tru_no2 (h : canN q.nm = false) : truO t q = none := by rw [truO, h, Bool.and_false]; rfl
theorem tru_no3 (h : q.ty < 1) : truO t q = none := by rw [truO, decide_eq_false (p := 1 ≤ q.ty) (by omega), Bool.and_false]; rfl
theorem tru_no4 (h : 65535 < q.ty) : truO t q = none := by rw [truO, decide_eq_false (p := q.ty ≤ 65535) (by omega), Bool.and_false]; rfl
theorem tru_no5 (h : ¬ q.cs = 1) : truO t q = none := by rw [truO, decide_eq_false h, Bool.and_false]; rfl
theorem tru_go (h1 : canT t = true) (h2 : canN q.nm = true) (h3 : ¬ q.ty < 1) (h4 : ¬ 65535 < q.ty) (h5 : ¬ ¬ q.cs = 1) : truO t q = truF t q.ty 9 [] q.nm := by
  rw [truO, h1, h2, decide_eq_true (p := 1 ≤ q.ty) (by omega), decide_eq_true (p := q.ty ≤ 65535) (by omega), decide_eq_true (Decidable.not_not.1 h5)]; rfl
theorem truF_end {ty : Int} {k : Nat} {acc : List Rr} {n : List UInt8} (h : (atZ (hZ t n) n 5).length = 0 ∨ ty = 5) : truF t ty (k + 1) acc n = some (if theZ (hZ t n) n then 0 else 3, acc ++ atZ (hZ t n) n ty) := by rw [truF, if_pos h]
theorem truF_full {ty : Int} {k : Nat} {acc : List Rr} {n : List UInt8} (h : ¬ ((atZ (hZ t n) n 5).length = 0 ∨ ty = 5)) (h2 : acc.length = 8) : truF t ty (k + 1) acc n = none := by rw [truF, if_neg h, if_pos h2]
theorem truF_on {ty : Int} {k : Nat} {acc : List Rr} {n : List UInt8} (h : ¬ ((atZ (hZ t n) n 5).length = 0 ∨ ty = 5)) (h2 : ¬ acc.length = 8) : truF t ty (k + 1) acc n = truF t ty k (acc ++ [(atZ (hZ t n) n 5).getD 0 default]) ((atZ (hZ t n) n 5).getD 0 default).da := by rw [truF, if_neg h, if_neg h2]
end
theorem tru_none {t : Tr} {q : Qu} (h : truO t q = none) : truV t q = (0, []) ∧ (truO t q).isSome = false := by rw [truV, h]; exact ⟨rfl, rfl⟩
theorem tru_some {t : Tr} {q : Qu} {x : Int × List Rr} (h : truO t q = some x) : truV t q = x ∧ (truO t q).isSome = true := by rw [truV, h]; exact ⟨rfl, rfl⟩
theorem canN_le2 {n : List UInt8} (h : canN n = true) : n.length ≤ 255 := by
  obtain ⟨ls, a, rfl⟩ := can_nm h
  exact a.2
set_option maxRecDepth 20000 in
set_option maxHeartbeats 2000000 in
theorem c_zone_Truth (t : Tr) (q : Qu) (ht : TrOk t) (hq : q.nm.length ≤ 140737488351232) : AC Try.prog 16 [.agg (trC t), .agg (quc q)] emp (Ret (.tup [.agg (resC (truV t q)), tf (truO t q).isSome])) := by
 have hb1 := ht.1
 have hel := everyN_len t.zs.length
 have hel2 : (everyT t).length = t.zs.length := hel
 refine AC.intro te_ok (fn := Try.f16) ⟨Try.func16, rfl, rfl⟩ (Nat.le_of_ble_eq_true rfl) ?_
 refine AWp.seq ?_
 refine AWp.region ?_
 refine AOps.cons rfl rfl (q_box 100) ?_
 refine AOps.cons rfl rfl (q_box 101) ?_
 refine AOps.cons rfl rfl (q_alloc 102) ?_
 refine AOps.cons rfl rfl (q_assign) ?_
 refine AOps.nil ?_
 refine AWp.seq ?_
 refine AWp.seq ?_
 refine AWp.region ?_
 refine AOps.cons rfl rfl (q_load) ?_
 refine AOps.bool rfl rfl (q_call (0) (hc := (c_zone_Can t ht))) (fun h1_1 => ?_) (fun h1_1 => ?_)
 ·
  refine AOps.cons rfl rfl (q_not) ?_
  refine AOps.cons rfl rfl (q_move) ?_
  refine AOps.gcons rfl rfl rfl rfl rfl (q_fa) ?_
  refine AOps.gcons rfl rfl rfl rfl rfl (q_load) ?_
  refine AOps.gbool rfl rfl rfl rfl rfl (q_call (0) (hc := (c_name_Can q.nm (by omega)))) (fun h1_6 => ?_) (fun h1_6 => ?_)
  ·
   refine AOps.gcons rfl rfl rfl rfl rfl (q_not) ?_
   refine AOps.cons rfl rfl (q_pick) ?_
   refine AOps.cons rfl rfl (q_move) ?_
   refine AOps.gcons rfl rfl rfl rfl rfl (q_fa) ?_
   refine AOps.gcons rfl rfl rfl rfl rfl (q_load) ?_
   refine AOps.gdec rfl rfl rfl rfl rfl (q_lss) (fun h1_12 => ?_) (fun h1_12 => ?_)
   ·
    refine AOps.cons rfl rfl (q_pick) ?_
    refine AOps.cons rfl rfl (q_move) ?_
    refine AOps.gskip rfl rfl rfl rfl rfl rfl rfl rfl ?_
    refine AOps.gskip rfl rfl rfl rfl rfl rfl rfl rfl ?_
    refine AOps.gskip rfl rfl rfl rfl rfl rfl rfl rfl ?_
    refine AOps.cons rfl rfl (q_pick) ?_
    refine AOps.cons rfl rfl (q_move) ?_
    refine AOps.gskip rfl rfl rfl rfl rfl rfl rfl rfl ?_
    refine AOps.gskip rfl rfl rfl rfl rfl rfl rfl rfl ?_
    refine AOps.gskip rfl rfl rfl rfl rfl rfl rfl rfl ?_
    refine AOps.cons rfl rfl (q_pick) ?_
    refine AOps.nil ?_
    refine AWp.cond_t rfl ?_
    refine AWp.seq ?_
    refine AWp.region ?_
    refine AOps.cons rfl rfl (q_build []) ?_
    refine AOps.cons rfl rfl (q_store) ?_
    refine AOps.cons rfl rfl (q_assign) ?_
    refine AOps.weak (Weak.full 0 [] (t := [(5, tf false), (4, .ptr 102 0 0)]) (hl := [(102, .box [i64 0, .fz 0 ([] : List Rr).length (cl rrc [])])])) ?_
    refine AOps.nil ?_
    refine AWp.ret ?_
    show Fin te Try.f16 _ _
    obtain ⟨x1, x2⟩ := tru_none (q := q) (tru_no3 h1_12)
    rw [x1, x2]
    refine q_ret (0) [_, _] [_, _] ?_
    rfl
   ·
    refine AOps.cons rfl rfl (q_pick) ?_
    refine AOps.cons rfl rfl (q_move) ?_
    refine AOps.gcons rfl rfl rfl rfl rfl (q_fa) ?_
    refine AOps.gcons rfl rfl rfl rfl rfl (q_load) ?_
    refine AOps.gdec rfl rfl rfl rfl rfl (q_gtr) (fun h1_17 => ?_) (fun h1_17 => ?_)
    ·
     refine AOps.cons rfl rfl (q_pick) ?_
     refine AOps.cons rfl rfl (q_move) ?_
     refine AOps.gskip rfl rfl rfl rfl rfl rfl rfl rfl ?_
     refine AOps.gskip rfl rfl rfl rfl rfl rfl rfl rfl ?_
     refine AOps.gskip rfl rfl rfl rfl rfl rfl rfl rfl ?_
     refine AOps.cons rfl rfl (q_pick) ?_
     refine AOps.nil ?_
     refine AWp.cond_t rfl ?_
     refine AWp.seq ?_
     refine AWp.region ?_
     refine AOps.cons rfl rfl (q_build []) ?_
     refine AOps.cons rfl rfl (q_store) ?_
     refine AOps.cons rfl rfl (q_assign) ?_
     refine AOps.weak (Weak.full 0 [] (t := [(5, tf false), (4, .ptr 102 0 0)]) (hl := [(102, .box [i64 0, .fz 0 ([] : List Rr).length (cl rrc [])])])) ?_
     refine AOps.nil ?_
     refine AWp.ret ?_
     show Fin te Try.f16 _ _
     obtain ⟨x1, x2⟩ := tru_none (q := q) (tru_no4 h1_17)
     rw [x1, x2]
     refine q_ret (0) [_, _] [_, _] ?_
     rfl
    ·
     refine AOps.cons rfl rfl (q_pick) ?_
     refine AOps.cons rfl rfl (q_move) ?_
     refine AOps.gcons rfl rfl rfl rfl rfl (q_fa) ?_
     refine AOps.gcons rfl rfl rfl rfl rfl (q_load) ?_
     refine AOps.gdec rfl rfl rfl rfl rfl (q_neq) (fun h1_22 => ?_) (fun h1_22 => ?_)
     ·
      refine AOps.cons rfl rfl (q_pick) ?_
      refine AOps.nil ?_
      refine AWp.cond_t rfl ?_
      refine AWp.seq ?_
      refine AWp.region ?_
      refine AOps.cons rfl rfl (q_build []) ?_
      refine AOps.cons rfl rfl (q_store) ?_
      refine AOps.cons rfl rfl (q_assign) ?_
      refine AOps.weak (Weak.full 0 [] (t := [(5, tf false), (4, .ptr 102 0 0)]) (hl := [(102, .box [i64 0, .fz 0 ([] : List Rr).length (cl rrc [])])])) ?_
      refine AOps.nil ?_
      refine AWp.ret ?_
      show Fin te Try.f16 _ _
      obtain ⟨x1, x2⟩ := tru_none (q := q) (tru_no5 h1_22)
      rw [x1, x2]
      refine q_ret (0) [_, _] [_, _] ?_
      rfl
     ·
      refine AOps.cons rfl rfl (q_pick) ?_
      refine AOps.nil ?_
      refine AWp.cond_f rfl ?_
      refine AWp.skip ?_
      refine AWp.seq ?_
      refine AWp.region ?_
      have hcan := h1_1
      have hgo := tru_go h1_1 h1_6 h1_12 h1_17 h1_22
      have hql := canN_le2 h1_6
      refine AOps.cons rfl rfl (q_alloc 400) ?_
      refine AOps.nil ?_
      refine AWp.seq ?_
      refine AWp.region ?_
      refine AOps.weak (Weak.nilcell 400 9000 1 5 rrc) ?_
      refine AOps.cons rfl rfl (q_fa) ?_
      refine AOps.cons rfl rfl (q_load) ?_
      refine AOps.cons rfl rfl (q_assign) ?_
      refine AOps.nil ?_
      refine AWp.block ?_
      refine AWp.loopR (α := List Rr × List UInt8 × Nat) [5, 7, 8, 9, 37, 38, 39, 40, 41, 42, 43, 44, 45, 46, 47, 48, 49, 50, 51, 52, 53, 54, 55, 56, 57, 58, 59, 60, 61, 62, 63, 64, 65, 66, 67, 68, 69, 70, 71, 72, 73, 74, 75, 76, 77, 78, 79, 80, 81, 82, 83, 84, 85, 86, 87, 88, 89] (fun x_ => [(7, str (x_.2.1))]) (fun x_ => [(400, .box [i64 0, .sl 9000 (x_.2.2) 0 (x_.1).length 5]), (9000, .row (cl rrc (x_.1)) 5 (x_.2.2))]) (fun x_ => (x_.1).length ≤ 8 ∧ canN (x_.2.1) = true ∧ truF t q.ty (9 - (x_.1).length) (x_.1) (x_.2.1) = truO t q) (fun x_ => 9 - (x_.1).length) ([], q.nm, 0) ?_ (Back.mk' (HasT.cons HasT.nil) (HasH.cons (HasH.cons HasH.nil))) ?_
      ·
       exact ⟨Nat.zero_le _, h1_6, hgo.symm⟩
      ·
       rintro ⟨acc, n, v⟩ hI5
       change acc.length ≤ 8 ∧ canN n = true ∧ truF t q.ty (9 - acc.length) acc n = truO t q at hI5
       obtain ⟨hal, hn, hE⟩ := hI5
       refine AWp.as (s' := AS.over _ [5, 7, 8, 9, 37, 38, 39, 40, 41, 42, 43, 44, 45, 46, 47, 48, 49, 50, 51, 52, 53, 54, 55, 56, 57, 58, 59, 60, 61, 62, 63, 64, 65, 66, 67, 68, 69, 70, 71, 72, 73, 74, 75, 76, 77, 78, 79, 80, 81, 82, 83, 84, 85, 86, 87, 88, 89] [(7, str n)] [(400, .box [i64 0, .sl 9000 v 0 acc.length 5]), (9000, .row (cl rrc acc) 5 v)]) rfl ?_
       refine AWp.block ?_
       refine AWp.seq ?_
       have hhm := home_ok hcan hn
       have hzm : hZ t n ∈ t.zs := zAt_mem hhm
       have hzo : ZoOk (hZ t n) := ht.2.1 _ hzm
       have hnl := canN_le2 hn
       have hs5 := at_small hcan hzm n 5
       have hst := at_small hcan hzm n q.ty
       have hsub : 9 - acc.length = (8 - acc.length) + 1 := by omega
       refine AWp.draws [⟨0, [2], [100], some 37, _, none⟩,
           ⟨1, [37], [100], some 38, _, none⟩,
           ⟨2, [2], [100], some 39, _, none⟩,
           ⟨3, [2], [100], some 40, _, none⟩,
           ⟨4, [40], [], some 41, _, none⟩,
           ⟨5, [7], [], some 42, _, none⟩,
           ⟨6, [39, 41, 42], [], some 43, _, none⟩,
           ⟨7, [38, 43], [], some 44, _, none⟩,
           ⟨8, [44], [], some 45, _, none⟩,
           ⟨9, [], [609], some 8, _, some (609, _)⟩,
           ⟨10, [8, 45], [609], none, _, some (609, _)⟩]
        [⟨0, [2], [100], some 37, .any, none⟩,
            ⟨1, [37], [100], some 38, .any, none⟩,
            ⟨2, [2], [100], some 39, .any, none⟩,
            ⟨3, [2], [100], some 40, .any, none⟩,
            ⟨4, [40], [], some 41, .any, none⟩,
            ⟨5, [7], [], some 42, .any, none⟩,
            ⟨6, [39, 41, 42], [], some 43, .any, none⟩,
            ⟨7, [38, 43], [], some 44, .any, none⟩,
            ⟨8, [44], [], some 45, .any, none⟩,
            ⟨9, [], [609], some 8, .any, some (609, .box [])⟩,
            ⟨10, [8, 45], [609], none, .any, some (609, .box [])⟩]
        mixed_ok rfl (by kernel_rfl) ⟨DS.ok_over fun s0 => OpAt.go rfl rfl (q_fa),
            DS.ok_over fun s0 => OpAt.go rfl rfl (q_load),
            DS.ok_over fun s0 => OpAt.go rfl rfl (q_load),
            DS.ok_over fun s0 => OpAt.go rfl rfl (q_load),
            DS.ok_over fun s0 => OpAt.go rfl rfl (q_call (0) (hc := (c_zone_every t ht))),
            DS.ok_over fun s0 => OpAt.go rfl rfl (q_move),
            DS.ok_over fun s0 => OpAt.go rfl rfl (q_call (0) (hc := (c_zone_home t (everyT t) 0 n ht (by omega) (everyT_in t) (by omega)))),
            DS.ok_over fun s0 => OpAt.go rfl rfl (q_ix),
            DS.ok_over fun s0 => OpAt.go rfl rfl (q_load),
            DS.ok_over fun s0 => OpAt.go rfl rfl (q_alloc 609),
            DS.ok_over fun s0 => OpAt.go rfl rfl (q_store), trivial⟩ ?_
       dsimp only [final, DS.upd, AS.seto]
       refine AWp.seq ?_
       refine AWp.region ?_
       refine AOps.cons rfl rfl (q_load) ?_
       refine AOps.cons rfl rfl (q_move) ?_
       refine AOps.cons rfl rfl (q_call (0) (hc := (c_zone_at (hZ t n) n 5 hzo (by omega)))) ?_
       refine AOps.cons rfl rfl (q_assign) ?_
       refine AOps.nil ?_
       refine AWp.seq ?_
       refine AWp.seq ?_
       refine AWp.region ?_
       refine AOps.cons rfl rfl (q_move) ?_
       refine AOps.cons rfl rfl (q_len) ?_
       refine AOps.dec rfl rfl (q_eql) (fun h7_2 => ?_) (fun h7_2 => ?_)
       ·
        refine AOps.cons rfl rfl (q_move) ?_
        refine AOps.gskip rfl rfl rfl rfl rfl rfl rfl rfl ?_
        refine AOps.gskip rfl rfl rfl rfl rfl rfl rfl rfl ?_
        refine AOps.gskip rfl rfl rfl rfl rfl rfl rfl rfl ?_
        refine AOps.cons rfl rfl (q_pick) ?_
        refine AOps.nil ?_
        refine AWp.cond_t rfl ?_
        refine AWp.seq ?_
        have hend : (atZ (hZ t n) n 5).length = 0 ∨ q.ty = 5 := .inl (by omega)
        refine AWp.draws [⟨0, [6], [400], some 57, _, none⟩,
            ⟨1, [57], [400], some 58, _, none⟩,
            ⟨2, [8], [609], some 59, _, none⟩,
            ⟨3, [7], [], some 60, _, none⟩,
            ⟨4, [3], [101], some 61, _, none⟩,
            ⟨5, [61], [101], some 62, _, none⟩,
            ⟨6, [59, 60, 62], [], some 63, _, none⟩,
            ⟨7, [58, 63], [9000], some 64, _, some (9000, _)⟩,
            ⟨8, [6], [400], some 65, _, none⟩,
            ⟨9, [64, 65], [400, 9000], none, _, some (400, _)⟩]
         [⟨0, [6], [400], some 57, .any, none⟩,
             ⟨1, [57], [400], some 58, .any, none⟩,
             ⟨2, [8], [609], some 59, .any, none⟩,
             ⟨3, [7], [], some 60, .any, none⟩,
             ⟨4, [3], [101], some 61, .any, none⟩,
             ⟨5, [61], [101], some 62, .any, none⟩,
             ⟨6, [59, 60, 62], [], some 63, .any, none⟩,
             ⟨7, [58, 63], [9000], some 64, .any, some (9000, .box [])⟩,
             ⟨8, [6], [400], some 65, .any, none⟩,
             ⟨9, [64, 65], [400, 9000], none, .any, some (400, .box [])⟩]
         mixed_ok rfl (by kernel_rfl) ⟨DS.ok_over fun s0 => OpAt.go rfl rfl (q_fa),
             DS.ok_over fun s0 => OpAt.go rfl rfl (q_load),
             DS.ok_over fun s0 => OpAt.go rfl rfl (q_load),
             DS.ok_over fun s0 => OpAt.go rfl rfl (q_move),
             DS.ok_over fun s0 => OpAt.go rfl rfl (q_fa),
             DS.ok_over fun s0 => OpAt.go rfl rfl (q_load),
             DS.ok_over fun s0 => OpAt.go rfl rfl (q_call (0) (hc := (c_zone_at (hZ t n) n q.ty hzo (by omega)))),
             DS.ok_over fun s0 => OpAt.go rfl rfl (q_app),
             DS.ok_over fun s0 => OpAt.go rfl rfl (q_fa),
             DS.ok_over fun s0 => OpAt.go rfl rfl (q_store), trivial⟩ ?_
        dsimp only [final, DS.upd, AS.seto]
        refine AWp.seq ?_
        refine AWp.seq ?_
        refine AWp.region ?_
        refine AOps.cons rfl rfl (q_load) ?_
        refine AOps.cons rfl rfl (q_move) ?_
        refine AOps.bool rfl rfl (q_call (0) (hc := (c_zone_there (hZ t n) n hzo (by omega)))) (fun h9_2 => ?_) (fun h9_2 => ?_)
        ·
         refine AOps.cons rfl rfl (q_not) ?_
         refine AOps.nil ?_
         refine AWp.cond_f rfl ?_
         refine AWp.skip ?_
         refine AWp.seq ?_
         refine AWp.region ?_
         refine AOps.weak (Weak.full 0 [] (t := [(4, .ptr 102 0 0), (6, .ptr 400 0 0)]) (hl := [(102, .box [.v (.int .i64 0), .v (.slice none 0 0)]), (400, .box [i64 0, .fz 0 (acc ++ atZ (hZ t n) n q.ty).length (cl rrc (acc ++ atZ (hZ t n) n q.ty))])])) ?_
         refine AOps.cons rfl rfl (q_load) ?_
         refine AOps.cons rfl rfl (q_store) ?_
         refine AOps.cons rfl rfl (q_assign) ?_
         refine AOps.nil ?_
         refine AWp.ret ?_
         show Fin te Try.f16 _ _
         rw [hsub, truF_end hend, if_pos h9_2] at hE
         obtain ⟨x1, x2⟩ := tru_some (q := q) hE.symm
         rw [x1, x2]
         refine q_ret (0) [_, _] [_, _] ?_
         rfl
        ·
         refine AOps.cons rfl rfl (q_not) ?_
         refine AOps.nil ?_
         refine AWp.cond_t rfl ?_
         refine AWp.region ?_
         refine AOps.cons rfl rfl (q_fa) ?_
         refine AOps.cons rfl rfl (q_store) ?_
         refine AOps.nil ?_
         refine AWp.seq ?_
         refine AWp.region ?_
         refine AOps.weak (Weak.full 0 [] (t := [(4, .ptr 102 0 0), (6, .ptr 400 0 0)]) (hl := [(102, .box [.v (.int .i64 0), .v (.slice none 0 0)]), (400, .box [i64 3, .fz 0 (acc ++ atZ (hZ t n) n q.ty).length (cl rrc (acc ++ atZ (hZ t n) n q.ty))])])) ?_
         refine AOps.cons rfl rfl (q_load) ?_
         refine AOps.cons rfl rfl (q_store) ?_
         refine AOps.cons rfl rfl (q_assign) ?_
         refine AOps.nil ?_
         refine AWp.ret ?_
         show Fin te Try.f16 _ _
         rw [hsub, truF_end hend, if_neg (by rw [h9_2]; decide)] at hE
         obtain ⟨x1, x2⟩ := tru_some (q := q) hE.symm
         rw [x1, x2]
         refine q_ret (0) [_, _] [_, _] ?_
         rfl
       ·
        refine AOps.cons rfl rfl (q_move) ?_
        refine AOps.gcons rfl rfl rfl rfl rfl (q_fa) ?_
        refine AOps.gcons rfl rfl rfl rfl rfl (q_load) ?_
        refine AOps.gdec rfl rfl rfl rfl rfl (q_eql) (fun h7_6 => ?_) (fun h7_6 => ?_)
        ·
         refine AOps.cons rfl rfl (q_pick) ?_
         refine AOps.nil ?_
         refine AWp.cond_t rfl ?_
         refine AWp.seq ?_
         have hend : (atZ (hZ t n) n 5).length = 0 ∨ q.ty = 5 := .inr h7_6
         refine AWp.draws [⟨0, [6], [400], some 57, _, none⟩,
             ⟨1, [57], [400], some 58, _, none⟩,
             ⟨2, [8], [609], some 59, _, none⟩,
             ⟨3, [7], [], some 60, _, none⟩,
             ⟨4, [3], [101], some 61, _, none⟩,
             ⟨5, [61], [101], some 62, _, none⟩,
             ⟨6, [59, 60, 62], [], some 63, _, none⟩,
             ⟨7, [58, 63], [9000], some 64, _, some (9000, _)⟩,
             ⟨8, [6], [400], some 65, _, none⟩,
             ⟨9, [64, 65], [400, 9000], none, _, some (400, _)⟩]
          [⟨0, [6], [400], some 57, .any, none⟩,
              ⟨1, [57], [400], some 58, .any, none⟩,
              ⟨2, [8], [609], some 59, .any, none⟩,
              ⟨3, [7], [], some 60, .any, none⟩,
              ⟨4, [3], [101], some 61, .any, none⟩,
              ⟨5, [61], [101], some 62, .any, none⟩,
              ⟨6, [59, 60, 62], [], some 63, .any, none⟩,
              ⟨7, [58, 63], [9000], some 64, .any, some (9000, .box [])⟩,
              ⟨8, [6], [400], some 65, .any, none⟩,
              ⟨9, [64, 65], [400, 9000], none, .any, some (400, .box [])⟩]
          mixed_ok rfl (by kernel_rfl) ⟨DS.ok_over fun s0 => OpAt.go rfl rfl (q_fa),
              DS.ok_over fun s0 => OpAt.go rfl rfl (q_load),
              DS.ok_over fun s0 => OpAt.go rfl rfl (q_load),
              DS.ok_over fun s0 => OpAt.go rfl rfl (q_move),
              DS.ok_over fun s0 => OpAt.go rfl rfl (q_fa),
              DS.ok_over fun s0 => OpAt.go rfl rfl (q_load),
              DS.ok_over fun s0 => OpAt.go rfl rfl (q_call (0) (hc := (c_zone_at (hZ t n) n q.ty hzo (by omega)))),
              DS.ok_over fun s0 => OpAt.go rfl rfl (q_app),
              DS.ok_over fun s0 => OpAt.go rfl rfl (q_fa),
              DS.ok_over fun s0 => OpAt.go rfl rfl (q_store), trivial⟩ ?_
         dsimp only [final, DS.upd, AS.seto]
         refine AWp.seq ?_
         refine AWp.seq ?_
         refine AWp.region ?_
         refine AOps.cons rfl rfl (q_load) ?_
         refine AOps.cons rfl rfl (q_move) ?_
         refine AOps.bool rfl rfl (q_call (0) (hc := (c_zone_there (hZ t n) n hzo (by omega)))) (fun h9_2 => ?_) (fun h9_2 => ?_)
         ·
          refine AOps.cons rfl rfl (q_not) ?_
          refine AOps.nil ?_
          refine AWp.cond_f rfl ?_
          refine AWp.skip ?_
          refine AWp.seq ?_
          refine AWp.region ?_
          refine AOps.weak (Weak.full 0 [] (t := [(4, .ptr 102 0 0), (6, .ptr 400 0 0)]) (hl := [(102, .box [.v (.int .i64 0), .v (.slice none 0 0)]), (400, .box [i64 0, .fz 0 (acc ++ atZ (hZ t n) n q.ty).length (cl rrc (acc ++ atZ (hZ t n) n q.ty))])])) ?_
          refine AOps.cons rfl rfl (q_load) ?_
          refine AOps.cons rfl rfl (q_store) ?_
          refine AOps.cons rfl rfl (q_assign) ?_
          refine AOps.nil ?_
          refine AWp.ret ?_
          show Fin te Try.f16 _ _
          rw [hsub, truF_end hend, if_pos h9_2] at hE
          obtain ⟨x1, x2⟩ := tru_some (q := q) hE.symm
          rw [x1, x2]
          refine q_ret (0) [_, _] [_, _] ?_
          rfl
         ·
          refine AOps.cons rfl rfl (q_not) ?_
          refine AOps.nil ?_
          refine AWp.cond_t rfl ?_
          refine AWp.region ?_
          refine AOps.cons rfl rfl (q_fa) ?_
          refine AOps.cons rfl rfl (q_store) ?_
          refine AOps.nil ?_
          refine AWp.seq ?_
          refine AWp.region ?_
          refine AOps.weak (Weak.full 0 [] (t := [(4, .ptr 102 0 0), (6, .ptr 400 0 0)]) (hl := [(102, .box [.v (.int .i64 0), .v (.slice none 0 0)]), (400, .box [i64 3, .fz 0 (acc ++ atZ (hZ t n) n q.ty).length (cl rrc (acc ++ atZ (hZ t n) n q.ty))])])) ?_
          refine AOps.cons rfl rfl (q_load) ?_
          refine AOps.cons rfl rfl (q_store) ?_
          refine AOps.cons rfl rfl (q_assign) ?_
          refine AOps.nil ?_
          refine AWp.ret ?_
          show Fin te Try.f16 _ _
          rw [hsub, truF_end hend, if_neg (by rw [h9_2]; decide)] at hE
          obtain ⟨x1, x2⟩ := tru_some (q := q) hE.symm
          rw [x1, x2]
          refine q_ret (0) [_, _] [_, _] ?_
          rfl
        ·
         refine AOps.cons rfl rfl (q_pick) ?_
         refine AOps.nil ?_
         refine AWp.cond_f rfl ?_
         refine AWp.skip ?_
         refine AWp.seq ?_
         refine AWp.seq ?_
         refine AWp.region ?_
         have hne : ¬ ((atZ (hZ t n) n 5).length = 0 ∨ q.ty = 5) := fun e => e.elim (fun e => h7_2 (by omega)) h7_6
         have hpos : 0 < (atZ (hZ t n) n 5).length := by omega
         refine AOps.cons rfl rfl (q_fa) ?_
         refine AOps.cons rfl rfl (q_load) ?_
         refine AOps.cons rfl rfl (q_len) ?_
         refine AOps.dec rfl rfl (q_eql) (fun h12_3 => ?_) (fun h12_3 => ?_)
         ·
          refine AOps.nil ?_
          refine AWp.cond_t rfl ?_
          refine AWp.seq ?_
          refine AWp.region ?_
          refine AOps.cons rfl rfl (q_build []) ?_
          refine AOps.cons rfl rfl (q_store) ?_
          refine AOps.cons rfl rfl (q_assign) ?_
          refine AOps.weak (Weak.full 0 [] (t := [(5, tf false), (4, .ptr 102 0 0)]) (hl := [(102, .box [i64 0, .fz 0 ([] : List Rr).length (cl rrc [])])])) ?_
          refine AOps.nil ?_
          refine AWp.ret ?_
          show Fin te Try.f16 _ _
          rw [hsub, truF_full hne (by omega)] at hE
          obtain ⟨x1, x2⟩ := tru_none (q := q) hE.symm
          rw [x1, x2]
          refine q_ret (0) [_, _] [_, _] ?_
          rfl
         ·
          refine AOps.nil ?_
          refine AWp.cond_f rfl ?_
          refine AWp.skip ?_
          refine AWp.seq ?_
          have hfull : ¬ acc.length = 8 := by omega
          refine AWp.draws [⟨0, [6], [400], some 77, _, none⟩,
              ⟨1, [77], [400], some 78, _, none⟩,
              ⟨2, [9], [], some 79, _, none⟩,
              ⟨3, [79], [], some 80, _, none⟩,
              ⟨4, [80], [], some 81, _, none⟩,
              ⟨5, [81], [1505], some 82, _, some (1505, _)⟩,
              ⟨6, [78, 82], [1505, 9000], some 83, _, some (9000, _)⟩,
              ⟨7, [6], [400], some 84, _, none⟩,
              ⟨8, [83, 84], [400, 9000], none, _, some (400, _)⟩]
           [⟨0, [6], [400], some 77, .any, none⟩,
               ⟨1, [77], [400], some 78, .any, none⟩,
               ⟨2, [9], [], some 79, .any, none⟩,
               ⟨3, [79], [], some 80, .any, none⟩,
               ⟨4, [80], [], some 81, .any, none⟩,
               ⟨5, [81], [1505], some 82, .any, some (1505, .box [])⟩,
               ⟨6, [78, 82], [1505, 9000], some 83, .any, some (9000, .box [])⟩,
               ⟨7, [6], [400], some 84, .any, none⟩,
               ⟨8, [83, 84], [400, 9000], none, .any, some (400, .box [])⟩]
           mixed_ok rfl (by kernel_rfl) ⟨DS.ok_over fun s0 => OpAt.go rfl rfl (q_fa),
               DS.ok_over fun s0 => OpAt.go rfl rfl (q_load),
               DS.ok_over fun s0 => OpAt.go rfl rfl (q_move),
               DS.ok_over fun s0 => OpAt.go rfl rfl (q_ix),
               DS.ok_over fun s0 => OpAt.go rfl rfl (q_load),
               DS.ok_over fun s0 => OpAt.go rfl rfl (q_bs 1505 rrc [((atZ (hZ t n) n 5).getD 0 default)] [(_, _)]),
               DS.ok_over fun s0 => OpAt.go rfl rfl (q_app),
               DS.ok_over fun s0 => OpAt.go rfl rfl (q_fa),
               DS.ok_over fun s0 => OpAt.go rfl rfl (q_store), trivial⟩ ?_
          dsimp only [final, DS.upd, AS.seto]
          refine AWp.region ?_
          refine AOps.cons rfl rfl (q_move) ?_
          refine AOps.cons rfl rfl (q_ix) ?_
          refine AOps.cons rfl rfl (q_fa) ?_
          refine AOps.cons rfl rfl (q_load) ?_
          refine AOps.cons rfl rfl (by first | exact q_conv_zs | exact q_conv_ls) ?_
          refine AOps.cons rfl rfl (q_assign) ?_
          refine AOps.nil ?_
          have hx := at_can hcan hzm (.inr rfl) (getD_mem' (l := atZ (hZ t n) n 5) (i := 0) hpos)
          rw [hsub, truF_on hne hfull] at hE
          refine ⟨(acc ++ [((atZ (hZ t n) n 5).getD 0 default)], ((atZ (hZ t n) n 5).getD 0 default).da, v + 1), ?_, Back.mk' (HasT.cons HasT.nil) (HasH.cons (HasH.cons HasH.nil)), ?_⟩
          ·
           try dsimp only
           exact ⟨by rw [List.length_append]; simp; omega, hx, by rw [← hE, List.length_append]; congr 1; simp only [List.length_cons, List.length_nil]; omega⟩
          ·
           try dsimp only
           rw [List.length_append]; simp; omega
  ·
   refine AOps.gcons rfl rfl rfl rfl rfl (q_not) ?_
   refine AOps.cons rfl rfl (q_pick) ?_
   refine AOps.cons rfl rfl (q_move) ?_
   refine AOps.gskip rfl rfl rfl rfl rfl rfl rfl rfl ?_
   refine AOps.gskip rfl rfl rfl rfl rfl rfl rfl rfl ?_
   refine AOps.gskip rfl rfl rfl rfl rfl rfl rfl rfl ?_
   refine AOps.cons rfl rfl (q_pick) ?_
   refine AOps.cons rfl rfl (q_move) ?_
   refine AOps.gskip rfl rfl rfl rfl rfl rfl rfl rfl ?_
   refine AOps.gskip rfl rfl rfl rfl rfl rfl rfl rfl ?_
   refine AOps.gskip rfl rfl rfl rfl rfl rfl rfl rfl ?_
   refine AOps.cons rfl rfl (q_pick) ?_
   refine AOps.cons rfl rfl (q_move) ?_
   refine AOps.gskip rfl rfl rfl rfl rfl rfl rfl rfl ?_
   refine AOps.gskip rfl rfl rfl rfl rfl rfl rfl rfl ?_
   refine AOps.gskip rfl rfl rfl rfl rfl rfl rfl rfl ?_
   refine AOps.cons rfl rfl (q_pick) ?_
   refine AOps.nil ?_
   refine AWp.cond_t rfl ?_
   refine AWp.seq ?_
   refine AWp.region ?_
   refine AOps.cons rfl rfl (q_build []) ?_
   refine AOps.cons rfl rfl (q_store) ?_
   refine AOps.cons rfl rfl (q_assign) ?_
   refine AOps.weak (Weak.full 0 [] (t := [(5, tf false), (4, .ptr 102 0 0)]) (hl := [(102, .box [i64 0, .fz 0 ([] : List Rr).length (cl rrc [])])])) ?_
   refine AOps.nil ?_
   refine AWp.ret ?_
   show Fin te Try.f16 _ _
   obtain ⟨x1, x2⟩ := tru_none (q := q) (tru_no2 h1_6)
   rw [x1, x2]
   refine q_ret (0) [_, _] [_, _] ?_
   rfl
 ·
  refine AOps.cons rfl rfl (q_not) ?_
  refine AOps.cons rfl rfl (q_move) ?_
  refine AOps.gskip rfl rfl rfl rfl rfl rfl rfl rfl ?_
  refine AOps.gskip rfl rfl rfl rfl rfl rfl rfl rfl ?_
  refine AOps.gskip rfl rfl rfl rfl rfl rfl rfl rfl ?_
  refine AOps.gskip rfl rfl rfl rfl rfl rfl rfl rfl ?_
  refine AOps.cons rfl rfl (q_pick) ?_
  refine AOps.cons rfl rfl (q_move) ?_
  refine AOps.gskip rfl rfl rfl rfl rfl rfl rfl rfl ?_
  refine AOps.gskip rfl rfl rfl rfl rfl rfl rfl rfl ?_
  refine AOps.gskip rfl rfl rfl rfl rfl rfl rfl rfl ?_
  refine AOps.cons rfl rfl (q_pick) ?_
  refine AOps.cons rfl rfl (q_move) ?_
  refine AOps.gskip rfl rfl rfl rfl rfl rfl rfl rfl ?_
  refine AOps.gskip rfl rfl rfl rfl rfl rfl rfl rfl ?_
  refine AOps.gskip rfl rfl rfl rfl rfl rfl rfl rfl ?_
  refine AOps.cons rfl rfl (q_pick) ?_
  refine AOps.cons rfl rfl (q_move) ?_
  refine AOps.gskip rfl rfl rfl rfl rfl rfl rfl rfl ?_
  refine AOps.gskip rfl rfl rfl rfl rfl rfl rfl rfl ?_
  refine AOps.gskip rfl rfl rfl rfl rfl rfl rfl rfl ?_
  refine AOps.cons rfl rfl (q_pick) ?_
  refine AOps.nil ?_
  refine AWp.cond_t rfl ?_
  refine AWp.seq ?_
  refine AWp.region ?_
  refine AOps.cons rfl rfl (q_build []) ?_
  refine AOps.cons rfl rfl (q_store) ?_
  refine AOps.cons rfl rfl (q_assign) ?_
  refine AOps.weak (Weak.full 0 [] (t := [(5, tf false), (4, .ptr 102 0 0)]) (hl := [(102, .box [i64 0, .fz 0 ([] : List Rr).length (cl rrc [])])])) ?_
  refine AOps.nil ?_
  refine AWp.ret ?_
  show Fin te Try.f16 _ _
  obtain ⟨x1, x2⟩ := tru_none (q := q) (tru_no1 h1_1)
  rw [x1, x2]
  refine q_ret (0) [_, _] [_, _] ?_
  rfl
set_option maxRecDepth 20000 in
set_option maxHeartbeats 2000000 in
theorem c_rTruth (t : Tr) (q : Qu) (ht : TrOk t) (hq : q.nm.length ≤ 140737488351232) : AC Try.prog 17 [.agg (trC t), .agg (quc q)] emp (Ret (.tup [.agg (resC (truV t q)), tf (truO t q).isSome])) := by
 have hb1 := ht.1
 have hel := everyN_len t.zs.length
 have hel2 : (everyT t).length = t.zs.length := hel
 refine AC.intro te_ok (fn := Try.f17) ⟨Try.func17, rfl, rfl⟩ (Nat.le_of_ble_eq_true rfl) ?_
 refine AWp.seq ?_
 refine AWp.region ?_
 refine AOps.cons rfl rfl (q_box 100) ?_
 refine AOps.cons rfl rfl (q_box 101) ?_
 refine AOps.cons rfl rfl (q_alloc 102) ?_
 refine AOps.cons rfl rfl (q_assign) ?_
 refine AOps.nil ?_
 refine AWp.seq ?_
 refine AWp.seq ?_
 refine AWp.region ?_
 refine AOps.cons rfl rfl (q_load) ?_
 refine AOps.bool rfl rfl (q_call (0) (hc := (c_rCan t ht))) (fun h1_1 => ?_) (fun h1_1 => ?_)
 ·
  refine AOps.cons rfl rfl (q_not) ?_
  refine AOps.cons rfl rfl (q_move) ?_
  refine AOps.gcons rfl rfl rfl rfl rfl (q_fa) ?_
  refine AOps.gcons rfl rfl rfl rfl rfl (q_load) ?_
  refine AOps.gbool rfl rfl rfl rfl rfl (q_call (0) (hc := (c_ciceroneref01_Can q.nm (by omega)))) (fun h1_6 => ?_) (fun h1_6 => ?_)
  ·
   refine AOps.gcons rfl rfl rfl rfl rfl (q_not) ?_
   refine AOps.cons rfl rfl (q_pick) ?_
   refine AOps.cons rfl rfl (q_move) ?_
   refine AOps.gcons rfl rfl rfl rfl rfl (q_fa) ?_
   refine AOps.gcons rfl rfl rfl rfl rfl (q_load) ?_
   refine AOps.gdec rfl rfl rfl rfl rfl (q_lss) (fun h1_12 => ?_) (fun h1_12 => ?_)
   ·
    refine AOps.cons rfl rfl (q_pick) ?_
    refine AOps.cons rfl rfl (q_move) ?_
    refine AOps.gskip rfl rfl rfl rfl rfl rfl rfl rfl ?_
    refine AOps.gskip rfl rfl rfl rfl rfl rfl rfl rfl ?_
    refine AOps.gskip rfl rfl rfl rfl rfl rfl rfl rfl ?_
    refine AOps.cons rfl rfl (q_pick) ?_
    refine AOps.cons rfl rfl (q_move) ?_
    refine AOps.gskip rfl rfl rfl rfl rfl rfl rfl rfl ?_
    refine AOps.gskip rfl rfl rfl rfl rfl rfl rfl rfl ?_
    refine AOps.gskip rfl rfl rfl rfl rfl rfl rfl rfl ?_
    refine AOps.cons rfl rfl (q_pick) ?_
    refine AOps.nil ?_
    refine AWp.cond_t rfl ?_
    refine AWp.seq ?_
    refine AWp.region ?_
    refine AOps.cons rfl rfl (q_build []) ?_
    refine AOps.cons rfl rfl (q_store) ?_
    refine AOps.cons rfl rfl (q_assign) ?_
    refine AOps.weak (Weak.full 0 [] (t := [(5, tf false), (4, .ptr 102 0 0)]) (hl := [(102, .box [i64 0, .fz 0 ([] : List Rr).length (cl rrc [])])])) ?_
    refine AOps.nil ?_
    refine AWp.ret ?_
    show Fin te Try.f17 _ _
    obtain ⟨x1, x2⟩ := tru_none (q := q) (tru_no3 h1_12)
    rw [x1, x2]
    refine q_ret (0) [_, _] [_, _] ?_
    rfl
   ·
    refine AOps.cons rfl rfl (q_pick) ?_
    refine AOps.cons rfl rfl (q_move) ?_
    refine AOps.gcons rfl rfl rfl rfl rfl (q_fa) ?_
    refine AOps.gcons rfl rfl rfl rfl rfl (q_load) ?_
    refine AOps.gdec rfl rfl rfl rfl rfl (q_gtr) (fun h1_17 => ?_) (fun h1_17 => ?_)
    ·
     refine AOps.cons rfl rfl (q_pick) ?_
     refine AOps.cons rfl rfl (q_move) ?_
     refine AOps.gskip rfl rfl rfl rfl rfl rfl rfl rfl ?_
     refine AOps.gskip rfl rfl rfl rfl rfl rfl rfl rfl ?_
     refine AOps.gskip rfl rfl rfl rfl rfl rfl rfl rfl ?_
     refine AOps.cons rfl rfl (q_pick) ?_
     refine AOps.nil ?_
     refine AWp.cond_t rfl ?_
     refine AWp.seq ?_
     refine AWp.region ?_
     refine AOps.cons rfl rfl (q_build []) ?_
     refine AOps.cons rfl rfl (q_store) ?_
     refine AOps.cons rfl rfl (q_assign) ?_
     refine AOps.weak (Weak.full 0 [] (t := [(5, tf false), (4, .ptr 102 0 0)]) (hl := [(102, .box [i64 0, .fz 0 ([] : List Rr).length (cl rrc [])])])) ?_
     refine AOps.nil ?_
     refine AWp.ret ?_
     show Fin te Try.f17 _ _
     obtain ⟨x1, x2⟩ := tru_none (q := q) (tru_no4 h1_17)
     rw [x1, x2]
     refine q_ret (0) [_, _] [_, _] ?_
     rfl
    ·
     refine AOps.cons rfl rfl (q_pick) ?_
     refine AOps.cons rfl rfl (q_move) ?_
     refine AOps.gcons rfl rfl rfl rfl rfl (q_fa) ?_
     refine AOps.gcons rfl rfl rfl rfl rfl (q_load) ?_
     refine AOps.gdec rfl rfl rfl rfl rfl (q_neq) (fun h1_22 => ?_) (fun h1_22 => ?_)
     ·
      refine AOps.cons rfl rfl (q_pick) ?_
      refine AOps.nil ?_
      refine AWp.cond_t rfl ?_
      refine AWp.seq ?_
      refine AWp.region ?_
      refine AOps.cons rfl rfl (q_build []) ?_
      refine AOps.cons rfl rfl (q_store) ?_
      refine AOps.cons rfl rfl (q_assign) ?_
      refine AOps.weak (Weak.full 0 [] (t := [(5, tf false), (4, .ptr 102 0 0)]) (hl := [(102, .box [i64 0, .fz 0 ([] : List Rr).length (cl rrc [])])])) ?_
      refine AOps.nil ?_
      refine AWp.ret ?_
      show Fin te Try.f17 _ _
      obtain ⟨x1, x2⟩ := tru_none (q := q) (tru_no5 h1_22)
      rw [x1, x2]
      refine q_ret (0) [_, _] [_, _] ?_
      rfl
     ·
      refine AOps.cons rfl rfl (q_pick) ?_
      refine AOps.nil ?_
      refine AWp.cond_f rfl ?_
      refine AWp.skip ?_
      refine AWp.seq ?_
      refine AWp.region ?_
      have hcan := h1_1
      have hgo := tru_go h1_1 h1_6 h1_12 h1_17 h1_22
      have hql := canN_le2 h1_6
      refine AOps.cons rfl rfl (q_alloc 400) ?_
      refine AOps.nil ?_
      refine AWp.seq ?_
      refine AWp.region ?_
      refine AOps.weak (Weak.nilcell 400 9000 1 5 rrc) ?_
      refine AOps.cons rfl rfl (q_fa) ?_
      refine AOps.cons rfl rfl (q_load) ?_
      refine AOps.cons rfl rfl (q_assign) ?_
      refine AOps.nil ?_
      refine AWp.seq ?_
      refine AWp.seq ?_
      refine AWp.region ?_
      refine AOps.cons rfl rfl (q_move) ?_
      refine AOps.nil ?_
      refine AWp.block ?_
      refine AWp.loopR (α := List Rr × List UInt8 × Nat) [5, 7, 8, 9, 37, 38, 39, 40, 41, 42, 43, 44, 45, 46, 47, 48, 49, 50, 51, 52, 53, 54, 55, 56, 57, 58, 59, 60, 61, 62, 63, 64, 65, 66, 67, 68, 69, 70, 71, 72, 73, 74, 75, 76, 77, 78, 79, 80, 81, 82, 83, 84, 85, 86, 87, 88, 89, 90, 91, 92] (fun x_ => [(7, str (x_.2.1)), (37, i64 (x_.1).length)]) (fun x_ => [(400, .box [i64 0, .sl 9000 (x_.2.2) 0 (x_.1).length 5]), (9000, .row (cl rrc (x_.1)) 5 (x_.2.2))]) (fun x_ => (x_.1).length ≤ 8 ∧ canN (x_.2.1) = true ∧ truF t q.ty (9 - (x_.1).length) (x_.1) (x_.2.1) = truO t q) (fun x_ => 9 - (x_.1).length) ([], q.nm, 0) ?_ (Back.mk' (HasT.cons (HasT.cons HasT.nil)) (HasH.cons (HasH.cons HasH.nil))) ?_
      ·
       exact ⟨Nat.zero_le _, h1_6, hgo.symm⟩
      ·
       rintro ⟨acc, n, v⟩ hI6
       change acc.length ≤ 8 ∧ canN n = true ∧ truF t q.ty (9 - acc.length) acc n = truO t q at hI6
       obtain ⟨hal, hn, hE⟩ := hI6
       refine AWp.as (s' := AS.over _ [5, 7, 8, 9, 37, 38, 39, 40, 41, 42, 43, 44, 45, 46, 47, 48, 49, 50, 51, 52, 53, 54, 55, 56, 57, 58, 59, 60, 61, 62, 63, 64, 65, 66, 67, 68, 69, 70, 71, 72, 73, 74, 75, 76, 77, 78, 79, 80, 81, 82, 83, 84, 85, 86, 87, 88, 89, 90, 91, 92] [(7, str n), (37, i64 acc.length)] [(400, .box [i64 0, .sl 9000 v 0 acc.length 5]), (9000, .row (cl rrc acc) 5 v)]) rfl ?_
       refine AWp.seq ?_
       refine AWp.region ?_
       refine AOps.dec rfl rfl (q_lss) (fun h6_0 => ?_) (fun h6_0 => ?_)
       ·
        refine AOps.nil ?_
        refine AWp.seq ?_
        refine AWp.cond_t rfl ?_
        refine AWp.skip ?_
        refine AWp.seq ?_
        refine AWp.block ?_
        refine AWp.seq ?_
        have hhm := home_ok hcan hn
        have hzm : hZ t n ∈ t.zs := zAt_mem hhm
        have hzo : ZoOk (hZ t n) := ht.2.1 _ hzm
        have hnl := canN_le2 hn
        have hs5 := at_small hcan hzm n 5
        have hst := at_small hcan hzm n q.ty
        have hsub : 9 - acc.length = (8 - acc.length) + 1 := by omega
        refine AWp.draws [⟨0, [2], [100], some 39, _, none⟩,
            ⟨1, [39], [100], some 40, _, none⟩,
            ⟨2, [2], [100], some 41, _, none⟩,
            ⟨3, [2], [100], some 42, _, none⟩,
            ⟨4, [42], [], some 43, _, none⟩,
            ⟨5, [7], [], some 44, _, none⟩,
            ⟨6, [41, 43, 44], [], some 45, _, none⟩,
            ⟨7, [40, 45], [], some 46, _, none⟩,
            ⟨8, [46], [], some 47, _, none⟩,
            ⟨9, [], [809], some 8, _, some (809, _)⟩,
            ⟨10, [8, 47], [809], none, _, some (809, _)⟩]
         [⟨0, [2], [100], some 39, .any, none⟩,
             ⟨1, [39], [100], some 40, .any, none⟩,
             ⟨2, [2], [100], some 41, .any, none⟩,
             ⟨3, [2], [100], some 42, .any, none⟩,
             ⟨4, [42], [], some 43, .any, none⟩,
             ⟨5, [7], [], some 44, .any, none⟩,
             ⟨6, [41, 43, 44], [], some 45, .any, none⟩,
             ⟨7, [40, 45], [], some 46, .any, none⟩,
             ⟨8, [46], [], some 47, .any, none⟩,
             ⟨9, [], [809], some 8, .any, some (809, .box [])⟩,
             ⟨10, [8, 47], [809], none, .any, some (809, .box [])⟩]
         mixed_ok rfl (by kernel_rfl) ⟨DS.ok_over fun s0 => OpAt.go rfl rfl (q_fa),
             DS.ok_over fun s0 => OpAt.go rfl rfl (q_load),
             DS.ok_over fun s0 => OpAt.go rfl rfl (q_load),
             DS.ok_over fun s0 => OpAt.go rfl rfl (q_load),
             DS.ok_over fun s0 => OpAt.go rfl rfl (q_call (0) (hc := (c_revery t ht))),
             DS.ok_over fun s0 => OpAt.go rfl rfl (q_move),
             DS.ok_over fun s0 => OpAt.go rfl rfl (q_call (0) (hc := (c_ciceroneref18_nearest t (everyT t) 0 n ht (by omega) (everyT_in t) (by omega)))),
             DS.ok_over fun s0 => OpAt.go rfl rfl (q_ix),
             DS.ok_over fun s0 => OpAt.go rfl rfl (q_load),
             DS.ok_over fun s0 => OpAt.go rfl rfl (q_alloc 809),
             DS.ok_over fun s0 => OpAt.go rfl rfl (q_store), trivial⟩ ?_
        dsimp only [final, DS.upd, AS.seto]
        refine AWp.seq ?_
        refine AWp.seq ?_
        refine AWp.region ?_
        refine AOps.cons rfl rfl (q_load) ?_
        refine AOps.cons rfl rfl (q_move) ?_
        refine AOps.cons rfl rfl (q_call (0) (hc := (c_rat (hZ t n) n 5 hzo (by omega)))) ?_
        refine AOps.cons rfl rfl (q_assign) ?_
        refine AOps.nil ?_
        refine AWp.seq ?_
        refine AWp.region ?_
        refine AOps.cons rfl rfl (q_move) ?_
        refine AOps.cons rfl rfl (q_len) ?_
        refine AOps.dec rfl rfl (q_gtr) (fun h9_2 => ?_) (fun h9_2 => ?_)
        ·
         refine AOps.cons rfl rfl (q_move) ?_
         refine AOps.gcons rfl rfl rfl rfl rfl (q_fa) ?_
         refine AOps.gcons rfl rfl rfl rfl rfl (q_load) ?_
         refine AOps.gdec rfl rfl rfl rfl rfl (q_neq) (fun h9_6 => ?_) (fun h9_6 => ?_)
         ·
          refine AOps.cons rfl rfl (q_pick) ?_
          refine AOps.nil ?_
          refine AWp.cond_t rfl ?_
          refine AWp.seq ?_
          refine AWp.seq ?_
          refine AWp.region ?_
          have hne : ¬ ((atZ (hZ t n) n 5).length = 0 ∨ q.ty = 5) := fun e => e.elim (fun e => absurd h9_2 (by omega)) h9_6
          have hpos : 0 < (atZ (hZ t n) n 5).length := by omega
          refine AOps.cons rfl rfl (q_fa) ?_
          refine AOps.cons rfl rfl (q_load) ?_
          refine AOps.cons rfl rfl (q_len) ?_
          refine AOps.dec rfl rfl (q_geq) (fun h10_3 => ?_) (fun h10_3 => ?_)
          ·
           refine AOps.nil ?_
           refine AWp.cond_t rfl ?_
           refine AWp.seq ?_
           refine AWp.region ?_
           refine AOps.cons rfl rfl (q_build []) ?_
           refine AOps.cons rfl rfl (q_store) ?_
           refine AOps.cons rfl rfl (q_assign) ?_
           refine AOps.weak (Weak.full 0 [] (t := [(5, tf false), (4, .ptr 102 0 0)]) (hl := [(102, .box [i64 0, .fz 0 ([] : List Rr).length (cl rrc [])])])) ?_
           refine AOps.nil ?_
           refine AWp.ret ?_
           show Fin te Try.f17 _ _
           rw [hsub, truF_full hne (by omega)] at hE
           obtain ⟨x1, x2⟩ := tru_none (q := q) hE.symm
           rw [x1, x2]
           refine q_ret (0) [_, _] [_, _] ?_
           rfl
          ·
           refine AOps.nil ?_
           refine AWp.cond_f rfl ?_
           refine AWp.skip ?_
           refine AWp.seq ?_
           have hfull : ¬ acc.length = 8 := by omega
           refine AWp.draws [⟨0, [6], [400], some 64, _, none⟩,
               ⟨1, [64], [400], some 65, _, none⟩,
               ⟨2, [9], [], some 66, _, none⟩,
               ⟨3, [66], [], some 67, _, none⟩,
               ⟨4, [67], [], some 68, _, none⟩,
               ⟨5, [68], [1305], some 69, _, some (1305, _)⟩,
               ⟨6, [65, 69], [1305, 9000], some 70, _, some (9000, _)⟩,
               ⟨7, [6], [400], some 71, _, none⟩,
               ⟨8, [70, 71], [400, 9000], none, _, some (400, _)⟩]
            [⟨0, [6], [400], some 64, .any, none⟩,
                ⟨1, [64], [400], some 65, .any, none⟩,
                ⟨2, [9], [], some 66, .any, none⟩,
                ⟨3, [66], [], some 67, .any, none⟩,
                ⟨4, [67], [], some 68, .any, none⟩,
                ⟨5, [68], [1305], some 69, .any, some (1305, .box [])⟩,
                ⟨6, [65, 69], [1305, 9000], some 70, .any, some (9000, .box [])⟩,
                ⟨7, [6], [400], some 71, .any, none⟩,
                ⟨8, [70, 71], [400, 9000], none, .any, some (400, .box [])⟩]
            mixed_ok rfl (by kernel_rfl) ⟨DS.ok_over fun s0 => OpAt.go rfl rfl (q_fa),
                DS.ok_over fun s0 => OpAt.go rfl rfl (q_load),
                DS.ok_over fun s0 => OpAt.go rfl rfl (q_move),
                DS.ok_over fun s0 => OpAt.go rfl rfl (q_ix),
                DS.ok_over fun s0 => OpAt.go rfl rfl (q_load),
                DS.ok_over fun s0 => OpAt.go rfl rfl (q_bs 1305 rrc [((atZ (hZ t n) n 5).getD 0 default)] [(_, _)]),
                DS.ok_over fun s0 => OpAt.go rfl rfl (q_app),
                DS.ok_over fun s0 => OpAt.go rfl rfl (q_fa),
                DS.ok_over fun s0 => OpAt.go rfl rfl (q_store), trivial⟩ ?_
           dsimp only [final, DS.upd, AS.seto]
           refine AWp.seq ?_
           refine AWp.region ?_
           refine AOps.cons rfl rfl (q_move) ?_
           refine AOps.cons rfl rfl (q_ix) ?_
           refine AOps.cons rfl rfl (q_fa) ?_
           refine AOps.cons rfl rfl (q_load) ?_
           refine AOps.cons rfl rfl (by first | exact q_conv_zs | exact q_conv_ls) ?_
           refine AOps.cons rfl rfl (q_assign) ?_
           refine AOps.nil ?_
           refine AWp.exit ?_
           refine AWp.region ?_
           refine AOps.cons rfl rfl (q_add) ?_
           refine AOps.cons rfl rfl (q_move) ?_
           refine AOps.nil ?_
           have hx := at_can hcan hzm (.inr rfl) (getD_mem' (l := atZ (hZ t n) n 5) (i := 0) hpos)
           rw [hsub, truF_on hne hfull] at hE
           refine ⟨(acc ++ [((atZ (hZ t n) n 5).getD 0 default)], ((atZ (hZ t n) n 5).getD 0 default).da, v + 1), ?_, Back.mk' (HasT.cons (HasT.cons HasT.nil (h1 := by exact i64_eq (by rw [List.length_append]; simp)) )) (HasH.cons (HasH.cons HasH.nil)), ?_⟩
           ·
            try dsimp only
            exact ⟨by rw [List.length_append]; simp; omega, hx, by rw [← hE, List.length_append]; congr 1; simp only [List.length_cons, List.length_nil]; omega⟩
           ·
            try dsimp only
            rw [List.length_append]; simp; omega
         ·
          refine AOps.cons rfl rfl (q_pick) ?_
          refine AOps.nil ?_
          refine AWp.cond_f rfl ?_
          refine AWp.skip ?_
          refine AWp.seq ?_
          have hend : (atZ (hZ t n) n 5).length = 0 ∨ q.ty = 5 := .inr (Decidable.not_not.1 h9_6)
          refine AWp.draws [⟨0, [6], [400], some 77, _, none⟩,
              ⟨1, [77], [400], some 78, _, none⟩,
              ⟨2, [8], [809], some 79, _, none⟩,
              ⟨3, [7], [], some 80, _, none⟩,
              ⟨4, [3], [101], some 81, _, none⟩,
              ⟨5, [81], [101], some 82, _, none⟩,
              ⟨6, [79, 80, 82], [], some 83, _, none⟩,
              ⟨7, [78, 83], [9000], some 84, _, some (9000, _)⟩,
              ⟨8, [6], [400], some 85, _, none⟩,
              ⟨9, [84, 85], [400, 9000], none, _, some (400, _)⟩]
           [⟨0, [6], [400], some 77, .any, none⟩,
               ⟨1, [77], [400], some 78, .any, none⟩,
               ⟨2, [8], [809], some 79, .any, none⟩,
               ⟨3, [7], [], some 80, .any, none⟩,
               ⟨4, [3], [101], some 81, .any, none⟩,
               ⟨5, [81], [101], some 82, .any, none⟩,
               ⟨6, [79, 80, 82], [], some 83, .any, none⟩,
               ⟨7, [78, 83], [9000], some 84, .any, some (9000, .box [])⟩,
               ⟨8, [6], [400], some 85, .any, none⟩,
               ⟨9, [84, 85], [400, 9000], none, .any, some (400, .box [])⟩]
           mixed_ok rfl (by kernel_rfl) ⟨DS.ok_over fun s0 => OpAt.go rfl rfl (q_fa),
               DS.ok_over fun s0 => OpAt.go rfl rfl (q_load),
               DS.ok_over fun s0 => OpAt.go rfl rfl (q_load),
               DS.ok_over fun s0 => OpAt.go rfl rfl (q_move),
               DS.ok_over fun s0 => OpAt.go rfl rfl (q_fa),
               DS.ok_over fun s0 => OpAt.go rfl rfl (q_load),
               DS.ok_over fun s0 => OpAt.go rfl rfl (q_call (0) (hc := (c_rat (hZ t n) n q.ty hzo (by omega)))),
               DS.ok_over fun s0 => OpAt.go rfl rfl (q_app),
               DS.ok_over fun s0 => OpAt.go rfl rfl (q_fa),
               DS.ok_over fun s0 => OpAt.go rfl rfl (q_store), trivial⟩ ?_
          dsimp only [final, DS.upd, AS.seto]
          refine AWp.seq ?_
          refine AWp.seq ?_
          refine AWp.region ?_
          refine AOps.cons rfl rfl (q_load) ?_
          refine AOps.cons rfl rfl (q_move) ?_
          refine AOps.bool rfl rfl (q_call (0) (hc := (c_rthere (hZ t n) n hzo (by omega)))) (fun h15_2 => ?_) (fun h15_2 => ?_)
          ·
           refine AOps.cons rfl rfl (q_not) ?_
           refine AOps.nil ?_
           refine AWp.cond_f rfl ?_
           refine AWp.skip ?_
           refine AWp.seq ?_
           refine AWp.region ?_
           refine AOps.weak (Weak.full 0 [] (t := [(4, .ptr 102 0 0), (6, .ptr 400 0 0)]) (hl := [(102, .box [.v (.int .i64 0), .v (.slice none 0 0)]), (400, .box [i64 0, .fz 0 (acc ++ atZ (hZ t n) n q.ty).length (cl rrc (acc ++ atZ (hZ t n) n q.ty))])])) ?_
           refine AOps.cons rfl rfl (q_load) ?_
           refine AOps.cons rfl rfl (q_store) ?_
           refine AOps.cons rfl rfl (q_assign) ?_
           refine AOps.nil ?_
           refine AWp.ret ?_
           show Fin te Try.f17 _ _
           rw [hsub, truF_end hend, if_pos h15_2] at hE
           obtain ⟨x1, x2⟩ := tru_some (q := q) hE.symm
           rw [x1, x2]
           refine q_ret (0) [_, _] [_, _] ?_
           rfl
          ·
           refine AOps.cons rfl rfl (q_not) ?_
           refine AOps.nil ?_
           refine AWp.cond_t rfl ?_
           refine AWp.region ?_
           refine AOps.cons rfl rfl (q_fa) ?_
           refine AOps.cons rfl rfl (q_store) ?_
           refine AOps.nil ?_
           refine AWp.seq ?_
           refine AWp.region ?_
           refine AOps.weak (Weak.full 0 [] (t := [(4, .ptr 102 0 0), (6, .ptr 400 0 0)]) (hl := [(102, .box [.v (.int .i64 0), .v (.slice none 0 0)]), (400, .box [i64 3, .fz 0 (acc ++ atZ (hZ t n) n q.ty).length (cl rrc (acc ++ atZ (hZ t n) n q.ty))])])) ?_
           refine AOps.cons rfl rfl (q_load) ?_
           refine AOps.cons rfl rfl (q_store) ?_
           refine AOps.cons rfl rfl (q_assign) ?_
           refine AOps.nil ?_
           refine AWp.ret ?_
           show Fin te Try.f17 _ _
           rw [hsub, truF_end hend, if_neg (by rw [h15_2]; decide)] at hE
           obtain ⟨x1, x2⟩ := tru_some (q := q) hE.symm
           rw [x1, x2]
           refine q_ret (0) [_, _] [_, _] ?_
           rfl
        ·
         refine AOps.cons rfl rfl (q_move) ?_
         refine AOps.gskip rfl rfl rfl rfl rfl rfl rfl rfl ?_
         refine AOps.gskip rfl rfl rfl rfl rfl rfl rfl rfl ?_
         refine AOps.gskip rfl rfl rfl rfl rfl rfl rfl rfl ?_
         refine AOps.cons rfl rfl (q_pick) ?_
         refine AOps.nil ?_
         refine AWp.cond_f rfl ?_
         refine AWp.skip ?_
         refine AWp.seq ?_
         have hend : (atZ (hZ t n) n 5).length = 0 ∨ q.ty = 5 := .inl (by omega)
         refine AWp.draws [⟨0, [6], [400], some 77, _, none⟩,
             ⟨1, [77], [400], some 78, _, none⟩,
             ⟨2, [8], [809], some 79, _, none⟩,
             ⟨3, [7], [], some 80, _, none⟩,
             ⟨4, [3], [101], some 81, _, none⟩,
             ⟨5, [81], [101], some 82, _, none⟩,
             ⟨6, [79, 80, 82], [], some 83, _, none⟩,
             ⟨7, [78, 83], [9000], some 84, _, some (9000, _)⟩,
             ⟨8, [6], [400], some 85, _, none⟩,
             ⟨9, [84, 85], [400, 9000], none, _, some (400, _)⟩]
          [⟨0, [6], [400], some 77, .any, none⟩,
              ⟨1, [77], [400], some 78, .any, none⟩,
              ⟨2, [8], [809], some 79, .any, none⟩,
              ⟨3, [7], [], some 80, .any, none⟩,
              ⟨4, [3], [101], some 81, .any, none⟩,
              ⟨5, [81], [101], some 82, .any, none⟩,
              ⟨6, [79, 80, 82], [], some 83, .any, none⟩,
              ⟨7, [78, 83], [9000], some 84, .any, some (9000, .box [])⟩,
              ⟨8, [6], [400], some 85, .any, none⟩,
              ⟨9, [84, 85], [400, 9000], none, .any, some (400, .box [])⟩]
          mixed_ok rfl (by kernel_rfl) ⟨DS.ok_over fun s0 => OpAt.go rfl rfl (q_fa),
              DS.ok_over fun s0 => OpAt.go rfl rfl (q_load),
              DS.ok_over fun s0 => OpAt.go rfl rfl (q_load),
              DS.ok_over fun s0 => OpAt.go rfl rfl (q_move),
              DS.ok_over fun s0 => OpAt.go rfl rfl (q_fa),
              DS.ok_over fun s0 => OpAt.go rfl rfl (q_load),
              DS.ok_over fun s0 => OpAt.go rfl rfl (q_call (0) (hc := (c_rat (hZ t n) n q.ty hzo (by omega)))),
              DS.ok_over fun s0 => OpAt.go rfl rfl (q_app),
              DS.ok_over fun s0 => OpAt.go rfl rfl (q_fa),
              DS.ok_over fun s0 => OpAt.go rfl rfl (q_store), trivial⟩ ?_
         dsimp only [final, DS.upd, AS.seto]
         refine AWp.seq ?_
         refine AWp.seq ?_
         refine AWp.region ?_
         refine AOps.cons rfl rfl (q_load) ?_
         refine AOps.cons rfl rfl (q_move) ?_
         refine AOps.bool rfl rfl (q_call (0) (hc := (c_rthere (hZ t n) n hzo (by omega)))) (fun h15_2 => ?_) (fun h15_2 => ?_)
         ·
          refine AOps.cons rfl rfl (q_not) ?_
          refine AOps.nil ?_
          refine AWp.cond_f rfl ?_
          refine AWp.skip ?_
          refine AWp.seq ?_
          refine AWp.region ?_
          refine AOps.weak (Weak.full 0 [] (t := [(4, .ptr 102 0 0), (6, .ptr 400 0 0)]) (hl := [(102, .box [.v (.int .i64 0), .v (.slice none 0 0)]), (400, .box [i64 0, .fz 0 (acc ++ atZ (hZ t n) n q.ty).length (cl rrc (acc ++ atZ (hZ t n) n q.ty))])])) ?_
          refine AOps.cons rfl rfl (q_load) ?_
          refine AOps.cons rfl rfl (q_store) ?_
          refine AOps.cons rfl rfl (q_assign) ?_
          refine AOps.nil ?_
          refine AWp.ret ?_
          show Fin te Try.f17 _ _
          rw [hsub, truF_end hend, if_pos h15_2] at hE
          obtain ⟨x1, x2⟩ := tru_some (q := q) hE.symm
          rw [x1, x2]
          refine q_ret (0) [_, _] [_, _] ?_
          rfl
         ·
          refine AOps.cons rfl rfl (q_not) ?_
          refine AOps.nil ?_
          refine AWp.cond_t rfl ?_
          refine AWp.region ?_
          refine AOps.cons rfl rfl (q_fa) ?_
          refine AOps.cons rfl rfl (q_store) ?_
          refine AOps.nil ?_
          refine AWp.seq ?_
          refine AWp.region ?_
          refine AOps.weak (Weak.full 0 [] (t := [(4, .ptr 102 0 0), (6, .ptr 400 0 0)]) (hl := [(102, .box [.v (.int .i64 0), .v (.slice none 0 0)]), (400, .box [i64 3, .fz 0 (acc ++ atZ (hZ t n) n q.ty).length (cl rrc (acc ++ atZ (hZ t n) n q.ty))])])) ?_
          refine AOps.cons rfl rfl (q_load) ?_
          refine AOps.cons rfl rfl (q_store) ?_
          refine AOps.cons rfl rfl (q_assign) ?_
          refine AOps.nil ?_
          refine AWp.ret ?_
          show Fin te Try.f17 _ _
          rw [hsub, truF_end hend, if_neg (by rw [h15_2]; decide)] at hE
          obtain ⟨x1, x2⟩ := tru_some (q := q) hE.symm
          rw [x1, x2]
          refine q_ret (0) [_, _] [_, _] ?_
          rfl
       ·
        exfalso; omega
  ·
   refine AOps.gcons rfl rfl rfl rfl rfl (q_not) ?_
   refine AOps.cons rfl rfl (q_pick) ?_
   refine AOps.cons rfl rfl (q_move) ?_
   refine AOps.gskip rfl rfl rfl rfl rfl rfl rfl rfl ?_
   refine AOps.gskip rfl rfl rfl rfl rfl rfl rfl rfl ?_
   refine AOps.gskip rfl rfl rfl rfl rfl rfl rfl rfl ?_
   refine AOps.cons rfl rfl (q_pick) ?_
   refine AOps.cons rfl rfl (q_move) ?_
   refine AOps.gskip rfl rfl rfl rfl rfl rfl rfl rfl ?_
   refine AOps.gskip rfl rfl rfl rfl rfl rfl rfl rfl ?_
   refine AOps.gskip rfl rfl rfl rfl rfl rfl rfl rfl ?_
   refine AOps.cons rfl rfl (q_pick) ?_
   refine AOps.cons rfl rfl (q_move) ?_
   refine AOps.gskip rfl rfl rfl rfl rfl rfl rfl rfl ?_
   refine AOps.gskip rfl rfl rfl rfl rfl rfl rfl rfl ?_
   refine AOps.gskip rfl rfl rfl rfl rfl rfl rfl rfl ?_
   refine AOps.cons rfl rfl (q_pick) ?_
   refine AOps.nil ?_
   refine AWp.cond_t rfl ?_
   refine AWp.seq ?_
   refine AWp.region ?_
   refine AOps.cons rfl rfl (q_build []) ?_
   refine AOps.cons rfl rfl (q_store) ?_
   refine AOps.cons rfl rfl (q_assign) ?_
   refine AOps.weak (Weak.full 0 [] (t := [(5, tf false), (4, .ptr 102 0 0)]) (hl := [(102, .box [i64 0, .fz 0 ([] : List Rr).length (cl rrc [])])])) ?_
   refine AOps.nil ?_
   refine AWp.ret ?_
   show Fin te Try.f17 _ _
   obtain ⟨x1, x2⟩ := tru_none (q := q) (tru_no2 h1_6)
   rw [x1, x2]
   refine q_ret (0) [_, _] [_, _] ?_
   rfl
 ·
  refine AOps.cons rfl rfl (q_not) ?_
  refine AOps.cons rfl rfl (q_move) ?_
  refine AOps.gskip rfl rfl rfl rfl rfl rfl rfl rfl ?_
  refine AOps.gskip rfl rfl rfl rfl rfl rfl rfl rfl ?_
  refine AOps.gskip rfl rfl rfl rfl rfl rfl rfl rfl ?_
  refine AOps.gskip rfl rfl rfl rfl rfl rfl rfl rfl ?_
  refine AOps.cons rfl rfl (q_pick) ?_
  refine AOps.cons rfl rfl (q_move) ?_
  refine AOps.gskip rfl rfl rfl rfl rfl rfl rfl rfl ?_
  refine AOps.gskip rfl rfl rfl rfl rfl rfl rfl rfl ?_
  refine AOps.gskip rfl rfl rfl rfl rfl rfl rfl rfl ?_
  refine AOps.cons rfl rfl (q_pick) ?_
  refine AOps.cons rfl rfl (q_move) ?_
  refine AOps.gskip rfl rfl rfl rfl rfl rfl rfl rfl ?_
  refine AOps.gskip rfl rfl rfl rfl rfl rfl rfl rfl ?_
  refine AOps.gskip rfl rfl rfl rfl rfl rfl rfl rfl ?_
  refine AOps.cons rfl rfl (q_pick) ?_
  refine AOps.cons rfl rfl (q_move) ?_
  refine AOps.gskip rfl rfl rfl rfl rfl rfl rfl rfl ?_
  refine AOps.gskip rfl rfl rfl rfl rfl rfl rfl rfl ?_
  refine AOps.gskip rfl rfl rfl rfl rfl rfl rfl rfl ?_
  refine AOps.cons rfl rfl (q_pick) ?_
  refine AOps.nil ?_
  refine AWp.cond_t rfl ?_
  refine AWp.seq ?_
  refine AWp.region ?_
  refine AOps.cons rfl rfl (q_build []) ?_
  refine AOps.cons rfl rfl (q_store) ?_
  refine AOps.cons rfl rfl (q_assign) ?_
  refine AOps.weak (Weak.full 0 [] (t := [(5, tf false), (4, .ptr 102 0 0)]) (hl := [(102, .box [i64 0, .fz 0 ([] : List Rr).length (cl rrc [])])])) ?_
  refine AOps.nil ?_
  refine AWp.ret ?_
  show Fin te Try.f17 _ _
  obtain ⟨x1, x2⟩ := tru_none (q := q) (tru_no1 h1_1)
  rw [x1, x2]
  refine q_ret (0) [_, _] [_, _] ?_
  rfl
end Go.Proofs.Ytokccoloholgaaa.Fw


set_option linter.unusedVariables false
set_option linter.unusedSimpArgs false
set_option linter.unusedSectionVars false
namespace Go.Proofs.Ytokccoloholgaaa.Fw
open Go.RowKit
section rules
variable {n : Nat} {s : AS} {d : Option Tmp} {Q : APost}
theorem AOps.bsconv (id : Nat) (xs : List UInt8) (vals : List (Nat × AV)) {ops : Array Oper} {i j : Nat} {rest : List Nat} {o1 o2 : Oper} {t e : TypeId} {m : Nat} {parts : Array (Nat × Operand)} {ti tj : TI} {cs : List AV} {d1 : Tmp} {d2 : Option Tmp}
    (h1 : ops[i]? = some o1) (g1 : o1.guard = none) (h2 : ops[j]? = some o2) (g2 : o2.guard = none)
    (hr : AOps Try.prog n ops Q rest (((s.seth id (some (.row (cl bc xs) 1 0))).put (some d1) (.sl id 0 0 xs.length 1)).put d2 (.sl id 0 0 xs.length 1)))
    (ho : o1.op = .buildSlice t m parts := by exact rfl) (hv : EvL s parts.toList vals := by repeat' (first | exact trivial | refine ⟨rfl, ?_, ?_⟩ | (conv => lhs; whnf))) (ht : te.get t = some ti := by exact rfl) (hk : ti.k = .slice e := by exact rfl) (he : te.get e = some tj := by exact rfl) (hu8 : tj.k = .int .u8 := by exact rfl)
    (hsz : tj.size = 1 := by exact rfl) (hid : s.h id = none := by exact rfl) (hcs : fillAV (arrPlace tj.size) (repZ tj.zero m) vals = some cs := by exact rfl) (hc' : cs = cl bc xs := by exact rfl)
    (hz : Nat.beq tj.zero.length tj.size = true := by exact rfl) (hsm : Nat.ble (m * tj.size) 1000 = true := by exact rfl) (hm : m = xs.length := by exact rfl) (hd1 : o1.dst = some d1 := by conv => lhs; whnf) (hdn : Nat.blt d1 n = true := by exact rfl)
    (ho2 : o2.op = .convert t t (.tmp d1) := by exact rfl) (hd2 : o2.dst = d2 := by conv => lhs; whnf) (hdn2 : d2.all (Nat.blt · n) = true := by exact rfl) : AOps Try.prog n ops Q (i :: j :: rest) s := by
  subst hm; subst hd2
  intro Λ w φ a hs QQ hQ
  have hu := (te_ok.tells ht).slice hk
  obtain ⟨z, z1, z2, _⟩ := (te_ok.tells he).run_zero w
  obtain ⟨q1, q2⟩ := parts_rep hs parts
  rw [hv.eq] at q1 q2
  have hzl := Nat.eq_of_beq_eq_true hz
  have hle := Nat.le_of_ble_eq_true hsm
  have hsmall : ¬ (xs.length * tj.size > 2 ^ 24) := by omega
  have hzero : ∃ zc : Array Value, ((if xs.length * tj.size = 0 then pure #[] else do pure (← zeroValue e).cells : Sem (Array Value)).run Try.prog w = .ok zc w) ∧ ListRep w φ Λ ((Array.range (xs.length * tj.size)).map (zc[· % zc.size]!)) (repZ tj.zero xs.length) := by
    by_cases h0 : xs.length * tj.size = 0
    · refine ⟨#[], by rw [if_pos h0]; rfl, ?_⟩
      have hn : repZ tj.zero xs.length = [] := List.eq_nil_of_length_eq_zero (by rw [repZ_length, hzl, h0])
      rw [hn, h0]
      exact ⟨by simp, fun j c hj => by simp at hj⟩
    · refine ⟨z.cells, by rw [if_neg h0]; simp [z1], ?_⟩
      exact zeros_many z2 xs.length _ (by rw [hzl])
  obtain ⟨zc, zc1, zc2⟩ := hzero
  obtain ⟨arr', r1, r2, r3⟩ := fill_rep zc2 q1 q2 hcs
  have hrun : (Instr.buildSlice t xs.length (parts.map fun (i, x) => (i, a.eval x))).run Try.prog w = .ok (.slice (some ⟨w.heap.size, 0, none⟩) xs.length xs.length) (w.alloc (.cells arr' e)) := by
    have r1' : Instr.fill (fun i => some (i * tj.size, tj.size)) ((Array.range (xs.length * tj.size)).map (zc[· % zc.size]!)) (parts.map fun (i, x) => (i, a.eval x)).toList = some arr' := r1
    by_cases h0 : xs.length * tj.size = 0
    · rw [if_pos h0] at zc1
      simp only [Sem.run_pure, Result.ok.injEq, and_true] at zc1
      subst zc1
      simp only [Instr.buildSlice, Sem.run_bind, run_underlying hu, Result.andThen_ok, (te_ok.tells he).run_sizeOf, hsmall, if_false]
      rw [if_pos h0]
      simp only [Sem.run_bind, Sem.run_pure, Result.andThen_ok, r1', newRow, run_newObj]
      rfl
    · rw [if_neg h0] at zc1
      simp only [Sem.run_bind, z1, Result.andThen_ok, Sem.run_pure, Result.ok.injEq, and_true] at zc1
      subst zc1
      simp only [Instr.buildSlice, Sem.run_bind, run_underlying hu, Result.andThen_ok, (te_ok.tells he).run_sizeOf, hsmall, if_false]
      rw [if_neg h0]
      simp only [Sem.run_bind, Sem.run_pure, Result.andThen_ok, z1, r1', newRow, run_newObj]
      rfl
  have hcl : cs.length = xs.length := by rw [hc', cl_length (f := bc) (e := 1) (fun _ => rfl), Nat.mul_one]
  have hal : arr'.size = cs.length := r2.symm ▸ rfl
  obtain ⟨W, hW⟩ : ∃ W, W = w.alloc (.cells arr' e (arr'.size, arr'.size + 1)) := ⟨_, rfl⟩
  have hconv := Go.Lib.run_convert_bytes_const (P := Try.prog) w t e arr' xs.length xs.length hu ((te_ok.tells he).int hu8)
  rw [← hW] at hconv
  have hc : Chg w φ Λ s.h id ⟨some (w.heap.size, 0), 0⟩ W := hW ▸ Chg.alloc hs.hs hid (.cells arr' e (arr'.size, arr'.size + 1)) 0 0
  have hnew : W.heap[w.heap.size]? = some (.cells arr' e (arr'.size, arr'.size + 1)) := by rw [hW]; exact heap_alloc_new w _
  have hob : ObjRep W (upd φ id (some ⟨some (w.heap.size, 0), 0⟩)) Λ (.row (cl bc xs) 1 0) ⟨some (w.heap.size, 0), 0⟩ :=
    ⟨rfl, .inr ⟨w.heap.size, 0, arr', e, _, _, rfl, hnew, .inl (Nat.le_refl _), by rw [← hc', hal]; omega, fun j c hj => by
      rw [← hc'] at hj
      obtain ⟨y, y1, y2⟩ := r3 j c hj
      exact ⟨y, y1, hc.rep y2⟩⟩⟩
  have hs1 : Sim n W (upd φ id (some ⟨some (w.heap.size, 0), 0⟩)) Λ (s.seth id (some (.row (cl bc xs) 1 0))) a := ⟨hs.defs, hs.size, fun i => hc.rep (hs.tmps i), hc.hsim hob⟩
  have hv1 : Rep W (upd φ id (some ⟨some (w.heap.size, 0), 0⟩)) Λ (.sl id 0 0 xs.length 1) (.slice (some ⟨w.heap.size, 0, none⟩) xs.length xs.length) :=
    Rep.sl (off := 0) (upd_same _ _ _) rfl rfl hnew (by omega) (Nat.le_refl _)
  have hs2 := (hs1.put (some d1) (by simpa using hdn) hv1).put o2.dst hdn2 hv1
  have hev : (a.put (some d1) (.slice (some ⟨w.heap.size, 0, none⟩) xs.length xs.length)).eval (.tmp d1) = .slice (some ⟨w.heap.size, 0, none⟩) xs.length xs.length := by
    have hd' : d1 < n := Nat.blt_eq.mp hdn
    simp [Act.put, Act.eval, Array.getD, hs.size, hd']
  simp only [wpOps, h1, h2, Region.wanted, g1, g2, if_true]
  refine .inl ?_
  unfold Oper.wp
  rw [show (execOp a.eval o1).run Try.prog w = .ok (.value (.slice (some ⟨w.heap.size, 0, none⟩) xs.length xs.length)) (w.alloc (.cells arr' e)) by simp [execOp, ho, hrun]]
  refine .inl ?_
  rw [hd1]
  rw [show (execOp (a.put (some d1) (.slice (some ⟨w.heap.size, 0, none⟩) xs.length xs.length)).eval o2).run Try.prog (w.alloc (.cells arr' e)) = .ok (.value (.slice (some ⟨w.heap.size, 0, none⟩) xs.length xs.length)) W by
    simp only [execOp, ho2, hev, Sem.run_bind, hconv, Result.andThen_ok, Sem.run_pure]]
  exact hr Λ W _ _ hs2 QQ fun ae s3 w3 φ3 a3 q3 hs3 g3 => hQ ae s3 w3 φ3 a3 q3 hs3 (hc.goes.trans g3)
end rules
end Go.Proofs.Ytokccoloholgaaa.Fw


set_option linter.unusedVariables false
set_option linter.unusedSimpArgs false
namespace Go.Proofs.Ytokccoloholgaaa.Fw
open Go.RowKit
def soaS : List UInt8 := List.replicate 22 0
def smR1 : Rr := ⟨[0], 6, 1, 100, soaS⟩
def smR2 : Rr := ⟨[0], 2, 1, 100, [1, 97, 0]⟩
def smR3 : Rr := ⟨[1, 97, 0], 1, 1, 100, [0, 0, 0, 1]⟩
def smT : Tr := ⟨[⟨[0], [smR1, smR2, smR3]⟩], [⟨1, [0]⟩]⟩
theorem smT_ok : TrOk smT := by
  refine ⟨by decide, fun z hz => ?_, by decide, fun s hs => ?_⟩
  · simp only [smT, List.mem_singleton] at hz
    subst hz
    refine ⟨by decide, ⟨by decide, fun r hr => ?_⟩, fun r hr => ?_⟩
    · simp only [List.mem_cons, List.not_mem_nil, or_false] at hr
      rcases hr with rfl | rfl | rfl <;> decide
    · simp only [List.mem_cons, List.not_mem_nil, or_false] at hr
      rcases hr with rfl | rfl | rfl <;> decide
  · simp only [smT, List.mem_singleton] at hs
    subst hs; decide
theorem smT_can : canT smT = true := by decide +kernel
set_option maxRecDepth 20000 in
set_option maxHeartbeats 2000000 in
theorem c_ciceronelaw18_Small  : AC Try.prog 15 [] emp (Ret (.agg (trC smT))) := by
 refine AC.intro te_ok (fn := Try.f15) ⟨Try.func15, rfl, rfl⟩ (Nat.le_of_ble_eq_true rfl) ?_
 refine AWp.seq ?_
 refine AWp.region ?_
 refine AOps.cons rfl rfl (q_alloc 100) ?_
 refine AOps.nil ?_
 refine AWp.seq ?_
 refine AWp.region ?_
 refine AOps.cons rfl rfl (q_make 200 bc 0 20 (hb := by simp)) ?_
 refine AOps.cons rfl rfl (q_conv_ls) ?_
 refine AOps.cons rfl rfl (q_sadd (h := by simp)) ?_
 refine AOps.cons rfl rfl (q_assign) ?_
 refine AOps.nil ?_
 refine AWp.seq ?_
 refine AWp.region ?_
 refine AOps.weak (Weak.full 0 [] (t := [(0, .ptr 100 0 0), (1, str soaS)]) (hl := [(100, .box [.v (.slice none 0 0), .v (.slice none 0 0)])])) ?_
 refine AOps.cons rfl rfl (q_move) ?_
 refine AOps.cons rfl rfl (q_conv_sl 301) ?_
 refine AOps.weak (Weak.full 0 [] (t := [(0, .ptr 100 0 0), (6, .fz 0 soaS.length (cl bc soaS))]) (hl := [(100, .box [.v (.slice none 0 0), .v (.slice none 0 0)])])) ?_
 refine AOps.cons rfl rfl (q_build [(_, _), (_, _), (_, _), (_, _), (_, _)]) ?_
 refine AOps.bsconv 303 [1, 97, 0] [(_, _), (_, _), (_, _)] rfl rfl rfl rfl ?_
 refine AOps.weak (Weak.full 0 [] (t := [(0, .ptr 100 0 0), (7, .agg (rrc smR1)), (9, .fz 0 ([1, 97, 0] : List UInt8).length (cl bc [1, 97, 0]))]) (hl := [(100, .box [.v (.slice none 0 0), .v (.slice none 0 0)])])) ?_
 refine AOps.cons rfl rfl (q_build [(_, _), (_, _), (_, _), (_, _), (_, _)]) ?_
 refine AOps.cons rfl rfl (q_bs 306 bc [0, 0, 0, 1] [(_, _), (_, _), (_, _), (_, _)]) ?_
 refine AOps.weak (Weak.full 0 [] (t := [(0, .ptr 100 0 0), (7, .agg (rrc smR1)), (10, .agg (rrc smR2)), (11, .fz 0 ([0, 0, 0, 1] : List UInt8).length (cl bc [0, 0, 0, 1]))]) (hl := [(100, .box [.v (.slice none 0 0), .v (.slice none 0 0)])])) ?_
 refine AOps.cons rfl rfl (q_build [(_, _), (_, _), (_, _), (_, _), (_, _)]) ?_
 refine AOps.cons rfl rfl (q_bs 308 rrc [smR1, smR2, smR3] [(_, _), (_, _), (_, _)]) ?_
 refine AOps.weak (Weak.full 0 [] (t := [(0, .ptr 100 0 0), (13, .fz 0 [smR1, smR2, smR3].length (cl rrc [smR1, smR2, smR3]))]) (hl := [(100, .box [.v (.slice none 0 0), .v (.slice none 0 0)])])) ?_
 refine AOps.cons rfl rfl (q_build [(_, _), (_, _)]) ?_
 refine AOps.cons rfl rfl (q_bs 310 zoC [⟨[0], [smR1, smR2, smR3]⟩] [(_, _)]) ?_
 refine AOps.weak (Weak.full 0 [] (t := [(0, .ptr 100 0 0), (15, .fz 0 smT.zs.length (cl zoC smT.zs))]) (hl := [(100, .box [.v (.slice none 0 0), .v (.slice none 0 0)])])) ?_
 refine AOps.cons rfl rfl (q_bs 311 ic [0] [(_, _)]) ?_
 refine AOps.weak (Weak.full 0 [] (t := [(0, .ptr 100 0 0), (15, .fz 0 smT.zs.length (cl zoC smT.zs)), (16, .fz 0 ([0] : List Int).length (cl ic [0]))]) (hl := [(100, .box [.v (.slice none 0 0), .v (.slice none 0 0)])])) ?_
 refine AOps.cons rfl rfl (q_build [(_, _), (_, _)]) ?_
 refine AOps.cons rfl rfl (q_bs 313 svC [⟨1, [0]⟩] [(_, _)]) ?_
 refine AOps.weak (Weak.full 0 [] (t := [(0, .ptr 100 0 0), (15, .fz 0 smT.zs.length (cl zoC smT.zs)), (18, .fz 0 smT.ss.length (cl svC smT.ss))]) (hl := [(100, .box [.v (.slice none 0 0), .v (.slice none 0 0)])])) ?_
 refine AOps.cons rfl rfl (q_build [(_, _), (_, _)]) ?_
 refine AOps.cons rfl rfl (q_store) ?_
 refine AOps.nil ?_
 refine AWp.ret ?_
 show Fin te Try.f15 _ _
 refine q_ret (0) [_] [_] ?_
 rfl
end Go.Proofs.Ytokccoloholgaaa.Fw


set_option linter.unusedVariables false
set_option linter.unusedSimpArgs false
namespace Go.Proofs.Ytokccoloholgaaa.Fw
open Go.RowKit
def MetD (l : List Rr) (i : Nat) (m : List (List UInt8 × Bool)) : Prop := ∀ a, (mget m a).getD false = decide (a ∈ (l.take i).map fun r => lowN r.da)
theorem MetD.start (l : List Rr) : MetD l 0 [] := fun a => by simp [mget]
theorem MetD.step {l : List Rr} {i : Nat} {m : List (List UInt8 × Bool)} (h : MetD l i m) (hi : i < l.length) : MetD l (i + 1) (mput m (lowN (l.getD i default).da) true) := fun a => by
  rw [mget_put, map_step hi]
  obtain ⟨x, hx⟩ : ∃ x, x = lowN (l.getD i default).da := ⟨_, rfl⟩
  rw [← hx]
  by_cases e : x = a
  · rw [if_pos e]; simp [e]
  · rw [if_neg e, h a]
    have e2 : ¬ a = x := fun k => e k.symm
    simp [e2]
theorem MetD.same {l : List Rr} {i : Nat} {m : List (List UInt8 × Bool)} (h : MetD l i m) (hi : i < l.length) (hm : (mget m (lowN (l.getD i default).da)).getD false = true) : MetD l (i + 1) m := fun a => by
  rw [map_step hi, h a]
  rw [h] at hm
  have hm2 := of_decide_eq_true hm
  refine decide_eq_decide.2 ⟨fun q => List.mem_append.2 (.inl q), fun q => ?_⟩
  rcases List.mem_append.1 q with q | q
  · exact q
  · rw [List.mem_singleton] at q; rw [q]; exact hm2
end Go.Proofs.Ytokccoloholgaaa.Fw


set_option linter.unusedVariables false
set_option linter.unusedSimpArgs false
namespace Go.Proofs.Ytokccoloholgaaa.Fw
open Go.RowKit
end Go.Proofs.Ytokccoloholgaaa.Fw


set_option linter.unusedVariables false
set_option linter.unusedSimpArgs false
namespace Go.Proofs.Ytokccoloholgaaa.Fw
open Go.RowKit
section
variable {d : Nat} {s n b u : TypeId} {is in' ib iu : TI}
theorem has_rrN {t y : TypeId} {it iy : TI} {cs : List AV} (h : Has te (d + 2) t cs) (ht : te.get t = some it) (kt : it.k = .struct [(0, s), (1, n), (2, n), (3, n), (4, y)]) (hs : te.get s = some is) (ks : is.k = .str) (hn : te.get n = some in') (kn : in'.k = .int .i64)
    (hy : te.get y = some iy) (ky : iy.k = .slice u) (hu : te.get u = some iu) (ku : iu.k = .int .u8) (bu : iu.bytes = 1) : ∃ x : Rr, cs = rrc x ∧ (x.da.length ≤ 140737488351232 ∧ x.nm.length ≤ 140737488351232) := by
  obtain ⟨_, w, rfl, q, hh⟩ := has_struct h ht kt
  obtain ⟨a1, rfl, bn⟩ := has_str q hs ks
  obtain ⟨_, w, rfl, q, hh⟩ := hh
  obtain ⟨a2, rfl, _⟩ := has_int q hn kn
  obtain ⟨_, w, rfl, q, hh⟩ := hh
  obtain ⟨a3, rfl, _⟩ := has_int q hn kn
  obtain ⟨_, w, rfl, q, hh⟩ := hh
  obtain ⟨a4, rfl, _⟩ := has_int q hn kn
  obtain ⟨_, w, rfl, q, hh⟩ := hh
  obtain ⟨a5, rfl, h5⟩ := has_bytes q hy ky hu ku bu
  cases hh
  exact ⟨⟨a1, a2, a3, a4, a5⟩, rfl, h5, bn⟩
theorem has_quN {t : TypeId} {it : TI} {cs : List AV} (h : Has te (d + 1) t cs) (ht : te.get t = some it) (kt : it.k = .struct [(0, s), (1, n), (2, n)]) (hs : te.get s = some is) (ks : is.k = .str) (hn : te.get n = some in') (kn : in'.k = .int .i64) : ∃ x : Qu, cs = quc x ∧ x.nm.length ≤ 140737488351232 := by
  obtain ⟨_, w, rfl, q, hh⟩ := has_struct h ht kt
  obtain ⟨a1, rfl, bn⟩ := has_str q hs ks
  obtain ⟨_, w, rfl, q, hh⟩ := hh
  obtain ⟨a2, rfl, _⟩ := has_int q hn kn
  obtain ⟨_, w, rfl, q, hh⟩ := hh
  obtain ⟨a3, rfl, _⟩ := has_int q hn kn
  cases hh
  exact ⟨⟨a1, a2, a3⟩, rfl, bn⟩
theorem has_rrsN {t r y : TypeId} {it ir iy : TI} {cs : List AV} (h : Has te (d + 3) t cs) (ht : te.get t = some it) (kt : it.k = .slice r) (hr : te.get r = some ir) (kr : ir.k = .struct [(0, s), (1, n), (2, n), (3, n), (4, y)]) (br : ir.bytes = 64)
    (hs : te.get s = some is) (ks : is.k = .str) (hn : te.get n = some in') (kn : in'.k = .int .i64) (hy : te.get y = some iy) (ky : iy.k = .slice u) (hu : te.get u = some iu) (ku : iu.k = .int .u8) (bu : iu.bytes = 1) : ∃ l : List Rr, cs = [.fz 0 l.length (cl rrc l)] ∧ (RrsOk l ∧ ∀ x ∈ l, x.nm.length ≤ 140737488351232) := by
  obtain ⟨l, h1, h2, h3⟩ := has_sl (f := rrc) (q := fun x => x.da.length ≤ 140737488351232 ∧ x.nm.length ≤ 140737488351232) h ht kt hr fun c hc => has_rrN hc hr kr hs ks hn kn hy ky hu ku bu
  exact ⟨l, h1, ⟨by rw [br] at h2; exact h2, fun x hx => (h3 x hx).1⟩, fun x hx => (h3 x hx).2⟩
end
section
variable {d : Nat} {s n u : TypeId} {is in' iu : TI}
theorem has_zo {t rl r y : TypeId} {it irl ir iy : TI} {cs : List AV} (h : Has te (d + 4) t cs) (ht : te.get t = some it) (kt : it.k = .struct [(0, s), (1, rl)]) (hrl : te.get rl = some irl) (krl : irl.k = .slice r) (hr : te.get r = some ir) (kr : ir.k = .struct [(0, s), (1, n), (2, n), (3, n), (4, y)]) (br : ir.bytes = 64)
    (hs : te.get s = some is) (ks : is.k = .str) (hn : te.get n = some in') (kn : in'.k = .int .i64) (hy : te.get y = some iy) (ky : iy.k = .slice u) (hu : te.get u = some iu) (ku : iu.k = .int .u8) (bu : iu.bytes = 1) : ∃ z : Zo, cs = zoC z ∧ ZoOk z := by
  obtain ⟨_, w, rfl, q, hh⟩ := has_struct h ht kt
  obtain ⟨a1, rfl, b1⟩ := has_str q hs ks
  obtain ⟨_, w, rfl, q, hh⟩ := hh
  obtain ⟨l, rfl, b2, b3⟩ := has_rrsN q hrl krl hr kr br hs ks hn kn hy ky hu ku bu
  cases hh
  exact ⟨⟨a1, l⟩, rfl, b1, b2, b3⟩
theorem has_sv {t il : TypeId} {it iil : TI} {cs : List AV} (h : Has te (d + 4) t cs) (ht : te.get t = some it) (kt : it.k = .struct [(0, n), (1, il)]) (hil : te.get il = some iil) (kil : iil.k = .slice n) (hn : te.get n = some in') (kn : in'.k = .int .i64) (bn : in'.bytes = 8) : ∃ x : Sv, cs = svC x ∧ x.zs.length * 8 ≤ 140737488351232 := by
  obtain ⟨_, w, rfl, q, hh⟩ := has_struct h ht kt
  obtain ⟨a1, rfl, _⟩ := has_int q hn kn
  obtain ⟨_, w, rfl, q, hh⟩ := hh
  obtain ⟨l, rfl, b2, _⟩ := has_intsc q hil kil hn kn bn
  cases hh
  exact ⟨⟨a1, l⟩, rfl, b2⟩
theorem has_tr {t zl z rl r y sl sv il : TypeId} {it izl iz irl ir iy isl isv iil : TI} {cs : List AV} (h : Has te (d + 6) t cs) (ht : te.get t = some it) (kt : it.k = .struct [(0, zl), (1, sl)]) (hzl : te.get zl = some izl) (kzl : izl.k = .slice z) (hz : te.get z = some iz) (kz : iz.k = .struct [(0, s), (1, rl)]) (bz : iz.bytes = 40)
    (hsl : te.get sl = some isl) (ksl : isl.k = .slice sv) (hsv : te.get sv = some isv) (ksv : isv.k = .struct [(0, n), (1, il)]) (bsv : isv.bytes = 32) (hil : te.get il = some iil) (kil : iil.k = .slice n)
    (hrl : te.get rl = some irl) (krl : irl.k = .slice r) (hr : te.get r = some ir) (kr : ir.k = .struct [(0, s), (1, n), (2, n), (3, n), (4, y)]) (br : ir.bytes = 64)
    (hs : te.get s = some is) (ks : is.k = .str) (hn : te.get n = some in') (kn : in'.k = .int .i64) (bn : in'.bytes = 8) (hy : te.get y = some iy) (ky : iy.k = .slice u) (hu : te.get u = some iu) (ku : iu.k = .int .u8) (bu : iu.bytes = 1) : ∃ T : Tr, cs = trC T ∧ TrOk T := by
  obtain ⟨_, w, rfl, q, hh⟩ := has_struct h ht kt
  obtain ⟨a, rfl, a1, a2⟩ := has_sl (f := zoC) (q := ZoOk) q hzl kzl hz fun c hc => has_zo hc hz kz hrl krl hr kr br hs ks hn kn hy ky hu ku bu
  obtain ⟨_, w, rfl, q, hh⟩ := hh
  obtain ⟨b, rfl, b1, b2⟩ := has_sl (f := svC) (q := fun x => x.zs.length * 8 ≤ 140737488351232) q hsl ksl hsv fun c hc => has_sv hc hsv ksv hil kil hn kn bn
  cases hh
  exact ⟨⟨a, b⟩, rfl, by rw [bz] at a1; exact a1, a2, by rw [bsv] at b1; exact b1, b2⟩
end
end Go.Proofs.Ytokccoloholgaaa.Fw


set_option linter.unusedVariables false
set_option linter.unusedSimpArgs false
namespace Go.Proofs.Ytokccoloholgaaa.Fw
open Go.RowKit
theorem tru_len {t : Tr} {q : Qu} : (truV t q).2.length ≤ 408 := by
  have key : ∀ (k : Nat) (acc : List Rr) (n : List UInt8) (x : Int × List Rr), canT t = true → canN n = true → acc.length ≤ 8 → truF t q.ty k acc n = some x → x.2.length ≤ 408 := by
    intro k
    induction k with
    | zero => intro acc n x _ _ _ h; cases h
    | succ k ih =>
      intro acc n x hcan hn hacc h
      have hhm := home_ok hcan hn
      have hzm : hZ t n ∈ t.zs := zAt_mem hhm
      by_cases hend : (atZ (hZ t n) n 5).length = 0 ∨ q.ty = 5
      · rw [truF_end hend] at h
        cases h
        have := at_small hcan hzm n q.ty
        simp only [List.length_append]; omega
      · by_cases h8 : acc.length = 8
        · rw [truF_full hend h8] at h; cases h
        · rw [truF_on hend h8] at h
          exact ih _ _ x hcan (at_can hcan hzm (.inr rfl) (getD_mem' (l := atZ (hZ t n) n 5) (i := 0) (by omega))) (by rw [List.length_append]; simp; omega) h
  unfold truV
  cases hx : truO t q with
  | none => simp
  | some x =>
    unfold truO at hx
    split at hx
    · rename_i hc
      simp only [Bool.and_eq_true] at hc
      exact key _ _ _ _ hc.1.1.1.1 hc.1.1.1.2 (by simp) hx
    · cases hx
set_option maxRecDepth 20000 in
set_option maxHeartbeats 2000000 in
theorem c_ciceronelaw18_ZoneTruths (t : Tr) (q : Qu) (ht : TrOk t) (hq : q.nm.length ≤ 140737488351232) : AC Try.prog 4 [.agg (trC t), .agg (quc q)] emp (Ret (tf true)) := by
 have hl := tru_len (t := t) (q := q)
 refine AC.intro te_ok (fn := Try.f4) ⟨Try.func4, rfl, rfl⟩ (Nat.le_of_ble_eq_true rfl) ?_
 refine AWp.seq ?_
 refine AWp.region ?_
 refine AOps.cons rfl rfl (q_box 100) ?_
 refine AOps.cons rfl rfl (q_box 101) ?_
 refine AOps.cons rfl rfl (q_assign) ?_
 refine AOps.nil ?_
 refine AWp.seq ?_
 refine AWp.region ?_
 refine AOps.cons rfl rfl (q_load) ?_
 refine AOps.cons rfl rfl (q_load) ?_
 refine AOps.cons rfl rfl (q_call (0) (hc := (c_zone_Truth t q ht hq))) ?_
 refine AOps.cons rfl rfl (q_move) ?_
 refine AOps.cons rfl rfl (q_extract) ?_
 refine AOps.cons rfl rfl (q_extract) ?_
 refine AOps.cons rfl rfl (q_alloc 206) ?_
 refine AOps.cons rfl rfl (q_store) ?_
 refine AOps.cons rfl rfl (q_assign) ?_
 refine AOps.nil ?_
 refine AWp.seq ?_
 refine AWp.region ?_
 refine AOps.cons rfl rfl (q_load) ?_
 refine AOps.cons rfl rfl (q_load) ?_
 refine AOps.cons rfl rfl (q_call (0) (hc := (c_rTruth t q ht hq))) ?_
 refine AOps.cons rfl rfl (q_move) ?_
 refine AOps.cons rfl rfl (q_extract) ?_
 refine AOps.cons rfl rfl (q_extract) ?_
 refine AOps.cons rfl rfl (q_alloc 306) ?_
 refine AOps.cons rfl rfl (q_store) ?_
 refine AOps.cons rfl rfl (q_assign) ?_
 refine AOps.nil ?_
 refine AWp.seq ?_
 refine AWp.region ?_
 refine AOps.cons rfl rfl (q_move) ?_
 refine AOps.cons rfl rfl (q_move) ?_
 refine AOps.cons rfl rfl ((OpOk.bool_is (c := true) (q_beql) (by simp))) ?_
 refine AOps.cons rfl rfl (q_move) ?_
 refine AOps.gcons rfl rfl rfl rfl rfl (q_fa) ?_
 refine AOps.gcons rfl rfl rfl rfl rfl (q_load) ?_
 refine AOps.gcons rfl rfl rfl rfl rfl (q_fa) ?_
 refine AOps.gcons rfl rfl rfl rfl rfl (q_load) ?_
 refine AOps.gcons rfl rfl rfl rfl rfl ((OpOk.dec_t (q_eql) (rfl))) ?_
 refine AOps.cons rfl rfl (q_pick) ?_
 refine AOps.cons rfl rfl (q_move) ?_
 refine AOps.gcons rfl rfl rfl rfl rfl (q_fa) ?_
 refine AOps.gcons rfl rfl rfl rfl rfl (q_load) ?_
 refine AOps.gcons rfl rfl rfl rfl rfl (q_fa) ?_
 refine AOps.gcons rfl rfl rfl rfl rfl (q_load) ?_
 refine AOps.gcons rfl rfl rfl rfl rfl ((OpOk.bool_is (c := true) (q_call (0) (hc := (c_ciceroneplain_SameRRs (truV t q).2 (truV t q).2 0 0 (by omega)))) (decide_eq_true rfl))) ?_
 refine AOps.cons rfl rfl (q_pick) ?_
 refine AOps.cons rfl rfl (q_move) ?_
 refine AOps.gcons rfl rfl rfl rfl rfl (q_call (0) (hc := c_ciceronelaw18_Small)) ?_
 refine AOps.gcons rfl rfl rfl rfl rfl ((OpOk.bool_is (c := true) (q_call (0) (hc := (c_zone_Can smT smT_ok))) (smT_can))) ?_
 refine AOps.cons rfl rfl (q_pick) ?_
 refine AOps.cons rfl rfl (q_assign) ?_
 refine AOps.nil ?_
 refine AWp.ret ?_
 show Fin te Try.f4 _ _
 refine q_ret (0) [_] [_] ?_
 rfl
end Go.Proofs.Ytokccoloholgaaa.Fw


