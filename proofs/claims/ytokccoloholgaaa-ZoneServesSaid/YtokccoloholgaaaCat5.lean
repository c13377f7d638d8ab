/- The texts R18b, R18c, R18d, R18e, W18g, Q18, W18s, W18h, Q16, W18i, M18, W18j, one behind the other: what the walks and plain laws need; conditions stand with each theorem. -/
import Derived.Lib.SlBytesConst
import Derived.Test.YtokccoloholgaaaCat4
set_option linter.unusedVariables false
set_option linter.unusedSimpArgs false
namespace Go.Proofs.Ytokccoloholgaaa.Fw
open Go.RowKit
def prC (p : List Rr × List Rr) : List AV := [.fz 0 p.1.length (cl rrc p.1), .fz 0 p.2.length (cl rrc p.2)]
theorem sub_step {b : List Rr} {r : Rr} {j : Nat} (h : j < b.length) : (b.take (j + 1)).any (subP r) = ((b.take j).any (subP r) || subP r (b.getD j default)) := any_step h
theorem subR_all {a b : List Rr} : subR a b = a.all fun r => b.any (subP r) := by
  induction a with
  | nil => rfl
  | cons x a ih =>
    have h : subR (x :: a) b = (b.any (subP x) && subR a b) := by
      simp only [subR, List.any_cons, subQ, Bool.not_or, Bool.not_not]
    rw [h, ih]; rfl
def bothR (p : List Rr × List Rr) : Bool := subR p.1 p.2
theorem two_all {a b : List Rr} : [(a, b), (b, a)].all bothR = (subR a b && subR b a) := by simp [bothR]
theorem pair_at {a b : List Rr} (ha : RrsOk a) (hb : RrsOk b) {p : Nat} (hp : p < 2) : RrsOk ([(a, b), (b, a)].getD p default).1 ∧ RrsOk ([(a, b), (b, a)].getD p default).2 := by
  match p, hp with
  | 0, _ => exact ⟨ha, hb⟩
  | 1, _ => exact ⟨hb, ha⟩
theorem svO_2' {t : Tr} {i : Nat} (h : 4294967296 ≤ (t.ss.getD i default).ad) : svO t i = false := svO_2 (by omega)
theorem svO_3' {t : Tr} {i : Nat} (h : (t.ss.getD i default).ad ∈ (t.ss.take i).map Sv.ad) : svO t i = false := by rw [svO, decide_eq_true (p := _ ∈ _) h, Bool.not_true, Bool.and_false]; rfl
theorem svO_all {t : Tr} {i : Nat} (h1 : ¬ (t.ss.getD i default).ad < 0) (h2 : ¬ 4294967296 ≤ (t.ss.getD i default).ad) (h3 : ¬ (t.ss.getD i default).ad ∈ (t.ss.take i).map Sv.ad) (h4 : (t.ss.getD i default).zs.any (badZ t) = false) : svO t i = true := by
  rw [svO, decide_eq_false (p := _ ∈ _) h3, h4, decide_eq_true (by omega), decide_eq_true (by omega)]; rfl
theorem srvT_big {t : Tr} (h : 40 < (t.ss.length : Int)) : srvT t = false := by rw [srvT, decide_eq_false (by omega)]; rfl
theorem mem_take_map {l : List Sv} {i j : Nat} (hi : i ≤ l.length) (hj : j < i) : (l.getD j default).ad ∈ (l.take i).map Sv.ad := by
  refine List.mem_map.2 ⟨l.getD j default, ?_, rfl⟩
  rw [List.getD_eq_getElem?_getD, List.getElem?_eq_getElem (by omega)]
  exact List.mem_take_iff_getElem.2 ⟨j, by omega, rfl⟩
theorem badZ_neg {t : Tr} {x : Int} (h : x < 0) : badZ t x = true := by rw [badZ, decide_eq_true h]; rfl
theorem badZ_big {t : Tr} {x : Int} (h : (t.zs.length : Int) ≤ x) : badZ t x = true := by rw [badZ, decide_eq_true h, Bool.or_true]
theorem badZ_no {t : Tr} {x : Int} (h : ¬ x < 0) (h2 : ¬ (t.zs.length : Int) ≤ x) : badZ t x = false := by rw [badZ, decide_eq_false h, decide_eq_false h2]; rfl
def recsZ (z : Zo) : Bool := z.rs.all (recO z) && decide ((atZ z z.o 6).length = 1) && decide (1 ≤ (atZ z z.o 2).length)
def aloP (z : Zo) (i k : Nat) : Bool := decide (i ≠ k) && decide ((z.rs.getD i default).ty = 5) && sameN (z.rs.getD i default).nm (z.rs.getD k default).nm
def aloZ (z : Zo) : Bool := (List.range z.rs.length).all fun i => !((List.range z.rs.length).any (aloP z i))
theorem baseO_yes' {z : Zo} {r : Rr} (a : withN r.nm z.o = true) (b : ¬ ¬ r.cs = 1) (c : ¬ r.ttl < 0) (d : ¬ 2147483648 ≤ r.ttl) (e : ¬ r.ty < 1) (f : ¬ 65535 < r.ty) (g : canS r.ty r.da = true) : baseO z r = true := baseO_yes a b c (by omega) e f g
theorem recO_base {z : Zo} {r : Rr} (h : baseO z r = true) : recO z r = restO z r := by rw [recO, h, Bool.true_and]
theorem recO_no {z : Zo} {r : Rr} (h : baseO z r = false) : recO z r = false := by rw [recO, h, Bool.false_and]
section
variable {z : Zo} {r : Rr}
theorem baseO_1 (h : withN r.nm z.o = false) : baseO z r = false := by rw [baseO, h]; rfl
theorem baseO_2 (h : ¬ r.cs = 1) : baseO z r = false := by rw [baseO, decide_eq_false h, Bool.and_false]; rfl
theorem baseO_3 (h : r.ttl < 0) : baseO z r = false := by rw [baseO, decide_eq_false (p := 0 ≤ r.ttl) (by omega), Bool.and_false]; rfl
theorem baseO_4 (h : 2147483648 ≤ r.ttl) : baseO z r = false := by rw [baseO, decide_eq_false (p := r.ttl ≤ 2147483647) (by omega), Bool.and_false]; rfl
theorem baseO_5 (h : r.ty < 1) : baseO z r = false := by rw [baseO, decide_eq_false (p := 1 ≤ r.ty) (by omega), Bool.and_false]; rfl
theorem baseO_6 (h : 65535 < r.ty) : baseO z r = false := by rw [baseO, decide_eq_false (p := r.ty ≤ 65535) (by omega), Bool.and_false]; rfl
theorem baseO_7 (h : canS r.ty r.da = false) : baseO z r = false := by rw [baseO, h, Bool.and_false]
theorem restO_soa (h1 : r.ty = 6) (h2 : sameN r.nm z.o = false) : restO z r = false := by rw [restO, if_pos h1, h2]; rfl
theorem restO_cut (h1 : ¬ cutZ z r.nm = []) (h2 : ¬ r.ty = 1) (h3 : ¬ r.ty = 2) : restO z r = false := by
  rw [restO, if_neg h3, if_neg h2, decide_eq_false h1, Bool.and_false]; split <;> rfl
theorem restO_ns (h1 : ¬ cutZ z r.nm = []) (h3 : r.ty = 2) (h4 : sameN (cutZ z r.nm) r.nm = false) : restO z r = false := by
  rw [restO, if_neg (by omega), if_pos h3, decide_eq_false h1, h4]; rfl
theorem restO_top (h1 : cutZ z r.nm = []) (h2 : r.ty = 6 → sameN r.nm z.o = true) : restO z r = true := by
  rw [restO, decide_eq_true h1, Bool.and_true, Bool.true_or]
  split
  · rename_i h; exact h2 h
  · split
    · rfl
    · split <;> rfl
theorem restO_a (h : r.ty = 1) : restO z r = true := by rw [restO, if_neg (by omega), if_neg (by omega), if_pos h]
theorem restO_sub (h3 : r.ty = 2) (h4 : sameN (cutZ z r.nm) r.nm = true) : restO z r = true := by rw [restO, if_neg (by omega), if_pos h3, h4, Bool.or_true]
end
theorem find5 (f : Bool) (a : Prop) [Decidable a] (s : Bool) (b : Prop) [Decidable b] : f = true ∨ (f = false ∧ ¬ a) ∨ (f = false ∧ a ∧ s = false) ∨ (f = false ∧ a ∧ s = true ∧ ¬ b) ∨ (f = false ∧ a ∧ s = true ∧ b) := by
  cases f
  · by_cases h1 : a
    · cases s
      · exact .inr (.inr (.inl ⟨rfl, h1, rfl⟩))
      · by_cases h2 : b
        · exact .inr (.inr (.inr (.inr ⟨rfl, h1, rfl, h2⟩)))
        · exact .inr (.inr (.inr (.inl ⟨rfl, h1, rfl, h2⟩)))
    · exact .inr (.inl ⟨rfl, h1⟩)
  · exact .inl rfl
theorem range_any_step {p : Nat → Bool} {j : Nat} : (List.range (j + 1)).any p = ((List.range j).any p || p j) := by simp [List.range_succ]
theorem em2b (a b : Bool) : a = false ∨ (a = true ∧ b = false) ∨ (a = true ∧ b = true) := by cases a <;> cases b <;> simp
set_option maxRecDepth 20000 in
set_option maxHeartbeats 2000000 in
theorem c_ciceroneref18_servers (t : Tr) (ht : TrOk t) : AC Try.prog 39 [.agg (trC t)] emp (Ret (tf (srvT t))) := by
 have hb1 := ht.1
 have hb2 := ht.2.2.1
 refine AC.intro te_ok (fn := Try.f39) ⟨Try.func39, rfl, rfl⟩ (Nat.le_of_ble_eq_true rfl) ?_
 refine AWp.seq ?_
 refine AWp.region ?_
 refine aC_ rfl rfl (q_box 100) ?_
 refine aC_ rfl rfl (q_assign) ?_
 refine AOps.nil ?_
 refine AWp.seq ?_
 refine AWp.seq ?_
 refine AWp.region ?_
 refine aC_ rfl rfl (q_fa) ?_
 refine aC_ rfl rfl (q_load) ?_
 refine aC_ rfl rfl (q_len) ?_
 refine AOps.dec rfl rfl (q_gtr) (fun h1_3 => ?_) (fun h1_3 => ?_)
 ·
  refine AOps.nil ?_
  refine AWp.cond_t rfl ?_
  refine AWp.seq ?_
  refine AWp.region ?_
  refine aC_ rfl rfl (q_assign) ?_
  refine AOps.nil ?_
  refine AWp.ret ?_
  show Fin te Try.f39 _ _
  refine q_ret (0) [_] [_] ?_
  exact congrArg tf (srvT_big h1_3).symm
 ·
  refine AOps.nil ?_
  refine AWp.cond_f rfl ?_
  refine AWp.skip ?_
  refine AWp.seq ?_
  refine AWp.seq ?_
  refine AWp.region ?_
  refine aC_ rfl rfl (q_fa) ?_
  refine aC_ rfl rfl (q_load) ?_
  refine aC_ rfl rfl (q_len) ?_
  refine aC_ rfl rfl (q_move) ?_
  refine AOps.nil ?_
  refine AWp.block ?_
  refine AWp.loopR (α := Nat) [2, 3, 4, 6, 8, 16, 17, 18, 19, 20, 21, 22, 23, 24, 25, 26, 27, 28, 29, 30, 31, 32, 33, 34, 35, 36, 37, 38, 39, 40, 41, 42, 43, 44, 45, 46, 47, 48, 49, 50, 51, 52, 53, 54, 55, 56, 57, 58, 59, 60, 61] (fun i => [(16, i64 i)]) (fun i => []) (fun i => i ≤ t.ss.length ∧ ∀ j, j < i → svO t j = true) (fun i => t.ss.length - i) 0 ?_ (Back.mk' (HasT.cons HasT.nil) HasH.nil) ?_
  ·
   exact ⟨Nat.zero_le _, fun j hj => absurd hj (Nat.not_lt_zero j)⟩
  ·
   rintro i ⟨hi, hc⟩
   refine AWp.seq ?_
   refine AWp.region ?_
   refine AOps.dec rfl rfl (q_lss) (fun h4_0 => ?_) (fun h4_0 => ?_)
   ·
    refine AOps.nil ?_
    refine AWp.seq ?_
    refine AWp.cond_t rfl ?_
    refine AWp.skip ?_
    refine AWp.seq ?_
    refine AWp.block ?_
    refine AWp.seq ?_
    refine AWp.region ?_
    have hsz := ht.2.2.2 _ (getD_mem' (l := t.ss) (i := i) (by omega))
    refine aC_ rfl rfl (q_move) ?_
    refine aC_ rfl rfl (q_ix) ?_
    refine aC_ rfl rfl (q_load) ?_
    refine aC_ rfl rfl (q_alloc 603) ?_
    refine aC_ rfl rfl (q_assign) ?_
    refine aC_ rfl rfl (q_store) ?_
    refine AOps.nil ?_
    refine AWp.seq ?_
    refine AWp.seq ?_
    refine AWp.region ?_
    refine aC_ rfl rfl (q_fa) ?_
    refine aC_ rfl rfl (q_load) ?_
    refine AOps.dec rfl rfl (q_lss) (fun h6_2 => ?_) (fun h6_2 => ?_)
    ·
     refine aC_ rfl rfl (q_move) ?_
     refine aG_ rfl rfl rfl rfl rfl rfl rfl rfl ?_
     refine aG_ rfl rfl rfl rfl rfl rfl rfl rfl ?_
     refine aG_ rfl rfl rfl rfl rfl rfl rfl rfl ?_
     refine aC_ rfl rfl (q_pick) ?_
     refine AOps.nil ?_
     refine AWp.cond_t rfl ?_
     refine AWp.seq ?_
     refine AWp.region ?_
     refine aC_ rfl rfl (q_assign) ?_
     refine AOps.nil ?_
     refine AWp.ret ?_
     show Fin te Try.f39 _ _
     refine q_ret (0) [_] [_] ?_
     exact congrArg tf (srvT_no (j := i) (by omega) (svO_1 h6_2)).symm
    ·
     refine aC_ rfl rfl (q_move) ?_
     refine AOps.gcons rfl rfl rfl rfl rfl (q_fa) ?_
     refine AOps.gcons rfl rfl rfl rfl rfl (q_load) ?_
     refine AOps.gdec rfl rfl rfl rfl rfl (q_geq) (fun h6_6 => ?_) (fun h6_6 => ?_)
     ·
      refine aC_ rfl rfl (q_pick) ?_
      refine AOps.nil ?_
      refine AWp.cond_t rfl ?_
      refine AWp.seq ?_
      refine AWp.region ?_
      refine aC_ rfl rfl (q_assign) ?_
      refine AOps.nil ?_
      refine AWp.ret ?_
      show Fin te Try.f39 _ _
      refine q_ret (0) [_] [_] ?_
      exact congrArg tf (srvT_no (j := i) (by omega) (svO_2' h6_6)).symm
     ·
      refine aC_ rfl rfl (q_pick) ?_
      refine AOps.nil ?_
      refine AWp.cond_f rfl ?_
      refine AWp.skip ?_
      refine AWp.seq ?_
      refine AWp.seq ?_
      refine AWp.region ?_
      refine aC_ rfl rfl (q_fa) ?_
      refine aC_ rfl rfl (q_load) ?_
      refine aC_ rfl rfl (q_move) ?_
      refine aC_ rfl rfl (q_sl) ?_
      refine aC_ rfl rfl (q_len) ?_
      refine aC_ rfl rfl (q_move) ?_
      refine AOps.nil ?_
      refine AWp.block ?_
      refine AWp.loopR (α := Nat) [2, 6, 34, 35, 36, 37, 38, 39, 40, 41, 42, 43] (fun j => [(34, i64 j)]) (fun j => []) (fun j => j ≤ i ∧ ¬ (t.ss.getD i default).ad ∈ (t.ss.take j).map Sv.ad) (fun j => i - j) 0 ?_ (Back.mk' (HasT.cons HasT.nil) HasH.nil) ?_
      ·
       exact ⟨Nat.zero_le _, by simp⟩
      ·
       rintro j ⟨hji, hj⟩
       refine AWp.seq ?_
       refine AWp.region ?_
       refine AOps.dec rfl rfl (q_lss) (fun h9_0 => ?_) (fun h9_0 => ?_)
       ·
        refine AOps.nil ?_
        refine AWp.seq ?_
        refine AWp.cond_t rfl ?_
        refine AWp.skip ?_
        refine AWp.seq ?_
        refine AWp.block ?_
        refine AWp.seq ?_
        refine AWp.region ?_
        have hji2 : j < i := by have := h9_0; simp at this; omega
        have hgj : (t.ss.take i).getD j default = t.ss.getD j default := by rw [List.getD_eq_getElem?_getD, List.getD_eq_getElem?_getD, List.getElem?_take_of_lt hji2]
        refine aC_ rfl rfl (q_ix) ?_
        refine aC_ rfl rfl (q_load) ?_
        refine aC_ rfl rfl (q_alloc 1102) ?_
        refine aC_ rfl rfl (q_store) ?_
        refine AOps.nil ?_
        refine AWp.seq ?_
        refine AWp.region ?_
        refine aC_ rfl rfl (q_fa) ?_
        refine aC_ rfl rfl (q_load) ?_
        refine aC_ rfl rfl (q_fa) ?_
        refine aC_ rfl rfl (q_load) ?_
        refine AOps.dec rfl rfl (q_eql) (fun h11_4 => ?_) (fun h11_4 => ?_)
        ·
         refine AOps.nil ?_
         refine AWp.cond_t rfl ?_
         refine AWp.seq ?_
         refine AWp.region ?_
         refine aC_ rfl rfl (q_assign) ?_
         refine AOps.nil ?_
         refine AWp.ret ?_
         show Fin te Try.f39 _ _
         refine q_ret (0) [_] [_] ?_
         exact congrArg tf (srvT_no (j := i) (by omega) (svO_3' (by rw [← show (t.ss.getD j default).ad = (t.ss.getD i default).ad from (congrArg Sv.ad hgj).symm.trans h11_4]; exact mem_take_map (by omega) hji2))).symm
        ·
         refine AOps.nil ?_
         refine AWp.cond_f rfl ?_
         refine AWp.skip ?_
         refine AWp.region ?_
         refine aC_ rfl rfl (q_add) ?_
         refine aC_ rfl rfl (q_move) ?_
         refine AOps.nil ?_
         refine ⟨j + 1, ?_, Back.mk' (HasT.cons HasT.nil) HasH.nil, ?_⟩
         ·
          refine ⟨by omega, fun hm => ?_⟩
          rw [map_step (by omega)] at hm
          rcases List.mem_append.1 hm with hm | hm
          · exact hj hm
          · rw [List.mem_singleton] at hm; exact h11_4 ((congrArg Sv.ad hgj).trans hm.symm)
         ·
          first | omega | (simp; omega)
       ·
        refine AOps.nil ?_
        refine AWp.seq ?_
        refine AWp.cond_f rfl ?_
        refine AWp.exit ?_
        refine AWp.seq ?_
        refine AWp.region ?_
        refine aC_ rfl rfl (q_fa) ?_
        refine aC_ rfl rfl (q_load) ?_
        refine aC_ rfl rfl (q_len) ?_
        refine aC_ rfl rfl (q_move) ?_
        refine AOps.nil ?_
        refine AWp.block ?_
        refine AWp.loopR (α := Nat) [2, 8, 47, 48, 49, 50, 51, 52, 53, 54, 55, 56, 57, 58, 59, 60] (fun k => [(47, i64 k)]) (fun k => []) (fun k => k ≤ (t.ss.getD i default).zs.length ∧ ((t.ss.getD i default).zs.take k).any (badZ t) = false) (fun k => (t.ss.getD i default).zs.length - k) 0 ?_ (Back.mk' (HasT.cons HasT.nil) HasH.nil) ?_
        ·
         exact ⟨Nat.zero_le _, rfl⟩
        ·
         rintro k ⟨hki, hk⟩
         refine AWp.seq ?_
         refine AWp.region ?_
         refine AOps.dec rfl rfl (q_lss) (fun h15_0 => ?_) (fun h15_0 => ?_)
         ·
          refine AOps.nil ?_
          refine AWp.seq ?_
          refine AWp.cond_t rfl ?_
          refine AWp.skip ?_
          refine AWp.seq ?_
          refine AWp.block ?_
          refine AWp.seq ?_
          refine AWp.region ?_
          have hk2 : k < (t.ss.getD i default).zs.length := Int.ofNat_lt.1 h15_0
          refine aC_ rfl rfl (q_ix) ?_
          refine aC_ rfl rfl (q_load) ?_
          refine aC_ rfl rfl (q_assign) ?_
          refine AOps.nil ?_
          refine AWp.seq ?_
          refine AWp.region ?_
          refine aC_ rfl rfl (q_move) ?_
          refine AOps.dec rfl rfl (q_lss) (fun h17_1 => ?_) (fun h17_1 => ?_)
          ·
           refine aC_ rfl rfl (q_move) ?_
           refine aG_ rfl rfl rfl rfl rfl rfl rfl rfl ?_
           refine aG_ rfl rfl rfl rfl rfl rfl rfl rfl ?_
           refine aG_ rfl rfl rfl rfl rfl rfl rfl rfl ?_
           refine aG_ rfl rfl rfl rfl rfl rfl rfl rfl ?_
           refine aG_ rfl rfl rfl rfl rfl rfl rfl rfl ?_
           refine aC_ rfl rfl (q_pick) ?_
           refine AOps.nil ?_
           refine AWp.cond_t rfl ?_
           refine AWp.seq ?_
           refine AWp.region ?_
           refine aC_ rfl rfl (q_assign) ?_
           refine AOps.nil ?_
           refine AWp.ret ?_
           show Fin te Try.f39 _ _
           refine q_ret (0) [_] [_] ?_
           exact congrArg tf (srvT_no (j := i) (by omega) (svO_4 (any_yes (i := k) hk2 (badZ_neg h17_1)))).symm
          ·
           refine aC_ rfl rfl (q_move) ?_
           refine AOps.gcons rfl rfl rfl rfl rfl (q_move) ?_
           refine AOps.gcons rfl rfl rfl rfl rfl (q_fa) ?_
           refine AOps.gcons rfl rfl rfl rfl rfl (q_load) ?_
           refine AOps.gcons rfl rfl rfl rfl rfl (q_len) ?_
           refine AOps.gdec rfl rfl rfl rfl rfl (q_geq) (fun h17_7 => ?_) (fun h17_7 => ?_)
           ·
            refine aC_ rfl rfl (q_pick) ?_
            refine AOps.nil ?_
            refine AWp.cond_t rfl ?_
            refine AWp.seq ?_
            refine AWp.region ?_
            refine aC_ rfl rfl (q_assign) ?_
            refine AOps.nil ?_
            refine AWp.ret ?_
            show Fin te Try.f39 _ _
            refine q_ret (0) [_] [_] ?_
            exact congrArg tf (srvT_no (j := i) (by omega) (svO_4 (any_yes (i := k) hk2 (badZ_big h17_7)))).symm
           ·
            refine aC_ rfl rfl (q_pick) ?_
            refine AOps.nil ?_
            refine AWp.cond_f rfl ?_
            refine AWp.skip ?_
            refine AWp.region ?_
            refine aC_ rfl rfl (q_add) ?_
            refine aC_ rfl rfl (q_move) ?_
            refine AOps.nil ?_
            refine ⟨k + 1, ?_, Back.mk' (HasT.cons HasT.nil) HasH.nil, ?_⟩
            ·
             exact ⟨by omega, any_no (i := k) hk2 hk (badZ_no h17_1 h17_7)⟩
            ·
             first | omega | (simp; omega)
         ·
          refine AOps.nil ?_
          refine AWp.seq ?_
          refine AWp.cond_f rfl ?_
          refine AWp.exit ?_
          refine AWp.region ?_
          refine aC_ rfl rfl (q_add) ?_
          refine aC_ rfl rfl (q_move) ?_
          refine AOps.nil ?_
          obtain rfl : k = (t.ss.getD i default).zs.length := by have h := h15_0; have h2 : ¬ k < (t.ss.getD i default).zs.length := fun q => h (Int.ofNat_lt.2 q); omega
          rw [List.take_length] at hk
          obtain rfl : i = j := by have := h9_0; simp at this; omega
          refine ⟨i + 1, ?_, Back.mk' (HasT.cons HasT.nil) HasH.nil, ?_⟩
          ·
           exact ⟨by omega, lt_step hc (svO_all h6_2 h6_6 hj hk)⟩
          ·
           first | omega | (simp; omega)
   ·
    refine AOps.nil ?_
    refine AWp.seq ?_
    refine AWp.cond_f rfl ?_
    refine AWp.exit ?_
    refine AWp.seq ?_
    refine AWp.region ?_
    refine aC_ rfl rfl (q_assign) ?_
    refine AOps.nil ?_
    refine AWp.ret ?_
    show Fin te Try.f39 _ _
    refine q_ret (0) [_] [_] ?_
    obtain rfl : i = t.ss.length := by omega
    exact congrArg tf (by rw [srvT_yes hc, decide_eq_true (by omega)])
set_option maxRecDepth 20000 in
set_option maxHeartbeats 2000000 in
theorem c_ciceroneref18_records (z : Zo) (hz : ZoOk z) : AC Try.prog 40 [.agg (zoC z)] emp (Ret (tf (recsZ z))) := by
 have hrl : z.rs.length * 64 ≤ 140737488351232 := hz.2.1.1
 have hol := hz.1
 refine AC.intro te_ok (fn := Try.f40) ⟨Try.func40, rfl, rfl⟩ (Nat.le_of_ble_eq_true rfl) ?_
 refine AWp.seq ?_
 refine AWp.region ?_
 refine aC_ rfl rfl (q_box 100) ?_
 refine aC_ rfl rfl (q_assign) ?_
 refine AOps.nil ?_
 refine AWp.seq ?_
 refine AWp.seq ?_
 refine AWp.region ?_
 refine aC_ rfl rfl (q_fa) ?_
 refine aC_ rfl rfl (q_load) ?_
 refine aC_ rfl rfl (q_len) ?_
 refine aC_ rfl rfl (q_move) ?_
 refine AOps.nil ?_
 refine AWp.block ?_
 refine AWp.loopR (α := Nat) [2, 4, 5, 6, 10, 11, 12, 13, 14, 15, 16, 17, 18, 19, 20, 21, 22, 23, 24, 25, 26, 27, 28, 29, 30, 31, 32, 33, 34, 35, 36, 37, 38, 39, 40, 41, 42, 43, 44, 45, 46, 47, 48, 49, 50, 51, 52, 53, 54, 55, 56, 57, 58, 59, 60, 61, 62, 63, 64, 65, 66, 67, 68, 69, 70, 71, 72, 73, 74, 75, 76, 77, 78, 79, 80, 81, 82, 83, 84, 85, 86, 87, 88] (fun i => [(10, i64 i)]) (fun i => []) (fun i => i ≤ z.rs.length ∧ (z.rs.take i).all (recO z) = true) (fun i => z.rs.length - i) 0 ?_ (Back.mk' (HasT.cons HasT.nil) HasH.nil) ?_
 ·
  exact ⟨Nat.zero_le _, rfl⟩
 ·
  rintro i ⟨hi, ha⟩
  refine AWp.seq ?_
  refine AWp.region ?_
  refine AOps.dec rfl rfl (q_lss) (fun h2_0 => ?_) (fun h2_0 => ?_)
  ·
   refine AOps.nil ?_
   refine AWp.seq ?_
   refine AWp.cond_t rfl ?_
   refine AWp.skip ?_
   refine AWp.seq ?_
   refine AWp.block ?_
   refine AWp.seq ?_
   refine AWp.region ?_
   have hr := hz.2.2 _ (getD_mem' (l := z.rs) (i := i) (by omega))
   have hrd := hz.2.1.2 _ (getD_mem' (l := z.rs) (i := i) (by omega))
   refine aC_ rfl rfl (q_ix) ?_
   refine aC_ rfl rfl (q_load) ?_
   refine aC_ rfl rfl (q_alloc 402) ?_
   refine aC_ rfl rfl (q_store) ?_
   refine AOps.nil ?_
   refine AWp.seq ?_
   refine AWp.seq ?_
   refine AWp.region ?_
   refine aC_ rfl rfl (q_fa) ?_
   refine aC_ rfl rfl (q_load) ?_
   refine aC_ rfl rfl (q_fa) ?_
   refine aC_ rfl rfl (q_load) ?_
   refine AOps.bool rfl rfl (q_call (0) (hc := (c_ciceroneref01_Within (z.rs.getD i default).nm z.o (by omega) (by omega)))) (fun h4_4 => ?_) (fun h4_4 => ?_)
   ·
    refine aC_ rfl rfl (q_not) ?_
    refine aC_ rfl rfl (q_move) ?_
    refine AOps.gcons rfl rfl rfl rfl rfl (q_fa) ?_
    refine AOps.gcons rfl rfl rfl rfl rfl (q_load) ?_
    refine AOps.gdec rfl rfl rfl rfl rfl (q_neq) (fun h4_9 => ?_) (fun h4_9 => ?_)
    ·
     refine aC_ rfl rfl (q_pick) ?_
     refine aC_ rfl rfl (q_move) ?_
     refine aG_ rfl rfl rfl rfl rfl rfl rfl rfl ?_
     refine aG_ rfl rfl rfl rfl rfl rfl rfl rfl ?_
     refine aG_ rfl rfl rfl rfl rfl rfl rfl rfl ?_
     refine aC_ rfl rfl (q_pick) ?_
     refine aC_ rfl rfl (q_move) ?_
     refine aG_ rfl rfl rfl rfl rfl rfl rfl rfl ?_
     refine aG_ rfl rfl rfl rfl rfl rfl rfl rfl ?_
     refine aG_ rfl rfl rfl rfl rfl rfl rfl rfl ?_
     refine aC_ rfl rfl (q_pick) ?_
     refine aC_ rfl rfl (q_move) ?_
     refine aG_ rfl rfl rfl rfl rfl rfl rfl rfl ?_
     refine aG_ rfl rfl rfl rfl rfl rfl rfl rfl ?_
     refine aG_ rfl rfl rfl rfl rfl rfl rfl rfl ?_
     refine aC_ rfl rfl (q_pick) ?_
     refine aC_ rfl rfl (q_move) ?_
     refine aG_ rfl rfl rfl rfl rfl rfl rfl rfl ?_
     refine aG_ rfl rfl rfl rfl rfl rfl rfl rfl ?_
     refine aG_ rfl rfl rfl rfl rfl rfl rfl rfl ?_
     refine aC_ rfl rfl (q_pick) ?_
     refine aC_ rfl rfl (q_move) ?_
     refine aG_ rfl rfl rfl rfl rfl rfl rfl rfl ?_
     refine aG_ rfl rfl rfl rfl rfl rfl rfl rfl ?_
     refine aG_ rfl rfl rfl rfl rfl rfl rfl rfl ?_
     refine aG_ rfl rfl rfl rfl rfl rfl rfl rfl ?_
     refine aG_ rfl rfl rfl rfl rfl rfl rfl rfl ?_
     refine aG_ rfl rfl rfl rfl rfl rfl rfl rfl ?_
     refine aC_ rfl rfl (q_pick) ?_
     refine AOps.nil ?_
     refine AWp.cond_t rfl ?_
     refine AWp.seq ?_
     refine AWp.region ?_
     refine aC_ rfl rfl (q_assign) ?_
     refine AOps.nil ?_
     refine AWp.ret ?_
     show Fin te Try.f40 _ _
     refine q_ret (0) [_] [_] ?_
     exact congrArg tf (by rw [recsZ, all_no (i := i) (by omega) (recO_no (baseO_2 h4_9))]; rfl)
    ·
     refine aC_ rfl rfl (q_pick) ?_
     refine aC_ rfl rfl (q_move) ?_
     refine AOps.gcons rfl rfl rfl rfl rfl (q_fa) ?_
     refine AOps.gcons rfl rfl rfl rfl rfl (q_load) ?_
     refine AOps.gdec rfl rfl rfl rfl rfl (q_lss) (fun h4_14 => ?_) (fun h4_14 => ?_)
     ·
      refine aC_ rfl rfl (q_pick) ?_
      refine aC_ rfl rfl (q_move) ?_
      refine aG_ rfl rfl rfl rfl rfl rfl rfl rfl ?_
      refine aG_ rfl rfl rfl rfl rfl rfl rfl rfl ?_
      refine aG_ rfl rfl rfl rfl rfl rfl rfl rfl ?_
      refine aC_ rfl rfl (q_pick) ?_
      refine aC_ rfl rfl (q_move) ?_
      refine aG_ rfl rfl rfl rfl rfl rfl rfl rfl ?_
      refine aG_ rfl rfl rfl rfl rfl rfl rfl rfl ?_
      refine aG_ rfl rfl rfl rfl rfl rfl rfl rfl ?_
      refine aC_ rfl rfl (q_pick) ?_
      refine aC_ rfl rfl (q_move) ?_
      refine aG_ rfl rfl rfl rfl rfl rfl rfl rfl ?_
      refine aG_ rfl rfl rfl rfl rfl rfl rfl rfl ?_
      refine aG_ rfl rfl rfl rfl rfl rfl rfl rfl ?_
      refine aC_ rfl rfl (q_pick) ?_
      refine aC_ rfl rfl (q_move) ?_
      refine aG_ rfl rfl rfl rfl rfl rfl rfl rfl ?_
      refine aG_ rfl rfl rfl rfl rfl rfl rfl rfl ?_
      refine aG_ rfl rfl rfl rfl rfl rfl rfl rfl ?_
      refine aG_ rfl rfl rfl rfl rfl rfl rfl rfl ?_
      refine aG_ rfl rfl rfl rfl rfl rfl rfl rfl ?_
      refine aG_ rfl rfl rfl rfl rfl rfl rfl rfl ?_
      refine aC_ rfl rfl (q_pick) ?_
      refine AOps.nil ?_
      refine AWp.cond_t rfl ?_
      refine AWp.seq ?_
      refine AWp.region ?_
      refine aC_ rfl rfl (q_assign) ?_
      refine AOps.nil ?_
      refine AWp.ret ?_
      show Fin te Try.f40 _ _
      refine q_ret (0) [_] [_] ?_
      exact congrArg tf (by rw [recsZ, all_no (i := i) (by omega) (recO_no (baseO_3 h4_14))]; rfl)
     ·
      refine aC_ rfl rfl (q_pick) ?_
      refine aC_ rfl rfl (q_move) ?_
      refine AOps.gcons rfl rfl rfl rfl rfl (q_fa) ?_
      refine AOps.gcons rfl rfl rfl rfl rfl (q_load) ?_
      refine AOps.gdec rfl rfl rfl rfl rfl (q_geq) (fun h4_19 => ?_) (fun h4_19 => ?_)
      ·
       refine aC_ rfl rfl (q_pick) ?_
       refine aC_ rfl rfl (q_move) ?_
       refine aG_ rfl rfl rfl rfl rfl rfl rfl rfl ?_
       refine aG_ rfl rfl rfl rfl rfl rfl rfl rfl ?_
       refine aG_ rfl rfl rfl rfl rfl rfl rfl rfl ?_
       refine aC_ rfl rfl (q_pick) ?_
       refine aC_ rfl rfl (q_move) ?_
       refine aG_ rfl rfl rfl rfl rfl rfl rfl rfl ?_
       refine aG_ rfl rfl rfl rfl rfl rfl rfl rfl ?_
       refine aG_ rfl rfl rfl rfl rfl rfl rfl rfl ?_
       refine aC_ rfl rfl (q_pick) ?_
       refine aC_ rfl rfl (q_move) ?_
       refine aG_ rfl rfl rfl rfl rfl rfl rfl rfl ?_
       refine aG_ rfl rfl rfl rfl rfl rfl rfl rfl ?_
       refine aG_ rfl rfl rfl rfl rfl rfl rfl rfl ?_
       refine aG_ rfl rfl rfl rfl rfl rfl rfl rfl ?_
       refine aG_ rfl rfl rfl rfl rfl rfl rfl rfl ?_
       refine aG_ rfl rfl rfl rfl rfl rfl rfl rfl ?_
       refine aC_ rfl rfl (q_pick) ?_
       refine AOps.nil ?_
       refine AWp.cond_t rfl ?_
       refine AWp.seq ?_
       refine AWp.region ?_
       refine aC_ rfl rfl (q_assign) ?_
       refine AOps.nil ?_
       refine AWp.ret ?_
       show Fin te Try.f40 _ _
       refine q_ret (0) [_] [_] ?_
       exact congrArg tf (by rw [recsZ, all_no (i := i) (by omega) (recO_no (baseO_4 h4_19))]; rfl)
      ·
       refine aC_ rfl rfl (q_pick) ?_
       refine aC_ rfl rfl (q_move) ?_
       refine AOps.gcons rfl rfl rfl rfl rfl (q_fa) ?_
       refine AOps.gcons rfl rfl rfl rfl rfl (q_load) ?_
       refine AOps.gdec rfl rfl rfl rfl rfl (q_lss) (fun h4_24 => ?_) (fun h4_24 => ?_)
       ·
        refine aC_ rfl rfl (q_pick) ?_
        refine aC_ rfl rfl (q_move) ?_
        refine aG_ rfl rfl rfl rfl rfl rfl rfl rfl ?_
        refine aG_ rfl rfl rfl rfl rfl rfl rfl rfl ?_
        refine aG_ rfl rfl rfl rfl rfl rfl rfl rfl ?_
        refine aC_ rfl rfl (q_pick) ?_
        refine aC_ rfl rfl (q_move) ?_
        refine aG_ rfl rfl rfl rfl rfl rfl rfl rfl ?_
        refine aG_ rfl rfl rfl rfl rfl rfl rfl rfl ?_
        refine aG_ rfl rfl rfl rfl rfl rfl rfl rfl ?_
        refine aG_ rfl rfl rfl rfl rfl rfl rfl rfl ?_
        refine aG_ rfl rfl rfl rfl rfl rfl rfl rfl ?_
        refine aG_ rfl rfl rfl rfl rfl rfl rfl rfl ?_
        refine aC_ rfl rfl (q_pick) ?_
        refine AOps.nil ?_
        refine AWp.cond_t rfl ?_
        refine AWp.seq ?_
        refine AWp.region ?_
        refine aC_ rfl rfl (q_assign) ?_
        refine AOps.nil ?_
        refine AWp.ret ?_
        show Fin te Try.f40 _ _
        refine q_ret (0) [_] [_] ?_
        exact congrArg tf (by rw [recsZ, all_no (i := i) (by omega) (recO_no (baseO_5 h4_24))]; rfl)
       ·
        refine aC_ rfl rfl (q_pick) ?_
        refine aC_ rfl rfl (q_move) ?_
        refine AOps.gcons rfl rfl rfl rfl rfl (q_fa) ?_
        refine AOps.gcons rfl rfl rfl rfl rfl (q_load) ?_
        refine AOps.gdec rfl rfl rfl rfl rfl (q_gtr) (fun h4_29 => ?_) (fun h4_29 => ?_)
        ·
         refine aC_ rfl rfl (q_pick) ?_
         refine aC_ rfl rfl (q_move) ?_
         refine aG_ rfl rfl rfl rfl rfl rfl rfl rfl ?_
         refine aG_ rfl rfl rfl rfl rfl rfl rfl rfl ?_
         refine aG_ rfl rfl rfl rfl rfl rfl rfl rfl ?_
         refine aG_ rfl rfl rfl rfl rfl rfl rfl rfl ?_
         refine aG_ rfl rfl rfl rfl rfl rfl rfl rfl ?_
         refine aG_ rfl rfl rfl rfl rfl rfl rfl rfl ?_
         refine aC_ rfl rfl (q_pick) ?_
         refine AOps.nil ?_
         refine AWp.cond_t rfl ?_
         refine AWp.seq ?_
         refine AWp.region ?_
         refine aC_ rfl rfl (q_assign) ?_
         refine AOps.nil ?_
         refine AWp.ret ?_
         show Fin te Try.f40 _ _
         refine q_ret (0) [_] [_] ?_
         exact congrArg tf (by rw [recsZ, all_no (i := i) (by omega) (recO_no (baseO_6 h4_29))]; rfl)
        ·
         refine aC_ rfl rfl (q_pick) ?_
         refine aC_ rfl rfl (q_move) ?_
         refine AOps.gcons rfl rfl rfl rfl rfl (q_fa) ?_
         refine AOps.gcons rfl rfl rfl rfl rfl (q_load) ?_
         refine AOps.gcons rfl rfl rfl rfl rfl (q_fa) ?_
         refine AOps.gcons rfl rfl rfl rfl rfl (q_load) ?_
         refine AOps.gbool rfl rfl rfl rfl rfl (q_call (0) (hc := (c_ciceroneref03_Can (z.rs.getD i default).ty (z.rs.getD i default).da 0 (by omega)))) (fun h4_36 => ?_) (fun h4_36 => ?_)
         ·
          refine AOps.gcons rfl rfl rfl rfl rfl (q_not) ?_
          refine aC_ rfl rfl (q_pick) ?_
          refine AOps.nil ?_
          refine AWp.cond_f rfl ?_
          refine AWp.skip ?_
          refine AWp.seq ?_
          refine AWp.region ?_
          have hbase := baseO_yes' h4_4 h4_9 h4_14 h4_19 h4_24 h4_29 h4_36
          have hcl := cutZ_len hz (z.rs.getD i default).nm
          refine aC_ rfl rfl (q_fa) ?_
          refine aC_ rfl rfl (q_load) ?_
          refine aC_ rfl rfl (q_fa) ?_
          refine aC_ rfl rfl (q_load) ?_
          refine AOps.bool rfl rfl (q_call (0) (hc := (c_ciceroneref01_Same (z.rs.getD i default).nm z.o (by omega) (by omega)))) (fun h6_4 => ?_) (fun h6_4 => ?_)
          ·
           refine aC_ rfl rfl (q_assign) ?_
           refine AOps.nil ?_
           refine AWp.seq ?_
           refine AWp.seq ?_
           refine AWp.region ?_
           refine aC_ rfl rfl (q_fa) ?_
           refine aC_ rfl rfl (q_load) ?_
           refine AOps.dec rfl rfl (q_eql) (fun h7_2 => ?_) (fun h7_2 => ?_)
           ·
            refine aC_ rfl rfl (q_move) ?_
            refine AOps.gcons rfl rfl rfl rfl rfl (q_move) ?_
            refine AOps.gcons rfl rfl rfl rfl rfl (q_not) ?_
            refine aC_ rfl rfl (q_pick) ?_
            refine AOps.nil ?_
            refine AWp.cond_f rfl ?_
            refine AWp.skip ?_
            refine AWp.seq ?_
            refine AWp.region ?_
            refine aC_ rfl rfl (q_load) ?_
            refine aC_ rfl rfl (q_fa) ?_
            refine aC_ rfl rfl (q_load) ?_
            refine aC_ rfl rfl (q_call (0) (hc := (c_rcut z (z.rs.getD i default).nm hz hr))) ?_
            refine aC_ rfl rfl (q_assign) ?_
            refine AOps.nil ?_
            refine AWp.seq ?_
            refine AWp.region ?_
            refine aC_ rfl rfl (q_move) ?_
            refine AOps.dec rfl rfl (q_sneq) (fun h10_1 => ?_) (fun h10_1 => ?_)
            ·
             refine aC_ rfl rfl (q_move) ?_
             refine AOps.gcons rfl rfl rfl rfl rfl (q_fa) ?_
             refine AOps.gcons rfl rfl rfl rfl rfl (q_load) ?_
             refine AOps.gdec rfl rfl rfl rfl rfl (q_neq) (fun h10_5 => ?_) (fun h10_5 => ?_)
             ·
              refine aC_ rfl rfl (q_pick) ?_
              refine aC_ rfl rfl (q_move) ?_
              refine AOps.gcons rfl rfl rfl rfl rfl (q_fa) ?_
              refine AOps.gcons rfl rfl rfl rfl rfl (q_load) ?_
              refine AOps.gdec rfl rfl rfl rfl rfl (q_neq) (fun h10_10 => ?_) (fun h10_10 => ?_)
              ·
               refine AOps.gcons rfl rfl rfl rfl rfl (q_move) ?_
               refine aG_ rfl rfl rfl rfl rfl rfl rfl rfl ?_
               refine aG_ rfl rfl rfl rfl rfl rfl rfl rfl ?_
               refine aG_ rfl rfl rfl rfl rfl rfl rfl rfl ?_
               refine aG_ rfl rfl rfl rfl rfl rfl rfl rfl ?_
               refine aG_ rfl rfl rfl rfl rfl rfl rfl rfl ?_
               refine AOps.gcons rfl rfl rfl rfl rfl (q_pick) ?_
               refine aC_ rfl rfl (q_pick) ?_
               refine AOps.nil ?_
               refine AWp.cond_t rfl ?_
               refine AWp.seq ?_
               refine AWp.region ?_
               refine aC_ rfl rfl (q_assign) ?_
               refine AOps.nil ?_
               refine AWp.ret ?_
               show Fin te Try.f40 _ _
               refine q_ret (0) [_] [_] ?_
               exact congrArg tf (by rw [recsZ, all_no (i := i) (by omega) ((recO_base hbase).trans (restO_cut h10_1 h10_5 h10_10))]; rfl)
              ·
               refine AOps.gcons rfl rfl rfl rfl rfl (q_move) ?_
               refine AOps.gcons rfl rfl rfl rfl rfl (q_move) ?_
               refine AOps.gcons rfl rfl rfl rfl rfl (q_fa) ?_
               refine AOps.gcons rfl rfl rfl rfl rfl (q_load) ?_
               refine AOps.gbool rfl rfl rfl rfl rfl (q_call (0) (hc := (c_ciceroneref01_Same (cutZ z (z.rs.getD i default).nm) (z.rs.getD i default).nm (by omega) (by omega)))) (fun h10_15 => ?_) (fun h10_15 => ?_)
               ·
                refine AOps.gcons rfl rfl rfl rfl rfl (q_not) ?_
                refine AOps.gcons rfl rfl rfl rfl rfl (q_pick) ?_
                refine aC_ rfl rfl (q_pick) ?_
                refine AOps.nil ?_
                refine AWp.cond_f rfl ?_
                refine AWp.skip ?_
                refine AWp.region ?_
                refine aC_ rfl rfl (q_add) ?_
                refine aC_ rfl rfl (q_move) ?_
                refine AOps.nil ?_
                refine ⟨i + 1, ?_, Back.mk' (HasT.cons HasT.nil) HasH.nil, ?_⟩
                ·
                 exact ⟨by omega, all_step (i := i) (by omega) ha ((recO_base hbase).trans (restO_sub (Decidable.not_not.1 h10_10) h10_15))⟩
                ·
                 first | omega | (simp; omega)
               ·
                refine AOps.gcons rfl rfl rfl rfl rfl (q_not) ?_
                refine AOps.gcons rfl rfl rfl rfl rfl (q_pick) ?_
                refine aC_ rfl rfl (q_pick) ?_
                refine AOps.nil ?_
                refine AWp.cond_t rfl ?_
                refine AWp.seq ?_
                refine AWp.region ?_
                refine aC_ rfl rfl (q_assign) ?_
                refine AOps.nil ?_
                refine AWp.ret ?_
                show Fin te Try.f40 _ _
                refine q_ret (0) [_] [_] ?_
                exact congrArg tf (by rw [recsZ, all_no (i := i) (by omega) ((recO_base hbase).trans (restO_ns h10_1 (Decidable.not_not.1 h10_10) h10_15))]; rfl)
             ·
              refine aC_ rfl rfl (q_pick) ?_
              refine aC_ rfl rfl (q_move) ?_
              refine aG_ rfl rfl rfl rfl rfl rfl rfl rfl ?_
              refine aG_ rfl rfl rfl rfl rfl rfl rfl rfl ?_
              refine aG_ rfl rfl rfl rfl rfl rfl rfl rfl ?_
              refine aG_ rfl rfl rfl rfl rfl rfl rfl rfl ?_
              refine AOps.gskipu rfl rfl rfl rfl rfl rfl rfl ?_
              refine AOps.gskipu rfl rfl rfl rfl rfl rfl rfl ?_
              refine AOps.gskipu rfl rfl rfl rfl rfl rfl rfl ?_
              refine AOps.gskipu rfl rfl rfl rfl rfl rfl rfl ?_
              refine AOps.gskipu rfl rfl rfl rfl rfl rfl rfl ?_
              refine aG_ rfl rfl rfl rfl rfl rfl rfl rfl ?_
              refine aC_ rfl rfl (q_pick) ?_
              refine AOps.nil ?_
              refine AWp.cond_f rfl ?_
              refine AWp.skip ?_
              refine AWp.region ?_
              refine aC_ rfl rfl (q_add) ?_
              refine aC_ rfl rfl (q_move) ?_
              refine AOps.nil ?_
              refine ⟨i + 1, ?_, Back.mk' (HasT.cons HasT.nil) HasH.nil, ?_⟩
              ·
               exact ⟨by omega, all_step (i := i) (by omega) ha ((recO_base hbase).trans (restO_a (Decidable.not_not.1 h10_5)))⟩
              ·
               first | omega | (simp; omega)
            ·
             refine aC_ rfl rfl (q_move) ?_
             refine aG_ rfl rfl rfl rfl rfl rfl rfl rfl ?_
             refine aG_ rfl rfl rfl rfl rfl rfl rfl rfl ?_
             refine aG_ rfl rfl rfl rfl rfl rfl rfl rfl ?_
             refine aC_ rfl rfl (q_pick) ?_
             refine aC_ rfl rfl (q_move) ?_
             refine aG_ rfl rfl rfl rfl rfl rfl rfl rfl ?_
             refine aG_ rfl rfl rfl rfl rfl rfl rfl rfl ?_
             refine aG_ rfl rfl rfl rfl rfl rfl rfl rfl ?_
             refine aG_ rfl rfl rfl rfl rfl rfl rfl rfl ?_
             refine AOps.gskipu rfl rfl rfl rfl rfl rfl rfl ?_
             refine AOps.gskipu rfl rfl rfl rfl rfl rfl rfl ?_
             refine AOps.gskipu rfl rfl rfl rfl rfl rfl rfl ?_
             refine AOps.gskipu rfl rfl rfl rfl rfl rfl rfl ?_
             refine AOps.gskipu rfl rfl rfl rfl rfl rfl rfl ?_
             refine aG_ rfl rfl rfl rfl rfl rfl rfl rfl ?_
             refine aC_ rfl rfl (q_pick) ?_
             refine AOps.nil ?_
             refine AWp.cond_f rfl ?_
             refine AWp.skip ?_
             refine AWp.region ?_
             refine aC_ rfl rfl (q_add) ?_
             refine aC_ rfl rfl (q_move) ?_
             refine AOps.nil ?_
             refine ⟨i + 1, ?_, Back.mk' (HasT.cons HasT.nil) HasH.nil, ?_⟩
             ·
              exact ⟨by omega, all_step (i := i) (by omega) ha ((recO_base hbase).trans (restO_top (Decidable.not_not.1 h10_1) (fun e => h6_4)))⟩
             ·
              first | omega | (simp; omega)
           ·
            refine aC_ rfl rfl (q_move) ?_
            refine aG_ rfl rfl rfl rfl rfl rfl rfl rfl ?_
            refine aG_ rfl rfl rfl rfl rfl rfl rfl rfl ?_
            refine aC_ rfl rfl (q_pick) ?_
            refine AOps.nil ?_
            refine AWp.cond_f rfl ?_
            refine AWp.skip ?_
            refine AWp.seq ?_
            refine AWp.region ?_
            refine aC_ rfl rfl (q_load) ?_
            refine aC_ rfl rfl (q_fa) ?_
            refine aC_ rfl rfl (q_load) ?_
            refine aC_ rfl rfl (q_call (0) (hc := (c_rcut z (z.rs.getD i default).nm hz hr))) ?_
            refine aC_ rfl rfl (q_assign) ?_
            refine AOps.nil ?_
            refine AWp.seq ?_
            refine AWp.region ?_
            refine aC_ rfl rfl (q_move) ?_
            refine AOps.dec rfl rfl (q_sneq) (fun h10_1 => ?_) (fun h10_1 => ?_)
            ·
             refine aC_ rfl rfl (q_move) ?_
             refine AOps.gcons rfl rfl rfl rfl rfl (q_fa) ?_
             refine AOps.gcons rfl rfl rfl rfl rfl (q_load) ?_
             refine AOps.gdec rfl rfl rfl rfl rfl (q_neq) (fun h10_5 => ?_) (fun h10_5 => ?_)
             ·
              refine aC_ rfl rfl (q_pick) ?_
              refine aC_ rfl rfl (q_move) ?_
              refine AOps.gcons rfl rfl rfl rfl rfl (q_fa) ?_
              refine AOps.gcons rfl rfl rfl rfl rfl (q_load) ?_
              refine AOps.gdec rfl rfl rfl rfl rfl (q_neq) (fun h10_10 => ?_) (fun h10_10 => ?_)
              ·
               refine AOps.gcons rfl rfl rfl rfl rfl (q_move) ?_
               refine aG_ rfl rfl rfl rfl rfl rfl rfl rfl ?_
               refine aG_ rfl rfl rfl rfl rfl rfl rfl rfl ?_
               refine aG_ rfl rfl rfl rfl rfl rfl rfl rfl ?_
               refine aG_ rfl rfl rfl rfl rfl rfl rfl rfl ?_
               refine aG_ rfl rfl rfl rfl rfl rfl rfl rfl ?_
               refine AOps.gcons rfl rfl rfl rfl rfl (q_pick) ?_
               refine aC_ rfl rfl (q_pick) ?_
               refine AOps.nil ?_
               refine AWp.cond_t rfl ?_
               refine AWp.seq ?_
               refine AWp.region ?_
               refine aC_ rfl rfl (q_assign) ?_
               refine AOps.nil ?_
               refine AWp.ret ?_
               show Fin te Try.f40 _ _
               refine q_ret (0) [_] [_] ?_
               exact congrArg tf (by rw [recsZ, all_no (i := i) (by omega) ((recO_base hbase).trans (restO_cut h10_1 h10_5 h10_10))]; rfl)
              ·
               refine AOps.gcons rfl rfl rfl rfl rfl (q_move) ?_
               refine AOps.gcons rfl rfl rfl rfl rfl (q_move) ?_
               refine AOps.gcons rfl rfl rfl rfl rfl (q_fa) ?_
               refine AOps.gcons rfl rfl rfl rfl rfl (q_load) ?_
               refine AOps.gbool rfl rfl rfl rfl rfl (q_call (0) (hc := (c_ciceroneref01_Same (cutZ z (z.rs.getD i default).nm) (z.rs.getD i default).nm (by omega) (by omega)))) (fun h10_15 => ?_) (fun h10_15 => ?_)
               ·
                refine AOps.gcons rfl rfl rfl rfl rfl (q_not) ?_
                refine AOps.gcons rfl rfl rfl rfl rfl (q_pick) ?_
                refine aC_ rfl rfl (q_pick) ?_
                refine AOps.nil ?_
                refine AWp.cond_f rfl ?_
                refine AWp.skip ?_
                refine AWp.region ?_
                refine aC_ rfl rfl (q_add) ?_
                refine aC_ rfl rfl (q_move) ?_
                refine AOps.nil ?_
                refine ⟨i + 1, ?_, Back.mk' (HasT.cons HasT.nil) HasH.nil, ?_⟩
                ·
                 exact ⟨by omega, all_step (i := i) (by omega) ha ((recO_base hbase).trans (restO_sub (Decidable.not_not.1 h10_10) h10_15))⟩
                ·
                 first | omega | (simp; omega)
               ·
                refine AOps.gcons rfl rfl rfl rfl rfl (q_not) ?_
                refine AOps.gcons rfl rfl rfl rfl rfl (q_pick) ?_
                refine aC_ rfl rfl (q_pick) ?_
                refine AOps.nil ?_
                refine AWp.cond_t rfl ?_
                refine AWp.seq ?_
                refine AWp.region ?_
                refine aC_ rfl rfl (q_assign) ?_
                refine AOps.nil ?_
                refine AWp.ret ?_
                show Fin te Try.f40 _ _
                refine q_ret (0) [_] [_] ?_
                exact congrArg tf (by rw [recsZ, all_no (i := i) (by omega) ((recO_base hbase).trans (restO_ns h10_1 (Decidable.not_not.1 h10_10) h10_15))]; rfl)
             ·
              refine aC_ rfl rfl (q_pick) ?_
              refine aC_ rfl rfl (q_move) ?_
              refine aG_ rfl rfl rfl rfl rfl rfl rfl rfl ?_
              refine aG_ rfl rfl rfl rfl rfl rfl rfl rfl ?_
              refine aG_ rfl rfl rfl rfl rfl rfl rfl rfl ?_
              refine aG_ rfl rfl rfl rfl rfl rfl rfl rfl ?_
              refine AOps.gskipu rfl rfl rfl rfl rfl rfl rfl ?_
              refine AOps.gskipu rfl rfl rfl rfl rfl rfl rfl ?_
              refine AOps.gskipu rfl rfl rfl rfl rfl rfl rfl ?_
              refine AOps.gskipu rfl rfl rfl rfl rfl rfl rfl ?_
              refine AOps.gskipu rfl rfl rfl rfl rfl rfl rfl ?_
              refine aG_ rfl rfl rfl rfl rfl rfl rfl rfl ?_
              refine aC_ rfl rfl (q_pick) ?_
              refine AOps.nil ?_
              refine AWp.cond_f rfl ?_
              refine AWp.skip ?_
              refine AWp.region ?_
              refine aC_ rfl rfl (q_add) ?_
              refine aC_ rfl rfl (q_move) ?_
              refine AOps.nil ?_
              refine ⟨i + 1, ?_, Back.mk' (HasT.cons HasT.nil) HasH.nil, ?_⟩
              ·
               exact ⟨by omega, all_step (i := i) (by omega) ha ((recO_base hbase).trans (restO_a (Decidable.not_not.1 h10_5)))⟩
              ·
               first | omega | (simp; omega)
            ·
             refine aC_ rfl rfl (q_move) ?_
             refine aG_ rfl rfl rfl rfl rfl rfl rfl rfl ?_
             refine aG_ rfl rfl rfl rfl rfl rfl rfl rfl ?_
             refine aG_ rfl rfl rfl rfl rfl rfl rfl rfl ?_
             refine aC_ rfl rfl (q_pick) ?_
             refine aC_ rfl rfl (q_move) ?_
             refine aG_ rfl rfl rfl rfl rfl rfl rfl rfl ?_
             refine aG_ rfl rfl rfl rfl rfl rfl rfl rfl ?_
             refine aG_ rfl rfl rfl rfl rfl rfl rfl rfl ?_
             refine aG_ rfl rfl rfl rfl rfl rfl rfl rfl ?_
             refine AOps.gskipu rfl rfl rfl rfl rfl rfl rfl ?_
             refine AOps.gskipu rfl rfl rfl rfl rfl rfl rfl ?_
             refine AOps.gskipu rfl rfl rfl rfl rfl rfl rfl ?_
             refine AOps.gskipu rfl rfl rfl rfl rfl rfl rfl ?_
             refine AOps.gskipu rfl rfl rfl rfl rfl rfl rfl ?_
             refine aG_ rfl rfl rfl rfl rfl rfl rfl rfl ?_
             refine aC_ rfl rfl (q_pick) ?_
             refine AOps.nil ?_
             refine AWp.cond_f rfl ?_
             refine AWp.skip ?_
             refine AWp.region ?_
             refine aC_ rfl rfl (q_add) ?_
             refine aC_ rfl rfl (q_move) ?_
             refine AOps.nil ?_
             refine ⟨i + 1, ?_, Back.mk' (HasT.cons HasT.nil) HasH.nil, ?_⟩
             ·
              exact ⟨by omega, all_step (i := i) (by omega) ha ((recO_base hbase).trans (restO_top (Decidable.not_not.1 h10_1) (fun e => absurd e h7_2)))⟩
             ·
              first | omega | (simp; omega)
          ·
           refine aC_ rfl rfl (q_assign) ?_
           refine AOps.nil ?_
           refine AWp.seq ?_
           refine AWp.seq ?_
           refine AWp.region ?_
           refine aC_ rfl rfl (q_fa) ?_
           refine aC_ rfl rfl (q_load) ?_
           refine AOps.dec rfl rfl (q_eql) (fun h7_2 => ?_) (fun h7_2 => ?_)
           ·
            refine aC_ rfl rfl (q_move) ?_
            refine AOps.gcons rfl rfl rfl rfl rfl (q_move) ?_
            refine AOps.gcons rfl rfl rfl rfl rfl (q_not) ?_
            refine aC_ rfl rfl (q_pick) ?_
            refine AOps.nil ?_
            refine AWp.cond_t rfl ?_
            refine AWp.seq ?_
            refine AWp.region ?_
            refine aC_ rfl rfl (q_assign) ?_
            refine AOps.nil ?_
            refine AWp.ret ?_
            show Fin te Try.f40 _ _
            refine q_ret (0) [_] [_] ?_
            exact congrArg tf (by rw [recsZ, all_no (i := i) (by omega) ((recO_base hbase).trans (restO_soa h7_2 h6_4))]; rfl)
           ·
            refine aC_ rfl rfl (q_move) ?_
            refine aG_ rfl rfl rfl rfl rfl rfl rfl rfl ?_
            refine aG_ rfl rfl rfl rfl rfl rfl rfl rfl ?_
            refine aC_ rfl rfl (q_pick) ?_
            refine AOps.nil ?_
            refine AWp.cond_f rfl ?_
            refine AWp.skip ?_
            refine AWp.seq ?_
            refine AWp.region ?_
            refine aC_ rfl rfl (q_load) ?_
            refine aC_ rfl rfl (q_fa) ?_
            refine aC_ rfl rfl (q_load) ?_
            refine aC_ rfl rfl (q_call (0) (hc := (c_rcut z (z.rs.getD i default).nm hz hr))) ?_
            refine aC_ rfl rfl (q_assign) ?_
            refine AOps.nil ?_
            refine AWp.seq ?_
            refine AWp.region ?_
            refine aC_ rfl rfl (q_move) ?_
            refine AOps.dec rfl rfl (q_sneq) (fun h10_1 => ?_) (fun h10_1 => ?_)
            ·
             refine aC_ rfl rfl (q_move) ?_
             refine AOps.gcons rfl rfl rfl rfl rfl (q_fa) ?_
             refine AOps.gcons rfl rfl rfl rfl rfl (q_load) ?_
             refine AOps.gdec rfl rfl rfl rfl rfl (q_neq) (fun h10_5 => ?_) (fun h10_5 => ?_)
             ·
              refine aC_ rfl rfl (q_pick) ?_
              refine aC_ rfl rfl (q_move) ?_
              refine AOps.gcons rfl rfl rfl rfl rfl (q_fa) ?_
              refine AOps.gcons rfl rfl rfl rfl rfl (q_load) ?_
              refine AOps.gdec rfl rfl rfl rfl rfl (q_neq) (fun h10_10 => ?_) (fun h10_10 => ?_)
              ·
               refine AOps.gcons rfl rfl rfl rfl rfl (q_move) ?_
               refine aG_ rfl rfl rfl rfl rfl rfl rfl rfl ?_
               refine aG_ rfl rfl rfl rfl rfl rfl rfl rfl ?_
               refine aG_ rfl rfl rfl rfl rfl rfl rfl rfl ?_
               refine aG_ rfl rfl rfl rfl rfl rfl rfl rfl ?_
               refine aG_ rfl rfl rfl rfl rfl rfl rfl rfl ?_
               refine AOps.gcons rfl rfl rfl rfl rfl (q_pick) ?_
               refine aC_ rfl rfl (q_pick) ?_
               refine AOps.nil ?_
               refine AWp.cond_t rfl ?_
               refine AWp.seq ?_
               refine AWp.region ?_
               refine aC_ rfl rfl (q_assign) ?_
               refine AOps.nil ?_
               refine AWp.ret ?_
               show Fin te Try.f40 _ _
               refine q_ret (0) [_] [_] ?_
               exact congrArg tf (by rw [recsZ, all_no (i := i) (by omega) ((recO_base hbase).trans (restO_cut h10_1 h10_5 h10_10))]; rfl)
              ·
               refine AOps.gcons rfl rfl rfl rfl rfl (q_move) ?_
               refine AOps.gcons rfl rfl rfl rfl rfl (q_move) ?_
               refine AOps.gcons rfl rfl rfl rfl rfl (q_fa) ?_
               refine AOps.gcons rfl rfl rfl rfl rfl (q_load) ?_
               refine AOps.gbool rfl rfl rfl rfl rfl (q_call (0) (hc := (c_ciceroneref01_Same (cutZ z (z.rs.getD i default).nm) (z.rs.getD i default).nm (by omega) (by omega)))) (fun h10_15 => ?_) (fun h10_15 => ?_)
               ·
                refine AOps.gcons rfl rfl rfl rfl rfl (q_not) ?_
                refine AOps.gcons rfl rfl rfl rfl rfl (q_pick) ?_
                refine aC_ rfl rfl (q_pick) ?_
                refine AOps.nil ?_
                refine AWp.cond_f rfl ?_
                refine AWp.skip ?_
                refine AWp.region ?_
                refine aC_ rfl rfl (q_add) ?_
                refine aC_ rfl rfl (q_move) ?_
                refine AOps.nil ?_
                refine ⟨i + 1, ?_, Back.mk' (HasT.cons HasT.nil) HasH.nil, ?_⟩
                ·
                 exact ⟨by omega, all_step (i := i) (by omega) ha ((recO_base hbase).trans (restO_sub (Decidable.not_not.1 h10_10) h10_15))⟩
                ·
                 first | omega | (simp; omega)
               ·
                refine AOps.gcons rfl rfl rfl rfl rfl (q_not) ?_
                refine AOps.gcons rfl rfl rfl rfl rfl (q_pick) ?_
                refine aC_ rfl rfl (q_pick) ?_
                refine AOps.nil ?_
                refine AWp.cond_t rfl ?_
                refine AWp.seq ?_
                refine AWp.region ?_
                refine aC_ rfl rfl (q_assign) ?_
                refine AOps.nil ?_
                refine AWp.ret ?_
                show Fin te Try.f40 _ _
                refine q_ret (0) [_] [_] ?_
                exact congrArg tf (by rw [recsZ, all_no (i := i) (by omega) ((recO_base hbase).trans (restO_ns h10_1 (Decidable.not_not.1 h10_10) h10_15))]; rfl)
             ·
              refine aC_ rfl rfl (q_pick) ?_
              refine aC_ rfl rfl (q_move) ?_
              refine aG_ rfl rfl rfl rfl rfl rfl rfl rfl ?_
              refine aG_ rfl rfl rfl rfl rfl rfl rfl rfl ?_
              refine aG_ rfl rfl rfl rfl rfl rfl rfl rfl ?_
              refine aG_ rfl rfl rfl rfl rfl rfl rfl rfl ?_
              refine AOps.gskipu rfl rfl rfl rfl rfl rfl rfl ?_
              refine AOps.gskipu rfl rfl rfl rfl rfl rfl rfl ?_
              refine AOps.gskipu rfl rfl rfl rfl rfl rfl rfl ?_
              refine AOps.gskipu rfl rfl rfl rfl rfl rfl rfl ?_
              refine AOps.gskipu rfl rfl rfl rfl rfl rfl rfl ?_
              refine aG_ rfl rfl rfl rfl rfl rfl rfl rfl ?_
              refine aC_ rfl rfl (q_pick) ?_
              refine AOps.nil ?_
              refine AWp.cond_f rfl ?_
              refine AWp.skip ?_
              refine AWp.region ?_
              refine aC_ rfl rfl (q_add) ?_
              refine aC_ rfl rfl (q_move) ?_
              refine AOps.nil ?_
              refine ⟨i + 1, ?_, Back.mk' (HasT.cons HasT.nil) HasH.nil, ?_⟩
              ·
               exact ⟨by omega, all_step (i := i) (by omega) ha ((recO_base hbase).trans (restO_a (Decidable.not_not.1 h10_5)))⟩
              ·
               first | omega | (simp; omega)
            ·
             refine aC_ rfl rfl (q_move) ?_
             refine aG_ rfl rfl rfl rfl rfl rfl rfl rfl ?_
             refine aG_ rfl rfl rfl rfl rfl rfl rfl rfl ?_
             refine aG_ rfl rfl rfl rfl rfl rfl rfl rfl ?_
             refine aC_ rfl rfl (q_pick) ?_
             refine aC_ rfl rfl (q_move) ?_
             refine aG_ rfl rfl rfl rfl rfl rfl rfl rfl ?_
             refine aG_ rfl rfl rfl rfl rfl rfl rfl rfl ?_
             refine aG_ rfl rfl rfl rfl rfl rfl rfl rfl ?_
             refine aG_ rfl rfl rfl rfl rfl rfl rfl rfl ?_
             refine AOps.gskipu rfl rfl rfl rfl rfl rfl rfl ?_
             refine AOps.gskipu rfl rfl rfl rfl rfl rfl rfl ?_
             refine AOps.gskipu rfl rfl rfl rfl rfl rfl rfl ?_
             refine AOps.gskipu rfl rfl rfl rfl rfl rfl rfl ?_
             refine AOps.gskipu rfl rfl rfl rfl rfl rfl rfl ?_
             refine aG_ rfl rfl rfl rfl rfl rfl rfl rfl ?_
             refine aC_ rfl rfl (q_pick) ?_
             refine AOps.nil ?_
             refine AWp.cond_f rfl ?_
             refine AWp.skip ?_
             refine AWp.region ?_
             refine aC_ rfl rfl (q_add) ?_
             refine aC_ rfl rfl (q_move) ?_
             refine AOps.nil ?_
             refine ⟨i + 1, ?_, Back.mk' (HasT.cons HasT.nil) HasH.nil, ?_⟩
             ·
              exact ⟨by omega, all_step (i := i) (by omega) ha ((recO_base hbase).trans (restO_top (Decidable.not_not.1 h10_1) (fun e => absurd e h7_2)))⟩
             ·
              first | omega | (simp; omega)
         ·
          refine AOps.gcons rfl rfl rfl rfl rfl (q_not) ?_
          refine aC_ rfl rfl (q_pick) ?_
          refine AOps.nil ?_
          refine AWp.cond_t rfl ?_
          refine AWp.seq ?_
          refine AWp.region ?_
          refine aC_ rfl rfl (q_assign) ?_
          refine AOps.nil ?_
          refine AWp.ret ?_
          show Fin te Try.f40 _ _
          refine q_ret (0) [_] [_] ?_
          exact congrArg tf (by rw [recsZ, all_no (i := i) (by omega) (recO_no (baseO_7 h4_36))]; rfl)
   ·
    refine aC_ rfl rfl (q_not) ?_
    refine aC_ rfl rfl (q_move) ?_
    refine aG_ rfl rfl rfl rfl rfl rfl rfl rfl ?_
    refine aG_ rfl rfl rfl rfl rfl rfl rfl rfl ?_
    refine aG_ rfl rfl rfl rfl rfl rfl rfl rfl ?_
    refine aC_ rfl rfl (q_pick) ?_
    refine aC_ rfl rfl (q_move) ?_
    refine aG_ rfl rfl rfl rfl rfl rfl rfl rfl ?_
    refine aG_ rfl rfl rfl rfl rfl rfl rfl rfl ?_
    refine aG_ rfl rfl rfl rfl rfl rfl rfl rfl ?_
    refine aC_ rfl rfl (q_pick) ?_
    refine aC_ rfl rfl (q_move) ?_
    refine aG_ rfl rfl rfl rfl rfl rfl rfl rfl ?_
    refine aG_ rfl rfl rfl rfl rfl rfl rfl rfl ?_
    refine aG_ rfl rfl rfl rfl rfl rfl rfl rfl ?_
    refine aC_ rfl rfl (q_pick) ?_
    refine aC_ rfl rfl (q_move) ?_
    refine aG_ rfl rfl rfl rfl rfl rfl rfl rfl ?_
    refine aG_ rfl rfl rfl rfl rfl rfl rfl rfl ?_
    refine aG_ rfl rfl rfl rfl rfl rfl rfl rfl ?_
    refine aC_ rfl rfl (q_pick) ?_
    refine aC_ rfl rfl (q_move) ?_
    refine aG_ rfl rfl rfl rfl rfl rfl rfl rfl ?_
    refine aG_ rfl rfl rfl rfl rfl rfl rfl rfl ?_
    refine aG_ rfl rfl rfl rfl rfl rfl rfl rfl ?_
    refine aC_ rfl rfl (q_pick) ?_
    refine aC_ rfl rfl (q_move) ?_
    refine aG_ rfl rfl rfl rfl rfl rfl rfl rfl ?_
    refine aG_ rfl rfl rfl rfl rfl rfl rfl rfl ?_
    refine aG_ rfl rfl rfl rfl rfl rfl rfl rfl ?_
    refine aG_ rfl rfl rfl rfl rfl rfl rfl rfl ?_
    refine aG_ rfl rfl rfl rfl rfl rfl rfl rfl ?_
    refine aG_ rfl rfl rfl rfl rfl rfl rfl rfl ?_
    refine aC_ rfl rfl (q_pick) ?_
    refine AOps.nil ?_
    refine AWp.cond_t rfl ?_
    refine AWp.seq ?_
    refine AWp.region ?_
    refine aC_ rfl rfl (q_assign) ?_
    refine AOps.nil ?_
    refine AWp.ret ?_
    show Fin te Try.f40 _ _
    refine q_ret (0) [_] [_] ?_
    exact congrArg tf (by rw [recsZ, all_no (i := i) (by omega) (recO_no (baseO_1 h4_4))]; rfl)
  ·
   refine AOps.nil ?_
   refine AWp.seq ?_
   refine AWp.cond_f rfl ?_
   refine AWp.exit ?_
   refine AWp.seq ?_
   refine AWp.region ?_
   obtain rfl : i = z.rs.length := by omega
   rw [List.take_length] at ha
   refine aC_ rfl rfl (q_load) ?_
   refine aC_ rfl rfl (q_fa) ?_
   refine aC_ rfl rfl (q_load) ?_
   refine aC_ rfl rfl (q_call (0) (hc := (c_rat z z.o 6 hz hol))) ?_
   refine aC_ rfl rfl (q_len) ?_
   refine AOps.dec rfl rfl (q_eql) (fun h13_5 => ?_) (fun h13_5 => ?_)
   ·
    refine aC_ rfl rfl (q_move) ?_
    refine AOps.gcons rfl rfl rfl rfl rfl (q_load) ?_
    refine AOps.gcons rfl rfl rfl rfl rfl (q_fa) ?_
    refine AOps.gcons rfl rfl rfl rfl rfl (q_load) ?_
    refine AOps.gcons rfl rfl rfl rfl rfl (q_call (0) (hc := (c_rat z z.o 2 hz hol))) ?_
    refine AOps.gcons rfl rfl rfl rfl rfl (q_len) ?_
    refine AOps.gcons rfl rfl rfl rfl rfl (q_geq) ?_
    refine aC_ rfl rfl (q_pick) ?_
    refine aC_ rfl rfl (q_assign) ?_
    refine AOps.nil ?_
    refine AWp.ret ?_
    show Fin te Try.f40 _ _
    refine q_ret (0) [_] [_] ?_
    exact congrArg tf (by rw [recsZ, ha, decide_eq_true (p := (atZ z z.o 6).length = 1) (by omega)]; exact decide_eq_decide.2 (by omega))
   ·
    refine aC_ rfl rfl (q_move) ?_
    refine aG_ rfl rfl rfl rfl rfl rfl rfl rfl ?_
    refine aG_ rfl rfl rfl rfl rfl rfl rfl rfl ?_
    refine aG_ rfl rfl rfl rfl rfl rfl rfl rfl ?_
    refine aG_ rfl rfl rfl rfl rfl rfl rfl rfl ?_
    refine aG_ rfl rfl rfl rfl rfl rfl rfl rfl ?_
    refine aG_ rfl rfl rfl rfl rfl rfl rfl rfl ?_
    refine aC_ rfl rfl (q_pick) ?_
    refine aC_ rfl rfl (q_assign) ?_
    refine AOps.nil ?_
    refine AWp.ret ?_
    show Fin te Try.f40 _ _
    refine q_ret (0) [_] [_] ?_
    exact congrArg tf (by rw [recsZ, decide_eq_false (p := (atZ z z.o 6).length = 1) (by omega), Bool.and_false]; rfl)
end Go.Proofs.Ytokccoloholgaaa.Fw


set_option linter.unusedVariables false
set_option linter.unusedSimpArgs false
namespace Go.Proofs.Ytokccoloholgaaa.Fw
open Go.RowKit
theorem aloP_1 {z : Zo} {i k : Nat} (h : ¬ ¬ (i : Int) = k) : aloP z i k = false := by rw [aloP, decide_eq_false (p := i ≠ k) (by omega)]; rfl
theorem aloP_2 {z : Zo} {i k : Nat} (h : ¬ (z.rs.getD i default).ty = 5) : aloP z i k = false := by rw [aloP, decide_eq_false h, Bool.and_false]; rfl
theorem aloP_3 {z : Zo} {i k : Nat} (h : sameN (z.rs.getD i default).nm (z.rs.getD k default).nm = false) : aloP z i k = false := by rw [aloP, h, Bool.and_false]
theorem aloP_yes {z : Zo} {i k : Nat} (h : ¬ (i : Int) = k) (h2 : (z.rs.getD i default).ty = 5) (h3 : sameN (z.rs.getD i default).nm (z.rs.getD k default).nm = true) : aloP z i k = true := by
  rw [aloP, decide_eq_true (p := i ≠ k) (by omega), decide_eq_true h2, h3]; rfl
theorem range_no_step {p : Nat → Bool} {j : Nat} (h : (List.range j).any p = false) (h2 : p j = false) : (List.range (j + 1)).any p = false := by rw [range_any_step, h, h2]; rfl
theorem aloZ_no {z : Zo} {i : Nat} (hi : i < z.rs.length) (h : (List.range z.rs.length).any (aloP z i) = true) : aloZ z = false := by
  rw [aloZ, range_all_no hi (by rw [h]; rfl)]
theorem aloZ_yes {z : Zo} (h : ∀ j, j < z.rs.length → (List.range z.rs.length).any (aloP z j) = false) : aloZ z = true := by
  rw [aloZ, range_all_iff.2 fun j hj => by rw [h j hj]; rfl]
set_option maxRecDepth 20000 in
set_option maxHeartbeats 2000000 in
theorem c_ciceroneref18_alone (z : Zo) (hz : ZoOk z) : AC Try.prog 41 [.agg (zoC z)] emp (Ret (tf (aloZ z))) := by
 have hrl : z.rs.length * 64 ≤ 140737488351232 := hz.2.1.1
 have hol := hz.1
 refine AC.intro te_ok (fn := Try.f41) ⟨Try.func41, rfl, rfl⟩ (Nat.le_of_ble_eq_true rfl) ?_
 refine AWp.seq ?_
 refine AWp.region ?_
 refine aC_ rfl rfl (q_box 100) ?_
 refine aC_ rfl rfl (q_assign) ?_
 refine AOps.nil ?_
 refine AWp.seq ?_
 refine AWp.seq ?_
 refine AWp.region ?_
 refine aC_ rfl rfl (q_fa) ?_
 refine aC_ rfl rfl (q_load) ?_
 refine aC_ rfl rfl (q_len) ?_
 refine aC_ rfl rfl (q_move) ?_
 refine AOps.nil ?_
 refine AWp.block ?_
 refine AWp.loopR (α := Nat) [2, 3, 4, 5, 6, 10, 11, 12, 13, 14, 15, 16, 17, 18, 19, 20, 21, 22, 23, 24, 25, 26, 27, 28, 29, 30, 31, 32, 33, 34, 35, 36, 37, 38, 39] (fun i => [(10, i64 i)]) (fun i => []) (fun i => i ≤ z.rs.length ∧ ∀ j, j < i → (List.range z.rs.length).any (aloP z j) = false) (fun i => z.rs.length - i) 0 ?_ (Back.mk' (HasT.cons HasT.nil) HasH.nil) ?_
 ·
  exact ⟨Nat.zero_le _, fun j hj => absurd hj (Nat.not_lt_zero j)⟩
 ·
  rintro i ⟨hi, hc⟩
  refine AWp.seq ?_
  refine AWp.region ?_
  refine AOps.dec rfl rfl (q_lss) (fun h2_0 => ?_) (fun h2_0 => ?_)
  ·
   refine AOps.nil ?_
   refine AWp.seq ?_
   refine AWp.cond_t rfl ?_
   refine AWp.skip ?_
   refine AWp.seq ?_
   refine AWp.block ?_
   refine AWp.seq ?_
   refine AWp.region ?_
   refine aC_ rfl rfl (q_move) ?_
   refine aC_ rfl rfl (q_ix) ?_
   refine aC_ rfl rfl (q_load) ?_
   refine aC_ rfl rfl (q_alloc 403) ?_
   refine aC_ rfl rfl (q_assign) ?_
   refine aC_ rfl rfl (q_store) ?_
   refine AOps.nil ?_
   refine AWp.seq ?_
   refine AWp.region ?_
   have hr := hz.2.2 _ (getD_mem' (l := z.rs) (i := i) (by omega))
   have hrd := hz.2.1.2 _ (getD_mem' (l := z.rs) (i := i) (by omega))
   refine aC_ rfl rfl (q_fa) ?_
   refine aC_ rfl rfl (q_load) ?_
   refine aC_ rfl rfl (q_len) ?_
   refine aC_ rfl rfl (q_move) ?_
   refine AOps.nil ?_
   refine AWp.block ?_
   refine AWp.loopR (α := Nat) [2, 5, 6, 18, 19, 20, 21, 22, 23, 24, 25, 26, 27, 28, 29, 30, 31, 32, 33, 34, 35, 36, 37, 38] (fun k => [(18, i64 k)]) (fun k => []) (fun k => k ≤ z.rs.length ∧ (List.range k).any (aloP z i) = false) (fun k => z.rs.length - k) 0 ?_ (Back.mk' (HasT.cons HasT.nil) HasH.nil) ?_
   ·
    exact ⟨Nat.zero_le _, rfl⟩
   ·
    rintro k ⟨hki, hk⟩
    refine AWp.seq ?_
    refine AWp.region ?_
    refine AOps.dec rfl rfl (q_lss) (fun h5_0 => ?_) (fun h5_0 => ?_)
    ·
     refine AOps.nil ?_
     refine AWp.seq ?_
     refine AWp.cond_t rfl ?_
     refine AWp.skip ?_
     refine AWp.seq ?_
     refine AWp.block ?_
     refine AWp.seq ?_
     refine AWp.region ?_
     refine aC_ rfl rfl (q_move) ?_
     refine aC_ rfl rfl (q_ix) ?_
     refine aC_ rfl rfl (q_load) ?_
     refine aC_ rfl rfl (q_alloc 703) ?_
     refine aC_ rfl rfl (q_assign) ?_
     refine aC_ rfl rfl (q_store) ?_
     refine AOps.nil ?_
     refine AWp.seq ?_
     refine AWp.region ?_
     have hrk := hz.2.2 _ (getD_mem' (l := z.rs) (i := k) (by omega))
     refine aC_ rfl rfl (q_move) ?_
     refine aC_ rfl rfl (q_move) ?_
     refine AOps.dec rfl rfl (q_neq) (fun h7_2 => ?_) (fun h7_2 => ?_)
     ·
      refine aC_ rfl rfl (q_move) ?_
      refine AOps.gcons rfl rfl rfl rfl rfl (q_fa) ?_
      refine AOps.gcons rfl rfl rfl rfl rfl (q_load) ?_
      refine AOps.gdec rfl rfl rfl rfl rfl (q_eql) (fun h7_6 => ?_) (fun h7_6 => ?_)
      ·
       refine aC_ rfl rfl (q_pick) ?_
       refine aC_ rfl rfl (q_move) ?_
       refine AOps.gcons rfl rfl rfl rfl rfl (q_fa) ?_
       refine AOps.gcons rfl rfl rfl rfl rfl (q_load) ?_
       refine AOps.gcons rfl rfl rfl rfl rfl (q_fa) ?_
       refine AOps.gcons rfl rfl rfl rfl rfl (q_load) ?_
       refine AOps.gbool rfl rfl rfl rfl rfl (q_call (0) (hc := (c_ciceroneref01_Same (z.rs.getD i default).nm (z.rs.getD k default).nm (by omega) (by omega)))) (fun h7_13 => ?_) (fun h7_13 => ?_)
       ·
        refine aC_ rfl rfl (q_pick) ?_
        refine AOps.nil ?_
        refine AWp.cond_t rfl ?_
        refine AWp.seq ?_
        refine AWp.region ?_
        refine aC_ rfl rfl (q_assign) ?_
        refine AOps.nil ?_
        refine AWp.ret ?_
        show Fin te Try.f41 _ _
        refine q_ret (0) [_] [_] ?_
        exact congrArg tf (aloZ_no (i := i) (by omega) (range_any_yes (j := k) (by omega) (aloP_yes h7_2 h7_6 h7_13))).symm
       ·
        refine aC_ rfl rfl (q_pick) ?_
        refine AOps.nil ?_
        refine AWp.cond_f rfl ?_
        refine AWp.skip ?_
        refine AWp.region ?_
        refine aC_ rfl rfl (q_add) ?_
        refine aC_ rfl rfl (q_move) ?_
        refine AOps.nil ?_
        refine ⟨k + 1, ?_, Back.mk' (HasT.cons HasT.nil) HasH.nil, ?_⟩
        ·
         exact ⟨by omega, range_no_step hk (aloP_3 h7_13)⟩
        ·
         first | omega | (simp; omega)
      ·
       refine aC_ rfl rfl (q_pick) ?_
       refine aC_ rfl rfl (q_move) ?_
       refine aG_ rfl rfl rfl rfl rfl rfl rfl rfl ?_
       refine aG_ rfl rfl rfl rfl rfl rfl rfl rfl ?_
       refine aG_ rfl rfl rfl rfl rfl rfl rfl rfl ?_
       refine aG_ rfl rfl rfl rfl rfl rfl rfl rfl ?_
       refine aG_ rfl rfl rfl rfl rfl rfl rfl rfl ?_
       refine aC_ rfl rfl (q_pick) ?_
       refine AOps.nil ?_
       refine AWp.cond_f rfl ?_
       refine AWp.skip ?_
       refine AWp.region ?_
       refine aC_ rfl rfl (q_add) ?_
       refine aC_ rfl rfl (q_move) ?_
       refine AOps.nil ?_
       refine ⟨k + 1, ?_, Back.mk' (HasT.cons HasT.nil) HasH.nil, ?_⟩
       ·
        exact ⟨by omega, range_no_step hk (aloP_2 h7_6)⟩
       ·
        first | omega | (simp; omega)
     ·
      refine aC_ rfl rfl (q_move) ?_
      refine aG_ rfl rfl rfl rfl rfl rfl rfl rfl ?_
      refine aG_ rfl rfl rfl rfl rfl rfl rfl rfl ?_
      refine aG_ rfl rfl rfl rfl rfl rfl rfl rfl ?_
      refine aC_ rfl rfl (q_pick) ?_
      refine aC_ rfl rfl (q_move) ?_
      refine aG_ rfl rfl rfl rfl rfl rfl rfl rfl ?_
      refine aG_ rfl rfl rfl rfl rfl rfl rfl rfl ?_
      refine aG_ rfl rfl rfl rfl rfl rfl rfl rfl ?_
      refine aG_ rfl rfl rfl rfl rfl rfl rfl rfl ?_
      refine aG_ rfl rfl rfl rfl rfl rfl rfl rfl ?_
      refine aC_ rfl rfl (q_pick) ?_
      refine AOps.nil ?_
      refine AWp.cond_f rfl ?_
      refine AWp.skip ?_
      refine AWp.region ?_
      refine aC_ rfl rfl (q_add) ?_
      refine aC_ rfl rfl (q_move) ?_
      refine AOps.nil ?_
      refine ⟨k + 1, ?_, Back.mk' (HasT.cons HasT.nil) HasH.nil, ?_⟩
      ·
       exact ⟨by omega, range_no_step hk (aloP_1 h7_2)⟩
      ·
       first | omega | (simp; omega)
    ·
     refine AOps.nil ?_
     refine AWp.seq ?_
     refine AWp.cond_f rfl ?_
     refine AWp.exit ?_
     refine AWp.region ?_
     refine aC_ rfl rfl (q_add) ?_
     refine aC_ rfl rfl (q_move) ?_
     refine AOps.nil ?_
     refine ⟨i + 1, ?_, Back.mk' (HasT.cons HasT.nil) HasH.nil, ?_⟩
     ·
      obtain rfl : k = z.rs.length := by omega
      exact ⟨by omega, lt_step hc hk⟩
     ·
      first | omega | (simp; omega)
  ·
   refine AOps.nil ?_
   refine AWp.seq ?_
   refine AWp.cond_f rfl ?_
   refine AWp.exit ?_
   refine AWp.seq ?_
   refine AWp.region ?_
   refine aC_ rfl rfl (q_assign) ?_
   refine AOps.nil ?_
   refine AWp.ret ?_
   show Fin te Try.f41 _ _
   refine q_ret (0) [_] [_] ?_
   obtain rfl : i = z.rs.length := by omega
   exact congrArg tf (aloZ_yes hc).symm
set_option maxRecDepth 20000 in
set_option maxHeartbeats 2000000 in
theorem c_ciceroneref18_sameNames (a b : List Rr) (ha : RrsOk a) (hb : RrsOk b) : AC Try.prog 88 [.fz 0 a.length (cl rrc a), .fz 0 b.length (cl rrc b)] emp (Ret (tf (subR a b && subR b a))) := by
 have hal := ha.1
 have hbl := hb.1
 have hL2 : [(a, b), (b, a)].length = 2 := rfl
 refine AC.intro te_ok (fn := Try.f88) ⟨Try.func88, rfl, rfl⟩ (Nat.le_of_ble_eq_true rfl) ?_
 refine AWp.seq ?_
 refine AWp.region ?_
 refine aC_ rfl rfl (q_assign) ?_
 refine AOps.nil ?_
 refine AWp.seq ?_
 refine AWp.seq ?_
 refine AWp.region ?_
 refine aC_ rfl rfl (q_move) ?_
 refine aC_ rfl rfl (q_move) ?_
 refine aC_ rfl rfl (q_buildA (lc 0 rrc) [a, b] [(_, _), (_, _)]) ?_
 refine aC_ rfl rfl (q_move) ?_
 refine aC_ rfl rfl (q_move) ?_
 refine aC_ rfl rfl (q_buildA (lc 0 rrc) [b, a] [(_, _), (_, _)]) ?_
 refine aC_ rfl rfl (q_bs 206 prC [(a, b), (b, a)] [(_, _), (_, _)]) ?_
 refine AOps.weak (Weak.full 0 [] (t := [(18, .fz 0 [(a, b), (b, a)].length (cl prC [(a, b), (b, a)]))]) (hl := [])) ?_
 refine aC_ rfl rfl (q_len) ?_
 refine aC_ rfl rfl (q_move) ?_
 refine AOps.nil ?_
 refine AWp.block ?_
 refine AWp.loopR (α := Nat) [4, 6, 8, 9, 11, 20, 21, 22, 23, 24, 25, 26, 27, 28, 29, 30, 31, 32, 33, 34, 35, 36, 37, 38, 39, 40, 41, 42, 43, 44, 45, 46, 47, 48, 49, 50, 51, 52] (fun p => [(20, i64 p)]) (fun p => []) (fun p => p ≤ 2 ∧ ([(a, b), (b, a)].take p).all bothR = true) (fun p => 2 - p) 0 ?_ (Back.mk' (HasT.cons HasT.nil) HasH.nil) ?_
 ·
  exact ⟨Nat.zero_le _, rfl⟩
 ·
  rintro p ⟨hp, hA⟩
  refine AWp.seq ?_
  refine AWp.region ?_
  refine AOps.dec rfl rfl (q_lss) (fun h2_0 => ?_) (fun h2_0 => ?_)
  ·
   refine AOps.nil ?_
   refine AWp.seq ?_
   refine AWp.cond_t rfl ?_
   refine AWp.skip ?_
   refine AWp.seq ?_
   refine AWp.block ?_
   refine AWp.seq ?_
   refine AWp.region ?_
   refine aC_ rfl rfl (q_ix) ?_
   refine aC_ rfl rfl (q_load) ?_
   refine aC_ rfl rfl (q_alloc 402) ?_
   refine aC_ rfl rfl (q_store) ?_
   refine AOps.nil ?_
   refine AWp.seq ?_
   refine AWp.region ?_
   obtain ⟨hx1, hx2⟩ := pair_at ha hb (p := p) (by omega)
   have hx1l := hx1.1
   have hx2l := hx2.1
   have hn1 : ([(a, b), (b, a)].getD (p : Int).toNat default).1.length = ([(a, b), (b, a)].getD p default).1.length := rfl
   have hn2 : ([(a, b), (b, a)].getD (p : Int).toNat default).2.length = ([(a, b), (b, a)].getD p default).2.length := rfl
   refine aC_ rfl rfl (q_ixa) ?_
   refine aC_ rfl rfl (q_load) ?_
   refine aC_ rfl rfl (q_len) ?_
   refine aC_ rfl rfl (q_move) ?_
   refine AOps.nil ?_
   refine AWp.block ?_
   refine AWp.loopR (α := Nat) [4, 8, 9, 11, 27, 28, 29, 30, 31, 32, 33, 34, 35, 36, 37, 38, 39, 40, 41, 42, 43, 44, 45, 46, 47, 48, 49, 50, 51] (fun i => [(27, i64 i)]) (fun i => []) (fun i => i ≤ ([(a, b), (b, a)].getD p default).1.length ∧ (([(a, b), (b, a)].getD p default).1.take i).all (fun r => ([(a, b), (b, a)].getD p default).2.any (subP r)) = true) (fun i => ([(a, b), (b, a)].getD p default).1.length - i) 0 ?_ (Back.mk' (HasT.cons HasT.nil) HasH.nil) ?_
   ·
    exact ⟨Nat.zero_le _, rfl⟩
   ·
    rintro i ⟨hi, hB⟩
    refine AWp.seq ?_
    refine AWp.region ?_
    refine AOps.dec rfl rfl (q_lss) (fun h5_0 => ?_) (fun h5_0 => ?_)
    ·
     refine AOps.nil ?_
     refine AWp.seq ?_
     refine AWp.cond_t rfl ?_
     refine AWp.skip ?_
     refine AWp.seq ?_
     refine AWp.block ?_
     refine AWp.seq ?_
     refine AWp.region ?_
     have hri := hx1.2 _ (getD_mem' (l := ([(a, b), (b, a)].getD p default).1) (i := i) (by omega))
     refine aC_ rfl rfl (q_ix) ?_
     refine aC_ rfl rfl (q_load) ?_
     refine aC_ rfl rfl (q_alloc 702) ?_
     refine aC_ rfl rfl (q_store) ?_
     refine AOps.nil ?_
     refine AWp.seq ?_
     refine AWp.region ?_
     refine aC_ rfl rfl (q_assign) ?_
     refine AOps.nil ?_
     refine AWp.seq ?_
     refine AWp.seq ?_
     refine AWp.region ?_
     refine aC_ rfl rfl (q_ixa) ?_
     refine aC_ rfl rfl (q_load) ?_
     refine aC_ rfl rfl (q_len) ?_
     refine aC_ rfl rfl (q_move) ?_
     refine AOps.nil ?_
     refine AWp.block ?_
     refine AWp.loopR (α := Nat) [9, 11, 34, 35, 36, 37, 38, 39, 40, 41, 42, 43, 44, 45, 46, 47, 48] (fun j => [(34, i64 j), (9, tf ((([(a, b), (b, a)].getD p default).2.take j).any (subP (([(a, b), (b, a)].getD p default).1.getD i default))))]) (fun j => []) (fun j => j ≤ ([(a, b), (b, a)].getD p default).2.length) (fun j => ([(a, b), (b, a)].getD p default).2.length - j) 0 ?_ (Back.mk' (HasT.cons (HasT.cons HasT.nil)) HasH.nil) ?_
     ·
      exact Nat.zero_le _
     ·
      rintro j hj
      refine AWp.seq ?_
      refine AWp.region ?_
      refine AOps.dec rfl rfl (q_lss) (fun h9_0 => ?_) (fun h9_0 => ?_)
      ·
       refine AOps.nil ?_
       refine AWp.seq ?_
       refine AWp.cond_t rfl ?_
       refine AWp.skip ?_
       refine AWp.seq ?_
       refine AWp.block ?_
       refine AWp.seq ?_
       refine AWp.region ?_
       have hrj := hx2.2 _ (getD_mem' (l := ([(a, b), (b, a)].getD p default).2) (i := j) (by omega))
       refine aC_ rfl rfl (q_ix) ?_
       refine aC_ rfl rfl (q_load) ?_
       refine aC_ rfl rfl (q_alloc 1102) ?_
       refine aC_ rfl rfl (q_store) ?_
       refine AOps.nil ?_
       refine AWp.region ?_
       refine AOps.bool rfl rfl (q_move) (fun h11_0 => ?_) (fun h11_0 => ?_)
       ·
        refine aC_ rfl rfl (q_move) ?_
        refine aG_ rfl rfl rfl rfl rfl rfl rfl rfl ?_
        refine aG_ rfl rfl rfl rfl rfl rfl rfl rfl ?_
        refine aG_ rfl rfl rfl rfl rfl rfl rfl rfl ?_
        refine aG_ rfl rfl rfl rfl rfl rfl rfl rfl ?_
        refine aG_ rfl rfl rfl rfl rfl rfl rfl rfl ?_
        refine aG_ rfl rfl rfl rfl rfl rfl rfl rfl ?_
        refine aG_ rfl rfl rfl rfl rfl rfl rfl rfl ?_
        refine aC_ rfl rfl (q_pick) ?_
        refine aC_ rfl rfl (q_assign) ?_
        refine AOps.nil ?_
        refine AWp.region ?_
        refine aC_ rfl rfl (q_add) ?_
        refine aC_ rfl rfl (q_move) ?_
        refine AOps.nil ?_
        refine ⟨j + 1, ?_, Back.mk' (HasT.cons (HasT.cons HasT.nil (h1 := by exact congrArg tf (by rw [sub_step (by omega), h11_0]; rfl)) )) HasH.nil, ?_⟩
        ·
         first | assumption | omega | decide | (simp; omega) | (simp [*]; done)
        ·
         first | omega | (simp; omega)
       ·
        refine aC_ rfl rfl (q_move) ?_
        refine AOps.gcons rfl rfl rfl rfl rfl (q_fa) ?_
        refine AOps.gcons rfl rfl rfl rfl rfl (q_load) ?_
        refine AOps.gcons rfl rfl rfl rfl rfl (by first | exact q_conv_zs | exact q_conv_ls) ?_
        refine AOps.gcons rfl rfl rfl rfl rfl (q_fa) ?_
        refine AOps.gcons rfl rfl rfl rfl rfl (q_load) ?_
        refine AOps.gcons rfl rfl rfl rfl rfl (by first | exact q_conv_zs | exact q_conv_ls) ?_
        refine AOps.gbool rfl rfl rfl rfl rfl (q_call (0) (hc := (c_ciceroneref01_Same (([(a, b), (b, a)].getD p default).1.getD i default).da (([(a, b), (b, a)].getD p default).2.getD j default).da (by omega) (by omega)))) (fun h11_8 => ?_) (fun h11_8 => ?_)
        ·
         refine aC_ rfl rfl (q_pick) ?_
         refine aC_ rfl rfl (q_assign) ?_
         refine AOps.nil ?_
         refine AWp.region ?_
         refine aC_ rfl rfl (q_add) ?_
         refine aC_ rfl rfl (q_move) ?_
         refine AOps.nil ?_
         refine ⟨j + 1, ?_, Back.mk' (HasT.cons (HasT.cons HasT.nil (h1 := by exact congrArg tf (by rw [sub_step (by omega), h11_0, Bool.false_or]; exact h11_8.symm)) )) HasH.nil, ?_⟩
         ·
          first | assumption | omega | decide | (simp; omega) | (simp [*]; done)
         ·
          first | omega | (simp; omega)
        ·
         refine aC_ rfl rfl (q_pick) ?_
         refine aC_ rfl rfl (q_assign) ?_
         refine AOps.nil ?_
         refine AWp.region ?_
         refine aC_ rfl rfl (q_add) ?_
         refine aC_ rfl rfl (q_move) ?_
         refine AOps.nil ?_
         refine ⟨j + 1, ?_, Back.mk' (HasT.cons (HasT.cons HasT.nil (h1 := by exact congrArg tf (by rw [sub_step (by omega), h11_0, Bool.false_or]; exact h11_8.symm)) )) HasH.nil, ?_⟩
         ·
          first | assumption | omega | decide | (simp; omega) | (simp [*]; done)
         ·
          first | omega | (simp; omega)
      ·
       refine AOps.nil ?_
       refine AWp.seq ?_
       refine AWp.cond_f rfl ?_
       refine AWp.exit ?_
       refine AWp.seq ?_
       refine AWp.region ?_
       refine AOps.bool rfl rfl (q_move) (fun h13_0 => ?_) (fun h13_0 => ?_)
       ·
        refine aC_ rfl rfl (q_not) ?_
        refine AOps.nil ?_
        refine AWp.cond_f rfl ?_
        refine AWp.skip ?_
        refine AWp.region ?_
        refine aC_ rfl rfl (q_add) ?_
        refine aC_ rfl rfl (q_move) ?_
        refine AOps.nil ?_
        refine ⟨i + 1, ?_, Back.mk' (HasT.cons HasT.nil) HasH.nil, ?_⟩
        ·
         have hj2 : j = (([(a, b), (b, a)].getD p default).2).length := by omega
         rw [hj2, List.take_length] at h13_0
         exact ⟨by omega, all_step (i := i) (by omega) hB h13_0⟩
        ·
         first | omega | (simp; omega)
       ·
        refine aC_ rfl rfl (q_not) ?_
        refine AOps.nil ?_
        refine AWp.cond_t rfl ?_
        refine AWp.seq ?_
        refine AWp.region ?_
        refine aC_ rfl rfl (q_assign) ?_
        refine AOps.nil ?_
        refine AWp.ret ?_
        show Fin te Try.f88 _ _
        refine q_ret (0) [_] [_] ?_
        have hj2 : j = (([(a, b), (b, a)].getD p default).2).length := by omega
        rw [hj2, List.take_length] at h13_0
        exact congrArg tf ((two_all (a := a) (b := b)).symm.trans (all_no (i := p) (by omega) (by rw [bothR, subR_all]; exact all_no (i := i) (by omega) h13_0))).symm
    ·
     refine AOps.nil ?_
     refine AWp.seq ?_
     refine AWp.cond_f rfl ?_
     refine AWp.exit ?_
     refine AWp.region ?_
     refine aC_ rfl rfl (q_add) ?_
     refine aC_ rfl rfl (q_move) ?_
     refine AOps.nil ?_
     refine ⟨p + 1, ?_, Back.mk' (HasT.cons HasT.nil) HasH.nil, ?_⟩
     ·
      obtain rfl : i = ([(a, b), (b, a)].getD p default).1.length := by omega
      rw [List.take_length] at hB
      exact ⟨by omega, all_step (i := p) (by simp; omega) hA (by rw [bothR, subR_all]; exact hB)⟩
     ·
      first | omega | (simp; omega)
  ·
   refine AOps.nil ?_
   refine AWp.seq ?_
   refine AWp.cond_f rfl ?_
   refine AWp.exit ?_
   refine AWp.seq ?_
   refine AWp.region ?_
   refine aC_ rfl rfl (q_assign) ?_
   refine AOps.nil ?_
   refine AWp.ret ?_
   show Fin te Try.f88 _ _
   refine q_ret (0) [_] [_] ?_
   obtain rfl : p = 2 := by omega
   exact congrArg tf ((two_all (a := a) (b := b)).symm.trans hA).symm
end Go.Proofs.Ytokccoloholgaaa.Fw


set_option linter.unusedVariables false
set_option linter.unusedSimpArgs false
namespace Go.Proofs.Ytokccoloholgaaa.Fw
open Go.RowKit
theorem chi_1 {t : Tr} {up : List Int} {k : Int} {n : List UInt8} {j : Nat} (h : ¬ (0 : Int) < j) : childB t up k n j = false := by rw [childB, decide_eq_false (p := 0 < j) (by omega)]; rfl
theorem chi_2 {t : Tr} {up : List Int} {k : Int} {n : List UInt8} {j : Nat} (h : sameN (t.zs.getD j default).o n = false) : childB t up k n j = false := by rw [childB, h, Bool.and_false]
theorem chi_3 {t : Tr} {k : Int} {n : List UInt8} {j : Nat} (hj : j < t.zs.length) (h : ¬ parOf t (t.zs.getD j default) = k) : childB t (parT t) k n j = false := by rw [childB, parT_get hj, decide_eq_false h, Bool.and_false]; rfl
theorem chi_yes {t : Tr} {k : Int} {n : List UInt8} {j : Nat} (hj : j < t.zs.length) (h0 : (0 : Int) < j) (h2 : sameN (t.zs.getD j default).o n = true) (h : parOf t (t.zs.getD j default) = k) : childB t (parT t) k n j = true := by
  rw [childB, parT_get hj, decide_eq_true h, h2, decide_eq_true (p := 0 < j) (by omega)]; rfl
theorem joinQ_1 {t : Tr} {up : List Int} {k : Int} {z : Zo} {r : Rr} (h : ¬ r.ty = 2) : joinQ t up k z r = false := by rw [joinQ, decide_eq_false h]; rfl
theorem joinQ_2 {t : Tr} {up : List Int} {k : Int} {z : Zo} {r : Rr} (h : sameN r.nm z.o = true) : joinQ t up k z r = false := by rw [joinQ, h, Bool.not_true, Bool.and_false]; rfl
theorem joinQ_3 {t : Tr} {up : List Int} {k : Int} {z : Zo} {r : Rr} (h : (List.range t.zs.length).any (childB t up k r.nm) = true) : joinQ t up k z r = false := by rw [joinQ, h, Bool.not_true, Bool.and_false]
theorem joinQ_yes {t : Tr} {up : List Int} {k : Int} {z : Zo} {r : Rr} (h1 : ¬ ¬ r.ty = 2) (h2 : sameN r.nm z.o = false) (h : (List.range t.zs.length).any (childB t up k r.nm) = false) : joinQ t up k z r = true := by
  rw [joinQ, decide_eq_true (Decidable.not_not.1 h1), h2, h]; rfl
theorem joinZ_fin {t : Tr} {up : List Int} {k : Int} (h : ∀ j, j < t.zs.length → kidO t up k j = true) (h2 : (zAt t k).rs.any (joinQ t up k (zAt t k)) = false) : joinZ t up k = true := by rw [joinZ, range_all_iff.2 h, h2]; rfl
theorem joinZ_bad {t : Tr} {up : List Int} {k : Int} (h2 : (zAt t k).rs.any (joinQ t up k (zAt t k)) = true) : joinZ t up k = false := by rw [joinZ, h2, Bool.not_true, Bool.and_false]
set_option maxRecDepth 20000 in
set_option maxHeartbeats 2000000 in
theorem c_ciceroneref18_parent (t : Tr) (k : Int) (ht : TrOk t) (hk : 0 ≤ k ∧ k < t.zs.length) : AC Try.prog 87 [.agg (trC t), i64 k] emp (Ret (i64 (parOf t (zAt t k)))) := by
 have hb1 := ht.1
 have hzk := zo_ok ht hk
 have hkl := hzk.1
 refine AC.intro te_ok (fn := Try.f87) ⟨Try.func87, rfl, rfl⟩ (Nat.le_of_ble_eq_true rfl) ?_
 refine AWp.seq ?_
 refine AWp.region ?_
 refine aC_ rfl rfl (q_box 100) ?_
 refine aC_ rfl rfl (q_assign) ?_
 refine AOps.nil ?_
 refine AWp.seq ?_
 refine AWp.region ?_
 refine aC_ rfl rfl (q_nilrow 200 1 ic) ?_
 refine AOps.nil ?_
 refine AWp.seq ?_
 refine AWp.seq ?_
 refine AWp.region ?_
 refine aC_ rfl rfl (q_fa) ?_
 refine aC_ rfl rfl (q_load) ?_
 refine aC_ rfl rfl (q_len) ?_
 refine aC_ rfl rfl (q_move) ?_
 refine AOps.nil ?_
 refine AWp.block ?_
 refine AWp.loopR (α := Nat × List Int × Nat) [5, 6, 10, 11, 12, 13, 14, 15, 16, 17, 18, 19, 20, 21, 22, 23, 24, 25, 26, 27, 28, 29, 30] (fun x_ => [(10, i64 (x_.1)), (5, .sl 200 (x_.2.2) 0 (x_.2.1).length 1)]) (fun x_ => [(200, .row (cl ic (x_.2.1)) 1 (x_.2.2))]) (fun x_ => (x_.1) ≤ t.zs.length ∧ (x_.2.1) = parL t (zAt t k) (x_.1)) (fun x_ => t.zs.length - (x_.1)) (0, [], 0) ?_ (Back.mk' (HasT.cons (HasT.cons HasT.nil)) (HasH.cons HasH.nil)) ?_
 ·
  exact ⟨Nat.zero_le _, rfl⟩
 ·
  rintro ⟨i, acc, v⟩ hI3
  change i ≤ t.zs.length ∧ acc = parL t (zAt t k) i at hI3
  obtain ⟨hi, ha⟩ := hI3
  refine AWp.as (s' := AS.over _ [5, 6, 10, 11, 12, 13, 14, 15, 16, 17, 18, 19, 20, 21, 22, 23, 24, 25, 26, 27, 28, 29, 30] [(10, i64 i), (5, .sl 200 v 0 acc.length 1)] [(200, .row (cl ic acc) 1 v)]) rfl ?_
  have hal : acc.length ≤ i := by rw [ha]; exact parL_len
  refine AWp.seq ?_
  refine AWp.region ?_
  refine AOps.dec rfl rfl (q_lss) (fun h3_0 => ?_) (fun h3_0 => ?_)
  ·
   refine AOps.nil ?_
   refine AWp.seq ?_
   refine AWp.cond_t rfl ?_
   refine AWp.skip ?_
   refine AWp.seq ?_
   refine AWp.block ?_
   refine AWp.seq ?_
   refine AWp.region ?_
   refine aC_ rfl rfl (q_move) ?_
   refine aC_ rfl rfl (q_assign) ?_
   refine AOps.nil ?_
   refine AWp.seq ?_
   have hzi := ht.2.1 _ (getD_mem' (l := t.zs) (i := i) (by omega))
   have hzl := hzi.1
   cases hbel : belB (zAt t k).o (t.zs.getD i default).o
   ·
    refine AWp.draws [⟨0, [2], [100], some 13, _, []⟩,
 ⟨1, [13], [100], some 14, _, []⟩,
 ⟨2, [1], [], some 15, _, []⟩,
 ⟨3, [14, 15], [], some 16, _, []⟩,
 ⟨4, [16], [], some 17, _, []⟩,
 ⟨5, [17], [], some 18, _, []⟩,
 ⟨6, [2], [100], some 19, _, []⟩,
 ⟨7, [19], [100], some 20, _, []⟩,
 ⟨8, [6], [], some 21, _, []⟩,
 ⟨9, [20, 21], [], some 22, _, []⟩,
 ⟨10, [22], [], some 23, _, []⟩,
 ⟨11, [23], [], some 24, _, []⟩,
 ⟨12, [18, 24], [], some 25, _, []⟩]
     [kN_ 0 [2] [100] 13,
 kN_ 1 [13] [100] 14,
 kN_ 2 [1] [] 15,
 kN_ 3 [14, 15] [] 16,
 kN_ 4 [16] [] 17,
 kN_ 5 [17] [] 18,
 kN_ 6 [2] [100] 19,
 kN_ 7 [19] [100] 20,
 kN_ 8 [6] [] 21,
 kN_ 9 [20, 21] [] 22,
 kN_ 10 [22] [] 23,
 kN_ 11 [23] [] 24,
 kN_ 12 [18, 24] [] 25]
     mixed_ok rfl (by kernel_rfl) ⟨dK_ fun s0 => oG_ rfl rfl (q_fa),
 dK_ fun s0 => oG_ rfl rfl (q_load),
 dK_ fun s0 => oG_ rfl rfl (q_move),
 dK_ fun s0 => oG_ rfl rfl (q_ix),
 dK_ fun s0 => oG_ rfl rfl (q_fa),
 dK_ fun s0 => oG_ rfl rfl (q_load),
 dK_ fun s0 => oG_ rfl rfl (q_fa),
 dK_ fun s0 => oG_ rfl rfl (q_load),
 dK_ fun s0 => oG_ rfl rfl (q_move),
 dK_ fun s0 => oG_ rfl rfl (q_ix),
 dK_ fun s0 => oG_ rfl rfl (q_fa),
 dK_ fun s0 => oG_ rfl rfl (q_load),
 dK_ fun s0 => oG_ rfl rfl ((OpOk.bool_is (c := false) (q_call (0) (hc := (c_ciceroneref18_below (zAt t k).o (t.zs.getD i default).o (by omega) (by omega)))) (hbel))), trivial⟩ ?_
    dsimp only [final, DS.upd, AS.seto]
    refine AWp.cond_f rfl ?_
    refine AWp.skip ?_
    refine AWp.region ?_
    refine aC_ rfl rfl (q_add) ?_
    refine aC_ rfl rfl (q_move) ?_
    refine AOps.nil ?_
    refine ⟨(i + 1, acc, v), ?_, Back.mk' (HasT.cons (HasT.cons HasT.nil)) (HasH.cons HasH.nil), ?_⟩
    ·
     try dsimp only
     exact ⟨by omega, by rw [parL_step, ha, if_neg (by rw [show belB (zAt t k).o (zAt t (i : Int)).o = false from hbel]; decide), List.append_nil]⟩
    ·
     try dsimp only
     first | omega | (simp; omega)
   ·
    refine AWp.draws [⟨0, [2], [100], some 13, _, []⟩,
 ⟨1, [13], [100], some 14, _, []⟩,
 ⟨2, [1], [], some 15, _, []⟩,
 ⟨3, [14, 15], [], some 16, _, []⟩,
 ⟨4, [16], [], some 17, _, []⟩,
 ⟨5, [17], [], some 18, _, []⟩,
 ⟨6, [2], [100], some 19, _, []⟩,
 ⟨7, [19], [100], some 20, _, []⟩,
 ⟨8, [6], [], some 21, _, []⟩,
 ⟨9, [20, 21], [], some 22, _, []⟩,
 ⟨10, [22], [], some 23, _, []⟩,
 ⟨11, [23], [], some 24, _, []⟩,
 ⟨12, [18, 24], [], some 25, _, []⟩]
     [kN_ 0 [2] [100] 13,
 kN_ 1 [13] [100] 14,
 kN_ 2 [1] [] 15,
 kN_ 3 [14, 15] [] 16,
 kN_ 4 [16] [] 17,
 kN_ 5 [17] [] 18,
 kN_ 6 [2] [100] 19,
 kN_ 7 [19] [100] 20,
 kN_ 8 [6] [] 21,
 kN_ 9 [20, 21] [] 22,
 kN_ 10 [22] [] 23,
 kN_ 11 [23] [] 24,
 kN_ 12 [18, 24] [] 25]
     mixed_ok rfl (by kernel_rfl) ⟨dK_ fun s0 => oG_ rfl rfl (q_fa),
 dK_ fun s0 => oG_ rfl rfl (q_load),
 dK_ fun s0 => oG_ rfl rfl (q_move),
 dK_ fun s0 => oG_ rfl rfl (q_ix),
 dK_ fun s0 => oG_ rfl rfl (q_fa),
 dK_ fun s0 => oG_ rfl rfl (q_load),
 dK_ fun s0 => oG_ rfl rfl (q_fa),
 dK_ fun s0 => oG_ rfl rfl (q_load),
 dK_ fun s0 => oG_ rfl rfl (q_move),
 dK_ fun s0 => oG_ rfl rfl (q_ix),
 dK_ fun s0 => oG_ rfl rfl (q_fa),
 dK_ fun s0 => oG_ rfl rfl (q_load),
 dK_ fun s0 => oG_ rfl rfl ((OpOk.bool_is (c := true) (q_call (0) (hc := (c_ciceroneref18_below (zAt t k).o (t.zs.getD i default).o (by omega) (by omega)))) (hbel))), trivial⟩ ?_
    dsimp only [final, DS.upd, AS.seto]
    refine AWp.cond_t rfl ?_
    refine AWp.region ?_
    refine aC_ rfl rfl (q_move) ?_
    refine aC_ rfl rfl (q_move) ?_
    refine aC_ rfl rfl (q_bs 702 ic [_] [(_, _)]) ?_
    refine aC_ rfl rfl (q_app) ?_
    refine aC_ rfl rfl (q_assign) ?_
    refine AOps.nil ?_
    refine AWp.region ?_
    refine aC_ rfl rfl (q_add) ?_
    refine aC_ rfl rfl (q_move) ?_
    refine AOps.nil ?_
    refine ⟨(i + 1, acc ++ [(i : Int)], v + 1), ?_, Back.mk' (HasT.cons (HasT.cons HasT.nil)) (HasH.cons HasH.nil), ?_⟩
    ·
     try dsimp only
     exact ⟨by omega, by rw [parL_step, ha, if_pos (show belB (zAt t k).o (zAt t (i : Int)).o = true from hbel)]⟩
    ·
     try dsimp only
     first | omega | (simp; omega)
  ·
   refine AOps.nil ?_
   refine AWp.seq ?_
   refine AWp.cond_f rfl ?_
   refine AWp.exit ?_
   refine AWp.seq ?_
   obtain rfl : i = t.zs.length := by omega
   have hin := parL_in (t := t) (z := zAt t k) (Nat.le_refl t.zs.length)
   rw [← ha] at hin
   have hnear := parL_near t (zAt t k)
   rw [← ha] at hnear
   refine AWp.draws [⟨0, [2], [100], some 31, _, []⟩,
 ⟨1, [5], [], some 32, _, []⟩,
 ⟨2, [2], [100], some 33, _, []⟩,
 ⟨3, [33], [100], some 34, _, []⟩,
 ⟨4, [1], [], some 35, _, []⟩,
 ⟨5, [34, 35], [], some 36, _, []⟩,
 ⟨6, [36], [], some 37, _, []⟩,
 ⟨7, [37], [], some 38, _, []⟩,
 ⟨8, [31, 32, 38], [200], some 39, _, []⟩,
 ⟨9, [39], [], some 4, _, []⟩]
    [kN_ 0 [2] [100] 31,
 kN_ 1 [5] [] 32,
 kN_ 2 [2] [100] 33,
 kN_ 3 [33] [100] 34,
 kN_ 4 [1] [] 35,
 kN_ 5 [34, 35] [] 36,
 kN_ 6 [36] [] 37,
 kN_ 7 [37] [] 38,
 kN_ 8 [31, 32, 38] [200] 39,
 kN_ 9 [39] [] 4]
    mixed_ok rfl (by kernel_rfl) ⟨dK_ fun s0 => oG_ rfl rfl (q_load),
 dK_ fun s0 => oG_ rfl rfl (q_move),
 dK_ fun s0 => oG_ rfl rfl (q_fa),
 dK_ fun s0 => oG_ rfl rfl (q_load),
 dK_ fun s0 => oG_ rfl rfl (q_move),
 dK_ fun s0 => oG_ rfl rfl (q_ix),
 dK_ fun s0 => oG_ rfl rfl (q_fa),
 dK_ fun s0 => oG_ rfl rfl (q_load),
 dK_ fun s0 => oG_ rfl rfl (q_call (0) (hc := (c_ciceroneref18_nearest t acc 1 (zAt t k).o ht (by omega) hin (by omega)))),
 dK_ fun s0 => oG_ rfl rfl (q_assign), trivial⟩ ?_
   dsimp only [final, DS.upd, AS.seto]
   refine AWp.ret ?_
   show Fin te Try.f87 _ _
   refine q_ret (0) [_] [_] ?_
   exact congrArg i64 hnear
set_option maxRecDepth 20000 in
set_option maxHeartbeats 2000000 in
theorem c_ciceroneref18_delegated (t : Tr) (k : Int) (ht : TrOk t) (hk : 0 ≤ k ∧ k < t.zs.length) : AC Try.prog 42 [.agg (trC t), i64 k] emp (Ret (tf (joinZ t (parT t) k))) := by
 have hb1 := ht.1
 have hzk := zo_ok ht hk
 have hkl := hzk.1
 have hkr : (zAt t k).rs.length * 64 ≤ 140737488351232 := hzk.2.1.1
 refine AC.intro te_ok (fn := Try.f42) ⟨Try.func42, rfl, rfl⟩ (Nat.le_of_ble_eq_true rfl) ?_
 refine AWp.seq ?_
 refine AWp.region ?_
 refine aC_ rfl rfl (q_box 100) ?_
 refine aC_ rfl rfl (q_assign) ?_
 refine AOps.nil ?_
 refine AWp.seq ?_
 refine AWp.region ?_
 refine aC_ rfl rfl (q_fa) ?_
 refine aC_ rfl rfl (q_load) ?_
 refine aC_ rfl rfl (q_move) ?_
 refine aC_ rfl rfl (q_ix) ?_
 refine aC_ rfl rfl (q_load) ?_
 refine aC_ rfl rfl (q_alloc 205) ?_
 refine aC_ rfl rfl (q_store) ?_
 refine AOps.nil ?_
 refine AWp.seq ?_
 refine AWp.seq ?_
 refine AWp.region ?_
 refine aC_ rfl rfl (q_fa) ?_
 refine aC_ rfl rfl (q_load) ?_
 refine aC_ rfl rfl (q_len) ?_
 refine aC_ rfl rfl (q_move) ?_
 refine AOps.nil ?_
 refine AWp.block ?_
 refine AWp.loopR (α := Nat) [4, 6, 7, 8, 21, 22, 23, 24, 25, 26, 27, 28, 29, 30, 31, 32, 33, 34, 35, 36, 37, 38, 39, 40, 41, 42, 43, 44, 45, 46, 47, 48, 49, 50, 51, 52, 53, 54, 55, 56, 57, 58, 59] (fun i => [(21, i64 i)]) (fun i => []) (fun i => i ≤ t.zs.length ∧ ∀ j, j < i → kidO t (parT t) k j = true) (fun i => t.zs.length - i) 0 ?_ (Back.mk' (HasT.cons HasT.nil) HasH.nil) ?_
 ·
  exact ⟨Nat.zero_le _, fun j hj => absurd hj (Nat.not_lt_zero j)⟩
 ·
  rintro i ⟨hi, hc⟩
  refine AWp.seq ?_
  refine AWp.region ?_
  refine AOps.dec rfl rfl (q_lss) (fun h3_0 => ?_) (fun h3_0 => ?_)
  ·
   refine AOps.nil ?_
   refine AWp.seq ?_
   refine AWp.cond_t rfl ?_
   refine AWp.skip ?_
   refine AWp.seq ?_
   refine AWp.block ?_
   refine AWp.seq ?_
   refine AWp.region ?_
   have hzi := ht.2.1 _ (getD_mem' (l := t.zs) (i := i) (by omega))
   have hzl := hzi.1
   refine aC_ rfl rfl (q_move) ?_
   refine aC_ rfl rfl (q_assign) ?_
   refine AOps.nil ?_
   refine AWp.seq ?_
   refine AWp.seq ?_
   refine AWp.region ?_
   refine aC_ rfl rfl (q_move) ?_
   refine AOps.dec rfl rfl (q_eql) (fun h5_1 => ?_) (fun h5_1 => ?_)
   ·
    refine aC_ rfl rfl (q_move) ?_
    refine aG_ rfl rfl rfl rfl rfl rfl rfl rfl ?_
    refine aG_ rfl rfl rfl rfl rfl rfl rfl rfl ?_
    refine aG_ rfl rfl rfl rfl rfl rfl rfl rfl ?_
    refine aG_ rfl rfl rfl rfl rfl rfl rfl rfl ?_
    refine aG_ rfl rfl rfl rfl rfl rfl rfl rfl ?_
    refine aC_ rfl rfl (q_pick) ?_
    refine AOps.nil ?_
    refine AWp.cond_t rfl ?_
    refine AWp.exit ?_
    refine AWp.region ?_
    refine aC_ rfl rfl (q_add) ?_
    refine aC_ rfl rfl (q_move) ?_
    refine AOps.nil ?_
    refine ⟨i + 1, ?_, Back.mk' (HasT.cons HasT.nil) HasH.nil, ?_⟩
    ·
     exact ⟨by omega, lt_step hc (by rw [kidO, decide_eq_true (p := i = 0) (by omega)]; rfl)⟩
    ·
     first | omega | (simp; omega)
   ·
    refine aC_ rfl rfl (q_move) ?_
    refine AOps.gcons rfl rfl rfl rfl rfl (q_load) ?_
    refine AOps.gcons rfl rfl rfl rfl rfl (q_move) ?_
    refine AOps.gcons rfl rfl rfl rfl rfl (q_call (0) (hc := (c_ciceroneref18_parent t i ht ⟨by omega, by omega⟩))) ?_
    refine AOps.gcons rfl rfl rfl rfl rfl (q_move) ?_
    refine AOps.gdec rfl rfl rfl rfl rfl (q_neq) (fun h5_7 => ?_) (fun h5_7 => ?_)
    ·
     refine aC_ rfl rfl (q_pick) ?_
     refine AOps.nil ?_
     refine AWp.cond_t rfl ?_
     refine AWp.exit ?_
     refine AWp.region ?_
     refine aC_ rfl rfl (q_add) ?_
     refine aC_ rfl rfl (q_move) ?_
     refine AOps.nil ?_
     refine ⟨i + 1, ?_, Back.mk' (HasT.cons HasT.nil) HasH.nil, ?_⟩
     ·
      exact ⟨by omega, lt_step hc (by rw [kidO, parT_get (by omega), decide_eq_true (p := parOf t (t.zs.getD i default) ≠ k) h5_7, Bool.or_true]; rfl)⟩
     ·
      first | omega | (simp; omega)
    ·
     refine aC_ rfl rfl (q_pick) ?_
     refine AOps.nil ?_
     refine AWp.cond_f rfl ?_
     refine AWp.skip ?_
     refine AWp.seq ?_
     refine AWp.region ?_
     refine aC_ rfl rfl (q_fa) ?_
     refine aC_ rfl rfl (q_load) ?_
     refine aC_ rfl rfl (q_move) ?_
     refine aC_ rfl rfl (q_ix) ?_
     refine aC_ rfl rfl (q_load) ?_
     refine aC_ rfl rfl (q_alloc 705) ?_
     refine aC_ rfl rfl (q_store) ?_
     refine AOps.nil ?_
     refine AWp.seq ?_
     refine AWp.region ?_
     have hcl := cutZ_len hzk (t.zs.getD i default).o
     refine aC_ rfl rfl (q_load) ?_
     refine aC_ rfl rfl (q_fa) ?_
     refine aC_ rfl rfl (q_load) ?_
     refine aC_ rfl rfl (q_call (0) (hc := (c_rcut (zAt t k) (t.zs.getD i default).o hzk hzl))) ?_
     refine aC_ rfl rfl (q_assign) ?_
     refine AOps.nil ?_
     refine AWp.seq ?_
     rcases em2b (sameN (cutZ (zAt t k) (t.zs.getD i default).o) (t.zs.getD i default).o) (subR (atZ (zAt t k) (t.zs.getD i default).o 2) (atZ (t.zs.getD i default) (t.zs.getD i default).o 2) && subR (atZ (t.zs.getD i default) (t.zs.getD i default).o 2) (atZ (zAt t k) (t.zs.getD i default).o 2)) with h1 | ⟨h1, h2⟩ | ⟨h1, h2⟩
     ·
      refine AWp.draws [⟨0, [8], [], some 42, _, []⟩,
 ⟨1, [7], [705], some 43, _, []⟩,
 ⟨2, [43], [705], some 44, _, []⟩,
 ⟨3, [42, 44], [], some 45, _, []⟩,
 ⟨4, [45], [], some 46, _, []⟩,
 ⟨5, [46], [], some 47, _, []⟩,
 ⟨6, [47], [], some 48, .v undef, []⟩,
 ⟨7, [47], [], some 49, .v undef, []⟩,
 ⟨8, [47], [], some 50, .v undef, []⟩,
 ⟨9, [47], [], some 51, .v undef, []⟩,
 ⟨10, [47], [], some 52, .v undef, []⟩,
 ⟨11, [47], [], some 53, .v undef, []⟩,
 ⟨12, [47], [], some 54, .v undef, []⟩,
 ⟨13, [47], [], some 55, .v undef, []⟩,
 ⟨14, [47], [], some 56, .v undef, []⟩,
 ⟨15, [47], [], some 57, .v undef, []⟩,
 ⟨16, [47, 57], [], some 58, _, []⟩]
       [kN_ 0 [8] [] 42,
 kN_ 1 [7] [705] 43,
 kN_ 2 [43] [705] 44,
 kN_ 3 [42, 44] [] 45,
 kN_ 4 [45] [] 46,
 kN_ 5 [46] [] 47,
 kN_ 6 [47] [] 48,
 kN_ 7 [47] [] 49,
 kN_ 8 [47] [] 50,
 kN_ 9 [47] [] 51,
 kN_ 10 [47] [] 52,
 kN_ 11 [47] [] 53,
 kN_ 12 [47] [] 54,
 kN_ 13 [47] [] 55,
 kN_ 14 [47] [] 56,
 kN_ 15 [47] [] 57,
 kN_ 16 [47, 57] [] 58]
       mixed_ok rfl (by kernel_rfl) ⟨dK_ fun s0 => oG_ rfl rfl (q_move),
 dK_ fun s0 => oG_ rfl rfl (q_fa),
 dK_ fun s0 => oG_ rfl rfl (q_load),
 dK_ fun s0 => oG_ rfl rfl ((OpOk.bool_is (c := false) (q_call (0) (hc := (c_ciceroneref01_Same (cutZ (zAt t k) (t.zs.getD i default).o) (t.zs.getD i default).o (by omega) (by omega)))) (h1))),
 dK_ fun s0 => oG_ rfl rfl ((OpOk.bool_is (c := true) (q_not) (rfl))),
 dK_ fun s0 => oG_ rfl rfl (q_move),
 dK_ fun s0 => oS_ rfl rfl rfl rfl rfl rfl rfl rfl,
 dK_ fun s0 => oS_ rfl rfl rfl rfl rfl rfl rfl rfl,
 dK_ fun s0 => oS_ rfl rfl rfl rfl rfl rfl rfl rfl,
 dK_ fun s0 => oS_ rfl rfl rfl rfl rfl rfl rfl rfl,
 dK_ fun s0 => oS_ rfl rfl rfl rfl rfl rfl rfl rfl,
 dK_ fun s0 => oS_ rfl rfl rfl rfl rfl rfl rfl rfl,
 dK_ fun s0 => oS_ rfl rfl rfl rfl rfl rfl rfl rfl,
 dK_ fun s0 => oS_ rfl rfl rfl rfl rfl rfl rfl rfl,
 dK_ fun s0 => oS_ rfl rfl rfl rfl rfl rfl rfl rfl,
 dK_ fun s0 => oS_ rfl rfl rfl rfl rfl rfl rfl rfl,
 dK_ fun s0 => oG_ rfl rfl (q_pick), trivial⟩ ?_
      dsimp only [final, DS.upd, AS.seto]
      refine AWp.cond_t rfl ?_
      refine AWp.seq ?_
      refine AWp.region ?_
      refine aC_ rfl rfl (q_assign) ?_
      refine AOps.nil ?_
      refine AWp.ret ?_
      show Fin te Try.f42 _ _
      refine q_ret (0) [_] [_] ?_
      exact congrArg tf (joinZ_no (j := i) (by omega) (kidO_no h5_1 ((parT_get (by omega)).trans (Decidable.not_not.1 h5_7)) (by rw [h1]; rfl))).symm
     ·
      refine AWp.draws [⟨0, [8], [], some 42, _, []⟩,
 ⟨1, [7], [705], some 43, _, []⟩,
 ⟨2, [43], [705], some 44, _, []⟩,
 ⟨3, [42, 44], [], some 45, _, []⟩,
 ⟨4, [45], [], some 46, _, []⟩,
 ⟨5, [46], [], some 47, _, []⟩,
 ⟨6, [5, 47], [205], some 48, _, []⟩,
 ⟨7, [7, 47], [705], some 49, _, []⟩,
 ⟨8, [47, 49], [705], some 50, _, []⟩,
 ⟨9, [47, 48, 50], [], some 51, _, []⟩,
 ⟨10, [7, 47], [705], some 52, _, []⟩,
 ⟨11, [7, 47], [705], some 53, _, []⟩,
 ⟨12, [47, 53], [705], some 54, _, []⟩,
 ⟨13, [47, 52, 54], [], some 55, _, []⟩,
 ⟨14, [47, 51, 55], [], some 56, _, []⟩,
 ⟨15, [47, 56], [], some 57, _, []⟩,
 ⟨16, [47, 57], [], some 58, _, []⟩]
       [kN_ 0 [8] [] 42,
 kN_ 1 [7] [705] 43,
 kN_ 2 [43] [705] 44,
 kN_ 3 [42, 44] [] 45,
 kN_ 4 [45] [] 46,
 kN_ 5 [46] [] 47,
 kN_ 6 [5, 47] [205] 48,
 kN_ 7 [7, 47] [705] 49,
 kN_ 8 [47, 49] [705] 50,
 kN_ 9 [47, 48, 50] [] 51,
 kN_ 10 [7, 47] [705] 52,
 kN_ 11 [7, 47] [705] 53,
 kN_ 12 [47, 53] [705] 54,
 kN_ 13 [47, 52, 54] [] 55,
 kN_ 14 [47, 51, 55] [] 56,
 kN_ 15 [47, 56] [] 57,
 kN_ 16 [47, 57] [] 58]
       mixed_ok rfl (by kernel_rfl) ⟨dK_ fun s0 => oG_ rfl rfl (q_move),
 dK_ fun s0 => oG_ rfl rfl (q_fa),
 dK_ fun s0 => oG_ rfl rfl (q_load),
 dK_ fun s0 => oG_ rfl rfl ((OpOk.bool_is (c := true) (q_call (0) (hc := (c_ciceroneref01_Same (cutZ (zAt t k) (t.zs.getD i default).o) (t.zs.getD i default).o (by omega) (by omega)))) (h1))),
 dK_ fun s0 => oG_ rfl rfl ((OpOk.bool_is (c := false) (q_not) (rfl))),
 dK_ fun s0 => oG_ rfl rfl (q_move),
 dK_ fun s0 => oO_ rfl rfl rfl rfl rfl (q_load),
 dK_ fun s0 => oO_ rfl rfl rfl rfl rfl (q_fa),
 dK_ fun s0 => oO_ rfl rfl rfl rfl rfl (q_load),
 dK_ fun s0 => oO_ rfl rfl rfl rfl rfl (q_call (0) (hc := (c_rat (zAt t k) (t.zs.getD i default).o 2 hzk hzl))),
 dK_ fun s0 => oO_ rfl rfl rfl rfl rfl (q_load),
 dK_ fun s0 => oO_ rfl rfl rfl rfl rfl (q_fa),
 dK_ fun s0 => oO_ rfl rfl rfl rfl rfl (q_load),
 dK_ fun s0 => oO_ rfl rfl rfl rfl rfl (q_call (0) (hc := (c_rat (t.zs.getD i default) (t.zs.getD i default).o 2 hzi hzl))),
 dK_ fun s0 => oO_ rfl rfl rfl rfl rfl ((OpOk.bool_is (c := false) (q_call (0) (hc := (c_ciceroneref18_sameNames (atZ (zAt t k) (t.zs.getD i default).o 2) (atZ (t.zs.getD i default) (t.zs.getD i default).o 2) (atZ_ok hzk _ _) (atZ_ok hzi _ _)))) (h2))),
 dK_ fun s0 => oO_ rfl rfl rfl rfl rfl ((OpOk.bool_is (c := true) (q_not) (rfl))),
 dK_ fun s0 => oG_ rfl rfl (q_pick), trivial⟩ ?_
      dsimp only [final, DS.upd, AS.seto]
      refine AWp.cond_t rfl ?_
      refine AWp.seq ?_
      refine AWp.region ?_
      refine aC_ rfl rfl (q_assign) ?_
      refine AOps.nil ?_
      refine AWp.ret ?_
      show Fin te Try.f42 _ _
      refine q_ret (0) [_] [_] ?_
      exact congrArg tf (joinZ_no (j := i) (by omega) (kidO_no h5_1 ((parT_get (by omega)).trans (Decidable.not_not.1 h5_7)) (by rw [Bool.and_assoc, h2, Bool.and_false]))).symm
     ·
      refine AWp.draws [⟨0, [8], [], some 42, _, []⟩,
 ⟨1, [7], [705], some 43, _, []⟩,
 ⟨2, [43], [705], some 44, _, []⟩,
 ⟨3, [42, 44], [], some 45, _, []⟩,
 ⟨4, [45], [], some 46, _, []⟩,
 ⟨5, [46], [], some 47, _, []⟩,
 ⟨6, [5, 47], [205], some 48, _, []⟩,
 ⟨7, [7, 47], [705], some 49, _, []⟩,
 ⟨8, [47, 49], [705], some 50, _, []⟩,
 ⟨9, [47, 48, 50], [], some 51, _, []⟩,
 ⟨10, [7, 47], [705], some 52, _, []⟩,
 ⟨11, [7, 47], [705], some 53, _, []⟩,
 ⟨12, [47, 53], [705], some 54, _, []⟩,
 ⟨13, [47, 52, 54], [], some 55, _, []⟩,
 ⟨14, [47, 51, 55], [], some 56, _, []⟩,
 ⟨15, [47, 56], [], some 57, _, []⟩,
 ⟨16, [47, 57], [], some 58, _, []⟩]
       [kN_ 0 [8] [] 42,
 kN_ 1 [7] [705] 43,
 kN_ 2 [43] [705] 44,
 kN_ 3 [42, 44] [] 45,
 kN_ 4 [45] [] 46,
 kN_ 5 [46] [] 47,
 kN_ 6 [5, 47] [205] 48,
 kN_ 7 [7, 47] [705] 49,
 kN_ 8 [47, 49] [705] 50,
 kN_ 9 [47, 48, 50] [] 51,
 kN_ 10 [7, 47] [705] 52,
 kN_ 11 [7, 47] [705] 53,
 kN_ 12 [47, 53] [705] 54,
 kN_ 13 [47, 52, 54] [] 55,
 kN_ 14 [47, 51, 55] [] 56,
 kN_ 15 [47, 56] [] 57,
 kN_ 16 [47, 57] [] 58]
       mixed_ok rfl (by kernel_rfl) ⟨dK_ fun s0 => oG_ rfl rfl (q_move),
 dK_ fun s0 => oG_ rfl rfl (q_fa),
 dK_ fun s0 => oG_ rfl rfl (q_load),
 dK_ fun s0 => oG_ rfl rfl ((OpOk.bool_is (c := true) (q_call (0) (hc := (c_ciceroneref01_Same (cutZ (zAt t k) (t.zs.getD i default).o) (t.zs.getD i default).o (by omega) (by omega)))) (h1))),
 dK_ fun s0 => oG_ rfl rfl ((OpOk.bool_is (c := false) (q_not) (rfl))),
 dK_ fun s0 => oG_ rfl rfl (q_move),
 dK_ fun s0 => oO_ rfl rfl rfl rfl rfl (q_load),
 dK_ fun s0 => oO_ rfl rfl rfl rfl rfl (q_fa),
 dK_ fun s0 => oO_ rfl rfl rfl rfl rfl (q_load),
 dK_ fun s0 => oO_ rfl rfl rfl rfl rfl (q_call (0) (hc := (c_rat (zAt t k) (t.zs.getD i default).o 2 hzk hzl))),
 dK_ fun s0 => oO_ rfl rfl rfl rfl rfl (q_load),
 dK_ fun s0 => oO_ rfl rfl rfl rfl rfl (q_fa),
 dK_ fun s0 => oO_ rfl rfl rfl rfl rfl (q_load),
 dK_ fun s0 => oO_ rfl rfl rfl rfl rfl (q_call (0) (hc := (c_rat (t.zs.getD i default) (t.zs.getD i default).o 2 hzi hzl))),
 dK_ fun s0 => oO_ rfl rfl rfl rfl rfl ((OpOk.bool_is (c := true) (q_call (0) (hc := (c_ciceroneref18_sameNames (atZ (zAt t k) (t.zs.getD i default).o 2) (atZ (t.zs.getD i default) (t.zs.getD i default).o 2) (atZ_ok hzk _ _) (atZ_ok hzi _ _)))) (h2))),
 dK_ fun s0 => oO_ rfl rfl rfl rfl rfl ((OpOk.bool_is (c := false) (q_not) (rfl))),
 dK_ fun s0 => oG_ rfl rfl (q_pick), trivial⟩ ?_
      dsimp only [final, DS.upd, AS.seto]
      refine AWp.cond_f rfl ?_
      refine AWp.skip ?_
      refine AWp.region ?_
      refine aC_ rfl rfl (q_add) ?_
      refine aC_ rfl rfl (q_move) ?_
      refine AOps.nil ?_
      refine ⟨i + 1, ?_, Back.mk' (HasT.cons HasT.nil) HasH.nil, ?_⟩
      ·
       exact ⟨by omega, lt_step hc (kidO_yes h1 (by simp only [Bool.and_eq_true] at h2; exact h2.1) (by simp only [Bool.and_eq_true] at h2; exact h2.2))⟩
      ·
       first | omega | (simp; omega)
  ·
   refine AOps.nil ?_
   refine AWp.seq ?_
   refine AWp.cond_f rfl ?_
   refine AWp.exit ?_
   refine AWp.seq ?_
   refine AWp.seq ?_
   refine AWp.region ?_
   obtain rfl : i = t.zs.length := by omega
   refine aC_ rfl rfl (q_fa) ?_
   refine aC_ rfl rfl (q_load) ?_
   refine aC_ rfl rfl (q_len) ?_
   refine aC_ rfl rfl (q_move) ?_
   refine AOps.nil ?_
   refine AWp.block ?_
   refine AWp.loopR (α := Nat) [4, 10, 11, 12, 63, 64, 65, 66, 67, 68, 69, 70, 71, 72, 73, 74, 75, 76, 77, 78, 79, 80, 81, 82, 83, 84, 85, 86, 87, 88, 89, 90, 91, 92, 93, 94, 95, 96, 97, 98, 99, 100, 101, 102, 103, 104, 105, 106, 107, 108, 109] (fun e => [(63, i64 e)]) (fun e => []) (fun e => e ≤ (zAt t k).rs.length ∧ ((zAt t k).rs.take e).any (joinQ t (parT t) k (zAt t k)) = false) (fun e => (zAt t k).rs.length - e) 0 ?_ (Back.mk' (HasT.cons HasT.nil) HasH.nil) ?_
   ·
    exact ⟨Nat.zero_le _, rfl⟩
   ·
    rintro e ⟨he, hq⟩
    have hkr2 : (zAt t k).rs.length = (t.zs.getD k.toNat default).rs.length := rfl
    refine AWp.seq ?_
    refine AWp.region ?_
    refine AOps.dec rfl rfl (q_lss) (fun h12_0 => ?_) (fun h12_0 => ?_)
    ·
     refine AOps.nil ?_
     refine AWp.seq ?_
     refine AWp.cond_t rfl ?_
     refine AWp.skip ?_
     refine AWp.seq ?_
     refine AWp.block ?_
     refine AWp.seq ?_
     refine AWp.region ?_
     refine aC_ rfl rfl (q_ix) ?_
     refine aC_ rfl rfl (q_load) ?_
     refine aC_ rfl rfl (q_alloc 1402) ?_
     refine aC_ rfl rfl (q_store) ?_
     refine AOps.nil ?_
     refine AWp.seq ?_
     refine AWp.seq ?_
     refine AWp.region ?_
     have hri := hzk.2.2 _ (getD_mem' (l := (zAt t k).rs) (i := e) (by omega))
     refine aC_ rfl rfl (q_fa) ?_
     refine aC_ rfl rfl (q_load) ?_
     refine AOps.dec rfl rfl (q_neq) (fun h14_2 => ?_) (fun h14_2 => ?_)
     ·
      refine aC_ rfl rfl (q_move) ?_
      refine aG_ rfl rfl rfl rfl rfl rfl rfl rfl ?_
      refine aG_ rfl rfl rfl rfl rfl rfl rfl rfl ?_
      refine aG_ rfl rfl rfl rfl rfl rfl rfl rfl ?_
      refine aG_ rfl rfl rfl rfl rfl rfl rfl rfl ?_
      refine aG_ rfl rfl rfl rfl rfl rfl rfl rfl ?_
      refine aC_ rfl rfl (q_pick) ?_
      refine AOps.nil ?_
      refine AWp.cond_t rfl ?_
      refine AWp.exit ?_
      refine AWp.region ?_
      refine aC_ rfl rfl (q_add) ?_
      refine aC_ rfl rfl (q_move) ?_
      refine AOps.nil ?_
      refine ⟨e + 1, ?_, Back.mk' (HasT.cons HasT.nil) HasH.nil, ?_⟩
      ·
       exact ⟨by omega, any_no (i := e) (by omega) hq (joinQ_1 h14_2)⟩
      ·
       first | omega | (simp; omega)
     ·
      refine aC_ rfl rfl (q_move) ?_
      refine AOps.gcons rfl rfl rfl rfl rfl (q_fa) ?_
      refine AOps.gcons rfl rfl rfl rfl rfl (q_load) ?_
      refine AOps.gcons rfl rfl rfl rfl rfl (q_fa) ?_
      refine AOps.gcons rfl rfl rfl rfl rfl (q_load) ?_
      refine AOps.gbool rfl rfl rfl rfl rfl (q_call (0) (hc := (c_ciceroneref01_Same ((zAt t k).rs.getD e default).nm (zAt t k).o (by omega) (by omega)))) (fun h14_8 => ?_) (fun h14_8 => ?_)
      ·
       refine aC_ rfl rfl (q_pick) ?_
       refine AOps.nil ?_
       refine AWp.cond_t rfl ?_
       refine AWp.exit ?_
       refine AWp.region ?_
       refine aC_ rfl rfl (q_add) ?_
       refine aC_ rfl rfl (q_move) ?_
       refine AOps.nil ?_
       refine ⟨e + 1, ?_, Back.mk' (HasT.cons HasT.nil) HasH.nil, ?_⟩
       ·
        exact ⟨by omega, any_no (i := e) (by omega) hq (joinQ_2 h14_8)⟩
       ·
        first | omega | (simp; omega)
      ·
       refine aC_ rfl rfl (q_pick) ?_
       refine AOps.nil ?_
       refine AWp.cond_f rfl ?_
       refine AWp.skip ?_
       refine AWp.seq ?_
       refine AWp.region ?_
       refine aC_ rfl rfl (q_assign) ?_
       refine AOps.nil ?_
       refine AWp.seq ?_
       refine AWp.seq ?_
       refine AWp.region ?_
       refine aC_ rfl rfl (q_fa) ?_
       refine aC_ rfl rfl (q_load) ?_
       refine aC_ rfl rfl (q_len) ?_
       refine aC_ rfl rfl (q_move) ?_
       refine AOps.nil ?_
       refine AWp.block ?_
       refine AWp.loopR (α := Nat) [11, 12, 80, 81, 82, 83, 84, 85, 86, 87, 88, 89, 90, 91, 92, 93, 94, 95, 96, 97, 98, 99, 100, 101, 102, 103, 104, 105, 106] (fun j => [(80, i64 j), (11, tf ((List.range j).any (childB t (parT t) k ((zAt t k).rs.getD e default).nm)))]) (fun j => []) (fun j => j ≤ t.zs.length) (fun j => t.zs.length - j) 0 ?_ (Back.mk' (HasT.cons (HasT.cons HasT.nil)) HasH.nil) ?_
       ·
        exact Nat.zero_le _
       ·
        rintro j hj
        refine AWp.seq ?_
        refine AWp.region ?_
        refine AOps.dec rfl rfl (q_lss) (fun h17_0 => ?_) (fun h17_0 => ?_)
        ·
         refine AOps.nil ?_
         refine AWp.seq ?_
         refine AWp.cond_t rfl ?_
         refine AWp.skip ?_
         refine AWp.seq ?_
         refine AWp.block ?_
         refine AWp.seq ?_
         refine AWp.region ?_
         have hzj := ht.2.1 _ (getD_mem' (l := t.zs) (i := j) (by omega))
         have hzjl := hzj.1
         refine aC_ rfl rfl (q_move) ?_
         refine aC_ rfl rfl (q_assign) ?_
         refine AOps.nil ?_
         rcases find5 ((List.range j).any (childB t (parT t) k ((zAt t k).rs.getD e default).nm)) (0 < (j : Int)) (sameN (t.zs.getD j default).o ((zAt t k).rs.getD e default).nm) (parOf t (t.zs.getD j default) = k) with h1 | ⟨h1, h2⟩ | ⟨h1, h2, h3⟩ | ⟨h1, h2, h3, h4⟩ | ⟨h1, h2, h3, h4⟩
         ·
          refine AWp.draws [⟨0, [11], [], some 83, _, []⟩,
 ⟨1, [83], [], some 84, _, []⟩,
 ⟨2, [84], [], some 85, .v undef, []⟩,
 ⟨3, [84], [], some 86, .v undef, []⟩,
 ⟨4, [84], [], some 87, .v undef, []⟩,
 ⟨5, [87], [], some 88, .v undef, []⟩,
 ⟨6, [87], [], some 89, .v undef, []⟩,
 ⟨7, [87], [], some 90, .v undef, []⟩,
 ⟨8, [87], [], some 91, .v undef, []⟩,
 ⟨9, [87], [], some 92, .v undef, []⟩,
 ⟨10, [87], [], some 93, .v undef, []⟩,
 ⟨11, [87], [], some 94, .v undef, []⟩,
 ⟨12, [87], [], some 95, .v undef, []⟩,
 ⟨13, [87], [], some 96, .v undef, []⟩,
 ⟨14, [84], [], some 97, .v undef, []⟩,
 ⟨15, [84], [], some 98, .v undef, []⟩,
 ⟨16, [98], [], some 99, .v undef, []⟩,
 ⟨17, [98], [], some 100, .v undef, []⟩,
 ⟨18, [98], [], some 101, .v undef, []⟩,
 ⟨19, [98], [], some 102, .v undef, []⟩,
 ⟨20, [98], [], some 103, .v undef, []⟩,
 ⟨21, [84], [], some 104, .v undef, []⟩,
 ⟨22, [84, 104], [], some 105, _, []⟩,
 ⟨23, [105], [], some 11, _, []⟩]
           [kN_ 0 [11] [] 83,
 kN_ 1 [83] [] 84,
 kN_ 2 [84] [] 85,
 kN_ 3 [84] [] 86,
 kN_ 4 [84] [] 87,
 kN_ 5 [87] [] 88,
 kN_ 6 [87] [] 89,
 kN_ 7 [87] [] 90,
 kN_ 8 [87] [] 91,
 kN_ 9 [87] [] 92,
 kN_ 10 [87] [] 93,
 kN_ 11 [87] [] 94,
 kN_ 12 [87] [] 95,
 kN_ 13 [87] [] 96,
 kN_ 14 [84] [] 97,
 kN_ 15 [84] [] 98,
 kN_ 16 [98] [] 99,
 kN_ 17 [98] [] 100,
 kN_ 18 [98] [] 101,
 kN_ 19 [98] [] 102,
 kN_ 20 [98] [] 103,
 kN_ 21 [84] [] 104,
 kN_ 22 [84, 104] [] 105,
 kN_ 23 [105] [] 11]
           mixed_ok rfl (by kernel_rfl) ⟨dK_ fun s0 => oG_ rfl rfl ((OpOk.bool_is (c := true) (q_move) (h1))),
 dK_ fun s0 => oG_ rfl rfl (q_move),
 dK_ fun s0 => oS_ rfl rfl rfl rfl rfl rfl rfl rfl,
 dK_ fun s0 => oS_ rfl rfl rfl rfl rfl rfl rfl rfl,
 dK_ fun s0 => oS_ rfl rfl rfl rfl rfl rfl rfl rfl,
 DS.ok_over fun s0 => OpAt.gskipu rfl rfl rfl rfl rfl rfl rfl,
 DS.ok_over fun s0 => OpAt.gskipu rfl rfl rfl rfl rfl rfl rfl,
 DS.ok_over fun s0 => OpAt.gskipu rfl rfl rfl rfl rfl rfl rfl,
 DS.ok_over fun s0 => OpAt.gskipu rfl rfl rfl rfl rfl rfl rfl,
 DS.ok_over fun s0 => OpAt.gskipu rfl rfl rfl rfl rfl rfl rfl,
 DS.ok_over fun s0 => OpAt.gskipu rfl rfl rfl rfl rfl rfl rfl,
 DS.ok_over fun s0 => OpAt.gskipu rfl rfl rfl rfl rfl rfl rfl,
 DS.ok_over fun s0 => OpAt.gskipu rfl rfl rfl rfl rfl rfl rfl,
 DS.ok_over fun s0 => OpAt.gskipu rfl rfl rfl rfl rfl rfl rfl,
 dK_ fun s0 => oS_ rfl rfl rfl rfl rfl rfl rfl rfl,
 dK_ fun s0 => oS_ rfl rfl rfl rfl rfl rfl rfl rfl,
 DS.ok_over fun s0 => OpAt.gskipu rfl rfl rfl rfl rfl rfl rfl,
 DS.ok_over fun s0 => OpAt.gskipu rfl rfl rfl rfl rfl rfl rfl,
 DS.ok_over fun s0 => OpAt.gskipu rfl rfl rfl rfl rfl rfl rfl,
 DS.ok_over fun s0 => OpAt.gskipu rfl rfl rfl rfl rfl rfl rfl,
 DS.ok_over fun s0 => OpAt.gskipu rfl rfl rfl rfl rfl rfl rfl,
 dK_ fun s0 => oS_ rfl rfl rfl rfl rfl rfl rfl rfl,
 dK_ fun s0 => oG_ rfl rfl (q_pick),
 dK_ fun s0 => oG_ rfl rfl (q_assign), trivial⟩ ?_
          dsimp only [final, DS.upd, AS.seto]
          refine AWp.region ?_
          refine aC_ rfl rfl (q_add) ?_
          refine aC_ rfl rfl (q_move) ?_
          refine AOps.nil ?_
          refine ⟨j + 1, ?_, Back.mk' (HasT.cons (HasT.cons HasT.nil (h1 := by exact congrArg tf (by rw [range_any_step, h1]; rfl)) )) HasH.nil, ?_⟩
          ·
           first | assumption | omega | decide | (simp; omega) | (simp [*]; done)
          ·
           first | omega | (simp; omega)
         ·
          refine AWp.draws [⟨0, [11], [], some 83, _, []⟩,
 ⟨1, [83], [], some 84, _, []⟩,
 ⟨2, [12, 84], [], some 85, _, []⟩,
 ⟨3, [84, 85], [], some 86, _, []⟩,
 ⟨4, [84, 86], [], some 87, _, []⟩,
 ⟨5, [87], [], some 88, .v undef, []⟩,
 ⟨6, [87], [], some 89, .v undef, []⟩,
 ⟨7, [87], [], some 90, .v undef, []⟩,
 ⟨8, [87], [], some 91, .v undef, []⟩,
 ⟨9, [87], [], some 92, .v undef, []⟩,
 ⟨10, [87], [], some 93, .v undef, []⟩,
 ⟨11, [87], [], some 94, .v undef, []⟩,
 ⟨12, [87], [], some 95, .v undef, []⟩,
 ⟨13, [87], [], some 96, .v undef, []⟩,
 ⟨14, [84, 87, 96], [], some 97, _, []⟩,
 ⟨15, [84, 97], [], some 98, _, []⟩,
 ⟨16, [98], [], some 99, .v undef, []⟩,
 ⟨17, [98], [], some 100, .v undef, []⟩,
 ⟨18, [98], [], some 101, .v undef, []⟩,
 ⟨19, [98], [], some 102, .v undef, []⟩,
 ⟨20, [98], [], some 103, .v undef, []⟩,
 ⟨21, [84, 98, 103], [], some 104, _, []⟩,
 ⟨22, [84, 104], [], some 105, _, []⟩,
 ⟨23, [105], [], some 11, _, []⟩]
           [kN_ 0 [11] [] 83,
 kN_ 1 [83] [] 84,
 kN_ 2 [12, 84] [] 85,
 kN_ 3 [84, 85] [] 86,
 kN_ 4 [84, 86] [] 87,
 kN_ 5 [87] [] 88,
 kN_ 6 [87] [] 89,
 kN_ 7 [87] [] 90,
 kN_ 8 [87] [] 91,
 kN_ 9 [87] [] 92,
 kN_ 10 [87] [] 93,
 kN_ 11 [87] [] 94,
 kN_ 12 [87] [] 95,
 kN_ 13 [87] [] 96,
 kN_ 14 [84, 87, 96] [] 97,
 kN_ 15 [84, 97] [] 98,
 kN_ 16 [98] [] 99,
 kN_ 17 [98] [] 100,
 kN_ 18 [98] [] 101,
 kN_ 19 [98] [] 102,
 kN_ 20 [98] [] 103,
 kN_ 21 [84, 98, 103] [] 104,
 kN_ 22 [84, 104] [] 105,
 kN_ 23 [105] [] 11]
           mixed_ok rfl (by kernel_rfl) ⟨dK_ fun s0 => oG_ rfl rfl ((OpOk.bool_is (c := false) (q_move) (h1))),
 dK_ fun s0 => oG_ rfl rfl (q_move),
 dK_ fun s0 => oO_ rfl rfl rfl rfl rfl (q_move),
 dK_ fun s0 => oO_ rfl rfl rfl rfl rfl ((OpOk.dec_f (q_gtr) (h2))),
 dK_ fun s0 => oO_ rfl rfl rfl rfl rfl (q_move),
 dK_ fun s0 => oS_ rfl rfl rfl rfl rfl rfl rfl rfl,
 dK_ fun s0 => oS_ rfl rfl rfl rfl rfl rfl rfl rfl,
 dK_ fun s0 => oS_ rfl rfl rfl rfl rfl rfl rfl rfl,
 dK_ fun s0 => oS_ rfl rfl rfl rfl rfl rfl rfl rfl,
 dK_ fun s0 => oS_ rfl rfl rfl rfl rfl rfl rfl rfl,
 dK_ fun s0 => oS_ rfl rfl rfl rfl rfl rfl rfl rfl,
 dK_ fun s0 => oS_ rfl rfl rfl rfl rfl rfl rfl rfl,
 dK_ fun s0 => oS_ rfl rfl rfl rfl rfl rfl rfl rfl,
 dK_ fun s0 => oS_ rfl rfl rfl rfl rfl rfl rfl rfl,
 dK_ fun s0 => oO_ rfl rfl rfl rfl rfl (q_pick),
 dK_ fun s0 => oO_ rfl rfl rfl rfl rfl (q_move),
 dK_ fun s0 => oS_ rfl rfl rfl rfl rfl rfl rfl rfl,
 dK_ fun s0 => oS_ rfl rfl rfl rfl rfl rfl rfl rfl,
 dK_ fun s0 => oS_ rfl rfl rfl rfl rfl rfl rfl rfl,
 dK_ fun s0 => oS_ rfl rfl rfl rfl rfl rfl rfl rfl,
 dK_ fun s0 => oS_ rfl rfl rfl rfl rfl rfl rfl rfl,
 dK_ fun s0 => oO_ rfl rfl rfl rfl rfl (q_pick),
 dK_ fun s0 => oG_ rfl rfl (q_pick),
 dK_ fun s0 => oG_ rfl rfl (q_assign), trivial⟩ ?_
          dsimp only [final, DS.upd, AS.seto]
          refine AWp.region ?_
          refine aC_ rfl rfl (q_add) ?_
          refine aC_ rfl rfl (q_move) ?_
          refine AOps.nil ?_
          refine ⟨j + 1, ?_, Back.mk' (HasT.cons (HasT.cons HasT.nil (h1 := by exact congrArg tf (by rw [range_any_step, h1, chi_1 h2]; rfl)) )) HasH.nil, ?_⟩
          ·
           first | assumption | omega | decide | (simp; omega) | (simp [*]; done)
          ·
           first | omega | (simp; omega)
         ·
          refine AWp.draws [⟨0, [11], [], some 83, _, []⟩,
 ⟨1, [83], [], some 84, _, []⟩,
 ⟨2, [12, 84], [], some 85, _, []⟩,
 ⟨3, [84, 85], [], some 86, _, []⟩,
 ⟨4, [84, 86], [], some 87, _, []⟩,
 ⟨5, [2, 87], [100], some 88, _, []⟩,
 ⟨6, [87, 88], [100], some 89, _, []⟩,
 ⟨7, [12, 87], [], some 90, _, []⟩,
 ⟨8, [87, 89, 90], [], some 91, _, []⟩,
 ⟨9, [87, 91], [], some 92, _, []⟩,
 ⟨10, [87, 92], [], some 93, _, []⟩,
 ⟨11, [10, 87], [1402], some 94, _, []⟩,
 ⟨12, [87, 94], [1402], some 95, _, []⟩,
 ⟨13, [87, 93, 95], [], some 96, _, []⟩,
 ⟨14, [84, 87, 96], [], some 97, _, []⟩,
 ⟨15, [84, 97], [], some 98, _, []⟩,
 ⟨16, [98], [], some 99, .v undef, []⟩,
 ⟨17, [98], [], some 100, .v undef, []⟩,
 ⟨18, [98], [], some 101, .v undef, []⟩,
 ⟨19, [98], [], some 102, .v undef, []⟩,
 ⟨20, [98], [], some 103, .v undef, []⟩,
 ⟨21, [84, 98, 103], [], some 104, _, []⟩,
 ⟨22, [84, 104], [], some 105, _, []⟩,
 ⟨23, [105], [], some 11, _, []⟩]
           [kN_ 0 [11] [] 83,
 kN_ 1 [83] [] 84,
 kN_ 2 [12, 84] [] 85,
 kN_ 3 [84, 85] [] 86,
 kN_ 4 [84, 86] [] 87,
 kN_ 5 [2, 87] [100] 88,
 kN_ 6 [87, 88] [100] 89,
 kN_ 7 [12, 87] [] 90,
 kN_ 8 [87, 89, 90] [] 91,
 kN_ 9 [87, 91] [] 92,
 kN_ 10 [87, 92] [] 93,
 kN_ 11 [10, 87] [1402] 94,
 kN_ 12 [87, 94] [1402] 95,
 kN_ 13 [87, 93, 95] [] 96,
 kN_ 14 [84, 87, 96] [] 97,
 kN_ 15 [84, 97] [] 98,
 kN_ 16 [98] [] 99,
 kN_ 17 [98] [] 100,
 kN_ 18 [98] [] 101,
 kN_ 19 [98] [] 102,
 kN_ 20 [98] [] 103,
 kN_ 21 [84, 98, 103] [] 104,
 kN_ 22 [84, 104] [] 105,
 kN_ 23 [105] [] 11]
           mixed_ok rfl (by kernel_rfl) ⟨dK_ fun s0 => oG_ rfl rfl ((OpOk.bool_is (c := false) (q_move) (h1))),
 dK_ fun s0 => oG_ rfl rfl (q_move),
 dK_ fun s0 => oO_ rfl rfl rfl rfl rfl (q_move),
 dK_ fun s0 => oO_ rfl rfl rfl rfl rfl ((OpOk.dec_t (q_gtr) (h2))),
 dK_ fun s0 => oO_ rfl rfl rfl rfl rfl (q_move),
 dK_ fun s0 => oO_ rfl rfl rfl rfl rfl (q_fa),
 dK_ fun s0 => oO_ rfl rfl rfl rfl rfl (q_load),
 dK_ fun s0 => oO_ rfl rfl rfl rfl rfl (q_move),
 dK_ fun s0 => oO_ rfl rfl rfl rfl rfl (q_ix),
 dK_ fun s0 => oO_ rfl rfl rfl rfl rfl (q_fa),
 dK_ fun s0 => oO_ rfl rfl rfl rfl rfl (q_load),
 dK_ fun s0 => oO_ rfl rfl rfl rfl rfl (q_fa),
 dK_ fun s0 => oO_ rfl rfl rfl rfl rfl (q_load),
 dK_ fun s0 => oO_ rfl rfl rfl rfl rfl ((OpOk.bool_is (c := false) (q_call (0) (hc := (c_ciceroneref01_Same (t.zs.getD j default).o ((zAt t k).rs.getD e default).nm (by omega) (by omega)))) (h3))),
 dK_ fun s0 => oO_ rfl rfl rfl rfl rfl (q_pick),
 dK_ fun s0 => oO_ rfl rfl rfl rfl rfl (q_move),
 dK_ fun s0 => oS_ rfl rfl rfl rfl rfl rfl rfl rfl,
 dK_ fun s0 => oS_ rfl rfl rfl rfl rfl rfl rfl rfl,
 dK_ fun s0 => oS_ rfl rfl rfl rfl rfl rfl rfl rfl,
 dK_ fun s0 => oS_ rfl rfl rfl rfl rfl rfl rfl rfl,
 dK_ fun s0 => oS_ rfl rfl rfl rfl rfl rfl rfl rfl,
 dK_ fun s0 => oO_ rfl rfl rfl rfl rfl (q_pick),
 dK_ fun s0 => oG_ rfl rfl (q_pick),
 dK_ fun s0 => oG_ rfl rfl (q_assign), trivial⟩ ?_
          dsimp only [final, DS.upd, AS.seto]
          refine AWp.region ?_
          refine aC_ rfl rfl (q_add) ?_
          refine aC_ rfl rfl (q_move) ?_
          refine AOps.nil ?_
          refine ⟨j + 1, ?_, Back.mk' (HasT.cons (HasT.cons HasT.nil (h1 := by exact congrArg tf (by rw [range_any_step, h1, chi_2 h3]; rfl)) )) HasH.nil, ?_⟩
          ·
           first | assumption | omega | decide | (simp; omega) | (simp [*]; done)
          ·
           first | omega | (simp; omega)
         ·
          refine AWp.draws [⟨0, [11], [], some 83, _, []⟩,
 ⟨1, [83], [], some 84, _, []⟩,
 ⟨2, [12, 84], [], some 85, _, []⟩,
 ⟨3, [84, 85], [], some 86, _, []⟩,
 ⟨4, [84, 86], [], some 87, _, []⟩,
 ⟨5, [2, 87], [100], some 88, _, []⟩,
 ⟨6, [87, 88], [100], some 89, _, []⟩,
 ⟨7, [12, 87], [], some 90, _, []⟩,
 ⟨8, [87, 89, 90], [], some 91, _, []⟩,
 ⟨9, [87, 91], [], some 92, _, []⟩,
 ⟨10, [87, 92], [], some 93, _, []⟩,
 ⟨11, [10, 87], [1402], some 94, _, []⟩,
 ⟨12, [87, 94], [1402], some 95, _, []⟩,
 ⟨13, [87, 93, 95], [], some 96, _, []⟩,
 ⟨14, [84, 87, 96], [], some 97, _, []⟩,
 ⟨15, [84, 97], [], some 98, _, []⟩,
 ⟨16, [2, 98], [100], some 99, _, []⟩,
 ⟨17, [12, 98], [], some 100, _, []⟩,
 ⟨18, [98, 99, 100], [], some 101, _, []⟩,
 ⟨19, [1, 98], [], some 102, _, []⟩,
 ⟨20, [98, 101, 102], [], some 103, _, []⟩,
 ⟨21, [84, 98, 103], [], some 104, _, []⟩,
 ⟨22, [84, 104], [], some 105, _, []⟩,
 ⟨23, [105], [], some 11, _, []⟩]
           [kN_ 0 [11] [] 83,
 kN_ 1 [83] [] 84,
 kN_ 2 [12, 84] [] 85,
 kN_ 3 [84, 85] [] 86,
 kN_ 4 [84, 86] [] 87,
 kN_ 5 [2, 87] [100] 88,
 kN_ 6 [87, 88] [100] 89,
 kN_ 7 [12, 87] [] 90,
 kN_ 8 [87, 89, 90] [] 91,
 kN_ 9 [87, 91] [] 92,
 kN_ 10 [87, 92] [] 93,
 kN_ 11 [10, 87] [1402] 94,
 kN_ 12 [87, 94] [1402] 95,
 kN_ 13 [87, 93, 95] [] 96,
 kN_ 14 [84, 87, 96] [] 97,
 kN_ 15 [84, 97] [] 98,
 kN_ 16 [2, 98] [100] 99,
 kN_ 17 [12, 98] [] 100,
 kN_ 18 [98, 99, 100] [] 101,
 kN_ 19 [1, 98] [] 102,
 kN_ 20 [98, 101, 102] [] 103,
 kN_ 21 [84, 98, 103] [] 104,
 kN_ 22 [84, 104] [] 105,
 kN_ 23 [105] [] 11]
           mixed_ok rfl (by kernel_rfl) ⟨dK_ fun s0 => oG_ rfl rfl ((OpOk.bool_is (c := false) (q_move) (h1))),
 dK_ fun s0 => oG_ rfl rfl (q_move),
 dK_ fun s0 => oO_ rfl rfl rfl rfl rfl (q_move),
 dK_ fun s0 => oO_ rfl rfl rfl rfl rfl ((OpOk.dec_t (q_gtr) (h2))),
 dK_ fun s0 => oO_ rfl rfl rfl rfl rfl (q_move),
 dK_ fun s0 => oO_ rfl rfl rfl rfl rfl (q_fa),
 dK_ fun s0 => oO_ rfl rfl rfl rfl rfl (q_load),
 dK_ fun s0 => oO_ rfl rfl rfl rfl rfl (q_move),
 dK_ fun s0 => oO_ rfl rfl rfl rfl rfl (q_ix),
 dK_ fun s0 => oO_ rfl rfl rfl rfl rfl (q_fa),
 dK_ fun s0 => oO_ rfl rfl rfl rfl rfl (q_load),
 dK_ fun s0 => oO_ rfl rfl rfl rfl rfl (q_fa),
 dK_ fun s0 => oO_ rfl rfl rfl rfl rfl (q_load),
 dK_ fun s0 => oO_ rfl rfl rfl rfl rfl ((OpOk.bool_is (c := true) (q_call (0) (hc := (c_ciceroneref01_Same (t.zs.getD j default).o ((zAt t k).rs.getD e default).nm (by omega) (by omega)))) (h3))),
 dK_ fun s0 => oO_ rfl rfl rfl rfl rfl (q_pick),
 dK_ fun s0 => oO_ rfl rfl rfl rfl rfl (q_move),
 dK_ fun s0 => oO_ rfl rfl rfl rfl rfl (q_load),
 dK_ fun s0 => oO_ rfl rfl rfl rfl rfl (q_move),
 dK_ fun s0 => oO_ rfl rfl rfl rfl rfl (q_call (0) (hc := (c_ciceroneref18_parent t j ht ⟨by omega, by omega⟩))),
 dK_ fun s0 => oO_ rfl rfl rfl rfl rfl (q_move),
 dK_ fun s0 => oO_ rfl rfl rfl rfl rfl ((OpOk.dec_f (q_eql) (h4))),
 dK_ fun s0 => oO_ rfl rfl rfl rfl rfl (q_pick),
 dK_ fun s0 => oG_ rfl rfl (q_pick),
 dK_ fun s0 => oG_ rfl rfl (q_assign), trivial⟩ ?_
          dsimp only [final, DS.upd, AS.seto]
          refine AWp.region ?_
          refine aC_ rfl rfl (q_add) ?_
          refine aC_ rfl rfl (q_move) ?_
          refine AOps.nil ?_
          refine ⟨j + 1, ?_, Back.mk' (HasT.cons (HasT.cons HasT.nil (h1 := by exact congrArg tf (by rw [range_any_step, h1, chi_3 (by omega) h4]; rfl)) )) HasH.nil, ?_⟩
          ·
           first | assumption | omega | decide | (simp; omega) | (simp [*]; done)
          ·
           first | omega | (simp; omega)
         ·
          refine AWp.draws [⟨0, [11], [], some 83, _, []⟩,
 ⟨1, [83], [], some 84, _, []⟩,
 ⟨2, [12, 84], [], some 85, _, []⟩,
 ⟨3, [84, 85], [], some 86, _, []⟩,
 ⟨4, [84, 86], [], some 87, _, []⟩,
 ⟨5, [2, 87], [100], some 88, _, []⟩,
 ⟨6, [87, 88], [100], some 89, _, []⟩,
 ⟨7, [12, 87], [], some 90, _, []⟩,
 ⟨8, [87, 89, 90], [], some 91, _, []⟩,
 ⟨9, [87, 91], [], some 92, _, []⟩,
 ⟨10, [87, 92], [], some 93, _, []⟩,
 ⟨11, [10, 87], [1402], some 94, _, []⟩,
 ⟨12, [87, 94], [1402], some 95, _, []⟩,
 ⟨13, [87, 93, 95], [], some 96, _, []⟩,
 ⟨14, [84, 87, 96], [], some 97, _, []⟩,
 ⟨15, [84, 97], [], some 98, _, []⟩,
 ⟨16, [2, 98], [100], some 99, _, []⟩,
 ⟨17, [12, 98], [], some 100, _, []⟩,
 ⟨18, [98, 99, 100], [], some 101, _, []⟩,
 ⟨19, [1, 98], [], some 102, _, []⟩,
 ⟨20, [98, 101, 102], [], some 103, _, []⟩,
 ⟨21, [84, 98, 103], [], some 104, _, []⟩,
 ⟨22, [84, 104], [], some 105, _, []⟩,
 ⟨23, [105], [], some 11, _, []⟩]
           [kN_ 0 [11] [] 83,
 kN_ 1 [83] [] 84,
 kN_ 2 [12, 84] [] 85,
 kN_ 3 [84, 85] [] 86,
 kN_ 4 [84, 86] [] 87,
 kN_ 5 [2, 87] [100] 88,
 kN_ 6 [87, 88] [100] 89,
 kN_ 7 [12, 87] [] 90,
 kN_ 8 [87, 89, 90] [] 91,
 kN_ 9 [87, 91] [] 92,
 kN_ 10 [87, 92] [] 93,
 kN_ 11 [10, 87] [1402] 94,
 kN_ 12 [87, 94] [1402] 95,
 kN_ 13 [87, 93, 95] [] 96,
 kN_ 14 [84, 87, 96] [] 97,
 kN_ 15 [84, 97] [] 98,
 kN_ 16 [2, 98] [100] 99,
 kN_ 17 [12, 98] [] 100,
 kN_ 18 [98, 99, 100] [] 101,
 kN_ 19 [1, 98] [] 102,
 kN_ 20 [98, 101, 102] [] 103,
 kN_ 21 [84, 98, 103] [] 104,
 kN_ 22 [84, 104] [] 105,
 kN_ 23 [105] [] 11]
           mixed_ok rfl (by kernel_rfl) ⟨dK_ fun s0 => oG_ rfl rfl ((OpOk.bool_is (c := false) (q_move) (h1))),
 dK_ fun s0 => oG_ rfl rfl (q_move),
 dK_ fun s0 => oO_ rfl rfl rfl rfl rfl (q_move),
 dK_ fun s0 => oO_ rfl rfl rfl rfl rfl ((OpOk.dec_t (q_gtr) (h2))),
 dK_ fun s0 => oO_ rfl rfl rfl rfl rfl (q_move),
 dK_ fun s0 => oO_ rfl rfl rfl rfl rfl (q_fa),
 dK_ fun s0 => oO_ rfl rfl rfl rfl rfl (q_load),
 dK_ fun s0 => oO_ rfl rfl rfl rfl rfl (q_move),
 dK_ fun s0 => oO_ rfl rfl rfl rfl rfl (q_ix),
 dK_ fun s0 => oO_ rfl rfl rfl rfl rfl (q_fa),
 dK_ fun s0 => oO_ rfl rfl rfl rfl rfl (q_load),
 dK_ fun s0 => oO_ rfl rfl rfl rfl rfl (q_fa),
 dK_ fun s0 => oO_ rfl rfl rfl rfl rfl (q_load),
 dK_ fun s0 => oO_ rfl rfl rfl rfl rfl ((OpOk.bool_is (c := true) (q_call (0) (hc := (c_ciceroneref01_Same (t.zs.getD j default).o ((zAt t k).rs.getD e default).nm (by omega) (by omega)))) (h3))),
 dK_ fun s0 => oO_ rfl rfl rfl rfl rfl (q_pick),
 dK_ fun s0 => oO_ rfl rfl rfl rfl rfl (q_move),
 dK_ fun s0 => oO_ rfl rfl rfl rfl rfl (q_load),
 dK_ fun s0 => oO_ rfl rfl rfl rfl rfl (q_move),
 dK_ fun s0 => oO_ rfl rfl rfl rfl rfl (q_call (0) (hc := (c_ciceroneref18_parent t j ht ⟨by omega, by omega⟩))),
 dK_ fun s0 => oO_ rfl rfl rfl rfl rfl (q_move),
 dK_ fun s0 => oO_ rfl rfl rfl rfl rfl ((OpOk.dec_t (q_eql) (h4))),
 dK_ fun s0 => oO_ rfl rfl rfl rfl rfl (q_pick),
 dK_ fun s0 => oG_ rfl rfl (q_pick),
 dK_ fun s0 => oG_ rfl rfl (q_assign), trivial⟩ ?_
          dsimp only [final, DS.upd, AS.seto]
          refine AWp.region ?_
          refine aC_ rfl rfl (q_add) ?_
          refine aC_ rfl rfl (q_move) ?_
          refine AOps.nil ?_
          refine ⟨j + 1, ?_, Back.mk' (HasT.cons (HasT.cons HasT.nil (h1 := by exact congrArg tf (by rw [range_any_step, h1, chi_yes (by omega) h2 h3 h4]; rfl)) )) HasH.nil, ?_⟩
          ·
           first | assumption | omega | decide | (simp; omega) | (simp [*]; done)
          ·
           first | omega | (simp; omega)
        ·
         refine AOps.nil ?_
         refine AWp.seq ?_
         refine AWp.cond_f rfl ?_
         refine AWp.exit ?_
         refine AWp.seq ?_
         refine AWp.region ?_
         refine AOps.bool rfl rfl (q_move) (fun h21_0 => ?_) (fun h21_0 => ?_)
         ·
          refine aC_ rfl rfl (q_not) ?_
          refine AOps.nil ?_
          refine AWp.cond_f rfl ?_
          refine AWp.skip ?_
          refine AWp.region ?_
          refine aC_ rfl rfl (q_add) ?_
          refine aC_ rfl rfl (q_move) ?_
          refine AOps.nil ?_
          refine ⟨e + 1, ?_, Back.mk' (HasT.cons HasT.nil) HasH.nil, ?_⟩
          ·
           obtain rfl : j = t.zs.length := by omega
           exact ⟨by omega, any_no (i := e) (by omega) hq (joinQ_3 h21_0)⟩
          ·
           first | omega | (simp; omega)
         ·
          refine aC_ rfl rfl (q_not) ?_
          refine AOps.nil ?_
          refine AWp.cond_t rfl ?_
          refine AWp.seq ?_
          refine AWp.region ?_
          refine aC_ rfl rfl (q_assign) ?_
          refine AOps.nil ?_
          refine AWp.ret ?_
          show Fin te Try.f42 _ _
          refine q_ret (0) [_] [_] ?_
          obtain rfl : j = t.zs.length := by omega
          exact congrArg tf (joinZ_bad (any_yes (i := e) (by omega) (joinQ_yes h14_2 h14_8 h21_0))).symm
    ·
     refine AOps.nil ?_
     refine AWp.seq ?_
     refine AWp.cond_f rfl ?_
     refine AWp.exit ?_
     refine AWp.seq ?_
     refine AWp.region ?_
     refine aC_ rfl rfl (q_assign) ?_
     refine AOps.nil ?_
     refine AWp.ret ?_
     show Fin te Try.f42 _ _
     refine q_ret (0) [_] [_] ?_
     obtain rfl : e = (zAt t k).rs.length := by omega
     rw [List.take_length] at hq
     exact congrArg tf (joinZ_fin hc hq).symm
end Go.Proofs.Ytokccoloholgaaa.Fw


set_option linter.unusedVariables false
set_option linter.unusedSimpArgs false
namespace Go.Proofs.Ytokccoloholgaaa.Fw
open Go.RowKit
theorem gd_at {α : Type} [Inhabited α] {l : List α} {k : Nat} (h : k < l.length) : l.getD k default = l[k] := by rw [List.getD_eq_getElem?_getD, List.getElem?_eq_getElem h]; rfl
theorem one_iff {α : Type} [Inhabited α] {p : α → Bool} {l : List α} {i : Nat} (hi : i < l.length) (hp : p (l.getD i default) = true) : (l.filter p).length = 1 ↔ ∀ k, k < l.length → k ≠ i → p (l.getD k default) = false := by
  have e : l = l.take i ++ l.getD i default :: l.drop (i + 1) := by
    rw [gd_at hi, ← List.drop_eq_getElem_cons hi, List.take_append_drop]
  have hlen : (l.filter p).length = ((l.take i).filter p).length + (1 + ((l.drop (i + 1)).filter p).length) := by
    conv => lhs; rw [e]
    rw [List.filter_append, List.filter_cons_of_pos hp, List.length_append, List.length_cons]; omega
  constructor
  · intro h k hk hki
    have h1 : (l.take i).filter p = [] := List.eq_nil_of_length_eq_zero (by omega)
    have h2 : (l.drop (i + 1)).filter p = [] := List.eq_nil_of_length_eq_zero (by omega)
    rw [List.filter_eq_nil_iff] at h1 h2
    cases hq : p (l.getD k default) with
    | false => rfl
    | true =>
      exfalso
      rw [gd_at hk] at hq
      rcases Nat.lt_or_gt_of_ne hki with h3 | h3
      · exact h1 l[k] (List.mem_take_iff_getElem.2 ⟨k, by omega, rfl⟩) hq
      · exact h2 l[k] (List.mem_drop_iff_getElem.2 ⟨k - (i + 1), by omega, by congr 1; omega⟩) hq
  · intro h
    have h1 : (l.take i).filter p = [] := List.filter_eq_nil_iff.2 fun x hx => by
      obtain ⟨k, hk, rfl⟩ := List.mem_take_iff_getElem.1 hx
      have := h k (by omega) (by omega)
      rw [gd_at (by omega)] at this
      rw [this]; decide
    have h2 : (l.drop (i + 1)).filter p = [] := List.filter_eq_nil_iff.2 fun x hx => by
      obtain ⟨k, hk, rfl⟩ := List.mem_drop_iff_getElem.1 hx
      have := h (i + 1 + k) (by omega) (by omega)
      rw [gd_at (by omega)] at this
      rw [this]; decide
    rw [hlen, h1, h2]; rfl
theorem sameN_comm (a b : List UInt8) : sameN a b = sameN b a := by
  unfold sameN
  rw [Bool.and_comm (canN a), show decide (lowN a = lowN b) = decide (lowN b = lowN a) from decide_eq_decide.2 ⟨Eq.symm, Eq.symm⟩]
theorem sameN_self {a : List UInt8} (h : canN a = true) : sameN a a = true := by simp [sameN, h]
theorem recO_can {z : Zo} {r : Rr} (h : recO z r = true) : canN r.nm = true := by
  unfold recO baseO at h
  simp only [Bool.and_eq_true] at h
  exact (withN_can h.1.1.1.1.1.1.1).1
theorem zone_same (z : Zo) : (recsZ z && aloZ z) = (z.rs.all (inZ z) && decide ((atZ z z.o 6).length = 1) && decide (1 ≤ (atZ z z.o 2).length)) := by
  have key : (z.rs.all (recO z) && aloZ z) = z.rs.all (inZ z) := by
    cases hr : z.rs.all (recO z) with
    | false =>
      rw [Bool.false_and]
      obtain ⟨r, h1, h2⟩ : ∃ r ∈ z.rs, recO z r = false := by simpa using hr
      cases hx : z.rs.all (inZ z) with
      | false => rfl
      | true =>
        have := List.all_eq_true.1 hx r h1
        rw [inZ, h2] at this; cases this
    | true =>
      rw [Bool.true_and]
      have hrec := List.all_eq_true.1 hr
      have hc : ∀ i, i < z.rs.length → canN (z.rs.getD i default).nm = true := fun i hi => recO_can (hrec _ (getD_mem' hi))
      rw [Bool.eq_iff_iff, aloZ, range_all_iff, List.all_eq_true]
      constructor
      · intro h r hr
        obtain ⟨i, hi, rfl⟩ := List.getElem_of_mem hr
        have h1 := h i hi
        rw [Bool.not_eq_true', List.any_eq_false] at h1
        rw [inZ, hrec _ hr, Bool.true_and]
        by_cases h5 : z.rs[i].ty = 5
        · rw [decide_eq_true h5, Bool.not_true, Bool.false_or, decide_eq_true_eq, cntS]
          rw [← gd_at hi] at h5 ⊢
          refine (one_iff (p := fun o => sameN o.nm (z.rs.getD i default).nm) hi (sameN_self (hc i hi))).2 fun k hk hki => ?_
          have h2 := h1 k (List.mem_range.2 hk)
          rw [aloP, decide_eq_true (p := i ≠ k) (fun e => hki e.symm), decide_eq_true h5, Bool.true_and, Bool.true_and, sameN_comm] at h2
          exact Bool.eq_false_iff.2 h2
        · rw [decide_eq_false h5]; rfl
      · intro h i hi
        rw [Bool.not_eq_true', List.any_eq_false]
        intro k hk
        rw [List.mem_range] at hk
        have h1 := h _ (getD_mem' hi)
        rw [aloP]
        by_cases hki : i = k
        · rw [decide_eq_false (p := i ≠ k) (not_not_intro hki)]; simp
        by_cases h5 : (z.rs.getD i default).ty = 5
        · rw [inZ, decide_eq_true h5, Bool.not_true, Bool.false_or, Bool.and_eq_true, decide_eq_true_eq, cntS] at h1
          have h2 := (one_iff (p := fun o => sameN o.nm (z.rs.getD i default).nm) hi (sameN_self (hc i hi))).1 h1.2 k hk (fun e => hki e.symm)
          rw [sameN_comm (z.rs.getD i default).nm, h2, Bool.and_false]; decide
        · rw [decide_eq_false h5, Bool.and_false]; simp
  rw [recsZ, ← key]
  cases z.rs.all (recO z) <;> cases aloZ z <;> cases decide ((atZ z z.o 6).length = 1) <;> cases decide (1 ≤ (atZ z z.o 2).length) <;> rfl
theorem zonO_eq (t : Tr) (k : Nat) : zonO t k = ((recsZ (t.zs.getD k default) && aloZ (t.zs.getD k default)) && joinZ t (parT t) k) := by
  rw [zonO, zone_same]
set_option maxRecDepth 20000 in
set_option maxHeartbeats 2000000 in
theorem c_rCan (t : Tr) (ht : TrOk t) : AC Try.prog 11 [.agg (trC t)] emp (Ret (tf (canT t))) := by
 have hb1 := ht.1
 have hsum := sum_take ht
 refine AC.intro te_ok (fn := Try.f11) ⟨Try.func11, rfl, rfl⟩ (Nat.le_of_ble_eq_true rfl) ?_
 refine AWp.seq ?_
 refine AWp.region ?_
 refine aC_ rfl rfl (q_box 100) ?_
 refine aC_ rfl rfl (q_assign) ?_
 refine AOps.nil ?_
 refine AWp.seq ?_
 refine AWp.seq ?_
 refine AWp.region ?_
 refine aC_ rfl rfl (q_fa) ?_
 refine aC_ rfl rfl (q_load) ?_
 refine aC_ rfl rfl (q_len) ?_
 refine AOps.dec rfl rfl (q_lss) (fun h1_3 => ?_) (fun h1_3 => ?_)
 ·
  refine aC_ rfl rfl (q_move) ?_
  refine aG_ rfl rfl rfl rfl rfl rfl rfl rfl ?_
  refine aG_ rfl rfl rfl rfl rfl rfl rfl rfl ?_
  refine aG_ rfl rfl rfl rfl rfl rfl rfl rfl ?_
  refine aG_ rfl rfl rfl rfl rfl rfl rfl rfl ?_
  refine aC_ rfl rfl (q_pick) ?_
  refine aC_ rfl rfl (q_move) ?_
  refine aG_ rfl rfl rfl rfl rfl rfl rfl rfl ?_
  refine aG_ rfl rfl rfl rfl rfl rfl rfl rfl ?_
  refine aG_ rfl rfl rfl rfl rfl rfl rfl rfl ?_
  refine aG_ rfl rfl rfl rfl rfl rfl rfl rfl ?_
  refine aG_ rfl rfl rfl rfl rfl rfl rfl rfl ?_
  refine aG_ rfl rfl rfl rfl rfl rfl rfl rfl ?_
  refine aC_ rfl rfl (q_pick) ?_
  refine aC_ rfl rfl (q_move) ?_
  refine aG_ rfl rfl rfl rfl rfl rfl rfl rfl ?_
  refine aG_ rfl rfl rfl rfl rfl rfl rfl rfl ?_
  refine aG_ rfl rfl rfl rfl rfl rfl rfl rfl ?_
  refine aC_ rfl rfl (q_pick) ?_
  refine AOps.nil ?_
  refine AWp.cond_t rfl ?_
  refine AWp.seq ?_
  refine AWp.region ?_
  refine aC_ rfl rfl (q_assign) ?_
  refine AOps.nil ?_
  refine AWp.ret ?_
  show Fin te Try.f11 _ _
  refine q_ret (0) [_] [_] ?_
  exact congrArg tf (canT_1 h1_3).symm
 ·
  refine aC_ rfl rfl (q_move) ?_
  refine AOps.gcons rfl rfl rfl rfl rfl (q_fa) ?_
  refine AOps.gcons rfl rfl rfl rfl rfl (q_load) ?_
  refine AOps.gcons rfl rfl rfl rfl rfl (q_len) ?_
  refine AOps.gdec rfl rfl rfl rfl rfl (q_gtr) (fun h1_8 => ?_) (fun h1_8 => ?_)
  ·
   refine aC_ rfl rfl (q_pick) ?_
   refine aC_ rfl rfl (q_move) ?_
   refine aG_ rfl rfl rfl rfl rfl rfl rfl rfl ?_
   refine aG_ rfl rfl rfl rfl rfl rfl rfl rfl ?_
   refine aG_ rfl rfl rfl rfl rfl rfl rfl rfl ?_
   refine aG_ rfl rfl rfl rfl rfl rfl rfl rfl ?_
   refine aG_ rfl rfl rfl rfl rfl rfl rfl rfl ?_
   refine aG_ rfl rfl rfl rfl rfl rfl rfl rfl ?_
   refine aC_ rfl rfl (q_pick) ?_
   refine aC_ rfl rfl (q_move) ?_
   refine aG_ rfl rfl rfl rfl rfl rfl rfl rfl ?_
   refine aG_ rfl rfl rfl rfl rfl rfl rfl rfl ?_
   refine aG_ rfl rfl rfl rfl rfl rfl rfl rfl ?_
   refine aC_ rfl rfl (q_pick) ?_
   refine AOps.nil ?_
   refine AWp.cond_t rfl ?_
   refine AWp.seq ?_
   refine AWp.region ?_
   refine aC_ rfl rfl (q_assign) ?_
   refine AOps.nil ?_
   refine AWp.ret ?_
   show Fin te Try.f11 _ _
   refine q_ret (0) [_] [_] ?_
   exact congrArg tf (canT_2 h1_8).symm
  ·
   refine aC_ rfl rfl (q_pick) ?_
   refine aC_ rfl rfl (q_move) ?_
   refine AOps.gcons rfl rfl rfl rfl rfl (q_fa) ?_
   refine AOps.gcons rfl rfl rfl rfl rfl (q_load) ?_
   refine AOps.gcons rfl rfl rfl rfl rfl (q_ix) ?_
   refine AOps.gcons rfl rfl rfl rfl rfl (q_fa) ?_
   refine AOps.gcons rfl rfl rfl rfl rfl (q_load) ?_
   refine AOps.gdec rfl rfl rfl rfl rfl (q_sneq) (fun h1_16 => ?_) (fun h1_16 => ?_)
   ·
    refine aC_ rfl rfl (q_pick) ?_
    refine aC_ rfl rfl (q_move) ?_
    refine aG_ rfl rfl rfl rfl rfl rfl rfl rfl ?_
    refine aG_ rfl rfl rfl rfl rfl rfl rfl rfl ?_
    refine aG_ rfl rfl rfl rfl rfl rfl rfl rfl ?_
    refine aC_ rfl rfl (q_pick) ?_
    refine AOps.nil ?_
    refine AWp.cond_t rfl ?_
    refine AWp.seq ?_
    refine AWp.region ?_
    refine aC_ rfl rfl (q_assign) ?_
    refine AOps.nil ?_
    refine AWp.ret ?_
    show Fin te Try.f11 _ _
    refine q_ret (0) [_] [_] ?_
    exact congrArg tf (canT_3 h1_16).symm
   ·
    refine aC_ rfl rfl (q_pick) ?_
    refine aC_ rfl rfl (q_move) ?_
    refine AOps.gcons rfl rfl rfl rfl rfl (q_load) ?_
    refine AOps.gbool rfl rfl rfl rfl rfl (q_call (0) (hc := (c_ciceroneref18_servers t ht))) (fun h1_20 => ?_) (fun h1_20 => ?_)
    ·
     refine AOps.gcons rfl rfl rfl rfl rfl (q_not) ?_
     refine aC_ rfl rfl (q_pick) ?_
     refine AOps.nil ?_
     refine AWp.cond_f rfl ?_
     refine AWp.skip ?_
     refine AWp.seq ?_
     refine AWp.region ?_
     refine aC_ rfl rfl (q_assign) ?_
     refine AOps.nil ?_
     refine AWp.seq ?_
     refine AWp.seq ?_
     refine AWp.region ?_
     refine aC_ rfl rfl (q_fa) ?_
     refine aC_ rfl rfl (q_load) ?_
     refine aC_ rfl rfl (q_len) ?_
     refine aC_ rfl rfl (q_move) ?_
     refine AOps.nil ?_
     refine AWp.block ?_
     refine AWp.loopR (α := Nat) [2, 3, 4, 5, 7, 36, 37, 38, 39, 40, 41, 42, 43, 44, 45, 46, 47, 48, 49, 50, 51, 52, 53, 54, 55, 56, 57, 58, 59, 60, 61, 62, 63, 64, 65] (fun i => [(36, i64 i), (3, i64 (sumT (t.zs.take i)))]) (fun i => []) (fun i => i ≤ t.zs.length ∧ ∀ j, j < i → orgO t j = true) (fun i => t.zs.length - i) 0 ?_ (Back.mk' (HasT.cons (HasT.cons HasT.nil)) HasH.nil) ?_
     ·
      exact ⟨Nat.zero_le _, fun j hj => absurd hj (Nat.not_lt_zero j)⟩
     ·
      rintro i ⟨hi, hc⟩
      have hsi := hsum i
      refine AWp.seq ?_
      refine AWp.region ?_
      refine AOps.dec rfl rfl (q_lss) (fun h5_0 => ?_) (fun h5_0 => ?_)
      ·
       refine AOps.nil ?_
       refine AWp.seq ?_
       refine AWp.cond_t rfl ?_
       refine AWp.skip ?_
       refine AWp.seq ?_
       refine AWp.block ?_
       refine AWp.seq ?_
       refine AWp.region ?_
       have hzi := ht.2.1 _ (getD_mem' (l := t.zs) (i := i) (by omega))
       have hzl := hzi.1
       have hrl : (t.zs.getD i default).rs.length * 64 ≤ 140737488351232 := hzi.2.1.1
       have hrl2 : (t.zs[i]?.getD default).rs.length * 64 ≤ 140737488351232 := by rw [← List.getD_eq_getElem?_getD]; exact hrl
       have hrl3 : (t.zs.getD (i : Int).toNat default).rs.length = (t.zs.getD i default).rs.length := rfl
       refine aC_ rfl rfl (q_move) ?_
       refine aC_ rfl rfl (q_ix) ?_
       refine aC_ rfl rfl (q_load) ?_
       refine aC_ rfl rfl (q_alloc 703) ?_
       refine aC_ rfl rfl (q_assign) ?_
       refine aC_ rfl rfl (q_store) ?_
       refine AOps.nil ?_
       refine AWp.seq ?_
       refine AWp.region ?_
       refine aC_ rfl rfl (q_move) ?_
       refine aC_ rfl rfl (q_fa) ?_
       refine aC_ rfl rfl (q_load) ?_
       refine aC_ rfl rfl (q_len) ?_
       refine aC_ rfl rfl (q_add) ?_
       refine aC_ rfl rfl (q_assign) ?_
       refine AOps.nil ?_
       refine AWp.seq ?_
       refine AWp.seq ?_
       refine AWp.region ?_
       refine aC_ rfl rfl (q_fa) ?_
       refine aC_ rfl rfl (q_load) ?_
       refine aC_ rfl rfl (q_move) ?_
       refine aC_ rfl rfl (q_sl) ?_
       refine aC_ rfl rfl (q_len) ?_
       refine aC_ rfl rfl (q_move) ?_
       refine AOps.nil ?_
       refine AWp.block ?_
       refine AWp.loopR (α := Nat) [2, 7, 51, 52, 53, 54, 55, 56, 57, 58, 59, 60] (fun j => [(51, i64 j)]) (fun j => []) (fun j => j ≤ i ∧ ((t.zs.take j).any fun o => sameN o.o (t.zs.getD i default).o) = false) (fun j => i - j) 0 ?_ (Back.mk' (HasT.cons HasT.nil) HasH.nil) ?_
       ·
        exact ⟨Nat.zero_le _, rfl⟩
       ·
        rintro j ⟨hji, hj⟩
        refine AWp.seq ?_
        refine AWp.region ?_
        refine AOps.dec rfl rfl (q_lss) (fun h9_0 => ?_) (fun h9_0 => ?_)
        ·
         refine AOps.nil ?_
         refine AWp.seq ?_
         refine AWp.cond_t rfl ?_
         refine AWp.skip ?_
         refine AWp.seq ?_
         refine AWp.block ?_
         refine AWp.seq ?_
         refine AWp.region ?_
         have hji2 : j < i := by have := h9_0; simp at this; omega
         have hgj : (t.zs.take i).getD j default = t.zs.getD j default := by rw [List.getD_eq_getElem?_getD, List.getD_eq_getElem?_getD, List.getElem?_take_of_lt hji2]
         have hzj := ht.2.1 _ (getD_mem' (l := t.zs) (i := j) (by omega))
         have hzjl := hzj.1
         rw [← hgj] at hzjl
         refine aC_ rfl rfl (q_ix) ?_
         refine aC_ rfl rfl (q_load) ?_
         refine aC_ rfl rfl (q_alloc 1102) ?_
         refine aC_ rfl rfl (q_store) ?_
         refine AOps.nil ?_
         refine AWp.seq ?_
         refine AWp.region ?_
         refine aC_ rfl rfl (q_fa) ?_
         refine aC_ rfl rfl (q_load) ?_
         refine aC_ rfl rfl (q_fa) ?_
         refine aC_ rfl rfl (q_load) ?_
         refine AOps.bool rfl rfl (q_call (0) (hc := (c_ciceroneref01_Same ((t.zs.take i).getD j default).o (t.zs.getD i default).o (by omega) (by omega)))) (fun h11_4 => ?_) (fun h11_4 => ?_)
         ·
          refine AOps.nil ?_
          refine AWp.cond_t rfl ?_
          refine AWp.seq ?_
          refine AWp.region ?_
          refine aC_ rfl rfl (q_assign) ?_
          refine AOps.nil ?_
          refine AWp.ret ?_
          show Fin te Try.f11 _ _
          refine q_ret (0) [_] [_] ?_
          rw [hgj] at h11_4
          exact congrArg tf (canT_5 (j := i) (by omega) (by rw [orgO, List.any_eq_true.2 ⟨t.zs.getD j default, List.mem_take_iff_getElem.2 ⟨j, by omega, (gd_at (by omega)).symm⟩, h11_4⟩, Bool.not_true, Bool.and_false])).symm
         ·
          refine AOps.nil ?_
          refine AWp.cond_f rfl ?_
          refine AWp.skip ?_
          refine AWp.region ?_
          refine aC_ rfl rfl (q_add) ?_
          refine aC_ rfl rfl (q_move) ?_
          refine AOps.nil ?_
          refine ⟨j + 1, ?_, Back.mk' (HasT.cons HasT.nil) HasH.nil, ?_⟩
          ·
           exact ⟨by omega, any_no (i := j) (by omega) hj (by rw [hgj] at h11_4; exact h11_4)⟩
          ·
           first | omega | (simp; omega)
        ·
         refine AOps.nil ?_
         refine AWp.seq ?_
         refine AWp.cond_f rfl ?_
         refine AWp.exit ?_
         refine AWp.seq ?_
         refine AWp.region ?_
         refine aC_ rfl rfl (q_fa) ?_
         refine aC_ rfl rfl (q_load) ?_
         refine AOps.bool rfl rfl (q_call (0) (hc := (c_ciceroneref01_Can (t.zs.getD i default).o (by omega)))) (fun h14_2 => ?_) (fun h14_2 => ?_)
         ·
          refine aC_ rfl rfl (q_not) ?_
          refine AOps.nil ?_
          refine AWp.cond_f rfl ?_
          refine AWp.skip ?_
          refine AWp.region ?_
          refine aC_ rfl rfl (q_add) ?_
          refine aC_ rfl rfl (q_move) ?_
          refine AOps.nil ?_
          obtain rfl : i = j := by have := h9_0; simp at this; omega
          refine ⟨i + 1, ?_, Back.mk' (HasT.cons (HasT.cons HasT.nil (h1 := by exact i64_eq (by rw [sum_step (by omega)]; omega)) )) HasH.nil, ?_⟩
          ·
           exact ⟨by omega, lt_step hc (by rw [orgO, h14_2, hj]; rfl)⟩
          ·
           first | omega | (simp; omega)
         ·
          refine aC_ rfl rfl (q_not) ?_
          refine AOps.nil ?_
          refine AWp.cond_t rfl ?_
          refine AWp.seq ?_
          refine AWp.region ?_
          refine aC_ rfl rfl (q_assign) ?_
          refine AOps.nil ?_
          refine AWp.ret ?_
          show Fin te Try.f11 _ _
          refine q_ret (0) [_] [_] ?_
          exact congrArg tf (canT_5 (j := i) (by omega) (by rw [orgO, h14_2]; rfl)).symm
      ·
       refine AOps.nil ?_
       refine AWp.seq ?_
       refine AWp.cond_f rfl ?_
       refine AWp.exit ?_
       refine AWp.seq ?_
       refine AWp.seq ?_
       refine AWp.region ?_
       obtain rfl : i = t.zs.length := by omega
       rw [List.take_length]
       refine aC_ rfl rfl (q_move) ?_
       refine AOps.dec rfl rfl (q_gtr) (fun h17_1 => ?_) (fun h17_1 => ?_)
       ·
        refine AOps.nil ?_
        refine AWp.cond_t rfl ?_
        refine AWp.seq ?_
        refine AWp.region ?_
        refine aC_ rfl rfl (q_assign) ?_
        refine AOps.nil ?_
        refine AWp.ret ?_
        show Fin te Try.f11 _ _
        refine q_ret (0) [_] [_] ?_
        exact congrArg tf (canT_6 h17_1).symm
       ·
        refine AOps.nil ?_
        refine AWp.cond_f rfl ?_
        refine AWp.skip ?_
        refine AWp.seq ?_
        refine AWp.seq ?_
        refine AWp.region ?_
        refine aC_ rfl rfl (q_fa) ?_
        refine aC_ rfl rfl (q_load) ?_
        refine aC_ rfl rfl (q_len) ?_
        refine aC_ rfl rfl (q_move) ?_
        refine AOps.nil ?_
        refine AWp.block ?_
        refine AWp.loopR (α := Nat) [2, 8, 9, 71, 72, 73, 74, 75, 76, 77, 78, 79, 80, 81, 82, 83, 84, 85, 86, 87, 88, 89, 90] (fun i => [(71, i64 i)]) (fun i => []) (fun i => i ≤ t.zs.length ∧ ∀ j, j < i → zonO t j = true) (fun i => t.zs.length - i) 0 ?_ (Back.mk' (HasT.cons HasT.nil) HasH.nil) ?_
        ·
         exact ⟨Nat.zero_le _, fun j hj => absurd hj (Nat.not_lt_zero j)⟩
        ·
         rintro i ⟨hi, hz⟩
         refine AWp.seq ?_
         refine AWp.region ?_
         refine AOps.dec rfl rfl (q_lss) (fun h20_0 => ?_) (fun h20_0 => ?_)
         ·
          refine AOps.nil ?_
          refine AWp.seq ?_
          refine AWp.cond_t rfl ?_
          refine AWp.skip ?_
          refine AWp.seq ?_
          refine AWp.block ?_
          refine AWp.seq ?_
          refine AWp.region ?_
          have hzi := ht.2.1 _ (getD_mem' (l := t.zs) (i := i) (by omega))
          have hzl := hzi.1
          refine aC_ rfl rfl (q_move) ?_
          refine aC_ rfl rfl (q_ix) ?_
          refine aC_ rfl rfl (q_load) ?_
          refine aC_ rfl rfl (q_alloc 2203) ?_
          refine aC_ rfl rfl (q_assign) ?_
          refine aC_ rfl rfl (q_store) ?_
          refine AOps.nil ?_
          refine AWp.seq ?_
          refine AWp.region ?_
          refine aC_ rfl rfl (q_load) ?_
          refine AOps.bool rfl rfl (q_call (0) (hc := (c_ciceroneref18_records (t.zs.getD i default) hzi))) (fun h22_1 => ?_) (fun h22_1 => ?_)
          ·
           refine aC_ rfl rfl (q_not) ?_
           refine aC_ rfl rfl (q_move) ?_
           refine AOps.gcons rfl rfl rfl rfl rfl (q_load) ?_
           refine AOps.gbool rfl rfl rfl rfl rfl (q_call (0) (hc := (c_ciceroneref18_alone (t.zs.getD i default) hzi))) (fun h22_5 => ?_) (fun h22_5 => ?_)
           ·
            refine AOps.gcons rfl rfl rfl rfl rfl (q_not) ?_
            refine aC_ rfl rfl (q_pick) ?_
            refine aC_ rfl rfl (q_move) ?_
            refine AOps.gcons rfl rfl rfl rfl rfl (q_load) ?_
            refine AOps.gcons rfl rfl rfl rfl rfl (q_move) ?_
            refine AOps.gbool rfl rfl rfl rfl rfl (q_call (0) (hc := (c_ciceroneref18_delegated t i ht ⟨by omega, by omega⟩))) (fun h22_11 => ?_) (fun h22_11 => ?_)
            ·
             refine AOps.gcons rfl rfl rfl rfl rfl (q_not) ?_
             refine aC_ rfl rfl (q_pick) ?_
             refine AOps.nil ?_
             refine AWp.cond_f rfl ?_
             refine AWp.skip ?_
             refine AWp.region ?_
             refine aC_ rfl rfl (q_add) ?_
             refine aC_ rfl rfl (q_move) ?_
             refine AOps.nil ?_
             refine ⟨i + 1, ?_, Back.mk' (HasT.cons HasT.nil) HasH.nil, ?_⟩
             ·
              exact ⟨by omega, lt_step hz (by rw [zonO_eq, h22_1, h22_5, h22_11]; rfl)⟩
             ·
              first | omega | (simp; omega)
            ·
             refine AOps.gcons rfl rfl rfl rfl rfl (q_not) ?_
             refine aC_ rfl rfl (q_pick) ?_
             refine AOps.nil ?_
             refine AWp.cond_t rfl ?_
             refine AWp.seq ?_
             refine AWp.region ?_
             refine aC_ rfl rfl (q_assign) ?_
             refine AOps.nil ?_
             refine AWp.ret ?_
             show Fin te Try.f11 _ _
             refine q_ret (0) [_] [_] ?_
             exact congrArg tf (canT_7 (j := i) (by omega) (by rw [zonO_eq, h22_11, Bool.and_false])).symm
           ·
            refine AOps.gcons rfl rfl rfl rfl rfl (q_not) ?_
            refine aC_ rfl rfl (q_pick) ?_
            refine aC_ rfl rfl (q_move) ?_
            refine aG_ rfl rfl rfl rfl rfl rfl rfl rfl ?_
            refine aG_ rfl rfl rfl rfl rfl rfl rfl rfl ?_
            refine aG_ rfl rfl rfl rfl rfl rfl rfl rfl ?_
            refine aG_ rfl rfl rfl rfl rfl rfl rfl rfl ?_
            refine aC_ rfl rfl (q_pick) ?_
            refine AOps.nil ?_
            refine AWp.cond_t rfl ?_
            refine AWp.seq ?_
            refine AWp.region ?_
            refine aC_ rfl rfl (q_assign) ?_
            refine AOps.nil ?_
            refine AWp.ret ?_
            show Fin te Try.f11 _ _
            refine q_ret (0) [_] [_] ?_
            exact congrArg tf (canT_7 (j := i) (by omega) (by rw [zonO_eq, h22_5, Bool.and_false]; rfl)).symm
          ·
           refine aC_ rfl rfl (q_not) ?_
           refine aC_ rfl rfl (q_move) ?_
           refine aG_ rfl rfl rfl rfl rfl rfl rfl rfl ?_
           refine aG_ rfl rfl rfl rfl rfl rfl rfl rfl ?_
           refine aG_ rfl rfl rfl rfl rfl rfl rfl rfl ?_
           refine aC_ rfl rfl (q_pick) ?_
           refine aC_ rfl rfl (q_move) ?_
           refine aG_ rfl rfl rfl rfl rfl rfl rfl rfl ?_
           refine aG_ rfl rfl rfl rfl rfl rfl rfl rfl ?_
           refine aG_ rfl rfl rfl rfl rfl rfl rfl rfl ?_
           refine aG_ rfl rfl rfl rfl rfl rfl rfl rfl ?_
           refine aC_ rfl rfl (q_pick) ?_
           refine AOps.nil ?_
           refine AWp.cond_t rfl ?_
           refine AWp.seq ?_
           refine AWp.region ?_
           refine aC_ rfl rfl (q_assign) ?_
           refine AOps.nil ?_
           refine AWp.ret ?_
           show Fin te Try.f11 _ _
           refine q_ret (0) [_] [_] ?_
           exact congrArg tf (canT_7 (j := i) (by omega) (by rw [zonO_eq, h22_1]; rfl)).symm
         ·
          refine AOps.nil ?_
          refine AWp.seq ?_
          refine AWp.cond_f rfl ?_
          refine AWp.exit ?_
          refine AWp.seq ?_
          refine AWp.region ?_
          refine aC_ rfl rfl (q_assign) ?_
          refine AOps.nil ?_
          refine AWp.ret ?_
          show Fin te Try.f11 _ _
          refine q_ret (0) [_] [_] ?_
          obtain rfl : i = t.zs.length := by omega
          exact congrArg tf (canT_yes h1_3 h1_8 h1_16 h1_20 hc h17_1 hz).symm
    ·
     refine AOps.gcons rfl rfl rfl rfl rfl (q_not) ?_
     refine aC_ rfl rfl (q_pick) ?_
     refine AOps.nil ?_
     refine AWp.cond_t rfl ?_
     refine AWp.seq ?_
     refine AWp.region ?_
     refine aC_ rfl rfl (q_assign) ?_
     refine AOps.nil ?_
     refine AWp.ret ?_
     show Fin te Try.f11 _ _
     refine q_ret (0) [_] [_] ?_
     exact congrArg tf (canT_4 h1_20).symm
end Go.Proofs.Ytokccoloholgaaa.Fw


set_option linter.unusedVariables false
set_option linter.unusedSimpArgs false
namespace Go.Proofs.Ytokccoloholgaaa.Fw
open Go.RowKit
def Nm (ls : List (List UInt8)) : Prop := GoodN ls ∧ (joinN ls).length ≤ 255
theorem can_nm {n : List UInt8} (h : canN n = true) : ∃ ls, Nm ls ∧ n = joinN ls := by
  obtain ⟨ls, g, e, hl⟩ := canN_iff.1 h
  exact ⟨ls, ⟨g, hl⟩, e⟩
theorem Nm.can {ls : List (List UInt8)} (h : Nm ls) : canN (joinN ls) = true := can_join h.1 h.2
theorem Nm.lab {ls : List (List UInt8)} (h : Nm ls) : labN (joinN ls) = ls := labN_join h.1 h.2
theorem Nm.low {ls : List (List UInt8)} (h : Nm ls) : Nm (lowL ls) := ⟨h.1.low, by rw [low_length h.1]; exact h.2⟩
theorem Nm.lowN {ls : List (List UInt8)} (h : Nm ls) : lowN (joinN ls) = joinN (lowL ls) := lowN_join h.1 h.2
theorem Nm.drop {ls : List (List UInt8)} (h : Nm ls) (j : Nat) : Nm (ls.drop j) := by
  refine ⟨fun x hx => h.1 x (List.mem_of_mem_drop hx), ?_⟩
  have h2 := h.2
  induction j generalizing ls with
  | zero => exact h.2
  | succ j ih =>
    cases ls with
    | nil => simpa using h.2
    | cons l ls =>
      have := joinN_le (l := l) (ls := ls)
      exact ih (ls := ls) ⟨h.1.tail, by omega⟩ (by omega)
theorem Nm.inj {a b : List (List UInt8)} (ha : Nm a) (hb : Nm b) : joinN a = joinN b ↔ a = b := ⟨joinN_inj ha.1 hb.1, fun e => by rw [e]⟩
theorem Nm.same {a b : List (List UInt8)} (ha : Nm a) (hb : Nm b) : sameN (joinN a) (joinN b) = decide (lowL a = lowL b) := by
  rw [sameN, ha.can, hb.can, ha.lowN, hb.lowN, decide_eq_decide.2 (ha.low.inj hb.low)]
  rfl
theorem Nm.tail {a : List (List UInt8)} (ha : Nm a) (k : Int) : tailN (joinN a) k = joinN (a.drop (a.length - min (max k 0).toNat a.length)) := by
  rw [tailN, if_pos ha.can, ha.lab]
theorem canR_name {t : Int} {d : List UInt8} (h : t = 2 ∨ t = 5 ∨ t = 12) (hd : d.length ≤ 65535) : canR t d = canN d := by
  rw [canR, if_neg (by omega), if_neg (by omega), if_neg (by omega), if_pos h]
def bT (xs : List (List UInt8)) : List UInt8 := xs.flatMap fun x => byte (x.length : Int) :: x
section
variable {t : Tr}
theorem canT_parts (h : canT t = true) : 1 ≤ t.zs.length ∧ t.zs.length ≤ 20 ∧ (t.zs.getD 0 default).o = [0] ∧ srvT t = true ∧ (∀ j, j < t.zs.length → orgO t j = true) ∧ sumT t.zs ≤ 400 ∧ ∀ j, j < t.zs.length → zonO t j = true := by
  unfold canT at h
  simp only [Bool.and_eq_true, decide_eq_true_eq, range_all_iff] at h
  obtain ⟨⟨⟨⟨⟨⟨h1, h2⟩, h3⟩, h4⟩, h5⟩, h6⟩, h7⟩ := h
  exact ⟨h1, h2, h3, h4, h5, h6, h7⟩
theorem canT_in (h : canT t = true) {z : Zo} (hz : z ∈ t.zs) {r : Rr} (hr : r ∈ z.rs) : inZ z r = true := by
  obtain ⟨_, _, _, _, _, _, h7⟩ := canT_parts h
  obtain ⟨i, hi, rfl⟩ := List.getElem_of_mem hz
  have h1 := h7 i hi
  unfold zonO at h1
  simp only [Bool.and_eq_true] at h1
  rw [gd_at hi] at h1
  exact List.all_eq_true.1 h1.1.1.1 r hr
theorem inZ_base' {z : Zo} {r : Rr} (h : inZ z r = true) : baseO z r = true ∧ restO z r = true := by
  unfold inZ recO at h
  simp only [Bool.and_eq_true] at h
  exact h.1
theorem base_can {z : Zo} {r : Rr} (h : baseO z r = true) : canN r.nm = true ∧ withN r.nm z.o = true ∧ canS r.ty r.da = true := by
  unfold baseO at h
  simp only [Bool.and_eq_true] at h
  exact ⟨(withN_can h.1.1.1.1.1.1).1, h.1.1.1.1.1.1, h.2⟩
theorem data_can {z : Zo} {r : Rr} (h : inZ z r = true) (ht : r.ty = 2 ∨ r.ty = 5) : canN r.da = true := by
  have h1 := (base_can (inZ_base' h).1).2.2
  have hl : r.da.length ≤ 65535 := by
    rw [canS_ne (by omega)] at h1
    unfold canR at h1; split at h1
    · cases h1
    · omega
  rw [canS_ne (by omega), canR_name (by omega) hl] at h1
  exact h1
theorem at_mem {z : Zo} {n : List UInt8} {ty : Int} {r : Rr} (h : r ∈ atZ z n ty) : r ∈ z.rs ∧ r.ty = ty ∧ sameN r.nm n = true := by
  obtain ⟨h1, h2⟩ := List.mem_filter.1 h
  unfold atP at h2
  simp only [Bool.and_eq_true, decide_eq_true_eq] at h2
  exact ⟨h1, h2.1, h2.2⟩
theorem sum_mem {l : List Zo} {z : Zo} (h : z ∈ l) : z.rs.length ≤ sumT l := by
  induction l with
  | nil => cases h
  | cons a l ih =>
    have e : sumT (a :: l) = a.rs.length + sumT l := by simp [sumT]
    rw [e]
    rcases List.mem_cons.1 h with rfl | h
    · omega
    · have := ih h; omega
end
section
variable {t : Tr} {q : Qu}
end
theorem canN_le2 {n : List UInt8} (h : canN n = true) : n.length ≤ 255 := by
  obtain ⟨ls, a, rfl⟩ := can_nm h
  exact a.2
end Go.Proofs.Ytokccoloholgaaa.Fw


set_option linter.unusedVariables false
set_option linter.unusedSimpArgs false
set_option linter.unusedSectionVars false
namespace Go.Proofs.Ytokccoloholgaaa.Fw
open Go.RowKit
section rules
variable {n : Nat} {s : AS} {d : Option Tmp} {Q : APost}
theorem AOps.bsconv (id : Nat) (xs : List UInt8) (vals : List (Nat × AV)) {ops : Array Oper} {i j : Nat} {rest : List Nat} {o1 o2 : Oper} {t e : TypeId} {m : Nat} {parts : Array (Nat × Operand)} {ti tj : TI} {cs : List AV} {d1 : Tmp} {d2 : Option Tmp}
    (h1 : ops[i]? = some o1) (g1 : o1.guard = none) (h2 : ops[j]? = some o2) (g2 : o2.guard = none)
    (hr : AOps Try.prog n ops Q rest (((s.seth id (some (.row (cl bc xs) 1 0))).put (some d1) (.sl id 0 0 xs.length 1)).put d2 (.sl id 0 0 xs.length 1)))
    (ho : o1.op = .buildSlice t m parts := by exact rfl) (hv : EvL s parts.toList vals := by repeat' (first | exact trivial | refine ⟨rfl, ?_, ?_⟩ | (conv => lhs; whnf))) (ht : te.get t = some ti := by exact rfl) (hk : ti.k = .slice e := by exact rfl) (he : te.get e = some tj := by exact rfl) (hu8 : tj.k = .int .u8 := by exact rfl)
    (hsz : tj.size = 1 := by exact rfl) (hid : s.h id = none := by exact rfl) (hcs : fillAV (arrPlace tj.size) (repZ tj.zero m) vals = some cs := by exact rfl) (hc' : cs = cl bc xs := by exact rfl)
    (hz : Nat.beq tj.zero.length tj.size = true := by exact rfl) (hsm : Nat.ble (m * tj.size) 1000 = true := by exact rfl) (hm : m = xs.length := by exact rfl) (hd1 : o1.dst = some d1 := by conv => lhs; whnf) (hdn : Nat.blt d1 n = true := by exact rfl)
    (ho2 : o2.op = .convert t t (.tmp d1) := by exact rfl) (hd2 : o2.dst = d2 := by conv => lhs; whnf) (hdn2 : d2.all (Nat.blt · n) = true := by exact rfl) : AOps Try.prog n ops Q (i :: j :: rest) s := by
  subst hm; subst hd2
  intro Λ w φ a hs QQ hQ
  have hu := (te_ok.tells ht).slice hk
  obtain ⟨z, z1, z2, _⟩ := (te_ok.tells he).run_zero w
  obtain ⟨q1, q2⟩ := parts_rep hs parts
  rw [hv.eq] at q1 q2
  have hzl := Nat.eq_of_beq_eq_true hz
  have hle := Nat.le_of_ble_eq_true hsm
  have hsmall : ¬ (xs.length * tj.size > 2 ^ 24) := by omega
  have hzero : ∃ zc : Array Value, ((if xs.length * tj.size = 0 then pure #[] else do pure (← zeroValue e).cells : Sem (Array Value)).run Try.prog w = .ok zc w) ∧ ListRep w φ Λ ((Array.range (xs.length * tj.size)).map (zc[· % zc.size]!)) (repZ tj.zero xs.length) := by
    by_cases h0 : xs.length * tj.size = 0
    · refine ⟨#[], by rw [if_pos h0]; rfl, ?_⟩
      have hn : repZ tj.zero xs.length = [] := List.eq_nil_of_length_eq_zero (by rw [repZ_length, hzl, h0])
      rw [hn, h0]
      exact ⟨by simp, fun j c hj => by simp at hj⟩
    · refine ⟨z.cells, by rw [if_neg h0]; simp [z1], ?_⟩
      exact zeros_many z2 xs.length _ (by rw [hzl])
  obtain ⟨zc, zc1, zc2⟩ := hzero
  obtain ⟨arr', r1, r2, r3⟩ := fill_rep zc2 q1 q2 hcs
  have hrun : (Instr.buildSlice t xs.length (parts.map fun (i, x) => (i, a.eval x))).run Try.prog w = .ok (.slice (some ⟨w.heap.size, 0, none⟩) xs.length xs.length) (w.alloc (.cells arr' e)) := by
    have r1' : Instr.fill (fun i => some (i * tj.size, tj.size)) ((Array.range (xs.length * tj.size)).map (zc[· % zc.size]!)) (parts.map fun (i, x) => (i, a.eval x)).toList = some arr' := r1
    by_cases h0 : xs.length * tj.size = 0
    · rw [if_pos h0] at zc1
      simp only [Sem.run_pure, Result.ok.injEq, and_true] at zc1
      subst zc1
      simp only [Instr.buildSlice, Sem.run_bind, run_underlying hu, Result.andThen_ok, (te_ok.tells he).run_sizeOf, hsmall, if_false]
      rw [if_pos h0]
      simp only [Sem.run_bind, Sem.run_pure, Result.andThen_ok, r1', newRow, run_newObj]
      rfl
    · rw [if_neg h0] at zc1
      simp only [Sem.run_bind, z1, Result.andThen_ok, Sem.run_pure, Result.ok.injEq, and_true] at zc1
      subst zc1
      simp only [Instr.buildSlice, Sem.run_bind, run_underlying hu, Result.andThen_ok, (te_ok.tells he).run_sizeOf, hsmall, if_false]
      rw [if_neg h0]
      simp only [Sem.run_bind, Sem.run_pure, Result.andThen_ok, z1, r1', newRow, run_newObj]
      rfl
  have hcl : cs.length = xs.length := by rw [hc', cl_length (f := bc) (e := 1) (fun _ => rfl), Nat.mul_one]
  have hal : arr'.size = cs.length := r2.symm ▸ rfl
  obtain ⟨W, hW⟩ : ∃ W, W = w.alloc (.cells arr' e (arr'.size, arr'.size + 1)) := ⟨_, rfl⟩
  have hconv := Go.Lib.run_convert_bytes_const (P := Try.prog) w t e arr' xs.length xs.length hu ((te_ok.tells he).int hu8)
  rw [← hW] at hconv
  have hc : Chg w φ Λ s.h id ⟨some (w.heap.size, 0), 0⟩ W := hW ▸ Chg.alloc hs.hs hid (.cells arr' e (arr'.size, arr'.size + 1)) 0 0 (hf := .one (b0 := w.heap.size) (fun b h => alloc_at w _ b h) fun _ arr T lo hi k => by rw [heap_alloc_new] at k; cases k; exact .inl (Nat.le_refl _))
  have hnew : W.heap[w.heap.size]? = some (.cells arr' e (arr'.size, arr'.size + 1)) := by rw [hW]; exact heap_alloc_new w _
  have hob : ObjRep W (upd φ id (some ⟨some (w.heap.size, 0), 0⟩)) Λ (.row (cl bc xs) 1 0) ⟨some (w.heap.size, 0), 0⟩ :=
    ⟨rfl, .inr ⟨w.heap.size, 0, arr', e, _, _, rfl, hnew, .inl (Nat.le_refl _), by rw [← hc', hal]; omega, fun j c hj => by
      rw [← hc'] at hj
      obtain ⟨y, y1, y2⟩ := r3 j c hj
      exact ⟨y, y1, hc.rep y2⟩⟩⟩
  have hs1 : Sim n W (upd φ id (some ⟨some (w.heap.size, 0), 0⟩)) Λ (s.seth id (some (.row (cl bc xs) 1 0))) a := ⟨hs.defs, hs.size, fun i => hc.rep (hs.tmps i), hc.hsim hob⟩
  have hv1 : Rep W (upd φ id (some ⟨some (w.heap.size, 0), 0⟩)) Λ (.sl id 0 0 xs.length 1) (.slice (some ⟨w.heap.size, 0, none⟩) xs.length xs.length) :=
    Rep.sl (off := 0) (upd_same _ _ _) rfl rfl hnew (by omega) (Nat.le_refl _)
  have hs2 := (hs1.put (some d1) (by simpa using hdn) hv1).put o2.dst hdn2 hv1
  have hev : (a.put (some d1) (.slice (some ⟨w.heap.size, 0, none⟩) xs.length xs.length)).eval (.tmp d1) = .slice (some ⟨w.heap.size, 0, none⟩) xs.length xs.length := by
    have hd' : d1 < n := Nat.blt_eq.mp hdn
    simp [Act.put, Act.eval, Array.getD, hs.size, hd']
  simp only [wpOps, h1, h2, Region.wanted, g1, g2, if_true]
  refine .inl ?_
  unfold Oper.wp
  rw [show (execOp a.eval o1).run Try.prog w = .ok (.value (.slice (some ⟨w.heap.size, 0, none⟩) xs.length xs.length)) (w.alloc (.cells arr' e)) by simp [execOp, ho, hrun]]
  refine .inl ?_
  rw [hd1]
  rw [show (execOp (a.put (some d1) (.slice (some ⟨w.heap.size, 0, none⟩) xs.length xs.length)).eval o2).run Try.prog (w.alloc (.cells arr' e)) = .ok (.value (.slice (some ⟨w.heap.size, 0, none⟩) xs.length xs.length)) W by
    simp only [execOp, ho2, hev, Sem.run_bind, hconv, Result.andThen_ok, Sem.run_pure]]
  exact hr Λ W _ _ hs2 QQ fun ae s3 w3 φ3 a3 q3 hs3 g3 => hQ ae s3 w3 φ3 a3 q3 hs3 (hc.goes.trans g3)
end rules
end Go.Proofs.Ytokccoloholgaaa.Fw


set_option linter.unusedVariables false
set_option linter.unusedSimpArgs false
namespace Go.Proofs.Ytokccoloholgaaa.Fw
open Go.RowKit
def soaS : List UInt8 := List.replicate 22 0
def smR1 : Rr := ⟨[0], 6, 1, 100, soaS⟩
def smR2 : Rr := ⟨[0], 2, 1, 100, [1, 97, 0]⟩
def smR3 : Rr := ⟨[1, 97, 0], 1, 1, 100, [0, 0, 0, 1]⟩
def smT : Tr := ⟨[⟨[0], [smR1, smR2, smR3]⟩], [⟨1, [0]⟩]⟩
theorem smT_ok : TrOk smT := by
  refine ⟨by decide, fun z hz => ?_, by decide, fun s hs => ?_⟩
  · simp only [smT, List.mem_singleton] at hz
    subst hz
    refine ⟨by decide, ⟨by decide, fun r hr => ?_⟩, fun r hr => ?_⟩
    · simp only [List.mem_cons, List.not_mem_nil, or_false] at hr
      rcases hr with rfl | rfl | rfl <;> decide
    · simp only [List.mem_cons, List.not_mem_nil, or_false] at hr
      rcases hr with rfl | rfl | rfl <;> decide
  · simp only [smT, List.mem_singleton] at hs
    subst hs; decide
theorem smT_can : canT smT = true := by decide +kernel
set_option maxRecDepth 20000 in
set_option maxHeartbeats 2000000 in
theorem c_ciceronelaw18_Small  : AC Try.prog 15 [] emp (Ret (.agg (trC smT))) := by
 refine AC.intro te_ok (fn := Try.f15) ⟨Try.func15, rfl, rfl⟩ (Nat.le_of_ble_eq_true rfl) ?_
 refine AWp.seq ?_
 refine AWp.region ?_
 refine aC_ rfl rfl (q_alloc 100) ?_
 refine AOps.nil ?_
 refine AWp.seq ?_
 refine AWp.region ?_
 refine aC_ rfl rfl (q_make 200 bc 0 20 (hb := by simp)) ?_
 refine aC_ rfl rfl (q_conv_ls) ?_
 refine aC_ rfl rfl (q_sadd (h := by simp)) ?_
 refine aC_ rfl rfl (q_assign) ?_
 refine AOps.nil ?_
 refine AWp.seq ?_
 refine AWp.region ?_
 refine AOps.weak (Weak.full 0 [] (t := [(0, .ptr 100 0 0), (1, str soaS)]) (hl := [(100, .box [.v (.slice none 0 0), .v (.slice none 0 0)])])) ?_
 refine aC_ rfl rfl (q_move) ?_
 refine aC_ rfl rfl (q_conv_sl 301) ?_
 refine AOps.weak (Weak.full 0 [] (t := [(0, .ptr 100 0 0), (6, .fz 0 soaS.length (cl bc soaS))]) (hl := [(100, .box [.v (.slice none 0 0), .v (.slice none 0 0)])])) ?_
 refine aC_ rfl rfl (q_build [(_, _), (_, _), (_, _), (_, _), (_, _)]) ?_
 refine AOps.bsconv 303 [1, 97, 0] [(_, _), (_, _), (_, _)] rfl rfl rfl rfl ?_
 refine AOps.weak (Weak.full 0 [] (t := [(0, .ptr 100 0 0), (7, .agg (rrc smR1)), (9, .fz 0 ([1, 97, 0] : List UInt8).length (cl bc [1, 97, 0]))]) (hl := [(100, .box [.v (.slice none 0 0), .v (.slice none 0 0)])])) ?_
 refine aC_ rfl rfl (q_build [(_, _), (_, _), (_, _), (_, _), (_, _)]) ?_
 refine aC_ rfl rfl (q_bs 306 bc [0, 0, 0, 1] [(_, _), (_, _), (_, _), (_, _)]) ?_
 refine AOps.weak (Weak.full 0 [] (t := [(0, .ptr 100 0 0), (7, .agg (rrc smR1)), (10, .agg (rrc smR2)), (11, .fz 0 ([0, 0, 0, 1] : List UInt8).length (cl bc [0, 0, 0, 1]))]) (hl := [(100, .box [.v (.slice none 0 0), .v (.slice none 0 0)])])) ?_
 refine aC_ rfl rfl (q_build [(_, _), (_, _), (_, _), (_, _), (_, _)]) ?_
 refine aC_ rfl rfl (q_bs 308 rrc [smR1, smR2, smR3] [(_, _), (_, _), (_, _)]) ?_
 refine AOps.weak (Weak.full 0 [] (t := [(0, .ptr 100 0 0), (13, .fz 0 [smR1, smR2, smR3].length (cl rrc [smR1, smR2, smR3]))]) (hl := [(100, .box [.v (.slice none 0 0), .v (.slice none 0 0)])])) ?_
 refine aC_ rfl rfl (q_build [(_, _), (_, _)]) ?_
 refine aC_ rfl rfl (q_bs 310 zoC [⟨[0], [smR1, smR2, smR3]⟩] [(_, _)]) ?_
 refine AOps.weak (Weak.full 0 [] (t := [(0, .ptr 100 0 0), (15, .fz 0 smT.zs.length (cl zoC smT.zs))]) (hl := [(100, .box [.v (.slice none 0 0), .v (.slice none 0 0)])])) ?_
 refine aC_ rfl rfl (q_bs 311 ic [0] [(_, _)]) ?_
 refine AOps.weak (Weak.full 0 [] (t := [(0, .ptr 100 0 0), (15, .fz 0 smT.zs.length (cl zoC smT.zs)), (16, .fz 0 ([0] : List Int).length (cl ic [0]))]) (hl := [(100, .box [.v (.slice none 0 0), .v (.slice none 0 0)])])) ?_
 refine aC_ rfl rfl (q_build [(_, _), (_, _)]) ?_
 refine aC_ rfl rfl (q_bs 313 svC [⟨1, [0]⟩] [(_, _)]) ?_
 refine AOps.weak (Weak.full 0 [] (t := [(0, .ptr 100 0 0), (15, .fz 0 smT.zs.length (cl zoC smT.zs)), (18, .fz 0 smT.ss.length (cl svC smT.ss))]) (hl := [(100, .box [.v (.slice none 0 0), .v (.slice none 0 0)])])) ?_
 refine aC_ rfl rfl (q_build [(_, _), (_, _)]) ?_
 refine aC_ rfl rfl (q_store) ?_
 refine AOps.nil ?_
 refine AWp.ret ?_
 show Fin te Try.f15 _ _
 refine q_ret (0) [_] [_] ?_
 rfl
end Go.Proofs.Ytokccoloholgaaa.Fw


set_option linter.unusedVariables false
set_option linter.unusedSimpArgs false
namespace Go.Proofs.Ytokccoloholgaaa.Fw
open Go.RowKit
def fstO (l : List Rr) (i : Nat) : Bool := !((l.take i).any fun o => decide (lowN o.da = lowN (l.getD i default).da))
def nmF (g : List UInt8 → List Rr) (l : List Rr) (k : Nat) : List Rr := ((List.range k).filter (fstO l)).flatMap fun i => g (l.getD i default).da
def nmK (l : List Rr) (k : Nat) : Nat := ((List.range k).filter (fstO l)).length
theorem nmF_step {g : List UInt8 → List Rr} {l : List Rr} {k : Nat} : nmF g l (k + 1) = nmF g l k ++ (if fstO l k then g (l.getD k default).da else []) := by
  rw [nmF, List.range_succ, List.filter_append, List.flatMap_append]
  congr 1
  cases h : fstO l k <;> simp [List.filter, h]
theorem nmF_yes {g : List UInt8 → List Rr} {l : List Rr} {k : Nat} (h : fstO l k = true) : nmF g l (k + 1) = nmF g l k ++ g (l.getD k default).da := by rw [nmF_step, if_pos h]
theorem nmF_no {g : List UInt8 → List Rr} {l : List Rr} {k : Nat} (h : fstO l k = false) : nmF g l (k + 1) = nmF g l k := by rw [nmF_step, if_neg (by rw [h]; decide), List.append_nil]
theorem nmK_yes {l : List Rr} {k : Nat} (h : fstO l k = true) : nmK l (k + 1) = nmK l k + 1 := by
  rw [nmK, List.range_succ, List.filter_append, List.length_append]; simp [List.filter, h, nmK]
theorem nmK_no {l : List Rr} {k : Nat} (h : fstO l k = false) : nmK l (k + 1) = nmK l k := by
  rw [nmK, List.range_succ, List.filter_append, List.length_append]; simp [List.filter, h, nmK]
def MetD (l : List Rr) (i : Nat) (m : List (List UInt8 × Bool)) : Prop := ∀ a, (mget m a).getD false = decide (a ∈ (l.take i).map fun r => lowN r.da)
theorem MetD.start (l : List Rr) : MetD l 0 [] := fun a => by simp [mget]
theorem MetD.step {l : List Rr} {i : Nat} {m : List (List UInt8 × Bool)} (h : MetD l i m) (hi : i < l.length) : MetD l (i + 1) (mput m (lowN (l.getD i default).da) true) := fun a => by
  rw [mget_put, map_step hi]
  obtain ⟨x, hx⟩ : ∃ x, x = lowN (l.getD i default).da := ⟨_, rfl⟩
  rw [← hx]
  by_cases e : x = a
  · rw [if_pos e]; simp [e]
  · rw [if_neg e, h a]
    have e2 : ¬ a = x := fun k => e k.symm
    simp [e2]
theorem MetD.same {l : List Rr} {i : Nat} {m : List (List UInt8 × Bool)} (h : MetD l i m) (hi : i < l.length) (hm : (mget m (lowN (l.getD i default).da)).getD false = true) : MetD l (i + 1) m := fun a => by
  rw [map_step hi, h a]
  rw [h] at hm
  have hm2 := of_decide_eq_true hm
  refine decide_eq_decide.2 ⟨fun q => List.mem_append.2 (.inl q), fun q => ?_⟩
  rcases List.mem_append.1 q with q | q
  · exact q
  · rw [List.mem_singleton] at q; rw [q]; exact hm2
theorem MetD.fst {l : List Rr} {i : Nat} {m : List (List UInt8 × Bool)} (h : MetD l i m) : fstO l i = !(mget m (lowN (l.getD i default).da)).getD false := by
  rw [h, fstO]
  congr 1
  rw [Bool.eq_iff_iff, List.any_eq_true, decide_eq_true_iff, List.mem_map]
  constructor
  · rintro ⟨x, h1, h2⟩; exact ⟨x, h1, of_decide_eq_true h2⟩
  · rintro ⟨x, h1, h2⟩; exact ⟨x, h1, decide_eq_true h2⟩
theorem fst_same {l : List Rr} (hc : ∀ r ∈ l, canN r.da = true) {i : Nat} (hi : i < l.length) : fstO l i = !((l.take i).any fun o => sameN o.da (l.getD i default).da) := by
  rw [fstO]
  congr 1
  rw [Bool.eq_iff_iff, List.any_eq_true, List.any_eq_true]
  have h1 := hc _ (getD_mem' hi)
  constructor
  · rintro ⟨x, h2, h3⟩; exact ⟨x, h2, by rw [sameN, hc x (List.mem_of_mem_take h2), h1]; exact h3⟩
  · rintro ⟨x, h2, h3⟩; refine ⟨x, h2, ?_⟩; rw [sameN, hc x (List.mem_of_mem_take h2), h1] at h3; exact h3
theorem nmF_small {g : List UInt8 → List Rr} {l : List Rr} {c : Nat} (hg : ∀ r ∈ l, (g r.da).length ≤ c) : ∀ {k : Nat}, k ≤ l.length → (nmF g l k).length ≤ c * k
  | 0, _ => by simp [nmF]
  | k + 1, hk => by
    have ih := nmF_small hg (k := k) (by omega)
    have h1 := hg _ (getD_mem' (l := l) (i := k) (by omega))
    rw [nmF_step, List.length_append, Nat.mul_succ]
    split
    · omega
    · simp; omega
end Go.Proofs.Ytokccoloholgaaa.Fw


set_option linter.unusedVariables false
set_option linter.unusedSimpArgs false
set_option linter.unusedSectionVars false
namespace Go.Proofs.Ytokccoloholgaaa.Fw
open Go.RowKit
section rules
variable {n : Nat} {s : AS} {o : Oper} {d : Option Tmp} {Q : APost} {κ β : Type} [DecidableEq κ]
end rules
section jumpsR
variable {P : Program} {n : Nat} {Q : APost} {s : AS}
def AExit.jumpB (l : Nat) (J : AS → Prop) (Q : APost) : APost
  | .goto l', s' => l' = l ∧ J s'
  | e, s' => Q e s'
theorem AWp.jumpsR {α : Type} {c rest : Code} (l : Nat) (K : List Nat) (T : α → List (Nat × AV)) (H : α → List (Nat × AObj)) (I : α → Prop) (μ : α → Nat) (hf : findLabel c l = some (.seq .skip rest))
    (first : (∀ s', (∃ x, I x ∧ Back s s' K (T x) (H x)) → AWp P n (.seq (.label l) rest) (AExit.jumpTo l (fun x => s.over K (T x) (H x)) I Q) s') → AWp P n c (AExit.jumpTo l (fun x => s.over K (T x) (H x)) I Q) s)
    (pass : ∀ x, I x → AWp P n rest (AExit.jumpB l (fun s' => ∃ x', I x' ∧ Back s s' K (T x') (H x') ∧ μ x' < μ x) Q) (s.over K (T x) (H x))) : AWp P n (.scope c) Q s :=
  .dom fun hd => AWp.jumps l (fun x => s.over K (T x) (H x)) I μ hf (fun hj => first fun s' ⟨x, a, b⟩ => hj s' ⟨x, a, b.weak hd⟩) fun x hx => (pass x hx).mono fun e s' q => by
    cases e with
    | goto l' => obtain ⟨h1, x', h2, h3, h4⟩ := q; exact ⟨h1, x', h2, h3.weak hd, h4⟩
    | normal => exact q
    | exit id => exact q
    | ret => exact q
    | panic v => exact q
end jumpsR
section bad
end bad
end Go.Proofs.Ytokccoloholgaaa.Fw


set_option linter.unusedVariables false
set_option linter.unusedSimpArgs false
namespace Go.Proofs.Ytokccoloholgaaa.Fw
open Go.RowKit
structure Fl where
  aa : Bool
  code : Int
  an : List Rr
  au : List Rr
  ad : List Rr
  va : Nat
  vd : Nat
def gluZ (z : Zo) (l : List Rr) : List Rr := nmF (fun n => atZ z n 1) l l.length
def fil (z : Zo) (ty : Int) (aa : Bool) (an : List Rr) (n : List UInt8) (v : Nat) : Fl :=
  if cutZ z n ≠ [] then
    if an.length = 0 then ⟨aa, 0, an, atZ z (cutZ z n) 2, gluZ z (atZ z (cutZ z n) 2), v, nmK (atZ z (cutZ z n) 2) (atZ z (cutZ z n) 2).length⟩
    else ⟨aa, 0, an, [], [], v, 0⟩
  else if h : 0 < (atZ z n 5).length ∧ ty ≠ 5 then
    if h2 : withN ((atZ z n 5).getD 0 default).da z.o = true ∧ (an ++ atZ z n 5).length < 8 then fil z ty true (an ++ atZ z n 5) ((atZ z n 5).getD 0 default).da (v + 1)
    else ⟨true, 0, an ++ atZ z n 5, [], [], v + 1, 0⟩
  else if 0 < (atZ z n ty).length then ⟨true, 0, an ++ atZ z n ty, [], [], v + 1, 0⟩
  else ⟨true, if theZ z n then 0 else 3, an, atZ z z.o 6, [], v, 0⟩
termination_by 8 - an.length
decreasing_by rw [List.length_append] at h2 ⊢; omega
section
variable {z : Zo} {ty : Int} {aa : Bool} {an : List Rr} {n : List UInt8} {v : Nat}
theorem fil_cut0 (h : cutZ z n ≠ []) (h2 : an.length = 0) : fil z ty aa an n v = ⟨aa, 0, an, atZ z (cutZ z n) 2, gluZ z (atZ z (cutZ z n) 2), v, nmK (atZ z (cutZ z n) 2) (atZ z (cutZ z n) 2).length⟩ := by rw [fil, if_pos h, if_pos h2]
theorem fil_cutn (h : cutZ z n ≠ []) (h2 : ¬ an.length = 0) : fil z ty aa an n v = ⟨aa, 0, an, [], [], v, 0⟩ := by rw [fil, if_pos h, if_neg h2]
theorem fil_on (h : ¬ cutZ z n ≠ []) (h1 : 0 < (atZ z n 5).length ∧ ty ≠ 5) (h2 : withN ((atZ z n 5).getD 0 default).da z.o = true ∧ (an ++ atZ z n 5).length < 8) : fil z ty aa an n v = fil z ty true (an ++ atZ z n 5) ((atZ z n 5).getD 0 default).da (v + 1) := by rw [fil, if_neg h, dif_pos h1, dif_pos h2]
theorem fil_stop (h : ¬ cutZ z n ≠ []) (h1 : 0 < (atZ z n 5).length ∧ ty ≠ 5) (h2 : ¬ (withN ((atZ z n 5).getD 0 default).da z.o = true ∧ (an ++ atZ z n 5).length < 8)) : fil z ty aa an n v = ⟨true, 0, an ++ atZ z n 5, [], [], v + 1, 0⟩ := by rw [fil, if_neg h, dif_pos h1, dif_neg h2]
theorem fil_has (h : ¬ cutZ z n ≠ []) (h1 : ¬ (0 < (atZ z n 5).length ∧ ty ≠ 5)) (h2 : 0 < (atZ z n ty).length) : fil z ty aa an n v = ⟨true, 0, an ++ atZ z n ty, [], [], v + 1, 0⟩ := by rw [fil, if_neg h, dif_neg h1, if_pos h2]
theorem fil_none (h : ¬ cutZ z n ≠ []) (h1 : ¬ (0 < (atZ z n 5).length ∧ ty ≠ 5)) (h2 : ¬ 0 < (atZ z n ty).length) : fil z ty aa an n v = ⟨true, if theZ z n then 0 else 3, an, atZ z z.o 6, [], v, 0⟩ := by rw [fil, if_neg h, dif_neg h1, if_neg h2]
end
theorem at_len {z : Zo} (h : z.rs.length ≤ 400) (n : List UInt8) (t : Int) : (atZ z n t).length ≤ 400 := by
  have := List.length_filter_le (atP n t) z.rs
  unfold atZ; omega
set_option maxRecDepth 20000 in
set_option maxHeartbeats 2000000 in
theorem c_fill1 (h : Hdr) (qs : List Qu) (aa : Bool) (code : Int) (an au : List Rr) (va : Nat) (z : Zo) (n : List UInt8) (acc : List Rr) (v : Nat) (hz : ZoOk z) (hs : z.rs.length ≤ 400) (hn : n.length ≤ 255) (hacc : acc.length ≤ 1000000) : AC Try.prog 95 [str n, .ptr 3 0 0, .ptr 4 0 0] (hlook [(0, .box [i64 h.id, tf h.resp, i64 h.op, tf (aa), tf h.tc, tf h.rd, tf h.ra, i64 (code), .fz 0 qs.length (cl quc qs), .sl 1 (va) 0 (an).length 5, .fz 0 (au).length (cl rrc (au)), .sl 2 (v) 0 (acc).length 5]), (1, .row (cl rrc an) 5 va), (2, .row (cl rrc (acc)) 5 (v)), (3, .box [.ptr 0 0 0]), (4, .box (zoC z))]) (RetH (.tup []) [(0, .box [i64 h.id, tf h.resp, i64 h.op, tf (aa), tf h.tc, tf h.rd, tf h.ra, i64 (code), .fz 0 qs.length (cl quc qs), .sl 1 (va) 0 (an).length 5, .fz 0 (au).length (cl rrc (au)), .sl 2 (v + 1) 0 (acc ++ atZ z n 1).length 5]), (1, .row (cl rrc an) 5 va), (2, .row (cl rrc (acc ++ atZ z n 1)) 5 (v + 1)), (3, .box [.ptr 0 0 0]), (4, .box (zoC z))]) := by
 have hal := at_len hs n 1
 refine AC.intro te_ok (fn := Try.f95) ⟨Try.func95, rfl, rfl⟩ (Nat.le_of_ble_eq_true rfl) ?_
 refine AWp.draws [⟨0, [1], [3], some 4, _, []⟩,
 ⟨1, [1], [3], some 5, _, []⟩,
 ⟨2, [5], [0], some 6, _, []⟩,
 ⟨3, [6], [0], some 7, _, []⟩,
 ⟨4, [7], [0], some 8, _, []⟩,
 ⟨5, [2], [4], some 9, _, []⟩,
 ⟨6, [0], [], some 10, _, []⟩,
 ⟨7, [9, 10], [], some 11, _, []⟩,
 ⟨8, [8, 11], [2], some 12, _, [(2, _)]⟩,
 ⟨9, [4], [0], some 13, _, []⟩,
 ⟨10, [13], [0], some 14, _, []⟩,
 ⟨11, [12, 14], [0, 2], none, _, [(0, _)]⟩]
  [kN_ 0 [1] [3] 4,
 kN_ 1 [1] [3] 5,
 kN_ 2 [5] [0] 6,
 kN_ 3 [6] [0] 7,
 kN_ 4 [7] [0] 8,
 kN_ 5 [2] [4] 9,
 kN_ 6 [0] [] 10,
 kN_ 7 [9, 10] [] 11,
 ⟨8, [8, 11], [2], some 12, .any, [(2, .box [])]⟩,
 kN_ 9 [4] [0] 13,
 kN_ 10 [13] [0] 14,
 ⟨11, [12, 14], [0, 2], none, .any, [(0, .box [])]⟩]
  mixed_ok rfl (by kernel_rfl) ⟨dK_ fun s0 => oG_ rfl rfl (q_load),
 dK_ fun s0 => oG_ rfl rfl (q_load),
 dK_ fun s0 => oG_ rfl rfl (q_nil),
 dK_ fun s0 => oG_ rfl rfl (q_fa),
 dK_ fun s0 => oG_ rfl rfl (q_load),
 dK_ fun s0 => oG_ rfl rfl (q_load),
 dK_ fun s0 => oG_ rfl rfl (q_move),
 dK_ fun s0 => oG_ rfl rfl (q_call (0) (hc := (c_zone_at z n 1 hz (by omega)))),
 dK_ fun s0 => oG_ rfl rfl (q_app),
 dK_ fun s0 => oG_ rfl rfl (q_nil),
 dK_ fun s0 => oG_ rfl rfl (q_fa),
 dK_ fun s0 => oG_ rfl rfl (q_store), trivial⟩ ?_
 dsimp only [final, DS.upd, AS.seto]
 show Fin te Try.f95 _ _
 refine q_retH (0) [] [] [] [(_, _), (_, _), (_, _), (_, _), (_, _)] ?_
 rfl
set_option maxRecDepth 20000 in
set_option maxHeartbeats 2000000 in
theorem c_named_f (h : Hdr) (qs : List Qu) (aa : Bool) (code : Int) (an au : List Rr) (va : Nat) (z : Zo) (l : List Rr) (hz : ZoOk z) (hs : z.rs.length ≤ 400) (hl : l.length ≤ 400) (hc : ∀ r ∈ l, canN r.da = true) : AC Try.prog 45 [.fz 0 l.length (cl rrc l), .fn (.func 95) [] [.ptr 3 0 0, .ptr 4 0 0]] (hlook [(0, .box [i64 h.id, tf h.resp, i64 h.op, tf (aa), tf h.tc, tf h.rd, tf h.ra, i64 (code), .fz 0 qs.length (cl quc qs), .sl 1 (va) 0 (an).length 5, .fz 0 (au).length (cl rrc (au)), .sl 2 (0) 0 (([] : List Rr)).length 5]), (1, .row (cl rrc an) 5 va), (2, .row (cl rrc (([] : List Rr))) 5 (0)), (3, .box [.ptr 0 0 0]), (4, .box (zoC z))]) (RetH (.tup []) [(0, .box [i64 h.id, tf h.resp, i64 h.op, tf (aa), tf h.tc, tf h.rd, tf h.ra, i64 (code), .fz 0 qs.length (cl quc qs), .sl 1 (va) 0 (an).length 5, .fz 0 (au).length (cl rrc (au)), .sl 2 (nmK l l.length) 0 (nmF (fun n => atZ z n 1) l l.length).length 5]), (1, .row (cl rrc an) 5 va), (2, .row (cl rrc (nmF (fun n => atZ z n 1) l l.length)) 5 (nmK l l.length)), (3, .box [.ptr 0 0 0]), (4, .box (zoC z))]) := by
 have hsm : ∀ k, k ≤ l.length → (nmF (fun n => atZ z n 1) l k).length ≤ 400 * k := fun k => nmF_small (l := l) (c := 400) (fun r hr => at_len hs r.da 1)
 refine AC.intro te_ok (fn := Try.f45) ⟨Try.func45, rfl, rfl⟩ (Nat.le_of_ble_eq_true rfl) ?_
 refine AWp.seq ?_
 refine AWp.region ?_
 refine aC_ rfl rfl (q_makeMap 100 MStr (fun b : Bool => tf b)) ?_
 refine aC_ rfl rfl (q_assign) ?_
 refine AOps.nil ?_
 refine AWp.seq ?_
 refine AWp.region ?_
 refine aC_ rfl rfl (q_move) ?_
 refine aC_ rfl rfl (q_len) ?_
 refine aC_ rfl rfl (q_move) ?_
 refine AOps.nil ?_
 refine AWp.block ?_
 refine AWp.loopR (α := Nat × List (List UInt8 × Bool) × List Rr × Nat) [6, 7, 11, 12, 13, 14, 15, 16, 17, 18, 19, 20, 21, 22, 23, 24, 25, 26, 27, 28, 29, 30] (fun x_ => [(11, i64 (x_.1))]) (fun x_ => [(100, .map (me MStr (fun b : Bool => tf b) (x_.2.1))), (0, .box [i64 h.id, tf h.resp, i64 h.op, tf (aa), tf h.tc, tf h.rd, tf h.ra, i64 (code), .fz 0 qs.length (cl quc qs), .sl 1 (va) 0 (an).length 5, .fz 0 (au).length (cl rrc (au)), .sl 2 ((x_.2.2.2)) 0 ((x_.2.2.1)).length 5]), (1, .row (cl rrc an) 5 va), (2, .row (cl rrc ((x_.2.2.1))) 5 ((x_.2.2.2))), (3, .box [.ptr 0 0 0]), (4, .box (zoC z))]) (fun x_ => (x_.1) ≤ l.length ∧ MetD l (x_.1) (x_.2.1) ∧ (x_.2.2.1) = nmF (fun n => atZ z n 1) l (x_.1) ∧ (x_.2.2.2) = nmK l (x_.1)) (fun x_ => l.length - (x_.1)) (0, [], [], 0) ?_ (Back.mk' (HasT.cons HasT.nil) (HasH.cons (HasH.cons (HasH.cons (HasH.cons (HasH.cons (HasH.cons HasH.nil))))) (h2 := by exact objIn_me (fun _ => rfl)) )) ?_
 ·
  exact ⟨Nat.zero_le _, MetD.start l, rfl, rfl⟩
 ·
  rintro ⟨i, m, a2, v2⟩ hI2
  change i ≤ l.length ∧ MetD l i m ∧ a2 = nmF (fun n => atZ z n 1) l i ∧ v2 = nmK l i at hI2
  obtain ⟨hi, hm, ha, hv⟩ := hI2
  refine AWp.as (s' := AS.over _ [6, 7, 11, 12, 13, 14, 15, 16, 17, 18, 19, 20, 21, 22, 23, 24, 25, 26, 27, 28, 29, 30] [(11, i64 i)] [(100, .map (me MStr (fun b : Bool => tf b) m)), (0, .box [i64 h.id, tf h.resp, i64 h.op, tf (aa), tf h.tc, tf h.rd, tf h.ra, i64 (code), .fz 0 qs.length (cl quc qs), .sl 1 (va) 0 (an).length 5, .fz 0 (au).length (cl rrc (au)), .sl 2 (v2) 0 (a2).length 5]), (1, .row (cl rrc an) 5 va), (2, .row (cl rrc (a2)) 5 (v2)), (3, .box [.ptr 0 0 0]), (4, .box (zoC z))]) rfl ?_
  have hsi := hsm i hi
  have hal := congrArg List.length ha
  refine AWp.seq ?_
  refine AWp.region ?_
  refine AOps.dec rfl rfl (q_lss) (fun h2_0 => ?_) (fun h2_0 => ?_)
  ·
   refine AOps.nil ?_
   refine AWp.seq ?_
   refine AWp.cond_t rfl ?_
   refine AWp.skip ?_
   refine AWp.seq ?_
   refine AWp.block ?_
   refine AWp.seq ?_
   refine AWp.region ?_
   refine aC_ rfl rfl (q_ix) ?_
   refine aC_ rfl rfl (q_load) ?_
   refine aC_ rfl rfl (q_alloc 402) ?_
   refine aC_ rfl rfl (q_store) ?_
   refine AOps.nil ?_
   refine AWp.seq ?_
   refine AWp.region ?_
   have hci := hc _ (getD_mem' (l := l) (i := i) (by omega))
   have hcl := canN_le2 hci
   refine aC_ rfl rfl (q_fa) ?_
   refine aC_ rfl rfl (q_load) ?_
   refine aC_ rfl rfl (by first | exact q_conv_zs | exact q_conv_ls) ?_
   refine aC_ rfl rfl (q_call (0) (hc := (c_name_Lower (l.getD i default).da (by omega)))) ?_
   refine aC_ rfl rfl (q_assign) ?_
   refine AOps.nil ?_
   refine AWp.seq ?_
   refine AWp.region ?_
   refine aC_ rfl rfl (q_move) ?_
   refine aC_ rfl rfl (q_move) ?_
   refine AOps.bool rfl rfl (q_lookup MStr) (fun h5_2 => ?_) (fun h5_2 => ?_)
   ·
    refine aC_ rfl rfl (q_not) ?_
    refine AOps.nil ?_
    refine AWp.cond_f rfl ?_
    refine AWp.skip ?_
    refine AWp.region ?_
    refine aC_ rfl rfl (q_add) ?_
    refine aC_ rfl rfl (q_move) ?_
    refine AOps.nil ?_
    refine ⟨(i + 1, m, a2, v2), ?_, Back.mk' (HasT.cons HasT.nil) (HasH.cons (HasH.cons (HasH.cons (HasH.cons (HasH.cons (HasH.cons HasH.nil))))) (h2 := by exact objIn_me (fun _ => rfl)) ), ?_⟩
    ·
     try dsimp only
     have hf : fstO l i = false := by rw [hm.fst, h5_2]; rfl
     exact ⟨by omega, hm.same (by omega) h5_2, by rw [nmF_no hf, ha], by rw [nmK_no hf, hv]⟩
    ·
     try dsimp only
     first | omega | (simp; omega)
   ·
    refine aC_ rfl rfl (q_not) ?_
    refine AOps.nil ?_
    refine AWp.cond_t rfl ?_
    refine AWp.seq ?_
    refine AWp.region ?_
    refine aC_ rfl rfl (q_move) ?_
    refine aC_ rfl rfl (q_move) ?_
    refine aC_ rfl rfl (q_mapUpdate MStr true) ?_
    refine AOps.nil ?_
    refine AWp.region ?_
    refine aC_ rfl rfl (q_move) ?_
    refine aC_ rfl rfl (q_fa) ?_
    refine aC_ rfl rfl (q_load) ?_
    refine aC_ rfl rfl (by first | exact q_conv_zs | exact q_conv_ls) ?_
    refine aC_ rfl rfl (q_callB (0) [(0, 0), (1, 1), (2, 2), (3, 3), (4, 4)] [] [(_, _), (_, _), (_, _), (_, _), (_, _)] (hobj := by repeat' (first | exact trivial | exact lv_ok rfl | exact lv_sl rfl rfl | exact lv_ptr rfl rfl | exact lv_mp rfl rfl | exact lobj_row (fun _ => rfl) | exact lobj_me (fun _ => rfl) | refine lobj_box ?_ | refine ⟨rfl, ⟨_, rfl, ?_⟩, ?_⟩ | refine ⟨?_, ?_⟩)) (hB := by repeat' (first | exact trivial | exact hb_rowc (lv := 0) (fun _ => rfl) | exact hb_me (lv := 0) (fun _ => rfl) | exact rfl | refine ⟨rfl, rfl, ?_, ?_⟩)) (hL := by repeat' (first | exact trivial | exact hl_row (fun _ => rfl) | exact hl_me (fun _ => rfl) | exact ⟨rfl, rfl⟩ | refine ⟨?_, ?_⟩)) (hc := (c_fill1 h qs aa code an au va z (l.getD i default).da a2 v2 hz hs (by omega) (by omega)))) ?_
    refine AOps.nil ?_
    refine AWp.region ?_
    refine aC_ rfl rfl (q_add) ?_
    refine aC_ rfl rfl (q_move) ?_
    refine AOps.nil ?_
    refine ⟨(i + 1, mput m (lowN (l.getD i default).da) true, a2 ++ atZ z (l.getD i default).da 1, v2 + 1), ?_, Back.mk' (HasT.cons HasT.nil) (HasH.cons (HasH.cons (HasH.cons (HasH.cons (HasH.cons (HasH.cons HasH.nil))))) (h2 := by exact objIn_me (fun _ => rfl)) ), ?_⟩
    ·
     try dsimp only
     have hf : fstO l i = true := by rw [hm.fst, h5_2]; rfl
     exact ⟨by omega, hm.step (by omega), by rw [nmF_yes hf, ha], by rw [nmK_yes hf, hv]⟩
    ·
     try dsimp only
     first | omega | (simp; omega)
  ·
   refine AOps.nil ?_
   refine AWp.seq ?_
   refine AWp.cond_f rfl ?_
   refine AWp.exit ?_
   show Fin te Try.f45 _ _
   obtain rfl : i = l.length := by omega
   rw [ha, hv]
   refine q_retH (0) [] [] [] [(_, _), (_, _), (_, _), (_, _), (_, _)] ?_ (hobj := by repeat' (first | exact trivial | exact lv_ok rfl | exact lv_sl rfl rfl | exact lv_rn rfl rfl .row rfl | exact lv_ptr rfl rfl | exact lv_mp rfl rfl | exact lv_nilz | exact lv_row0 rfl rfl .row (fun _ => rfl) (Nat.le_of_ble_eq_true rfl) (fun _ => rfl) | exact lobj_row (fun _ => rfl) | exact lobj_rown (fun _ => rfl) | exact lobj_me (fun _ => rfl) | refine lobj_box ?_ | refine ⟨rfl, ⟨_, rfl, ?_⟩, ?_⟩ | refine ⟨?_, ?_⟩))
   rfl
set_option maxRecDepth 20000 in
set_option maxHeartbeats 2000000 in
theorem c_fill (h : Hdr) (qs : List Qu) (z : Zo) (n0 : List UInt8) (ty : Int) (hz : ZoOk z) (hs : z.rs.length ≤ 400) (hn0 : n0.length ≤ 255) (hc : ∀ r ∈ z.rs, r.ty = 2 ∨ r.ty = 5 → canN r.da = true) : AC Try.prog 60 [.agg (zoC z), str n0, i64 ty, .ptr 0 0 0] (hlook [(0, .box [i64 h.id, tf h.resp, i64 h.op, tf (false), tf h.tc, tf h.rd, tf h.ra, i64 (0), .fz 0 qs.length (cl quc qs), .v (.slice none 0 0), .fz 0 (([] : List Rr)).length (cl rrc (([] : List Rr))), .v (.slice none 0 0)])]) (RetH (.tup []) [(0, .box [i64 h.id, tf h.resp, i64 h.op, tf ((fil z ty false [] n0 0).aa), tf h.tc, tf h.rd, tf h.ra, i64 ((fil z ty false [] n0 0).code), .fz 0 qs.length (cl quc qs), .fz 0 ((fil z ty false [] n0 0).an).length (cl rrc ((fil z ty false [] n0 0).an)), .fz 0 ((fil z ty false [] n0 0).au).length (cl rrc ((fil z ty false [] n0 0).au)), .fz 0 ((fil z ty false [] n0 0).ad).length (cl rrc ((fil z ty false [] n0 0).ad))])]) := by
 have hzl := hz.1
 have hal := fun n t => at_len hs n t
 refine AC.intro te_ok (fn := Try.f60) ⟨Try.func60, rfl, rfl⟩ (Nat.le_of_ble_eq_true rfl) ?_
 refine AWp.seq ?_
 refine AWp.region ?_
 refine aC_ rfl rfl (q_box 100) ?_
 refine aC_ rfl rfl (q_box 101) ?_
 refine AOps.weak (Weak.nilcell 0 9001 9 5 rrc) ?_
 refine AOps.weak (Weak.nilcell 0 9002 11 5 rrc) ?_
 refine AOps.nil ?_
 refine AWp.jumpsR (α := List Rr × List UInt8 × Bool × Nat) 0 [1, 8, 9, 10, 11, 12, 13, 14, 15, 16, 17, 18, 19, 20, 21, 22, 23, 24, 25, 26, 27, 28, 29, 30, 31, 32, 33, 34, 35, 36, 37, 38, 39, 40, 41, 42, 43, 44, 45, 46, 47, 48, 49, 50, 51, 52, 53, 54, 55, 56, 57, 58, 59, 60, 61, 62, 63, 64, 65, 66, 67, 68, 69, 70, 71, 72, 73, 74, 75, 76, 77, 78, 79, 80, 81, 82, 83, 84, 85, 86, 87, 88, 89, 90, 91, 92, 93, 94, 95, 96, 97, 98, 99, 100, 101, 102, 103, 104, 105, 106, 107] (fun x_ => [(1, str (x_.2.1))]) (fun x_ => [(0, .box [i64 h.id, tf h.resp, i64 h.op, tf ((x_.2.2.1)), tf h.tc, tf h.rd, tf h.ra, i64 (0), .fz 0 qs.length (cl quc qs), .sl 9001 ((x_.2.2.2)) 0 ((x_.1)).length 5, .fz 0 (([] : List Rr)).length (cl rrc (([] : List Rr))), .sl 9002 (0) 0 (([] : List Rr)).length 5]), (9001, .row (cl rrc (x_.1)) 5 (x_.2.2.2))]) (fun x_ => fil z ty (x_.2.2.1) (x_.1) (x_.2.1) (x_.2.2.2) = (fil z ty false [] n0 0) ∧ (x_.1).length ≤ 8 ∧ (x_.2.1).length ≤ 255 ∧ ((x_.1).length = 0 → (x_.2.2.1) = false)) (fun x_ => 8 - (x_.1).length) rfl (fun hj => ?_) ?_
 ·
  refine hj _ ⟨([], n0, false, 0), ?_, Back.mk' (HasT.cons HasT.nil) (HasH.cons (HasH.cons HasH.nil))⟩
  exact ⟨rfl, by simp, hn0, fun _ => rfl⟩
 ·
  rintro ⟨an, n, aa, v⟩ hI
  change fil z ty aa an n v = (fil z ty false [] n0 0) ∧ an.length ≤ 8 ∧ n.length ≤ 255 ∧ (an.length = 0 → aa = false) at hI
  obtain ⟨hE, hA, hN, hQ⟩ := hI
  refine AWp.as (s' := AS.over _ [1, 8, 9, 10, 11, 12, 13, 14, 15, 16, 17, 18, 19, 20, 21, 22, 23, 24, 25, 26, 27, 28, 29, 30, 31, 32, 33, 34, 35, 36, 37, 38, 39, 40, 41, 42, 43, 44, 45, 46, 47, 48, 49, 50, 51, 52, 53, 54, 55, 56, 57, 58, 59, 60, 61, 62, 63, 64, 65, 66, 67, 68, 69, 70, 71, 72, 73, 74, 75, 76, 77, 78, 79, 80, 81, 82, 83, 84, 85, 86, 87, 88, 89, 90, 91, 92, 93, 94, 95, 96, 97, 98, 99, 100, 101, 102, 103, 104, 105, 106, 107] [(1, str n)] [(0, .box [i64 h.id, tf h.resp, i64 h.op, tf (aa), tf h.tc, tf h.rd, tf h.ra, i64 (0), .fz 0 qs.length (cl quc qs), .sl 9001 (v) 0 (an).length 5, .fz 0 (([] : List Rr)).length (cl rrc (([] : List Rr))), .sl 9002 (0) 0 (([] : List Rr)).length 5]), (9001, .row (cl rrc an) 5 v)]) rfl ?_
  have hcl := cutZ_len hz n
  have ha5 := hal n 5
  have haty := hal n ty
  refine AWp.seq ?_
  refine AWp.seq ?_
  refine AWp.region ?_
  refine aC_ rfl rfl (q_load) ?_
  refine aC_ rfl rfl (q_move) ?_
  refine aC_ rfl rfl (q_call (0) (hc := (c_zone_cut z n hz (by omega)))) ?_
  refine aC_ rfl rfl (q_move) ?_
  refine aC_ rfl rfl (q_extract) ?_
  refine AOps.bool rfl rfl (q_extract) (fun h1_5 => ?_) (fun h1_5 => ?_)
  ·
   refine aC_ rfl rfl (q_assign) ?_
   refine aC_ rfl rfl (q_assign) ?_
   refine AOps.nil ?_
   refine AWp.seq ?_
   refine AWp.region ?_
   refine aC_ rfl rfl (q_move) ?_
   refine AOps.nil ?_
   refine AWp.cond_t rfl ?_
   refine AWp.seq ?_
   refine AWp.seq ?_
   refine AWp.region ?_
   have hcut : cutZ z n ≠ [] := of_decide_eq_true h1_5
   refine aC_ rfl rfl (q_load) ?_
   refine aC_ rfl rfl (q_nil) ?_
   refine aC_ rfl rfl (q_fa) ?_
   refine aC_ rfl rfl (q_load) ?_
   refine aC_ rfl rfl (q_len) ?_
   refine AOps.dec rfl rfl (q_eql) (fun h3_5 => ?_) (fun h3_5 => ?_)
   ·
    refine AOps.nil ?_
    refine AWp.cond_t rfl ?_
    refine AWp.seq ?_
    have han : an.length = 0 := by omega
    obtain rfl := List.eq_nil_of_length_eq_zero han
    have hc2 := hal (cutZ z n) 2
    have hcc : ∀ r ∈ atZ z (cutZ z n) 2, canN r.da = true := fun r hr => hc r (at_mem hr).1 (.inl (at_mem hr).2.1)
    refine AWp.draws [⟨0, [7], [101], some 25, _, []⟩,
 ⟨1, [4], [100], some 26, _, []⟩,
 ⟨2, [8], [], some 27, _, []⟩,
 ⟨3, [26, 27], [], some 28, _, []⟩,
 ⟨4, [25], [0], some 29, _, []⟩,
 ⟨5, [29], [0], some 30, _, []⟩,
 ⟨6, [28, 30], [0], none, _, [(0, _)]⟩]
     [kN_ 0 [7] [101] 25,
 kN_ 1 [4] [100] 26,
 kN_ 2 [8] [] 27,
 kN_ 3 [26, 27] [] 28,
 kN_ 4 [25] [0] 29,
 kN_ 5 [29] [0] 30,
 ⟨6, [28, 30], [0], none, .any, [(0, .box [])]⟩]
     mixed_ok rfl (by kernel_rfl) ⟨dK_ fun s0 => oG_ rfl rfl (q_load),
 dK_ fun s0 => oG_ rfl rfl (q_load),
 dK_ fun s0 => oG_ rfl rfl (q_move),
 dK_ fun s0 => oG_ rfl rfl (q_call (0) (hc := (c_zone_at z (cutZ z n) 2 hz hcl))),
 dK_ fun s0 => oG_ rfl rfl (q_nil),
 dK_ fun s0 => oG_ rfl rfl (q_fa),
 dK_ fun s0 => oG_ rfl rfl (q_store), trivial⟩ ?_
    dsimp only [final, DS.upd, AS.seto]
    refine AWp.region ?_
    refine aC_ rfl rfl (q_load) ?_
    refine aC_ rfl rfl (q_nil) ?_
    refine aC_ rfl rfl (q_fa) ?_
    refine aC_ rfl rfl (q_load) ?_
    refine aC_ rfl rfl (q_makeFunc [] [_, _]) ?_
    refine aC_ rfl rfl (q_callB (0) [(0, 0), (1, 9001), (2, 9002), (3, 101), (4, 100)] [] [(_, _), (_, _), (_, _), (_, _), (_, _)] (hA := by exact ⟨lv_ok rfl, lv_fn trivial ⟨lv_ptr rfl rfl, lv_ptr rfl rfl, trivial⟩, trivial⟩) (hc := (c_named_f h qs aa 0 [] (atZ z (cutZ z n) 2) v z (atZ z (cutZ z n) 2) hz hs hc2 hcc))) ?_
    refine AOps.nil ?_
    refine AWp.ret ?_
    show Fin te Try.f60 _ _
    rw [fil_cut0 hcut rfl] at hE
    rw [← hE]
    refine q_retH (0) [] [] [] [(_, _)] ?_
    rfl
   ·
    refine AOps.nil ?_
    refine AWp.cond_f rfl ?_
    refine AWp.skip ?_
    refine AWp.ret ?_
    show Fin te Try.f60 _ _
    rw [fil_cutn hcut (by omega)] at hE
    rw [← hE]
    refine q_retH (0) [] [] [] [(_, _)] ?_
    rfl
  ·
   refine aC_ rfl rfl (q_assign) ?_
   refine aC_ rfl rfl (q_assign) ?_
   refine AOps.nil ?_
   refine AWp.seq ?_
   refine AWp.region ?_
   refine aC_ rfl rfl (q_move) ?_
   refine AOps.nil ?_
   refine AWp.cond_f rfl ?_
   refine AWp.skip ?_
   refine AWp.seq ?_
   refine AWp.region ?_
   have hcut : ¬ cutZ z n ≠ [] := of_decide_eq_false h1_5
   refine aC_ rfl rfl (q_load) ?_
   refine aC_ rfl rfl (q_nil) ?_
   refine aC_ rfl rfl (q_fa) ?_
   refine aC_ rfl rfl (q_fa) ?_
   refine aC_ rfl rfl (q_store) ?_
   refine AOps.nil ?_
   refine AWp.seq ?_
   refine AWp.seq ?_
   refine AWp.region ?_
   refine aC_ rfl rfl (q_load) ?_
   refine aC_ rfl rfl (q_move) ?_
   refine aC_ rfl rfl (q_call (0) (hc := (c_zone_at z n 5 hz (by omega)))) ?_
   refine aC_ rfl rfl (q_assign) ?_
   refine AOps.nil ?_
   refine AWp.seq ?_
   refine AWp.region ?_
   refine aC_ rfl rfl (q_move) ?_
   refine aC_ rfl rfl (q_len) ?_
   refine AOps.dec rfl rfl (q_gtr) (fun h8_2 => ?_) (fun h8_2 => ?_)
   ·
    refine aC_ rfl rfl (q_move) ?_
    refine AOps.gcons rfl rfl rfl rfl rfl (q_move) ?_
    refine AOps.gdec rfl rfl rfl rfl rfl (q_neq) (fun h8_5 => ?_) (fun h8_5 => ?_)
    ·
     refine aC_ rfl rfl (q_pick) ?_
     refine AOps.nil ?_
     refine AWp.cond_t rfl ?_
     refine AWp.seq ?_
     have hali : 0 < (atZ z n 5).length ∧ ty ≠ 5 := ⟨by omega, h8_5⟩
     have hx := hc _ (at_mem (getD_mem' (l := atZ z n 5) (i := 0) hali.1)).1 (.inr (at_mem (getD_mem' (l := atZ z n 5) (i := 0) hali.1)).2.1)
     have hxl := canN_le2 hx
     refine AWp.draws [⟨0, [7], [101], some 51, _, []⟩,
 ⟨1, [7], [101], some 52, _, []⟩,
 ⟨2, [52], [0], some 53, _, []⟩,
 ⟨3, [53], [0], some 54, _, []⟩,
 ⟨4, [54], [0], some 55, _, []⟩,
 ⟨5, [10], [], some 56, _, []⟩,
 ⟨6, [55, 56], [9001], some 57, _, [(9001, _)]⟩,
 ⟨7, [51], [0], some 58, _, []⟩,
 ⟨8, [58], [0], some 59, _, []⟩,
 ⟨9, [57, 59], [0, 9001], none, _, [(0, _)]⟩]
      [kN_ 0 [7] [101] 51,
 kN_ 1 [7] [101] 52,
 kN_ 2 [52] [0] 53,
 kN_ 3 [53] [0] 54,
 kN_ 4 [54] [0] 55,
 kN_ 5 [10] [] 56,
 ⟨6, [55, 56], [9001], some 57, .any, [(9001, .box [])]⟩,
 kN_ 7 [51] [0] 58,
 kN_ 8 [58] [0] 59,
 ⟨9, [57, 59], [0, 9001], none, .any, [(0, .box [])]⟩]
      mixed_ok rfl (by kernel_rfl) ⟨dK_ fun s0 => oG_ rfl rfl (q_load),
 dK_ fun s0 => oG_ rfl rfl (q_load),
 dK_ fun s0 => oG_ rfl rfl (q_nil),
 dK_ fun s0 => oG_ rfl rfl (q_fa),
 dK_ fun s0 => oG_ rfl rfl (q_load),
 dK_ fun s0 => oG_ rfl rfl (q_move),
 dK_ fun s0 => oG_ rfl rfl (q_app),
 dK_ fun s0 => oG_ rfl rfl (q_nil),
 dK_ fun s0 => oG_ rfl rfl (q_fa),
 dK_ fun s0 => oG_ rfl rfl (q_store), trivial⟩ ?_
     dsimp only [final, DS.upd, AS.seto]
     refine AWp.seq ?_
     refine AWp.region ?_
     refine aC_ rfl rfl (q_move) ?_
     refine aC_ rfl rfl (q_ix) ?_
     refine aC_ rfl rfl (q_fa) ?_
     refine aC_ rfl rfl (q_load) ?_
     refine aC_ rfl rfl (by first | exact q_conv_zs | exact q_conv_ls) ?_
     refine aC_ rfl rfl (q_assign) ?_
     refine AOps.nil ?_
     refine AWp.seq ?_
     refine AWp.seq ?_
     refine AWp.region ?_
     refine aC_ rfl rfl (q_move) ?_
     refine aC_ rfl rfl (q_fa) ?_
     refine aC_ rfl rfl (q_load) ?_
     refine AOps.bool rfl rfl (q_call (0) (hc := (c_name_Within ((atZ z n 5).getD 0 default).da z.o (by omega) (by omega)))) (fun h11_3 => ?_) (fun h11_3 => ?_)
     ·
      refine aC_ rfl rfl (q_move) ?_
      refine AOps.gcons rfl rfl rfl rfl rfl (q_load) ?_
      refine AOps.gcons rfl rfl rfl rfl rfl (q_nil) ?_
      refine AOps.gcons rfl rfl rfl rfl rfl (q_fa) ?_
      refine AOps.gcons rfl rfl rfl rfl rfl (q_load) ?_
      refine AOps.gcons rfl rfl rfl rfl rfl (q_len) ?_
      refine AOps.gdec rfl rfl rfl rfl rfl (q_lss) (fun h11_10 => ?_) (fun h11_10 => ?_)
      ·
       refine aC_ rfl rfl (q_pick) ?_
       refine AOps.nil ?_
       refine AWp.cond_t rfl ?_
       refine AWp.goto ?_
       refine ⟨rfl, (an ++ atZ z n 5, ((atZ z n 5).getD 0 default).da, true, v + 1), ?_, Back.mk' (HasT.cons HasT.nil) (HasH.cons (HasH.cons HasH.nil)), ?_⟩
       ·
        try dsimp only
        refine ⟨by rw [← hE, fil_on hcut hali ⟨h11_3, by omega⟩], by omega, canN_le2 hx, fun q => ?_⟩
        rw [List.length_append] at q; omega
       ·
        try dsimp only
        have hq8 := h11_10
        simp only [List.length_append] at hq8 ⊢
        omega
      ·
       refine aC_ rfl rfl (q_pick) ?_
       refine AOps.nil ?_
       refine AWp.cond_f rfl ?_
       refine AWp.skip ?_
       refine AWp.ret ?_
       show Fin te Try.f60 _ _
       rw [fil_stop hcut hali (fun q => h11_10 (by have := q.2; omega))] at hE
       rw [← hE]
       refine q_retH (0) [] [] [] [(_, _)] ?_
       rfl
     ·
      refine aC_ rfl rfl (q_move) ?_
      refine aG_ rfl rfl rfl rfl rfl rfl rfl rfl ?_
      refine aG_ rfl rfl rfl rfl rfl rfl rfl rfl ?_
      refine aG_ rfl rfl rfl rfl rfl rfl rfl rfl ?_
      refine aG_ rfl rfl rfl rfl rfl rfl rfl rfl ?_
      refine aG_ rfl rfl rfl rfl rfl rfl rfl rfl ?_
      refine aG_ rfl rfl rfl rfl rfl rfl rfl rfl ?_
      refine aC_ rfl rfl (q_pick) ?_
      refine AOps.nil ?_
      refine AWp.cond_f rfl ?_
      refine AWp.skip ?_
      refine AWp.ret ?_
      show Fin te Try.f60 _ _
      rw [fil_stop hcut hali (fun q => by rw [h11_3] at q; cases q.1)] at hE
      rw [← hE]
      refine q_retH (0) [] [] [] [(_, _)] ?_
      rfl
    ·
     refine aC_ rfl rfl (q_pick) ?_
     refine AOps.nil ?_
     refine AWp.cond_f rfl ?_
     refine AWp.skip ?_
     refine AWp.seq ?_
     refine AWp.seq ?_
     refine AWp.region ?_
     have hali : ¬ (0 < (atZ z n 5).length ∧ ty ≠ 5) := fun q => h8_5 q.2
     refine aC_ rfl rfl (q_load) ?_
     refine aC_ rfl rfl (q_move) ?_
     refine aC_ rfl rfl (q_move) ?_
     refine aC_ rfl rfl (q_call (0) (hc := (c_zone_at z n ty hz (by omega)))) ?_
     refine aC_ rfl rfl (q_assign) ?_
     refine AOps.nil ?_
     refine AWp.seq ?_
     refine AWp.region ?_
     refine aC_ rfl rfl (q_move) ?_
     refine aC_ rfl rfl (q_len) ?_
     refine AOps.dec rfl rfl (q_gtr) (fun h13_2 => ?_) (fun h13_2 => ?_)
     ·
      refine AOps.nil ?_
      refine AWp.cond_t rfl ?_
      refine AWp.seq ?_
      refine AWp.draws [⟨0, [7], [101], some 84, _, []⟩,
 ⟨1, [7], [101], some 85, _, []⟩,
 ⟨2, [85], [0], some 86, _, []⟩,
 ⟨3, [86], [0], some 87, _, []⟩,
 ⟨4, [87], [0], some 88, _, []⟩,
 ⟨5, [11], [], some 89, _, []⟩,
 ⟨6, [88, 89], [9001], some 90, _, [(9001, _)]⟩,
 ⟨7, [84], [0], some 91, _, []⟩,
 ⟨8, [91], [0], some 92, _, []⟩,
 ⟨9, [90, 92], [0, 9001], none, _, [(0, _)]⟩]
       [kN_ 0 [7] [101] 84,
 kN_ 1 [7] [101] 85,
 kN_ 2 [85] [0] 86,
 kN_ 3 [86] [0] 87,
 kN_ 4 [87] [0] 88,
 kN_ 5 [11] [] 89,
 ⟨6, [88, 89], [9001], some 90, .any, [(9001, .box [])]⟩,
 kN_ 7 [84] [0] 91,
 kN_ 8 [91] [0] 92,
 ⟨9, [90, 92], [0, 9001], none, .any, [(0, .box [])]⟩]
       mixed_ok rfl (by kernel_rfl) ⟨dK_ fun s0 => oG_ rfl rfl (q_load),
 dK_ fun s0 => oG_ rfl rfl (q_load),
 dK_ fun s0 => oG_ rfl rfl (q_nil),
 dK_ fun s0 => oG_ rfl rfl (q_fa),
 dK_ fun s0 => oG_ rfl rfl (q_load),
 dK_ fun s0 => oG_ rfl rfl (q_move),
 dK_ fun s0 => oG_ rfl rfl (q_app),
 dK_ fun s0 => oG_ rfl rfl (q_nil),
 dK_ fun s0 => oG_ rfl rfl (q_fa),
 dK_ fun s0 => oG_ rfl rfl (q_store), trivial⟩ ?_
      dsimp only [final, DS.upd, AS.seto]
      refine AWp.ret ?_
      show Fin te Try.f60 _ _
      rw [fil_has hcut hali (by omega)] at hE
      rw [← hE]
      refine q_retH (0) [] [] [] [(_, _)] ?_
      rfl
     ·
      refine AOps.nil ?_
      refine AWp.cond_f rfl ?_
      refine AWp.skip ?_
      refine AWp.seq ?_
      refine AWp.draws [⟨0, [7], [101], some 93, _, []⟩,
 ⟨1, [4], [100], some 94, _, []⟩,
 ⟨2, [4], [100], some 95, _, []⟩,
 ⟨3, [95], [100], some 96, _, []⟩,
 ⟨4, [94, 96], [], some 97, _, []⟩,
 ⟨5, [93], [0], some 98, _, []⟩,
 ⟨6, [98], [0], some 99, _, []⟩,
 ⟨7, [97, 99], [0], none, _, [(0, _)]⟩]
       [kN_ 0 [7] [101] 93,
 kN_ 1 [4] [100] 94,
 kN_ 2 [4] [100] 95,
 kN_ 3 [95] [100] 96,
 kN_ 4 [94, 96] [] 97,
 kN_ 5 [93] [0] 98,
 kN_ 6 [98] [0] 99,
 ⟨7, [97, 99], [0], none, .any, [(0, .box [])]⟩]
       mixed_ok rfl (by kernel_rfl) ⟨dK_ fun s0 => oG_ rfl rfl (q_load),
 dK_ fun s0 => oG_ rfl rfl (q_load),
 dK_ fun s0 => oG_ rfl rfl (q_fa),
 dK_ fun s0 => oG_ rfl rfl (q_load),
 dK_ fun s0 => oG_ rfl rfl (q_call (0) (hc := (c_zone_at z z.o 6 hz (by omega)))),
 dK_ fun s0 => oG_ rfl rfl (q_nil),
 dK_ fun s0 => oG_ rfl rfl (q_fa),
 dK_ fun s0 => oG_ rfl rfl (q_store), trivial⟩ ?_
      dsimp only [final, DS.upd, AS.seto]
      refine AWp.seq ?_
      refine AWp.region ?_
      refine aC_ rfl rfl (q_load) ?_
      refine aC_ rfl rfl (q_move) ?_
      refine AOps.bool rfl rfl (q_call (0) (hc := (c_zone_there z n hz (by omega)))) (fun h16_2 => ?_) (fun h16_2 => ?_)
      ·
       refine aC_ rfl rfl (q_not) ?_
       refine AOps.nil ?_
       refine AWp.cond_f rfl ?_
       refine AWp.skip ?_
       show Fin te Try.f60 _ _
       rw [fil_none hcut hali (by omega), if_pos h16_2] at hE
       rw [← hE]
       refine q_retH (0) [] [] [] [(_, _)] ?_
       rfl
      ·
       refine aC_ rfl rfl (q_not) ?_
       refine AOps.nil ?_
       refine AWp.cond_t rfl ?_
       refine AWp.region ?_
       refine aC_ rfl rfl (q_load) ?_
       refine aC_ rfl rfl (q_nil) ?_
       refine aC_ rfl rfl (q_fa) ?_
       refine aC_ rfl rfl (q_fa) ?_
       refine aC_ rfl rfl (q_store) ?_
       refine AOps.nil ?_
       show Fin te Try.f60 _ _
       rw [fil_none hcut hali (by omega), if_neg (by rw [h16_2]; decide)] at hE
       rw [← hE]
       refine q_retH (0) [] [] [] [(_, _)] ?_
       rfl
   ·
    refine aC_ rfl rfl (q_move) ?_
    refine aG_ rfl rfl rfl rfl rfl rfl rfl rfl ?_
    refine aG_ rfl rfl rfl rfl rfl rfl rfl rfl ?_
    refine aC_ rfl rfl (q_pick) ?_
    refine AOps.nil ?_
    refine AWp.cond_f rfl ?_
    refine AWp.skip ?_
    refine AWp.seq ?_
    refine AWp.seq ?_
    refine AWp.region ?_
    have hali : ¬ (0 < (atZ z n 5).length ∧ ty ≠ 5) := fun q => absurd q.1 (by omega)
    refine aC_ rfl rfl (q_load) ?_
    refine aC_ rfl rfl (q_move) ?_
    refine aC_ rfl rfl (q_move) ?_
    refine aC_ rfl rfl (q_call (0) (hc := (c_zone_at z n ty hz (by omega)))) ?_
    refine aC_ rfl rfl (q_assign) ?_
    refine AOps.nil ?_
    refine AWp.seq ?_
    refine AWp.region ?_
    refine aC_ rfl rfl (q_move) ?_
    refine aC_ rfl rfl (q_len) ?_
    refine AOps.dec rfl rfl (q_gtr) (fun h13_2 => ?_) (fun h13_2 => ?_)
    ·
     refine AOps.nil ?_
     refine AWp.cond_t rfl ?_
     refine AWp.seq ?_
     refine AWp.draws [⟨0, [7], [101], some 84, _, []⟩,
 ⟨1, [7], [101], some 85, _, []⟩,
 ⟨2, [85], [0], some 86, _, []⟩,
 ⟨3, [86], [0], some 87, _, []⟩,
 ⟨4, [87], [0], some 88, _, []⟩,
 ⟨5, [11], [], some 89, _, []⟩,
 ⟨6, [88, 89], [9001], some 90, _, [(9001, _)]⟩,
 ⟨7, [84], [0], some 91, _, []⟩,
 ⟨8, [91], [0], some 92, _, []⟩,
 ⟨9, [90, 92], [0, 9001], none, _, [(0, _)]⟩]
      [kN_ 0 [7] [101] 84,
 kN_ 1 [7] [101] 85,
 kN_ 2 [85] [0] 86,
 kN_ 3 [86] [0] 87,
 kN_ 4 [87] [0] 88,
 kN_ 5 [11] [] 89,
 ⟨6, [88, 89], [9001], some 90, .any, [(9001, .box [])]⟩,
 kN_ 7 [84] [0] 91,
 kN_ 8 [91] [0] 92,
 ⟨9, [90, 92], [0, 9001], none, .any, [(0, .box [])]⟩]
      mixed_ok rfl (by kernel_rfl) ⟨dK_ fun s0 => oG_ rfl rfl (q_load),
 dK_ fun s0 => oG_ rfl rfl (q_load),
 dK_ fun s0 => oG_ rfl rfl (q_nil),
 dK_ fun s0 => oG_ rfl rfl (q_fa),
 dK_ fun s0 => oG_ rfl rfl (q_load),
 dK_ fun s0 => oG_ rfl rfl (q_move),
 dK_ fun s0 => oG_ rfl rfl (q_app),
 dK_ fun s0 => oG_ rfl rfl (q_nil),
 dK_ fun s0 => oG_ rfl rfl (q_fa),
 dK_ fun s0 => oG_ rfl rfl (q_store), trivial⟩ ?_
     dsimp only [final, DS.upd, AS.seto]
     refine AWp.ret ?_
     show Fin te Try.f60 _ _
     rw [fil_has hcut hali (by omega)] at hE
     rw [← hE]
     refine q_retH (0) [] [] [] [(_, _)] ?_
     rfl
    ·
     refine AOps.nil ?_
     refine AWp.cond_f rfl ?_
     refine AWp.skip ?_
     refine AWp.seq ?_
     refine AWp.draws [⟨0, [7], [101], some 93, _, []⟩,
 ⟨1, [4], [100], some 94, _, []⟩,
 ⟨2, [4], [100], some 95, _, []⟩,
 ⟨3, [95], [100], some 96, _, []⟩,
 ⟨4, [94, 96], [], some 97, _, []⟩,
 ⟨5, [93], [0], some 98, _, []⟩,
 ⟨6, [98], [0], some 99, _, []⟩,
 ⟨7, [97, 99], [0], none, _, [(0, _)]⟩]
      [kN_ 0 [7] [101] 93,
 kN_ 1 [4] [100] 94,
 kN_ 2 [4] [100] 95,
 kN_ 3 [95] [100] 96,
 kN_ 4 [94, 96] [] 97,
 kN_ 5 [93] [0] 98,
 kN_ 6 [98] [0] 99,
 ⟨7, [97, 99], [0], none, .any, [(0, .box [])]⟩]
      mixed_ok rfl (by kernel_rfl) ⟨dK_ fun s0 => oG_ rfl rfl (q_load),
 dK_ fun s0 => oG_ rfl rfl (q_load),
 dK_ fun s0 => oG_ rfl rfl (q_fa),
 dK_ fun s0 => oG_ rfl rfl (q_load),
 dK_ fun s0 => oG_ rfl rfl (q_call (0) (hc := (c_zone_at z z.o 6 hz (by omega)))),
 dK_ fun s0 => oG_ rfl rfl (q_nil),
 dK_ fun s0 => oG_ rfl rfl (q_fa),
 dK_ fun s0 => oG_ rfl rfl (q_store), trivial⟩ ?_
     dsimp only [final, DS.upd, AS.seto]
     refine AWp.seq ?_
     refine AWp.region ?_
     refine aC_ rfl rfl (q_load) ?_
     refine aC_ rfl rfl (q_move) ?_
     refine AOps.bool rfl rfl (q_call (0) (hc := (c_zone_there z n hz (by omega)))) (fun h16_2 => ?_) (fun h16_2 => ?_)
     ·
      refine aC_ rfl rfl (q_not) ?_
      refine AOps.nil ?_
      refine AWp.cond_f rfl ?_
      refine AWp.skip ?_
      show Fin te Try.f60 _ _
      rw [fil_none hcut hali (by omega), if_pos h16_2] at hE
      rw [← hE]
      refine q_retH (0) [] [] [] [(_, _)] ?_
      rfl
     ·
      refine aC_ rfl rfl (q_not) ?_
      refine AOps.nil ?_
      refine AWp.cond_t rfl ?_
      refine AWp.region ?_
      refine aC_ rfl rfl (q_load) ?_
      refine aC_ rfl rfl (q_nil) ?_
      refine aC_ rfl rfl (q_fa) ?_
      refine aC_ rfl rfl (q_fa) ?_
      refine aC_ rfl rfl (q_store) ?_
      refine AOps.nil ?_
      show Fin te Try.f60 _ _
      rw [fil_none hcut hali (by omega), if_neg (by rw [h16_2]; decide)] at hE
      rw [← hE]
      refine q_retH (0) [] [] [] [(_, _)] ?_
      rfl
end Go.Proofs.Ytokccoloholgaaa.Fw


set_option linter.unusedVariables false
set_option linter.unusedSimpArgs false
namespace Go.Proofs.Ytokccoloholgaaa.Fw
open Go.RowKit
def Msg.rrs (m : Msg) : List Rr := m.an ++ m.au ++ m.ad
def NmOk (m : Msg) : Prop := (∀ x ∈ m.qs, x.nm.length ≤ 140737488351232) ∧ ∀ x ∈ m.rrs, x.nm.length ≤ 140737488351232
section
variable {d : Nat} {s n b u : TypeId} {is in' ib iu : TI}
theorem has_rrN {t y : TypeId} {it iy : TI} {cs : List AV} (h : Has te (d + 2) t cs) (ht : te.get t = some it) (kt : it.k = .struct [(0, s), (1, n), (2, n), (3, n), (4, y)]) (hs : te.get s = some is) (ks : is.k = .str) (hn : te.get n = some in') (kn : in'.k = .int .i64)
    (hy : te.get y = some iy) (ky : iy.k = .slice u) (hu : te.get u = some iu) (ku : iu.k = .int .u8) (bu : iu.bytes = 1) : ∃ x : Rr, cs = rrc x ∧ (x.da.length ≤ 140737488351232 ∧ x.nm.length ≤ 140737488351232) := by
  obtain ⟨_, w, rfl, q, hh⟩ := has_struct h ht kt
  obtain ⟨a1, rfl, bn⟩ := has_str q hs ks
  obtain ⟨_, w, rfl, q, hh⟩ := hh
  obtain ⟨a2, rfl, _⟩ := has_int q hn kn
  obtain ⟨_, w, rfl, q, hh⟩ := hh
  obtain ⟨a3, rfl, _⟩ := has_int q hn kn
  obtain ⟨_, w, rfl, q, hh⟩ := hh
  obtain ⟨a4, rfl, _⟩ := has_int q hn kn
  obtain ⟨_, w, rfl, q, hh⟩ := hh
  obtain ⟨a5, rfl, h5⟩ := has_bytes q hy ky hu ku bu
  cases hh
  exact ⟨⟨a1, a2, a3, a4, a5⟩, rfl, h5, bn⟩
theorem has_quN {t : TypeId} {it : TI} {cs : List AV} (h : Has te (d + 1) t cs) (ht : te.get t = some it) (kt : it.k = .struct [(0, s), (1, n), (2, n)]) (hs : te.get s = some is) (ks : is.k = .str) (hn : te.get n = some in') (kn : in'.k = .int .i64) : ∃ x : Qu, cs = quc x ∧ x.nm.length ≤ 140737488351232 := by
  obtain ⟨_, w, rfl, q, hh⟩ := has_struct h ht kt
  obtain ⟨a1, rfl, bn⟩ := has_str q hs ks
  obtain ⟨_, w, rfl, q, hh⟩ := hh
  obtain ⟨a2, rfl, _⟩ := has_int q hn kn
  obtain ⟨_, w, rfl, q, hh⟩ := hh
  obtain ⟨a3, rfl, _⟩ := has_int q hn kn
  cases hh
  exact ⟨⟨a1, a2, a3⟩, rfl, bn⟩
theorem has_rrsN {t r y : TypeId} {it ir iy : TI} {cs : List AV} (h : Has te (d + 3) t cs) (ht : te.get t = some it) (kt : it.k = .slice r) (hr : te.get r = some ir) (kr : ir.k = .struct [(0, s), (1, n), (2, n), (3, n), (4, y)]) (br : ir.bytes = 64)
    (hs : te.get s = some is) (ks : is.k = .str) (hn : te.get n = some in') (kn : in'.k = .int .i64) (hy : te.get y = some iy) (ky : iy.k = .slice u) (hu : te.get u = some iu) (ku : iu.k = .int .u8) (bu : iu.bytes = 1) : ∃ l : List Rr, cs = [.fz 0 l.length (cl rrc l)] ∧ (RrsOk l ∧ ∀ x ∈ l, x.nm.length ≤ 140737488351232) := by
  obtain ⟨l, h1, h2, h3⟩ := has_sl (f := rrc) (q := fun x => x.da.length ≤ 140737488351232 ∧ x.nm.length ≤ 140737488351232) h ht kt hr fun c hc => has_rrN hc hr kr hs ks hn kn hy ky hu ku bu
  exact ⟨l, h1, ⟨by rw [br] at h2; exact h2, fun x hx => (h3 x hx).1⟩, fun x hx => (h3 x hx).2⟩
theorem has_qusN {t r : TypeId} {it ir : TI} {cs : List AV} (h : Has te (d + 2) t cs) (ht : te.get t = some it) (kt : it.k = .slice r) (hr : te.get r = some ir) (kr : ir.k = .struct [(0, s), (1, n), (2, n)]) (br : ir.bytes = 32)
    (hs : te.get s = some is) (ks : is.k = .str) (hn : te.get n = some in') (kn : in'.k = .int .i64) : ∃ l : List Qu, cs = [.fz 0 l.length (cl quc l)] ∧ (l.length * 32 ≤ 140737488351232 ∧ ∀ x ∈ l, x.nm.length ≤ 140737488351232) := by
  obtain ⟨l, h1, h2, h3⟩ := has_sl (f := quc) (q := fun x => x.nm.length ≤ 140737488351232) h ht kt hr fun c hc => has_quN hc hr kr hs ks hn kn
  exact ⟨l, h1, by rw [br] at h2; exact h2, h3⟩
theorem has_msgN {t th tq tr r q y : TypeId} {it ith itq itr ir iq iy : TI} {cs : List AV} (h : Has te (d + 4) t cs) (ht : te.get t = some it) (kt : it.k = .struct [(0, th), (8, tq), (9, tr), (10, tr), (11, tr)])
    (hth : te.get th = some ith) (kth : ith.k = .struct [(0, n), (1, b), (2, n), (3, b), (4, b), (5, b), (6, b), (7, n)]) (htq : te.get tq = some itq) (ktq : itq.k = .slice q) (hq : te.get q = some iq) (kq : iq.k = .struct [(0, s), (1, n), (2, n)]) (bq : iq.bytes = 32)
    (htr : te.get tr = some itr) (ktr : itr.k = .slice r) (hr : te.get r = some ir) (kr : ir.k = .struct [(0, s), (1, n), (2, n), (3, n), (4, y)]) (br : ir.bytes = 64)
    (hs : te.get s = some is) (ks : is.k = .str) (hn : te.get n = some in') (kn : in'.k = .int .i64) (hb : te.get b = some ib) (kb : ib.k = .bool) (hy : te.get y = some iy) (ky : iy.k = .slice u) (hu : te.get u = some iu) (ku : iu.k = .int .u8) (bu : iu.bytes = 1) :
    ∃ m : Msg, cs = msgC m ∧ MsgOk m ∧ NmOk m := by
  obtain ⟨_, w, rfl, q1, hh⟩ := has_struct h ht kt
  obtain ⟨a1, rfl, _⟩ := has_hdr q1 hth kth hn kn hb kb
  obtain ⟨_, w, rfl, q1, hh⟩ := hh
  obtain ⟨a2, rfl, b2⟩ := has_qusN q1 htq ktq hq kq bq hs ks hn kn
  obtain ⟨_, w, rfl, q1, hh⟩ := hh
  obtain ⟨a3, rfl, b3⟩ := has_rrsN q1 htr ktr hr kr br hs ks hn kn hy ky hu ku bu
  obtain ⟨_, w, rfl, q1, hh⟩ := hh
  obtain ⟨a4, rfl, b4⟩ := has_rrsN q1 htr ktr hr kr br hs ks hn kn hy ky hu ku bu
  obtain ⟨_, w, rfl, q1, hh⟩ := hh
  obtain ⟨a5, rfl, b5⟩ := has_rrsN q1 htr ktr hr kr br hs ks hn kn hy ky hu ku bu
  cases hh
  refine ⟨⟨a1, a2, a3, a4, a5⟩, rfl, ⟨b2.1, b3.1, b4.1, b5.1⟩, b2.2, fun x hx => ?_⟩
  simp only [Msg.rrs, List.mem_append] at hx
  rcases hx with (hx | hx) | hx
  · exact b3.2 x hx
  · exact b4.2 x hx
  · exact b5.2 x hx
end
section
variable {d : Nat} {s n u : TypeId} {is in' iu : TI}
theorem has_zo {t rl r y : TypeId} {it irl ir iy : TI} {cs : List AV} (h : Has te (d + 4) t cs) (ht : te.get t = some it) (kt : it.k = .struct [(0, s), (1, rl)]) (hrl : te.get rl = some irl) (krl : irl.k = .slice r) (hr : te.get r = some ir) (kr : ir.k = .struct [(0, s), (1, n), (2, n), (3, n), (4, y)]) (br : ir.bytes = 64)
    (hs : te.get s = some is) (ks : is.k = .str) (hn : te.get n = some in') (kn : in'.k = .int .i64) (hy : te.get y = some iy) (ky : iy.k = .slice u) (hu : te.get u = some iu) (ku : iu.k = .int .u8) (bu : iu.bytes = 1) : ∃ z : Zo, cs = zoC z ∧ ZoOk z := by
  obtain ⟨_, w, rfl, q, hh⟩ := has_struct h ht kt
  obtain ⟨a1, rfl, b1⟩ := has_str q hs ks
  obtain ⟨_, w, rfl, q, hh⟩ := hh
  obtain ⟨l, rfl, b2, b3⟩ := has_rrsN q hrl krl hr kr br hs ks hn kn hy ky hu ku bu
  cases hh
  exact ⟨⟨a1, l⟩, rfl, b1, b2, b3⟩
theorem has_sv {t il : TypeId} {it iil : TI} {cs : List AV} (h : Has te (d + 4) t cs) (ht : te.get t = some it) (kt : it.k = .struct [(0, n), (1, il)]) (hil : te.get il = some iil) (kil : iil.k = .slice n) (hn : te.get n = some in') (kn : in'.k = .int .i64) (bn : in'.bytes = 8) : ∃ x : Sv, cs = svC x ∧ x.zs.length * 8 ≤ 140737488351232 := by
  obtain ⟨_, w, rfl, q, hh⟩ := has_struct h ht kt
  obtain ⟨a1, rfl, _⟩ := has_int q hn kn
  obtain ⟨_, w, rfl, q, hh⟩ := hh
  obtain ⟨l, rfl, b2, _⟩ := has_intsc q hil kil hn kn bn
  cases hh
  exact ⟨⟨a1, l⟩, rfl, b2⟩
theorem has_tr {t zl z rl r y sl sv il : TypeId} {it izl iz irl ir iy isl isv iil : TI} {cs : List AV} (h : Has te (d + 6) t cs) (ht : te.get t = some it) (kt : it.k = .struct [(0, zl), (1, sl)]) (hzl : te.get zl = some izl) (kzl : izl.k = .slice z) (hz : te.get z = some iz) (kz : iz.k = .struct [(0, s), (1, rl)]) (bz : iz.bytes = 40)
    (hsl : te.get sl = some isl) (ksl : isl.k = .slice sv) (hsv : te.get sv = some isv) (ksv : isv.k = .struct [(0, n), (1, il)]) (bsv : isv.bytes = 32) (hil : te.get il = some iil) (kil : iil.k = .slice n)
    (hrl : te.get rl = some irl) (krl : irl.k = .slice r) (hr : te.get r = some ir) (kr : ir.k = .struct [(0, s), (1, n), (2, n), (3, n), (4, y)]) (br : ir.bytes = 64)
    (hs : te.get s = some is) (ks : is.k = .str) (hn : te.get n = some in') (kn : in'.k = .int .i64) (bn : in'.bytes = 8) (hy : te.get y = some iy) (ky : iy.k = .slice u) (hu : te.get u = some iu) (ku : iu.k = .int .u8) (bu : iu.bytes = 1) : ∃ T : Tr, cs = trC T ∧ TrOk T := by
  obtain ⟨_, w, rfl, q, hh⟩ := has_struct h ht kt
  obtain ⟨a, rfl, a1, a2⟩ := has_sl (f := zoC) (q := ZoOk) q hzl kzl hz fun c hc => has_zo hc hz kz hrl krl hr kr br hs ks hn kn hy ky hu ku bu
  obtain ⟨_, w, rfl, q, hh⟩ := hh
  obtain ⟨b, rfl, b1, b2⟩ := has_sl (f := svC) (q := fun x => x.zs.length * 8 ≤ 140737488351232) q hsl ksl hsv fun c hc => has_sv hc hsv ksv hil kil hn kn bn
  cases hh
  exact ⟨⟨a, b⟩, rfl, by rw [bz] at a1; exact a1, a2, by rw [bsv] at b1; exact b1, b2⟩
end
end Go.Proofs.Ytokccoloholgaaa.Fw


set_option linter.unusedVariables false
set_option linter.unusedSimpArgs false
namespace Go.Proofs.Ytokccoloholgaaa.Fw
open Go.RowKit
def mZ : Msg := ⟨⟨0, false, 0, false, false, false, false, 0⟩, [], [], [], []⟩
def isAd (a : Int) (s : Sv) : Bool := decide (s.ad = a)
def baseM (m : Msg) (q : Qu) (c : Int) : Msg := ⟨⟨m.h.id, true, m.h.op, false, false, m.h.rd, false, c⟩, [q], [], [], []⟩
def filM (m : Msg) (q : Qu) (f : Fl) : Msg := ⟨⟨m.h.id, true, m.h.op, f.aa, false, m.h.rd, false, f.code⟩, [q], f.an, f.au, f.ad⟩
def serR (t : Tr) (s : Sv) (m : Msg) (q : Qu) : Msg :=
  if m.h.op ≠ 0 then baseM m q 4 else if q.cs ≠ 1 ∨ homeT t s.zs q.nm < 0 then baseM m q 5 else filM m q (fil (zAt t (homeT t s.zs q.nm)) q.ty false [] q.nm 0)
def serO (t : Tr) (a : Int) (m : Msg) : Bool := canT t && !m.h.resp && decide (m.qs.length = 1) && canN (m.qs.getD 0 default).nm && decide (0 ≤ idx (isAd a) t.ss)
def serV (t : Tr) (a : Int) (m : Msg) : Msg := if serO t a m then serR t (t.ss.getD (idx (isAd a) t.ss).toNat default) m (m.qs.getD 0 default) else mZ
section
variable {t : Tr} {a : Int} {m : Msg}
theorem ser_1 (h : canT t = false) : serO t a m = false := by rw [serO, h]; rfl
theorem ser_2 (h : m.h.resp = true) : serO t a m = false := by rw [serO, h, Bool.not_true, Bool.and_false]; rfl
theorem ser_3 (h : ¬ (m.qs.length : Int) = 1) : serO t a m = false := by rw [serO, decide_eq_false (p := m.qs.length = 1) (by omega), Bool.and_false]; rfl
theorem ser_4 (h : canN (m.qs.getD 0 default).nm = false) : serO t a m = false := by rw [serO, h, Bool.and_false]; rfl
theorem ser_5 (h : idx (isAd a) t.ss < 0) : serO t a m = false := by rw [serO, decide_eq_false (p := 0 ≤ idx (isAd a) t.ss) (by omega), Bool.and_false]
theorem ser_yes (h1 : canT t = true) (h2 : m.h.resp = false) (h3 : ¬ ¬ (m.qs.length : Int) = 1) (h4 : canN (m.qs.getD 0 default).nm = true) (h5 : ¬ idx (isAd a) t.ss < 0) : serO t a m = true := by
  rw [serO, h1, h2, decide_eq_true (p := m.qs.length = 1) (by omega), h4, decide_eq_true (p := 0 ≤ idx (isAd a) t.ss) (by omega)]; rfl
theorem ser_none (h : serO t a m = false) : serV t a m = mZ := by rw [serV, h]; rfl
theorem ser_some (h : serO t a m = true) : serV t a m = serR t (t.ss.getD (idx (isAd a) t.ss).toNat default) m (m.qs.getD 0 default) := by rw [serV, h]; rfl
theorem idx_lt {α : Type} {g : α → Bool} : ∀ {l : List α}, 0 < l.length → idx g l < l.length
  | [a], _ => by unfold idx; split <;> simp [idx]
  | a :: b :: l, _ => by
    have h := idx_lt (g := g) (l := b :: l) (by simp)
    unfold idx
    simp only [List.length_cons] at h ⊢
    split
    · omega
    · split <;> omega
theorem idx_lt' {α : Type} {g : α → Bool} {l : List α} (h : ¬ idx g l < 0) : (idx g l).toNat < l.length := by
  cases l with
  | nil => simp [idx] at h
  | cons a l => have := idx_lt (g := g) (l := a :: l) (by simp); omega
theorem srv_in (h : canT t = true) {s : Sv} (hs : s ∈ t.ss) : ∀ i ∈ s.zs, 0 ≤ i ∧ i < t.zs.length := by
  intro i hi
  obtain ⟨j, hj, rfl⟩ := List.getElem_of_mem hs
  have h1 := (canT_parts h).2.2.2.1
  unfold srvT at h1
  simp only [Bool.and_eq_true, range_all_iff] at h1
  have h2 := h1.2 j hj
  unfold svO at h2
  rw [gd_at hj] at h2
  simp only [Bool.and_eq_true, Bool.not_eq_true', List.any_eq_false] at h2
  have h3 := h2.2 i hi
  simp only [badZ, Bool.or_eq_true, decide_eq_true_eq, not_or] at h3
  omega
theorem zs_small (h : canT t = true) {z : Zo} (hz : z ∈ t.zs) : z.rs.length ≤ 400 := by
  have h1 := sum_mem hz
  have h2 := (canT_parts h).2.2.2.2.2.1
  omega
theorem zs_data (h : canT t = true) {z : Zo} (hz : z ∈ t.zs) : ∀ r ∈ z.rs, r.ty = 2 ∨ r.ty = 5 → canN r.da = true := fun r hr hty => data_can (canT_in h hz hr) hty
end
set_option maxRecDepth 20000 in
set_option maxHeartbeats 2000000 in
theorem c_IndexFunc_sv (l : List (Sv)) (lv lv' lw : Nat) (caps : List AV) (g : Sv → Bool) {fid : Nat} (hl : l.length ≤ 140737488351232) (hcaps : AV.oks lw caps = true) (hg : ∀ x ∈ l, AC Try.prog fid (.agg (svC x) :: caps) emp (Ret (tf (g x)))) : AC Try.prog 58 [.fz lv l.length (cl (svC) l), .fn (.func fid) [] caps] emp (Ret (i64 (idx g l))) := by
 refine AC.intro te_ok (fn := Try.f58) ⟨Try.func58, rfl, rfl⟩ (Nat.le_of_ble_eq_true rfl) ?_
 refine AWp.seq ?_
 refine AWp.region ?_
 refine aC_ rfl rfl (q_assign) ?_
 refine AOps.nil ?_
 refine AWp.seq ?_
 refine AWp.seq ?_
 refine AWp.region ?_
 refine aC_ rfl rfl (q_move) ?_
 refine aC_ rfl rfl (q_len) ?_
 refine aC_ rfl rfl (q_move) ?_
 refine AOps.nil ?_
 refine AWp.block ?_
 refine AWp.loopR (α := Nat) [4, 5, 8, 9, 10, 11, 12, 13, 14, 15, 16, 17, 18] (fun i => [(8, i64 i)]) (fun i => []) (fun i => i ≤ l.length ∧ ∀ x ∈ l.take i, g x = false) (fun i => l.length - i) 0 ?_ (Back.mk' (HasT.cons HasT.nil) HasH.nil) ?_
 ·
  exact ⟨Nat.zero_le _, by simp⟩
 ·
  rintro i ⟨hi, hI⟩
  refine AWp.seq ?_
  refine AWp.region ?_
  refine AOps.dec rfl rfl (q_lss) (fun h2_0 => ?_) (fun h2_0 => ?_)
  ·
   refine AOps.nil ?_
   refine AWp.seq ?_
   refine AWp.cond_t rfl ?_
   refine AWp.skip ?_
   refine AWp.seq ?_
   refine AWp.block ?_
   refine AWp.seq ?_
   refine AWp.region ?_
   refine aC_ rfl rfl (q_move) ?_
   refine aC_ rfl rfl (q_assign) ?_
   refine AOps.nil ?_
   refine AWp.seq ?_
   refine AWp.region ?_
   refine aC_ rfl rfl (q_move) ?_
   refine aC_ rfl rfl (q_move) ?_
   refine aC_ rfl rfl (q_move) ?_
   refine aC_ rfl rfl (q_ix) ?_
   refine aC_ rfl rfl (q_load) ?_
   refine AOps.bool rfl rfl (q_call (lv + lv' + lw) (hA := by exact fvs_caps (l := lw) (fv_okb rfl (by first | rfl | exact ble_of (by omega) | (simp [AV.ok, AV.oks]; done))) (by omega) hcaps) (hc := (hg _ (getD_mem (i := i) (by omega))))) (fun h4_5 => ?_) (fun h4_5 => ?_)
   ·
    refine AOps.nil ?_
    refine AWp.cond_t rfl ?_
    refine AWp.seq ?_
    refine AWp.region ?_
    refine aC_ rfl rfl (q_move) ?_
    refine aC_ rfl rfl (q_assign) ?_
    refine AOps.nil ?_
    refine AWp.ret ?_
    show Fin te Try.f58 _ _
    refine q_ret (0) [_] [_] ?_
    exact i64_eq (idx_at (by omega) hI h4_5).symm
   ·
    refine AOps.nil ?_
    refine AWp.cond_f rfl ?_
    refine AWp.skip ?_
    refine AWp.region ?_
    refine aC_ rfl rfl (q_add) ?_
    refine aC_ rfl rfl (q_move) ?_
    refine AOps.nil ?_
    refine ⟨i + 1, ?_, Back.mk' (HasT.cons HasT.nil) HasH.nil, ?_⟩
    ·
     exact ⟨by omega, idx_step (by omega) hI h4_5⟩
    ·
     first | omega | (simp; omega)
  ·
   refine AOps.nil ?_
   refine AWp.seq ?_
   refine AWp.cond_f rfl ?_
   refine AWp.exit ?_
   refine AWp.seq ?_
   refine AWp.region ?_
   refine aC_ rfl rfl (q_assign) ?_
   refine AOps.nil ?_
   refine AWp.ret ?_
   show Fin te Try.f58 _ _
   refine q_ret (0) [_] [_] ?_
   exact i64_eq (idx_none (by rwa [List.take_of_length_le (by omega)] at hI)).symm
set_option maxRecDepth 20000 in
set_option maxHeartbeats 2000000 in
theorem c_zone_Serve_1 (s : Sv) (a : Int) (lv : Nat) : AC Try.prog 59 [.agg (svC s), .fp lv [i64 a]] emp (Ret (tf (isAd a s))) := by
 refine AC.intro te_ok (fn := Try.f59) ⟨Try.func59, rfl, rfl⟩ (Nat.le_of_ble_eq_true rfl) ?_
 refine AWp.seq ?_
 refine AWp.region ?_
 refine aC_ rfl rfl (q_box 100) ?_
 refine aC_ rfl rfl (q_assign) ?_
 refine AOps.nil ?_
 refine AWp.seq ?_
 refine AWp.region ?_
 refine aC_ rfl rfl (q_fa) ?_
 refine aC_ rfl rfl (q_load) ?_
 refine aC_ rfl rfl (q_load) ?_
 refine aC_ rfl rfl (q_eql) ?_
 refine aC_ rfl rfl (q_assign) ?_
 refine AOps.nil ?_
 refine AWp.ret ?_
 show Fin te Try.f59 _ _
 refine q_ret (0) [_] [_] ?_
 rfl
set_option maxRecDepth 20000 in
set_option maxHeartbeats 2000000 in
theorem c_zone_Serve (t : Tr) (a : Int) (m : Msg) (ht : TrOk t) (hm : MsgOk m) (hn : NmOk m) : AC Try.prog 22 [.agg (trC t), i64 a, .agg (msgC m)] emp (Ret (.tup [.agg (msgC (serV t a m)), tf (serO t a m)])) := by
 have hb1 := ht.1
 have hb2 := ht.2.2.1
 have hmq := hm.1
 refine AC.intro te_ok (fn := Try.f22) ⟨Try.func22, rfl, rfl⟩ (Nat.le_of_ble_eq_true rfl) ?_
 refine AWp.seq ?_
 refine AWp.region ?_
 refine aC_ rfl rfl (q_box 100) ?_
 refine aC_ rfl rfl (q_box 101) ?_
 refine aC_ rfl rfl (q_box 102) ?_
 refine aC_ rfl rfl (q_alloc 103) ?_
 refine aC_ rfl rfl (q_assign) ?_
 refine AOps.nil ?_
 refine AWp.seq ?_
 refine AWp.seq ?_
 refine AWp.region ?_
 refine aC_ rfl rfl (q_load) ?_
 refine AOps.bool rfl rfl (q_call (0) (hc := (c_zone_Can t ht))) (fun h1_1 => ?_) (fun h1_1 => ?_)
 ·
  refine aC_ rfl rfl (q_not) ?_
  refine aC_ rfl rfl (q_move) ?_
  refine AOps.gcons rfl rfl rfl rfl rfl (q_fa) ?_
  refine AOps.gcons rfl rfl rfl rfl rfl (q_fa) ?_
  refine AOps.gbool rfl rfl rfl rfl rfl (q_load) (fun h1_6 => ?_) (fun h1_6 => ?_)
  ·
   refine aC_ rfl rfl (q_pick) ?_
   refine aC_ rfl rfl (q_move) ?_
   refine aG_ rfl rfl rfl rfl rfl rfl rfl rfl ?_
   refine aG_ rfl rfl rfl rfl rfl rfl rfl rfl ?_
   refine aG_ rfl rfl rfl rfl rfl rfl rfl rfl ?_
   refine aG_ rfl rfl rfl rfl rfl rfl rfl rfl ?_
   refine aC_ rfl rfl (q_pick) ?_
   refine aC_ rfl rfl (q_move) ?_
   refine aG_ rfl rfl rfl rfl rfl rfl rfl rfl ?_
   refine aG_ rfl rfl rfl rfl rfl rfl rfl rfl ?_
   refine aG_ rfl rfl rfl rfl rfl rfl rfl rfl ?_
   refine aG_ rfl rfl rfl rfl rfl rfl rfl rfl ?_
   refine aG_ rfl rfl rfl rfl rfl rfl rfl rfl ?_
   refine aG_ rfl rfl rfl rfl rfl rfl rfl rfl ?_
   refine aG_ rfl rfl rfl rfl rfl rfl rfl rfl ?_
   refine aC_ rfl rfl (q_pick) ?_
   refine AOps.nil ?_
   refine AWp.cond_t rfl ?_
   refine AWp.seq ?_
   refine AWp.region ?_
   refine aC_ rfl rfl (q_build []) ?_
   refine aC_ rfl rfl (q_store) ?_
   refine aC_ rfl rfl (q_assign) ?_
   refine AOps.weak (Weak.full 0 [] (t := [(7, tf false), (6, .ptr 103 0 0)]) (hl := [(103, .box (msgC mZ))])) ?_
   refine AOps.nil ?_
   refine AWp.ret ?_
   show Fin te Try.f22 _ _
   refine q_ret (0) [_, _] [_, _] ?_
   have hno : serO t a m = false := ser_2 h1_6
   rw [ser_none hno, hno]; rfl
  ·
   refine aC_ rfl rfl (q_pick) ?_
   refine aC_ rfl rfl (q_move) ?_
   refine AOps.gcons rfl rfl rfl rfl rfl (q_fa) ?_
   refine AOps.gcons rfl rfl rfl rfl rfl (q_load) ?_
   refine AOps.gcons rfl rfl rfl rfl rfl (q_len) ?_
   refine AOps.gdec rfl rfl rfl rfl rfl (q_neq) (fun h1_12 => ?_) (fun h1_12 => ?_)
   ·
    refine aC_ rfl rfl (q_pick) ?_
    refine aC_ rfl rfl (q_move) ?_
    refine aG_ rfl rfl rfl rfl rfl rfl rfl rfl ?_
    refine aG_ rfl rfl rfl rfl rfl rfl rfl rfl ?_
    refine aG_ rfl rfl rfl rfl rfl rfl rfl rfl ?_
    refine aG_ rfl rfl rfl rfl rfl rfl rfl rfl ?_
    refine aG_ rfl rfl rfl rfl rfl rfl rfl rfl ?_
    refine aG_ rfl rfl rfl rfl rfl rfl rfl rfl ?_
    refine aG_ rfl rfl rfl rfl rfl rfl rfl rfl ?_
    refine aC_ rfl rfl (q_pick) ?_
    refine AOps.nil ?_
    refine AWp.cond_t rfl ?_
    refine AWp.seq ?_
    refine AWp.region ?_
    refine aC_ rfl rfl (q_build []) ?_
    refine aC_ rfl rfl (q_store) ?_
    refine aC_ rfl rfl (q_assign) ?_
    refine AOps.weak (Weak.full 0 [] (t := [(7, tf false), (6, .ptr 103 0 0)]) (hl := [(103, .box (msgC mZ))])) ?_
    refine AOps.nil ?_
    refine AWp.ret ?_
    show Fin te Try.f22 _ _
    refine q_ret (0) [_, _] [_, _] ?_
    have hno : serO t a m = false := ser_3 h1_12
    rw [ser_none hno, hno]; rfl
   ·
    refine aC_ rfl rfl (q_pick) ?_
    refine aC_ rfl rfl (q_move) ?_
    refine AOps.gcons rfl rfl rfl rfl rfl (q_fa) ?_
    refine AOps.gcons rfl rfl rfl rfl rfl (q_load) ?_
    have hl1 : m.qs.length = 1 := by omega
    have hqn := hn.1 _ (getD_mem' (l := m.qs) (i := 0) (by omega))
    refine AOps.gcons rfl rfl rfl rfl rfl (q_ix) ?_
    refine AOps.gcons rfl rfl rfl rfl rfl (q_fa) ?_
    refine AOps.gcons rfl rfl rfl rfl rfl (q_load) ?_
    refine AOps.gbool rfl rfl rfl rfl rfl (q_call (0) (hc := (c_name_Can (m.qs.getD 0 default).nm (by omega)))) (fun h1_20 => ?_) (fun h1_20 => ?_)
    ·
     refine AOps.gcons rfl rfl rfl rfl rfl (q_not) ?_
     refine aC_ rfl rfl (q_pick) ?_
     refine AOps.nil ?_
     refine AWp.cond_f rfl ?_
     refine AWp.skip ?_
     refine AWp.seq ?_
     refine AWp.region ?_
     refine aC_ rfl rfl (q_fa) ?_
     refine aC_ rfl rfl (q_load) ?_
     refine aC_ rfl rfl (q_makeFunc [] [_]) ?_
     refine aC_ rfl rfl (q_call (0) (hc := (c_IndexFunc_sv t.ss 0 0 1 [.fp 1 [i64 a]] (isAd a) (by omega) rfl (fun s hs => c_zone_Serve_1 s a 1)))) ?_
     refine aC_ rfl rfl (q_assign) ?_
     refine AOps.nil ?_
     refine AWp.seq ?_
     refine AWp.seq ?_
     refine AWp.region ?_
     refine aC_ rfl rfl (q_move) ?_
     refine AOps.dec rfl rfl (q_lss) (fun h4_1 => ?_) (fun h4_1 => ?_)
     ·
      refine AOps.nil ?_
      refine AWp.cond_t rfl ?_
      refine AWp.seq ?_
      refine AWp.region ?_
      refine aC_ rfl rfl (q_build []) ?_
      refine aC_ rfl rfl (q_store) ?_
      refine aC_ rfl rfl (q_assign) ?_
      refine AOps.weak (Weak.full 0 [] (t := [(7, tf false), (6, .ptr 103 0 0)]) (hl := [(103, .box (msgC mZ))])) ?_
      refine AOps.nil ?_
      refine AWp.ret ?_
      show Fin te Try.f22 _ _
      refine q_ret (0) [_, _] [_, _] ?_
      have hno : serO t a m = false := ser_5 h4_1
      rw [ser_none hno, hno]; rfl
     ·
      refine AOps.nil ?_
      refine AWp.cond_f rfl ?_
      refine AWp.skip ?_
      refine AWp.seq ?_
      refine AWp.region ?_
      have hyes := ser_yes h1_1 h1_6 h1_12 h1_20 h4_1
      have hcan := h1_1
      have hix := idx_lt' h4_1
      have hsm : (t.ss.getD (idx (isAd a) t.ss).toNat default) ∈ t.ss := getD_mem' hix
      have hin := srv_in hcan hsm
      have hszl := ht.2.2.2 _ hsm
      have hql := canN_le2 h1_20
      refine aC_ rfl rfl (q_fa) ?_
      refine aC_ rfl rfl (q_load) ?_
      refine aC_ rfl rfl (q_ix) ?_
      refine aC_ rfl rfl (q_load) ?_
      refine aC_ rfl rfl (q_alloc 704) ?_
      refine aC_ rfl rfl (q_store) ?_
      refine AOps.nil ?_
      refine AWp.seq ?_
      refine AWp.region ?_
      refine aC_ rfl rfl (q_fa) ?_
      refine aC_ rfl rfl (q_fa) ?_
      refine aC_ rfl rfl (q_load) ?_
      refine aC_ rfl rfl (q_fa) ?_
      refine aC_ rfl rfl (q_fa) ?_
      refine aC_ rfl rfl (q_load) ?_
      refine aC_ rfl rfl (q_fa) ?_
      refine aC_ rfl rfl (q_fa) ?_
      refine aC_ rfl rfl (q_load) ?_
      refine aC_ rfl rfl (q_build [(_, _), (_, _), (_, _), (_, _)]) ?_
      refine aC_ rfl rfl (q_load) ?_
      refine aC_ rfl rfl (q_bs 811 quc [(m.qs.getD 0 default)] [(_, _)]) ?_
      refine aC_ rfl rfl (q_build [(_, _), (_, _)]) ?_
      refine aC_ rfl rfl (q_alloc 813) ?_
      refine aC_ rfl rfl (q_store) ?_
      refine AOps.weak (Weak.full 0 [] (t := [(3, .ptr 100 0 0), (5, .ptr 102 0 0), (6, .ptr 103 0 0), (8, i64 (idx (isAd a) t.ss)), (9, .ptr 704 0 0), (10, .ptr 813 0 0)]) (hl := [(100, .box (trC t)), (102, .box (msgC m)), (103, .box [.v (.int .i64 0), .v (.bool false), .v (.int .i64 0), .v (.bool false), .v (.bool false), .v (.bool false), .v (.bool false), .v (.int .i64 0), .v (.slice none 0 0), .v (.slice none 0 0), .v (.slice none 0 0), .v (.slice none 0 0)]), (704, .box (quc (m.qs.getD 0 default))), (813, .box [i64 m.h.id, tf true, i64 m.h.op, tf (false), .v (.bool false), tf m.h.rd, .v (.bool false), i64 (0), .fz 0 [(m.qs.getD 0 default)].length (cl quc [(m.qs.getD 0 default)]), .v (.slice none 0 0), .fz 0 (([] : List Rr)).length (cl rrc (([] : List Rr))), .v (.slice none 0 0)])])) ?_
      refine AOps.nil ?_
      refine AWp.seq ?_
      refine AWp.draws [⟨0, [3], [100], some 60, _, []⟩,
 ⟨1, [3], [100], some 61, _, []⟩,
 ⟨2, [61], [100], some 62, _, []⟩,
 ⟨3, [8], [], some 63, _, []⟩,
 ⟨4, [62, 63], [], some 64, _, []⟩,
 ⟨5, [64], [], some 65, _, []⟩,
 ⟨6, [65], [], some 66, _, []⟩,
 ⟨7, [9], [704], some 67, _, []⟩,
 ⟨8, [67], [704], some 68, _, []⟩,
 ⟨9, [60, 66, 68], [], some 69, _, []⟩,
 ⟨10, [69], [], some 11, _, []⟩]
       [kN_ 0 [3] [100] 60,
 kN_ 1 [3] [100] 61,
 kN_ 2 [61] [100] 62,
 kN_ 3 [8] [] 63,
 kN_ 4 [62, 63] [] 64,
 kN_ 5 [64] [] 65,
 kN_ 6 [65] [] 66,
 kN_ 7 [9] [704] 67,
 kN_ 8 [67] [704] 68,
 kN_ 9 [60, 66, 68] [] 69,
 kN_ 10 [69] [] 11]
       mixed_ok rfl (by kernel_rfl) ⟨dK_ fun s0 => oG_ rfl rfl (q_load),
 dK_ fun s0 => oG_ rfl rfl (q_fa),
 dK_ fun s0 => oG_ rfl rfl (q_load),
 dK_ fun s0 => oG_ rfl rfl (q_move),
 dK_ fun s0 => oG_ rfl rfl (q_ix),
 dK_ fun s0 => oG_ rfl rfl (q_fa),
 dK_ fun s0 => oG_ rfl rfl (q_load),
 dK_ fun s0 => oG_ rfl rfl (q_fa),
 dK_ fun s0 => oG_ rfl rfl (q_load),
 dK_ fun s0 => oG_ rfl rfl (q_call (0) (hc := (c_zone_home t (t.ss.getD (idx (isAd a) t.ss).toNat default).zs 0 (m.qs.getD 0 default).nm ht (by omega) hin (by omega)))),
 dK_ fun s0 => oG_ rfl rfl (q_assign), trivial⟩ ?_
      dsimp only [final, DS.upd, AS.seto]
      refine AWp.seq ?_
      refine AWp.block ?_
      refine AWp.seq ?_
      refine AWp.region ?_
      refine aC_ rfl rfl (q_fa) ?_
      refine aC_ rfl rfl (q_fa) ?_
      refine aC_ rfl rfl (q_load) ?_
      refine AOps.dec rfl rfl (q_neq) (fun h10_3 => ?_) (fun h10_3 => ?_)
      ·
       refine aC_ rfl rfl (q_assign) ?_
       refine AOps.nil ?_
       refine AWp.cond_t rfl ?_
       refine AWp.region ?_
       refine aC_ rfl rfl (q_fa) ?_
       refine aC_ rfl rfl (q_fa) ?_
       refine aC_ rfl rfl (q_store) ?_
       refine AOps.nil ?_
       refine AWp.seq ?_
       refine AWp.region ?_
       refine AOps.weak (Weak.full 0 [] (t := [(6, .ptr 103 0 0), (10, .ptr 813 0 0)]) (hl := [(103, .box [.v (.int .i64 0), .v (.bool false), .v (.int .i64 0), .v (.bool false), .v (.bool false), .v (.bool false), .v (.bool false), .v (.int .i64 0), .v (.slice none 0 0), .v (.slice none 0 0), .v (.slice none 0 0), .v (.slice none 0 0)]), (813, .box [i64 m.h.id, tf true, i64 m.h.op, tf (false), .v (.bool false), tf m.h.rd, .v (.bool false), i64 (4), .fz 0 [(m.qs.getD 0 default)].length (cl quc [(m.qs.getD 0 default)]), .fz 0 (([] : List Rr)).length (cl rrc (([] : List Rr))), .fz 0 (([] : List Rr)).length (cl rrc (([] : List Rr))), .fz 0 (([] : List Rr)).length (cl rrc (([] : List Rr)))])])) ?_
       refine aC_ rfl rfl (q_load) ?_
       refine aC_ rfl rfl (q_store) ?_
       refine aC_ rfl rfl (q_assign) ?_
       refine AOps.nil ?_
       refine AWp.ret ?_
       show Fin te Try.f22 _ _
       refine q_ret (0) [_, _] [_, _] ?_
       rw [ser_some hyes, hyes, serR, if_pos h10_3]; rfl
      ·
       refine aC_ rfl rfl (q_assign) ?_
       refine AOps.nil ?_
       refine AWp.cond_f rfl ?_
       refine AWp.seq ?_
       refine AWp.region ?_
       refine aC_ rfl rfl (q_fa) ?_
       refine aC_ rfl rfl (q_load) ?_
       refine AOps.dec rfl rfl (q_neq) (fun h12_2 => ?_) (fun h12_2 => ?_)
       ·
        refine aC_ rfl rfl (q_move) ?_
        refine aG_ rfl rfl rfl rfl rfl rfl rfl rfl ?_
        refine aG_ rfl rfl rfl rfl rfl rfl rfl rfl ?_
        refine aC_ rfl rfl (q_pick) ?_
        refine aC_ rfl rfl (q_assign) ?_
        refine AOps.nil ?_
        refine AWp.cond_t rfl ?_
        refine AWp.region ?_
        refine aC_ rfl rfl (q_fa) ?_
        refine aC_ rfl rfl (q_fa) ?_
        refine aC_ rfl rfl (q_store) ?_
        refine AOps.nil ?_
        refine AWp.seq ?_
        refine AWp.region ?_
        refine AOps.weak (Weak.full 0 [] (t := [(6, .ptr 103 0 0), (10, .ptr 813 0 0)]) (hl := [(103, .box [.v (.int .i64 0), .v (.bool false), .v (.int .i64 0), .v (.bool false), .v (.bool false), .v (.bool false), .v (.bool false), .v (.int .i64 0), .v (.slice none 0 0), .v (.slice none 0 0), .v (.slice none 0 0), .v (.slice none 0 0)]), (813, .box [i64 m.h.id, tf true, i64 m.h.op, tf (false), .v (.bool false), tf m.h.rd, .v (.bool false), i64 (5), .fz 0 [(m.qs.getD 0 default)].length (cl quc [(m.qs.getD 0 default)]), .fz 0 (([] : List Rr)).length (cl rrc (([] : List Rr))), .fz 0 (([] : List Rr)).length (cl rrc (([] : List Rr))), .fz 0 (([] : List Rr)).length (cl rrc (([] : List Rr)))])])) ?_
        refine aC_ rfl rfl (q_load) ?_
        refine aC_ rfl rfl (q_store) ?_
        refine aC_ rfl rfl (q_assign) ?_
        refine AOps.nil ?_
        refine AWp.ret ?_
        show Fin te Try.f22 _ _
        refine q_ret (0) [_, _] [_, _] ?_
        rw [ser_some hyes, hyes, serR, if_neg h10_3, if_pos (.inl h12_2)]; rfl
       ·
        refine aC_ rfl rfl (q_move) ?_
        refine AOps.gcons rfl rfl rfl rfl rfl (q_move) ?_
        refine AOps.gdec rfl rfl rfl rfl rfl (q_lss) (fun h12_5 => ?_) (fun h12_5 => ?_)
        ·
         refine aC_ rfl rfl (q_pick) ?_
         refine aC_ rfl rfl (q_assign) ?_
         refine AOps.nil ?_
         refine AWp.cond_t rfl ?_
         refine AWp.region ?_
         refine aC_ rfl rfl (q_fa) ?_
         refine aC_ rfl rfl (q_fa) ?_
         refine aC_ rfl rfl (q_store) ?_
         refine AOps.nil ?_
         refine AWp.seq ?_
         refine AWp.region ?_
         refine AOps.weak (Weak.full 0 [] (t := [(6, .ptr 103 0 0), (10, .ptr 813 0 0)]) (hl := [(103, .box [.v (.int .i64 0), .v (.bool false), .v (.int .i64 0), .v (.bool false), .v (.bool false), .v (.bool false), .v (.bool false), .v (.int .i64 0), .v (.slice none 0 0), .v (.slice none 0 0), .v (.slice none 0 0), .v (.slice none 0 0)]), (813, .box [i64 m.h.id, tf true, i64 m.h.op, tf (false), .v (.bool false), tf m.h.rd, .v (.bool false), i64 (5), .fz 0 [(m.qs.getD 0 default)].length (cl quc [(m.qs.getD 0 default)]), .fz 0 (([] : List Rr)).length (cl rrc (([] : List Rr))), .fz 0 (([] : List Rr)).length (cl rrc (([] : List Rr))), .fz 0 (([] : List Rr)).length (cl rrc (([] : List Rr)))])])) ?_
         refine aC_ rfl rfl (q_load) ?_
         refine aC_ rfl rfl (q_store) ?_
         refine aC_ rfl rfl (q_assign) ?_
         refine AOps.nil ?_
         refine AWp.ret ?_
         show Fin te Try.f22 _ _
         refine q_ret (0) [_, _] [_, _] ?_
         rw [ser_some hyes, hyes, serR, if_neg h10_3, if_pos (.inr h12_5)]; rfl
        ·
         refine aC_ rfl rfl (q_pick) ?_
         refine aC_ rfl rfl (q_assign) ?_
         refine AOps.nil ?_
         refine AWp.cond_f rfl ?_
         have hhk := nearF_in (t := t) (p := fun z => withN (m.qs.getD 0 default).nm z.o) hin
         have hk0 : 0 ≤ homeT t (t.ss.getD (idx (isAd a) t.ss).toNat default).zs (m.qs.getD 0 default).nm ∧ homeT t (t.ss.getD (idx (isAd a) t.ss).toNat default).zs (m.qs.getD 0 default).nm < t.zs.length := ⟨by omega, hhk.2⟩
         have hzm := zAt_mem hk0
         have hzo := zo_ok ht hk0
         refine AWp.draws [⟨0, [3], [100], some 70, _, []⟩,
 ⟨1, [70], [100], some 71, _, []⟩,
 ⟨2, [11], [], some 72, _, []⟩,
 ⟨3, [71, 72], [], some 73, _, []⟩,
 ⟨4, [73], [], some 74, _, []⟩,
 ⟨5, [9], [704], some 75, _, []⟩,
 ⟨6, [75], [704], some 76, _, []⟩,
 ⟨7, [9], [704], some 77, _, []⟩,
 ⟨8, [77], [704], some 78, _, []⟩,
 ⟨9, [10, 74, 76, 78], [813], some 79, _, [(813, _)]⟩]
          [kN_ 0 [3] [100] 70,
 kN_ 1 [70] [100] 71,
 kN_ 2 [11] [] 72,
 kN_ 3 [71, 72] [] 73,
 kN_ 4 [73] [] 74,
 kN_ 5 [9] [704] 75,
 kN_ 6 [75] [704] 76,
 kN_ 7 [9] [704] 77,
 kN_ 8 [77] [704] 78,
 ⟨9, [10, 74, 76, 78], [813], some 79, .any, [(813, .box [])]⟩]
          mixed_ok rfl (by kernel_rfl) ⟨dK_ fun s0 => oG_ rfl rfl (q_fa),
 dK_ fun s0 => oG_ rfl rfl (q_load),
 dK_ fun s0 => oG_ rfl rfl (q_move),
 dK_ fun s0 => oG_ rfl rfl (q_ix),
 dK_ fun s0 => oG_ rfl rfl (q_load),
 dK_ fun s0 => oG_ rfl rfl (q_fa),
 dK_ fun s0 => oG_ rfl rfl (q_load),
 dK_ fun s0 => oG_ rfl rfl (q_fa),
 dK_ fun s0 => oG_ rfl rfl (q_load),
 dK_ fun s0 => oG_ rfl rfl (q_callB (0) [(0, 813)] [] [(_, _)] (hc := (c_fill ⟨m.h.id, true, m.h.op, false, false, m.h.rd, false, 0⟩ [(m.qs.getD 0 default)] (zAt t (homeT t (t.ss.getD (idx (isAd a) t.ss).toNat default).zs (m.qs.getD 0 default).nm)) (m.qs.getD 0 default).nm (m.qs.getD 0 default).ty hzo (zs_small hcan hzm) (by omega) (zs_data hcan hzm)))), trivial⟩ ?_
         dsimp only [final, DS.upd, AS.seto]
         refine AWp.seq ?_
         refine AWp.region ?_
         refine aC_ rfl rfl (q_load) ?_
         refine aC_ rfl rfl (q_store) ?_
         refine aC_ rfl rfl (q_assign) ?_
         refine AOps.nil ?_
         refine AWp.ret ?_
         show Fin te Try.f22 _ _
         refine q_ret (0) [_, _] [_, _] ?_
         rw [ser_some hyes, hyes, serR, if_neg h10_3, if_neg (fun q => q.elim h12_2 h12_5)]; rfl
    ·
     refine AOps.gcons rfl rfl rfl rfl rfl (q_not) ?_
     refine aC_ rfl rfl (q_pick) ?_
     refine AOps.nil ?_
     refine AWp.cond_t rfl ?_
     refine AWp.seq ?_
     refine AWp.region ?_
     refine aC_ rfl rfl (q_build []) ?_
     refine aC_ rfl rfl (q_store) ?_
     refine aC_ rfl rfl (q_assign) ?_
     refine AOps.weak (Weak.full 0 [] (t := [(7, tf false), (6, .ptr 103 0 0)]) (hl := [(103, .box (msgC mZ))])) ?_
     refine AOps.nil ?_
     refine AWp.ret ?_
     show Fin te Try.f22 _ _
     refine q_ret (0) [_, _] [_, _] ?_
     have hno : serO t a m = false := ser_4 h1_20
     rw [ser_none hno, hno]; rfl
 ·
  refine aC_ rfl rfl (q_not) ?_
  refine aC_ rfl rfl (q_move) ?_
  refine aG_ rfl rfl rfl rfl rfl rfl rfl rfl ?_
  refine aG_ rfl rfl rfl rfl rfl rfl rfl rfl ?_
  refine aG_ rfl rfl rfl rfl rfl rfl rfl rfl ?_
  refine aC_ rfl rfl (q_pick) ?_
  refine aC_ rfl rfl (q_move) ?_
  refine aG_ rfl rfl rfl rfl rfl rfl rfl rfl ?_
  refine aG_ rfl rfl rfl rfl rfl rfl rfl rfl ?_
  refine aG_ rfl rfl rfl rfl rfl rfl rfl rfl ?_
  refine aG_ rfl rfl rfl rfl rfl rfl rfl rfl ?_
  refine aC_ rfl rfl (q_pick) ?_
  refine aC_ rfl rfl (q_move) ?_
  refine aG_ rfl rfl rfl rfl rfl rfl rfl rfl ?_
  refine aG_ rfl rfl rfl rfl rfl rfl rfl rfl ?_
  refine aG_ rfl rfl rfl rfl rfl rfl rfl rfl ?_
  refine aG_ rfl rfl rfl rfl rfl rfl rfl rfl ?_
  refine aG_ rfl rfl rfl rfl rfl rfl rfl rfl ?_
  refine aG_ rfl rfl rfl rfl rfl rfl rfl rfl ?_
  refine aG_ rfl rfl rfl rfl rfl rfl rfl rfl ?_
  refine aC_ rfl rfl (q_pick) ?_
  refine AOps.nil ?_
  refine AWp.cond_t rfl ?_
  refine AWp.seq ?_
  refine AWp.region ?_
  refine aC_ rfl rfl (q_build []) ?_
  refine aC_ rfl rfl (q_store) ?_
  refine aC_ rfl rfl (q_assign) ?_
  refine AOps.weak (Weak.full 0 [] (t := [(7, tf false), (6, .ptr 103 0 0)]) (hl := [(103, .box (msgC mZ))])) ?_
  refine AOps.nil ?_
  refine AWp.ret ?_
  show Fin te Try.f22 _ _
  refine q_ret (0) [_, _] [_, _] ?_
  have hno : serO t a m = false := ser_1 h1_1
  rw [ser_none hno, hno]; rfl
end Go.Proofs.Ytokccoloholgaaa.Fw


