/- The texts R18e, W18g, Q18, W18s, W18h, Q16, W18i, Z18, M18, W18j, Z18b, Z18c, R18h, L18a, L18c, one behind the other: what the walks and plain laws need; conditions stand with each theorem. -/
import Derived.Lib.SlBytesConst
import Derived.Test.YtokccoloholgaaaCat4
set_option linter.unusedVariables false
set_option linter.unusedSimpArgs false
namespace Go.Proofs.Ytokccoloholgaaa.Fw
open Go.RowKit
theorem gd_at {α : Type} [Inhabited α] {l : List α} {k : Nat} (h : k < l.length) : l.getD k default = l[k] := by rw [List.getD_eq_getElem?_getD, List.getElem?_eq_getElem h]; rfl
theorem one_iff {α : Type} [Inhabited α] {p : α → Bool} {l : List α} {i : Nat} (hi : i < l.length) (hp : p (l.getD i default) = true) : (l.filter p).length = 1 ↔ ∀ k, k < l.length → k ≠ i → p (l.getD k default) = false := by
  have e : l = l.take i ++ l.getD i default :: l.drop (i + 1) := by
    rw [gd_at hi, ← List.drop_eq_getElem_cons hi, List.take_append_drop]
  have hlen : (l.filter p).length = ((l.take i).filter p).length + (1 + ((l.drop (i + 1)).filter p).length) := by
    conv => lhs; rw [e]
    rw [List.filter_append, List.filter_cons_of_pos hp, List.length_append, List.length_cons]; omega
  constructor
  · intro h k hk hki
    have h1 : (l.take i).filter p = [] := List.eq_nil_of_length_eq_zero (by omega)
    have h2 : (l.drop (i + 1)).filter p = [] := List.eq_nil_of_length_eq_zero (by omega)
    rw [List.filter_eq_nil_iff] at h1 h2
    cases hq : p (l.getD k default) with
    | false => rfl
    | true =>
      exfalso
      rw [gd_at hk] at hq
      rcases Nat.lt_or_gt_of_ne hki with h3 | h3
      · exact h1 l[k] (List.mem_take_iff_getElem.2 ⟨k, by omega, rfl⟩) hq
      · exact h2 l[k] (List.mem_drop_iff_getElem.2 ⟨k - (i + 1), by omega, by congr 1; omega⟩) hq
  · intro h
    have h1 : (l.take i).filter p = [] := List.filter_eq_nil_iff.2 fun x hx => by
      obtain ⟨k, hk, rfl⟩ := List.mem_take_iff_getElem.1 hx
      have := h k (by omega) (by omega)
      rw [gd_at (by omega)] at this
      rw [this]; decide
    have h2 : (l.drop (i + 1)).filter p = [] := List.filter_eq_nil_iff.2 fun x hx => by
      obtain ⟨k, hk, rfl⟩ := List.mem_drop_iff_getElem.1 hx
      have := h (i + 1 + k) (by omega) (by omega)
      rw [gd_at (by omega)] at this
      rw [this]; decide
    rw [hlen, h1, h2]; rfl
theorem sameN_comm (a b : List UInt8) : sameN a b = sameN b a := by
  unfold sameN
  rw [Bool.and_comm (canN a), show decide (lowN a = lowN b) = decide (lowN b = lowN a) from decide_eq_decide.2 ⟨Eq.symm, Eq.symm⟩]
theorem sameN_self {a : List UInt8} (h : canN a = true) : sameN a a = true := by simp [sameN, h]
theorem recO_can {z : Zo} {r : Rr} (h : recO z r = true) : canN r.nm = true := by
  unfold recO baseO at h
  simp only [Bool.and_eq_true] at h
  exact (withN_can h.1.1.1.1.1.1.1).1
theorem zone_same (z : Zo) : (recsZ z && aloZ z) = (z.rs.all (inZ z) && decide ((atZ z z.o 6).length = 1) && decide (1 ≤ (atZ z z.o 2).length)) := by
  have key : (z.rs.all (recO z) && aloZ z) = z.rs.all (inZ z) := by
    cases hr : z.rs.all (recO z) with
    | false =>
      rw [Bool.false_and]
      obtain ⟨r, h1, h2⟩ : ∃ r ∈ z.rs, recO z r = false := by simpa using hr
      cases hx : z.rs.all (inZ z) with
      | false => rfl
      | true =>
        have := List.all_eq_true.1 hx r h1
        rw [inZ, h2] at this; cases this
    | true =>
      rw [Bool.true_and]
      have hrec := List.all_eq_true.1 hr
      have hc : ∀ i, i < z.rs.length → canN (z.rs.getD i default).nm = true := fun i hi => recO_can (hrec _ (getD_mem' hi))
      rw [Bool.eq_iff_iff, aloZ, range_all_iff, List.all_eq_true]
      constructor
      · intro h r hr
        obtain ⟨i, hi, rfl⟩ := List.getElem_of_mem hr
        have h1 := h i hi
        rw [Bool.not_eq_true', List.any_eq_false] at h1
        rw [inZ, hrec _ hr, Bool.true_and]
        by_cases h5 : z.rs[i].ty = 5
        · rw [decide_eq_true h5, Bool.not_true, Bool.false_or, decide_eq_true_eq, cntS]
          rw [← gd_at hi] at h5 ⊢
          refine (one_iff (p := fun o => sameN o.nm (z.rs.getD i default).nm) hi (sameN_self (hc i hi))).2 fun k hk hki => ?_
          have h2 := h1 k (List.mem_range.2 hk)
          rw [aloP, decide_eq_true (p := i ≠ k) (fun e => hki e.symm), decide_eq_true h5, Bool.true_and, Bool.true_and, sameN_comm] at h2
          exact Bool.eq_false_iff.2 h2
        · rw [decide_eq_false h5]; rfl
      · intro h i hi
        rw [Bool.not_eq_true', List.any_eq_false]
        intro k hk
        rw [List.mem_range] at hk
        have h1 := h _ (getD_mem' hi)
        rw [aloP]
        by_cases hki : i = k
        · rw [decide_eq_false (p := i ≠ k) (not_not_intro hki)]; simp
        by_cases h5 : (z.rs.getD i default).ty = 5
        · rw [inZ, decide_eq_true h5, Bool.not_true, Bool.false_or, Bool.and_eq_true, decide_eq_true_eq, cntS] at h1
          have h2 := (one_iff (p := fun o => sameN o.nm (z.rs.getD i default).nm) hi (sameN_self (hc i hi))).1 h1.2 k hk (fun e => hki e.symm)
          rw [sameN_comm (z.rs.getD i default).nm, h2, Bool.and_false]; decide
        · rw [decide_eq_false h5, Bool.and_false]; simp
  rw [recsZ, ← key]
  cases z.rs.all (recO z) <;> cases aloZ z <;> cases decide ((atZ z z.o 6).length = 1) <;> cases decide (1 ≤ (atZ z z.o 2).length) <;> rfl
theorem zonO_eq (t : Tr) (k : Nat) : zonO t k = ((recsZ (t.zs.getD k default) && aloZ (t.zs.getD k default)) && joinZ t (parT t) k) := by
  rw [zonO, zone_same]
set_option maxRecDepth 20000 in
set_option maxHeartbeats 2000000 in
theorem c_rCan (t : Tr) (ht : TrOk t) : AC Try.prog 11 [.agg (trC t)] emp (Ret (tf (canT t))) := by
 have hb1 := ht.1
 have hsum := sum_take ht
 refine AC.intro te_ok (fn := Try.f11) ⟨Try.func11, rfl, rfl⟩ (Nat.le_of_ble_eq_true rfl) ?_
 refine AWp.seq ?_
 refine AWp.region ?_
 refine AOps.cons rfl rfl (q_box 100) ?_
 refine AOps.cons rfl rfl (q_assign) ?_
 refine AOps.nil ?_
 refine AWp.seq ?_
 refine AWp.seq ?_
 refine AWp.region ?_
 refine AOps.cons rfl rfl (q_fa) ?_
 refine AOps.cons rfl rfl (q_load) ?_
 refine AOps.cons rfl rfl (q_len) ?_
 refine AOps.dec rfl rfl (q_lss) (fun h1_3 => ?_) (fun h1_3 => ?_)
 ·
  refine AOps.cons rfl rfl (q_move) ?_
  refine AOps.gskip rfl rfl rfl rfl rfl rfl rfl rfl ?_
  refine AOps.gskip rfl rfl rfl rfl rfl rfl rfl rfl ?_
  refine AOps.gskip rfl rfl rfl rfl rfl rfl rfl rfl ?_
  refine AOps.gskip rfl rfl rfl rfl rfl rfl rfl rfl ?_
  refine AOps.cons rfl rfl (q_pick) ?_
  refine AOps.cons rfl rfl (q_move) ?_
  refine AOps.gskip rfl rfl rfl rfl rfl rfl rfl rfl ?_
  refine AOps.gskip rfl rfl rfl rfl rfl rfl rfl rfl ?_
  refine AOps.gskip rfl rfl rfl rfl rfl rfl rfl rfl ?_
  refine AOps.gskip rfl rfl rfl rfl rfl rfl rfl rfl ?_
  refine AOps.gskip rfl rfl rfl rfl rfl rfl rfl rfl ?_
  refine AOps.gskip rfl rfl rfl rfl rfl rfl rfl rfl ?_
  refine AOps.cons rfl rfl (q_pick) ?_
  refine AOps.cons rfl rfl (q_move) ?_
  refine AOps.gskip rfl rfl rfl rfl rfl rfl rfl rfl ?_
  refine AOps.gskip rfl rfl rfl rfl rfl rfl rfl rfl ?_
  refine AOps.gskip rfl rfl rfl rfl rfl rfl rfl rfl ?_
  refine AOps.cons rfl rfl (q_pick) ?_
  refine AOps.nil ?_
  refine AWp.cond_t rfl ?_
  refine AWp.seq ?_
  refine AWp.region ?_
  refine AOps.cons rfl rfl (q_assign) ?_
  refine AOps.nil ?_
  refine AWp.ret ?_
  show Fin te Try.f11 _ _
  refine q_ret (0) [_] [_] ?_
  exact congrArg tf (canT_1 h1_3).symm
 ·
  refine AOps.cons rfl rfl (q_move) ?_
  refine AOps.gcons rfl rfl rfl rfl rfl (q_fa) ?_
  refine AOps.gcons rfl rfl rfl rfl rfl (q_load) ?_
  refine AOps.gcons rfl rfl rfl rfl rfl (q_len) ?_
  refine AOps.gdec rfl rfl rfl rfl rfl (q_gtr) (fun h1_8 => ?_) (fun h1_8 => ?_)
  ·
   refine AOps.cons rfl rfl (q_pick) ?_
   refine AOps.cons rfl rfl (q_move) ?_
   refine AOps.gskip rfl rfl rfl rfl rfl rfl rfl rfl ?_
   refine AOps.gskip rfl rfl rfl rfl rfl rfl rfl rfl ?_
   refine AOps.gskip rfl rfl rfl rfl rfl rfl rfl rfl ?_
   refine AOps.gskip rfl rfl rfl rfl rfl rfl rfl rfl ?_
   refine AOps.gskip rfl rfl rfl rfl rfl rfl rfl rfl ?_
   refine AOps.gskip rfl rfl rfl rfl rfl rfl rfl rfl ?_
   refine AOps.cons rfl rfl (q_pick) ?_
   refine AOps.cons rfl rfl (q_move) ?_
   refine AOps.gskip rfl rfl rfl rfl rfl rfl rfl rfl ?_
   refine AOps.gskip rfl rfl rfl rfl rfl rfl rfl rfl ?_
   refine AOps.gskip rfl rfl rfl rfl rfl rfl rfl rfl ?_
   refine AOps.cons rfl rfl (q_pick) ?_
   refine AOps.nil ?_
   refine AWp.cond_t rfl ?_
   refine AWp.seq ?_
   refine AWp.region ?_
   refine AOps.cons rfl rfl (q_assign) ?_
   refine AOps.nil ?_
   refine AWp.ret ?_
   show Fin te Try.f11 _ _
   refine q_ret (0) [_] [_] ?_
   exact congrArg tf (canT_2 h1_8).symm
  ·
   refine AOps.cons rfl rfl (q_pick) ?_
   refine AOps.cons rfl rfl (q_move) ?_
   refine AOps.gcons rfl rfl rfl rfl rfl (q_fa) ?_
   refine AOps.gcons rfl rfl rfl rfl rfl (q_load) ?_
   refine AOps.gcons rfl rfl rfl rfl rfl (q_ix) ?_
   refine AOps.gcons rfl rfl rfl rfl rfl (q_fa) ?_
   refine AOps.gcons rfl rfl rfl rfl rfl (q_load) ?_
   refine AOps.gdec rfl rfl rfl rfl rfl (q_sneq) (fun h1_16 => ?_) (fun h1_16 => ?_)
   ·
    refine AOps.cons rfl rfl (q_pick) ?_
    refine AOps.cons rfl rfl (q_move) ?_
    refine AOps.gskip rfl rfl rfl rfl rfl rfl rfl rfl ?_
    refine AOps.gskip rfl rfl rfl rfl rfl rfl rfl rfl ?_
    refine AOps.gskip rfl rfl rfl rfl rfl rfl rfl rfl ?_
    refine AOps.cons rfl rfl (q_pick) ?_
    refine AOps.nil ?_
    refine AWp.cond_t rfl ?_
    refine AWp.seq ?_
    refine AWp.region ?_
    refine AOps.cons rfl rfl (q_assign) ?_
    refine AOps.nil ?_
    refine AWp.ret ?_
    show Fin te Try.f11 _ _
    refine q_ret (0) [_] [_] ?_
    exact congrArg tf (canT_3 h1_16).symm
   ·
    refine AOps.cons rfl rfl (q_pick) ?_
    refine AOps.cons rfl rfl (q_move) ?_
    refine AOps.gcons rfl rfl rfl rfl rfl (q_load) ?_
    refine AOps.gbool rfl rfl rfl rfl rfl (q_call (0) (hc := (c_ciceroneref18_servers t ht))) (fun h1_20 => ?_) (fun h1_20 => ?_)
    ·
     refine AOps.gcons rfl rfl rfl rfl rfl (q_not) ?_
     refine AOps.cons rfl rfl (q_pick) ?_
     refine AOps.nil ?_
     refine AWp.cond_f rfl ?_
     refine AWp.skip ?_
     refine AWp.seq ?_
     refine AWp.region ?_
     refine AOps.cons rfl rfl (q_assign) ?_
     refine AOps.nil ?_
     refine AWp.seq ?_
     refine AWp.seq ?_
     refine AWp.region ?_
     refine AOps.cons rfl rfl (q_fa) ?_
     refine AOps.cons rfl rfl (q_load) ?_
     refine AOps.cons rfl rfl (q_len) ?_
     refine AOps.cons rfl rfl (q_move) ?_
     refine AOps.nil ?_
     refine AWp.block ?_
     refine AWp.loopR (α := Nat) [2, 3, 4, 5, 7, 36, 37, 38, 39, 40, 41, 42, 43, 44, 45, 46, 47, 48, 49, 50, 51, 52, 53, 54, 55, 56, 57, 58, 59, 60, 61, 62, 63, 64, 65] (fun i => [(36, i64 i), (3, i64 (sumT (t.zs.take i)))]) (fun i => []) (fun i => i ≤ t.zs.length ∧ ∀ j, j < i → orgO t j = true) (fun i => t.zs.length - i) 0 ?_ (Back.mk' (HasT.cons (HasT.cons HasT.nil)) HasH.nil) ?_
     ·
      exact ⟨Nat.zero_le _, fun j hj => absurd hj (Nat.not_lt_zero j)⟩
     ·
      rintro i ⟨hi, hc⟩
      have hsi := hsum i
      refine AWp.seq ?_
      refine AWp.region ?_
      refine AOps.dec rfl rfl (q_lss) (fun h5_0 => ?_) (fun h5_0 => ?_)
      ·
       refine AOps.nil ?_
       refine AWp.seq ?_
       refine AWp.cond_t rfl ?_
       refine AWp.skip ?_
       refine AWp.seq ?_
       refine AWp.block ?_
       refine AWp.seq ?_
       refine AWp.region ?_
       have hzi := ht.2.1 _ (getD_mem' (l := t.zs) (i := i) (by omega))
       have hzl := hzi.1
       have hrl : (t.zs.getD i default).rs.length * 64 ≤ 140737488351232 := hzi.2.1.1
       have hrl2 : (t.zs[i]?.getD default).rs.length * 64 ≤ 140737488351232 := by rw [← List.getD_eq_getElem?_getD]; exact hrl
       have hrl3 : (t.zs.getD (i : Int).toNat default).rs.length = (t.zs.getD i default).rs.length := rfl
       refine AOps.cons rfl rfl (q_move) ?_
       refine AOps.cons rfl rfl (q_ix) ?_
       refine AOps.cons rfl rfl (q_load) ?_
       refine AOps.cons rfl rfl (q_alloc 703) ?_
       refine AOps.cons rfl rfl (q_assign) ?_
       refine AOps.cons rfl rfl (q_store) ?_
       refine AOps.nil ?_
       refine AWp.seq ?_
       refine AWp.region ?_
       refine AOps.cons rfl rfl (q_move) ?_
       refine AOps.cons rfl rfl (q_fa) ?_
       refine AOps.cons rfl rfl (q_load) ?_
       refine AOps.cons rfl rfl (q_len) ?_
       refine AOps.cons rfl rfl (q_add) ?_
       refine AOps.cons rfl rfl (q_assign) ?_
       refine AOps.nil ?_
       refine AWp.seq ?_
       refine AWp.seq ?_
       refine AWp.region ?_
       refine AOps.cons rfl rfl (q_fa) ?_
       refine AOps.cons rfl rfl (q_load) ?_
       refine AOps.cons rfl rfl (q_move) ?_
       refine AOps.cons rfl rfl (q_sl) ?_
       refine AOps.cons rfl rfl (q_len) ?_
       refine AOps.cons rfl rfl (q_move) ?_
       refine AOps.nil ?_
       refine AWp.block ?_
       refine AWp.loopR (α := Nat) [2, 7, 51, 52, 53, 54, 55, 56, 57, 58, 59, 60] (fun j => [(51, i64 j)]) (fun j => []) (fun j => j ≤ i ∧ ((t.zs.take j).any fun o => sameN o.o (t.zs.getD i default).o) = false) (fun j => i - j) 0 ?_ (Back.mk' (HasT.cons HasT.nil) HasH.nil) ?_
       ·
        exact ⟨Nat.zero_le _, rfl⟩
       ·
        rintro j ⟨hji, hj⟩
        refine AWp.seq ?_
        refine AWp.region ?_
        refine AOps.dec rfl rfl (q_lss) (fun h9_0 => ?_) (fun h9_0 => ?_)
        ·
         refine AOps.nil ?_
         refine AWp.seq ?_
         refine AWp.cond_t rfl ?_
         refine AWp.skip ?_
         refine AWp.seq ?_
         refine AWp.block ?_
         refine AWp.seq ?_
         refine AWp.region ?_
         have hji2 : j < i := by have := h9_0; simp at this; omega
         have hgj : (t.zs.take i).getD j default = t.zs.getD j default := by rw [List.getD_eq_getElem?_getD, List.getD_eq_getElem?_getD, List.getElem?_take_of_lt hji2]
         have hzj := ht.2.1 _ (getD_mem' (l := t.zs) (i := j) (by omega))
         have hzjl := hzj.1
         rw [← hgj] at hzjl
         refine AOps.cons rfl rfl (q_ix) ?_
         refine AOps.cons rfl rfl (q_load) ?_
         refine AOps.cons rfl rfl (q_alloc 1102) ?_
         refine AOps.cons rfl rfl (q_store) ?_
         refine AOps.nil ?_
         refine AWp.seq ?_
         refine AWp.region ?_
         refine AOps.cons rfl rfl (q_fa) ?_
         refine AOps.cons rfl rfl (q_load) ?_
         refine AOps.cons rfl rfl (q_fa) ?_
         refine AOps.cons rfl rfl (q_load) ?_
         refine AOps.bool rfl rfl (q_call (0) (hc := (c_ciceroneref01_Same ((t.zs.take i).getD j default).o (t.zs.getD i default).o (by omega) (by omega)))) (fun h11_4 => ?_) (fun h11_4 => ?_)
         ·
          refine AOps.nil ?_
          refine AWp.cond_t rfl ?_
          refine AWp.seq ?_
          refine AWp.region ?_
          refine AOps.cons rfl rfl (q_assign) ?_
          refine AOps.nil ?_
          refine AWp.ret ?_
          show Fin te Try.f11 _ _
          refine q_ret (0) [_] [_] ?_
          rw [hgj] at h11_4
          exact congrArg tf (canT_5 (j := i) (by omega) (by rw [orgO, List.any_eq_true.2 ⟨t.zs.getD j default, List.mem_take_iff_getElem.2 ⟨j, by omega, (gd_at (by omega)).symm⟩, h11_4⟩, Bool.not_true, Bool.and_false])).symm
         ·
          refine AOps.nil ?_
          refine AWp.cond_f rfl ?_
          refine AWp.skip ?_
          refine AWp.region ?_
          refine AOps.cons rfl rfl (q_add) ?_
          refine AOps.cons rfl rfl (q_move) ?_
          refine AOps.nil ?_
          refine ⟨j + 1, ?_, Back.mk' (HasT.cons HasT.nil) HasH.nil, ?_⟩
          ·
           exact ⟨by omega, any_no (i := j) (by omega) hj (by rw [hgj] at h11_4; exact h11_4)⟩
          ·
           first | omega | (simp; omega)
        ·
         refine AOps.nil ?_
         refine AWp.seq ?_
         refine AWp.cond_f rfl ?_
         refine AWp.exit ?_
         refine AWp.seq ?_
         refine AWp.region ?_
         refine AOps.cons rfl rfl (q_fa) ?_
         refine AOps.cons rfl rfl (q_load) ?_
         refine AOps.bool rfl rfl (q_call (0) (hc := (c_ciceroneref01_Can (t.zs.getD i default).o (by omega)))) (fun h14_2 => ?_) (fun h14_2 => ?_)
         ·
          refine AOps.cons rfl rfl (q_not) ?_
          refine AOps.nil ?_
          refine AWp.cond_f rfl ?_
          refine AWp.skip ?_
          refine AWp.region ?_
          refine AOps.cons rfl rfl (q_add) ?_
          refine AOps.cons rfl rfl (q_move) ?_
          refine AOps.nil ?_
          obtain rfl : i = j := by have := h9_0; simp at this; omega
          refine ⟨i + 1, ?_, Back.mk' (HasT.cons (HasT.cons HasT.nil (h1 := by exact i64_eq (by rw [sum_step (by omega)]; omega)) )) HasH.nil, ?_⟩
          ·
           exact ⟨by omega, lt_step hc (by rw [orgO, h14_2, hj]; rfl)⟩
          ·
           first | omega | (simp; omega)
         ·
          refine AOps.cons rfl rfl (q_not) ?_
          refine AOps.nil ?_
          refine AWp.cond_t rfl ?_
          refine AWp.seq ?_
          refine AWp.region ?_
          refine AOps.cons rfl rfl (q_assign) ?_
          refine AOps.nil ?_
          refine AWp.ret ?_
          show Fin te Try.f11 _ _
          refine q_ret (0) [_] [_] ?_
          exact congrArg tf (canT_5 (j := i) (by omega) (by rw [orgO, h14_2]; rfl)).symm
      ·
       refine AOps.nil ?_
       refine AWp.seq ?_
       refine AWp.cond_f rfl ?_
       refine AWp.exit ?_
       refine AWp.seq ?_
       refine AWp.seq ?_
       refine AWp.region ?_
       obtain rfl : i = t.zs.length := by omega
       rw [List.take_length]
       refine AOps.cons rfl rfl (q_move) ?_
       refine AOps.dec rfl rfl (q_gtr) (fun h17_1 => ?_) (fun h17_1 => ?_)
       ·
        refine AOps.nil ?_
        refine AWp.cond_t rfl ?_
        refine AWp.seq ?_
        refine AWp.region ?_
        refine AOps.cons rfl rfl (q_assign) ?_
        refine AOps.nil ?_
        refine AWp.ret ?_
        show Fin te Try.f11 _ _
        refine q_ret (0) [_] [_] ?_
        exact congrArg tf (canT_6 h17_1).symm
       ·
        refine AOps.nil ?_
        refine AWp.cond_f rfl ?_
        refine AWp.skip ?_
        refine AWp.seq ?_
        refine AWp.seq ?_
        refine AWp.region ?_
        refine AOps.cons rfl rfl (q_fa) ?_
        refine AOps.cons rfl rfl (q_load) ?_
        refine AOps.cons rfl rfl (q_len) ?_
        refine AOps.cons rfl rfl (q_move) ?_
        refine AOps.nil ?_
        refine AWp.block ?_
        refine AWp.loopR (α := Nat) [2, 8, 9, 71, 72, 73, 74, 75, 76, 77, 78, 79, 80, 81, 82, 83, 84, 85, 86, 87, 88, 89, 90] (fun i => [(71, i64 i)]) (fun i => []) (fun i => i ≤ t.zs.length ∧ ∀ j, j < i → zonO t j = true) (fun i => t.zs.length - i) 0 ?_ (Back.mk' (HasT.cons HasT.nil) HasH.nil) ?_
        ·
         exact ⟨Nat.zero_le _, fun j hj => absurd hj (Nat.not_lt_zero j)⟩
        ·
         rintro i ⟨hi, hz⟩
         refine AWp.seq ?_
         refine AWp.region ?_
         refine AOps.dec rfl rfl (q_lss) (fun h20_0 => ?_) (fun h20_0 => ?_)
         ·
          refine AOps.nil ?_
          refine AWp.seq ?_
          refine AWp.cond_t rfl ?_
          refine AWp.skip ?_
          refine AWp.seq ?_
          refine AWp.block ?_
          refine AWp.seq ?_
          refine AWp.region ?_
          have hzi := ht.2.1 _ (getD_mem' (l := t.zs) (i := i) (by omega))
          have hzl := hzi.1
          refine AOps.cons rfl rfl (q_move) ?_
          refine AOps.cons rfl rfl (q_ix) ?_
          refine AOps.cons rfl rfl (q_load) ?_
          refine AOps.cons rfl rfl (q_alloc 2203) ?_
          refine AOps.cons rfl rfl (q_assign) ?_
          refine AOps.cons rfl rfl (q_store) ?_
          refine AOps.nil ?_
          refine AWp.seq ?_
          refine AWp.region ?_
          refine AOps.cons rfl rfl (q_load) ?_
          refine AOps.bool rfl rfl (q_call (0) (hc := (c_ciceroneref18_records (t.zs.getD i default) hzi))) (fun h22_1 => ?_) (fun h22_1 => ?_)
          ·
           refine AOps.cons rfl rfl (q_not) ?_
           refine AOps.cons rfl rfl (q_move) ?_
           refine AOps.gcons rfl rfl rfl rfl rfl (q_load) ?_
           refine AOps.gbool rfl rfl rfl rfl rfl (q_call (0) (hc := (c_ciceroneref18_alone (t.zs.getD i default) hzi))) (fun h22_5 => ?_) (fun h22_5 => ?_)
           ·
            refine AOps.gcons rfl rfl rfl rfl rfl (q_not) ?_
            refine AOps.cons rfl rfl (q_pick) ?_
            refine AOps.cons rfl rfl (q_move) ?_
            refine AOps.gcons rfl rfl rfl rfl rfl (q_load) ?_
            refine AOps.gcons rfl rfl rfl rfl rfl (q_move) ?_
            refine AOps.gbool rfl rfl rfl rfl rfl (q_call (0) (hc := (c_ciceroneref18_delegated t i ht ⟨by omega, by omega⟩))) (fun h22_11 => ?_) (fun h22_11 => ?_)
            ·
             refine AOps.gcons rfl rfl rfl rfl rfl (q_not) ?_
             refine AOps.cons rfl rfl (q_pick) ?_
             refine AOps.nil ?_
             refine AWp.cond_f rfl ?_
             refine AWp.skip ?_
             refine AWp.region ?_
             refine AOps.cons rfl rfl (q_add) ?_
             refine AOps.cons rfl rfl (q_move) ?_
             refine AOps.nil ?_
             refine ⟨i + 1, ?_, Back.mk' (HasT.cons HasT.nil) HasH.nil, ?_⟩
             ·
              exact ⟨by omega, lt_step hz (by rw [zonO_eq, h22_1, h22_5, h22_11]; rfl)⟩
             ·
              first | omega | (simp; omega)
            ·
             refine AOps.gcons rfl rfl rfl rfl rfl (q_not) ?_
             refine AOps.cons rfl rfl (q_pick) ?_
             refine AOps.nil ?_
             refine AWp.cond_t rfl ?_
             refine AWp.seq ?_
             refine AWp.region ?_
             refine AOps.cons rfl rfl (q_assign) ?_
             refine AOps.nil ?_
             refine AWp.ret ?_
             show Fin te Try.f11 _ _
             refine q_ret (0) [_] [_] ?_
             exact congrArg tf (canT_7 (j := i) (by omega) (by rw [zonO_eq, h22_11, Bool.and_false])).symm
           ·
            refine AOps.gcons rfl rfl rfl rfl rfl (q_not) ?_
            refine AOps.cons rfl rfl (q_pick) ?_
            refine AOps.cons rfl rfl (q_move) ?_
            refine AOps.gskip rfl rfl rfl rfl rfl rfl rfl rfl ?_
            refine AOps.gskip rfl rfl rfl rfl rfl rfl rfl rfl ?_
            refine AOps.gskip rfl rfl rfl rfl rfl rfl rfl rfl ?_
            refine AOps.gskip rfl rfl rfl rfl rfl rfl rfl rfl ?_
            refine AOps.cons rfl rfl (q_pick) ?_
            refine AOps.nil ?_
            refine AWp.cond_t rfl ?_
            refine AWp.seq ?_
            refine AWp.region ?_
            refine AOps.cons rfl rfl (q_assign) ?_
            refine AOps.nil ?_
            refine AWp.ret ?_
            show Fin te Try.f11 _ _
            refine q_ret (0) [_] [_] ?_
            exact congrArg tf (canT_7 (j := i) (by omega) (by rw [zonO_eq, h22_5, Bool.and_false]; rfl)).symm
          ·
           refine AOps.cons rfl rfl (q_not) ?_
           refine AOps.cons rfl rfl (q_move) ?_
           refine AOps.gskip rfl rfl rfl rfl rfl rfl rfl rfl ?_
           refine AOps.gskip rfl rfl rfl rfl rfl rfl rfl rfl ?_
           refine AOps.gskip rfl rfl rfl rfl rfl rfl rfl rfl ?_
           refine AOps.cons rfl rfl (q_pick) ?_
           refine AOps.cons rfl rfl (q_move) ?_
           refine AOps.gskip rfl rfl rfl rfl rfl rfl rfl rfl ?_
           refine AOps.gskip rfl rfl rfl rfl rfl rfl rfl rfl ?_
           refine AOps.gskip rfl rfl rfl rfl rfl rfl rfl rfl ?_
           refine AOps.gskip rfl rfl rfl rfl rfl rfl rfl rfl ?_
           refine AOps.cons rfl rfl (q_pick) ?_
           refine AOps.nil ?_
           refine AWp.cond_t rfl ?_
           refine AWp.seq ?_
           refine AWp.region ?_
           refine AOps.cons rfl rfl (q_assign) ?_
           refine AOps.nil ?_
           refine AWp.ret ?_
           show Fin te Try.f11 _ _
           refine q_ret (0) [_] [_] ?_
           exact congrArg tf (canT_7 (j := i) (by omega) (by rw [zonO_eq, h22_1]; rfl)).symm
         ·
          refine AOps.nil ?_
          refine AWp.seq ?_
          refine AWp.cond_f rfl ?_
          refine AWp.exit ?_
          refine AWp.seq ?_
          refine AWp.region ?_
          refine AOps.cons rfl rfl (q_assign) ?_
          refine AOps.nil ?_
          refine AWp.ret ?_
          show Fin te Try.f11 _ _
          refine q_ret (0) [_] [_] ?_
          obtain rfl : i = t.zs.length := by omega
          exact congrArg tf (canT_yes h1_3 h1_8 h1_16 h1_20 hc h17_1 hz).symm
    ·
     refine AOps.gcons rfl rfl rfl rfl rfl (q_not) ?_
     refine AOps.cons rfl rfl (q_pick) ?_
     refine AOps.nil ?_
     refine AWp.cond_t rfl ?_
     refine AWp.seq ?_
     refine AWp.region ?_
     refine AOps.cons rfl rfl (q_assign) ?_
     refine AOps.nil ?_
     refine AWp.ret ?_
     show Fin te Try.f11 _ _
     refine q_ret (0) [_] [_] ?_
     exact congrArg tf (canT_4 h1_20).symm
end Go.Proofs.Ytokccoloholgaaa.Fw


set_option linter.unusedVariables false
set_option linter.unusedSimpArgs false
namespace Go.Proofs.Ytokccoloholgaaa.Fw
open Go.RowKit
def Nm (ls : List (List UInt8)) : Prop := GoodN ls ∧ (joinN ls).length ≤ 255
theorem can_nm {n : List UInt8} (h : canN n = true) : ∃ ls, Nm ls ∧ n = joinN ls := by
  obtain ⟨ls, g, e, hl⟩ := canN_iff.1 h
  exact ⟨ls, ⟨g, hl⟩, e⟩
theorem Nm.can {ls : List (List UInt8)} (h : Nm ls) : canN (joinN ls) = true := can_join h.1 h.2
theorem Nm.lab {ls : List (List UInt8)} (h : Nm ls) : labN (joinN ls) = ls := labN_join h.1 h.2
theorem Nm.low {ls : List (List UInt8)} (h : Nm ls) : Nm (lowL ls) := ⟨h.1.low, by rw [low_length h.1]; exact h.2⟩
theorem Nm.lowN {ls : List (List UInt8)} (h : Nm ls) : lowN (joinN ls) = joinN (lowL ls) := lowN_join h.1 h.2
theorem Nm.cnt {ls : List (List UInt8)} (h : Nm ls) : cntN (joinN ls) = ls.length := by rw [cntN, h.lab]
theorem Nm.drop {ls : List (List UInt8)} (h : Nm ls) (j : Nat) : Nm (ls.drop j) := by
  refine ⟨fun x hx => h.1 x (List.mem_of_mem_drop hx), ?_⟩
  have h2 := h.2
  induction j generalizing ls with
  | zero => exact h.2
  | succ j ih =>
    cases ls with
    | nil => simpa using h.2
    | cons l ls =>
      have := joinN_le (l := l) (ls := ls)
      exact ih (ls := ls) ⟨h.1.tail, by omega⟩ (by omega)
theorem Nm.inj {a b : List (List UInt8)} (ha : Nm a) (hb : Nm b) : joinN a = joinN b ↔ a = b := ⟨joinN_inj ha.1 hb.1, fun e => by rw [e]⟩
theorem lowL_length (ls : List (List UInt8)) : (lowL ls).length = ls.length := by simp [lowL]
theorem Nm.same {a b : List (List UInt8)} (ha : Nm a) (hb : Nm b) : sameN (joinN a) (joinN b) = decide (lowL a = lowL b) := by
  rw [sameN, ha.can, hb.can, ha.lowN, hb.lowN, decide_eq_decide.2 (ha.low.inj hb.low)]
  rfl
theorem Nm.tail {a : List (List UInt8)} (ha : Nm a) (k : Int) : tailN (joinN a) k = joinN (a.drop (a.length - min (max k 0).toNat a.length)) := by
  rw [tailN, if_pos ha.can, ha.lab]
theorem lowL_drop (ls : List (List UInt8)) (j : Nat) : lowL (ls.drop j) = (lowL ls).drop j := by simp [lowL, List.map_drop]
theorem Nm.within {a b : List (List UInt8)} (ha : Nm a) (hb : Nm b) : withN (joinN a) (joinN b) = true ↔ lowL b <:+ lowL a := by
  rw [withN, ha.can, hb.can, ha.cnt, hb.cnt, ha.tail, (ha.drop _).same hb, lowL_drop]
  simp only [Bool.true_and, Bool.and_eq_true, decide_eq_true_eq]
  rw [List.suffix_iff_eq_drop, lowL_length, lowL_length]
  constructor
  · rintro ⟨h1, h2⟩
    rw [← h2]
    congr 1
    omega
  · intro h
    have h3 := congrArg List.length h
    rw [List.length_drop, lowL_length, lowL_length] at h3
    refine ⟨by omega, ?_⟩
    conv => rhs; rw [h]
    congr 1
    omega
theorem Nm.par {a : List (List UInt8)} (ha : Nm a) : parS (joinN a) = (if a = [] then [] else joinN (a.drop 1)) ∧ hasP (joinN a) = decide (a ≠ []) := by
  have h : hasP (joinN a) = decide (a ≠ []) := by rw [hasP, ha.lab]
  refine ⟨?_, h⟩
  rw [parS, h, parN, ha.lab]
  by_cases e : a = [] <;> simp [e]
theorem nm_root : Nm [] := ⟨GoodN.nil, by decide⟩
theorem canR_name {t : Int} {d : List UInt8} (h : t = 2 ∨ t = 5 ∨ t = 12) (hd : d.length ≤ 65535) : canR t d = canN d := by
  rw [canR, if_neg (by omega), if_neg (by omega), if_neg (by omega), if_pos h]
section
variable {t : Tr}
theorem canT_parts (h : canT t = true) : 1 ≤ t.zs.length ∧ t.zs.length ≤ 20 ∧ (t.zs.getD 0 default).o = [0] ∧ srvT t = true ∧ (∀ j, j < t.zs.length → orgO t j = true) ∧ sumT t.zs ≤ 400 ∧ ∀ j, j < t.zs.length → zonO t j = true := by
  unfold canT at h
  simp only [Bool.and_eq_true, decide_eq_true_eq, range_all_iff] at h
  obtain ⟨⟨⟨⟨⟨⟨h1, h2⟩, h3⟩, h4⟩, h5⟩, h6⟩, h7⟩ := h
  exact ⟨h1, h2, h3, h4, h5, h6, h7⟩
theorem canT_in (h : canT t = true) {z : Zo} (hz : z ∈ t.zs) {r : Rr} (hr : r ∈ z.rs) : inZ z r = true := by
  obtain ⟨_, _, _, _, _, _, h7⟩ := canT_parts h
  obtain ⟨i, hi, rfl⟩ := List.getElem_of_mem hz
  have h1 := h7 i hi
  unfold zonO at h1
  simp only [Bool.and_eq_true] at h1
  rw [gd_at hi] at h1
  exact List.all_eq_true.1 h1.1.1.1 r hr
theorem inZ_base' {z : Zo} {r : Rr} (h : inZ z r = true) : baseO z r = true ∧ restO z r = true := by
  unfold inZ recO at h
  simp only [Bool.and_eq_true] at h
  exact h.1
theorem base_can {z : Zo} {r : Rr} (h : baseO z r = true) : canN r.nm = true ∧ withN r.nm z.o = true ∧ canS r.ty r.da = true := by
  unfold baseO at h
  simp only [Bool.and_eq_true] at h
  exact ⟨(withN_can h.1.1.1.1.1.1).1, h.1.1.1.1.1.1, h.2⟩
theorem data_can {z : Zo} {r : Rr} (h : inZ z r = true) (ht : r.ty = 2 ∨ r.ty = 5) : canN r.da = true := by
  have h1 := (base_can (inZ_base' h).1).2.2
  have hl : r.da.length ≤ 65535 := by
    rw [canS_ne (by omega)] at h1
    unfold canR at h1; split at h1
    · cases h1
    · omega
  rw [canS_ne (by omega), canR_name (by omega) hl] at h1
  exact h1
theorem at_mem {z : Zo} {n : List UInt8} {ty : Int} {r : Rr} (h : r ∈ atZ z n ty) : r ∈ z.rs ∧ r.ty = ty ∧ sameN r.nm n = true := by
  obtain ⟨h1, h2⟩ := List.mem_filter.1 h
  unfold atP at h2
  simp only [Bool.and_eq_true, decide_eq_true_eq] at h2
  exact ⟨h1, h2.1, h2.2⟩
theorem sum_mem {l : List Zo} {z : Zo} (h : z ∈ l) : z.rs.length ≤ sumT l := by
  induction l with
  | nil => cases h
  | cons a l ih =>
    have e : sumT (a :: l) = a.rs.length + sumT l := by simp [sumT]
    rw [e]
    rcases List.mem_cons.1 h with rfl | h
    · omega
    · have := ih h; omega
theorem at_small (h : canT t = true) {z : Zo} (hz : z ∈ t.zs) (n : List UInt8) (ty : Int) : (atZ z n ty).length ≤ 400 := by
  have h1 := List.length_filter_le (atP n ty) z.rs
  have h2 := sum_mem hz
  have h3 := (canT_parts h).2.2.2.2.2.1
  unfold atZ; omega
theorem near_ge {p : Zo → Bool} : ∀ {w : List Int} {b : Int}, (∀ i ∈ w, 0 ≤ i) → 0 ≤ b → 0 ≤ w.foldl (nearS t p) b
  | [], b, _, hb => hb
  | i :: w, b, h, hb => by
    rw [List.foldl_cons]
    refine near_ge (fun j hj => h j (by simp [hj])) ?_
    have := h i (by simp)
    unfold nearS
    split <;> assumption
theorem near_pos {p : Zo → Bool} : ∀ {w : List Int} {b : Int}, (∀ i ∈ w, 0 ≤ i) → (∃ i ∈ w, p (zAt t i) = true) → 0 ≤ w.foldl (nearS t p) b
  | [], b, _, h => by obtain ⟨i, h, _⟩ := h; cases h
  | i :: w, b, hw, h => by
    rw [List.foldl_cons]
    by_cases hb : 0 ≤ nearS t p b i
    · exact near_ge (fun j hj => hw j (by simp [hj])) hb
    · obtain ⟨j, hj, hp⟩ := h
      rcases List.mem_cons.1 hj with rfl | hj
      · exfalso
        apply hb
        have hj0 := hw j (by simp)
        unfold nearS
        rw [hp]
        by_cases hb2 : b < 0
        · rw [decide_eq_true (mostT_neg hb2 _)]; exact hj0
        · split <;> omega
      · exact near_pos (fun j hj => hw j (by simp [hj])) ⟨j, hj, hp⟩
theorem root_with {n : List UInt8} (h : canN n = true) : withN n [0] = true := by
  obtain ⟨ls, a, rfl⟩ := can_nm h
  exact (a.within nm_root).2 List.nil_suffix
end
section
variable {t : Tr} {q : Qu}
end
theorem canN_le2 {n : List UInt8} (h : canN n = true) : n.length ≤ 255 := by
  obtain ⟨ls, a, rfl⟩ := can_nm h
  exact a.2
end Go.Proofs.Ytokccoloholgaaa.Fw


set_option linter.unusedVariables false
set_option linter.unusedSimpArgs false
set_option linter.unusedSectionVars false
namespace Go.Proofs.Ytokccoloholgaaa.Fw
open Go.RowKit
section rules
variable {n : Nat} {s : AS} {d : Option Tmp} {Q : APost}
theorem AOps.bsconv (id : Nat) (xs : List UInt8) (vals : List (Nat × AV)) {ops : Array Oper} {i j : Nat} {rest : List Nat} {o1 o2 : Oper} {t e : TypeId} {m : Nat} {parts : Array (Nat × Operand)} {ti tj : TI} {cs : List AV} {d1 : Tmp} {d2 : Option Tmp}
    (h1 : ops[i]? = some o1) (g1 : o1.guard = none) (h2 : ops[j]? = some o2) (g2 : o2.guard = none)
    (hr : AOps Try.prog n ops Q rest (((s.seth id (some (.row (cl bc xs) 1 0))).put (some d1) (.sl id 0 0 xs.length 1)).put d2 (.sl id 0 0 xs.length 1)))
    (ho : o1.op = .buildSlice t m parts := by exact rfl) (hv : EvL s parts.toList vals := by repeat' (first | exact trivial | refine ⟨rfl, ?_, ?_⟩ | (conv => lhs; whnf))) (ht : te.get t = some ti := by exact rfl) (hk : ti.k = .slice e := by exact rfl) (he : te.get e = some tj := by exact rfl) (hu8 : tj.k = .int .u8 := by exact rfl)
    (hsz : tj.size = 1 := by exact rfl) (hid : s.h id = none := by exact rfl) (hcs : fillAV (arrPlace tj.size) (repZ tj.zero m) vals = some cs := by exact rfl) (hc' : cs = cl bc xs := by exact rfl)
    (hz : Nat.beq tj.zero.length tj.size = true := by exact rfl) (hsm : Nat.ble (m * tj.size) 1000 = true := by exact rfl) (hm : m = xs.length := by exact rfl) (hd1 : o1.dst = some d1 := by conv => lhs; whnf) (hdn : Nat.blt d1 n = true := by exact rfl)
    (ho2 : o2.op = .convert t t (.tmp d1) := by exact rfl) (hd2 : o2.dst = d2 := by conv => lhs; whnf) (hdn2 : d2.all (Nat.blt · n) = true := by exact rfl) : AOps Try.prog n ops Q (i :: j :: rest) s := by
  subst hm; subst hd2
  intro Λ w φ a hs QQ hQ
  have hu := (te_ok.tells ht).slice hk
  obtain ⟨z, z1, z2, _⟩ := (te_ok.tells he).run_zero w
  obtain ⟨q1, q2⟩ := parts_rep hs parts
  rw [hv.eq] at q1 q2
  have hzl := Nat.eq_of_beq_eq_true hz
  have hle := Nat.le_of_ble_eq_true hsm
  have hsmall : ¬ (xs.length * tj.size > 2 ^ 24) := by omega
  have hzero : ∃ zc : Array Value, ((if xs.length * tj.size = 0 then pure #[] else do pure (← zeroValue e).cells : Sem (Array Value)).run Try.prog w = .ok zc w) ∧ ListRep w φ Λ ((Array.range (xs.length * tj.size)).map (zc[· % zc.size]!)) (repZ tj.zero xs.length) := by
    by_cases h0 : xs.length * tj.size = 0
    · refine ⟨#[], by rw [if_pos h0]; rfl, ?_⟩
      have hn : repZ tj.zero xs.length = [] := List.eq_nil_of_length_eq_zero (by rw [repZ_length, hzl, h0])
      rw [hn, h0]
      exact ⟨by simp, fun j c hj => by simp at hj⟩
    · refine ⟨z.cells, by rw [if_neg h0]; simp [z1], ?_⟩
      exact zeros_many z2 xs.length _ (by rw [hzl])
  obtain ⟨zc, zc1, zc2⟩ := hzero
  obtain ⟨arr', r1, r2, r3⟩ := fill_rep zc2 q1 q2 hcs
  have hrun : (Instr.buildSlice t xs.length (parts.map fun (i, x) => (i, a.eval x))).run Try.prog w = .ok (.slice (some ⟨w.heap.size, 0, none⟩) xs.length xs.length) (w.alloc (.cells arr' e)) := by
    have r1' : Instr.fill (fun i => some (i * tj.size, tj.size)) ((Array.range (xs.length * tj.size)).map (zc[· % zc.size]!)) (parts.map fun (i, x) => (i, a.eval x)).toList = some arr' := r1
    by_cases h0 : xs.length * tj.size = 0
    · rw [if_pos h0] at zc1
      simp only [Sem.run_pure, Result.ok.injEq, and_true] at zc1
      subst zc1
      simp only [Instr.buildSlice, Sem.run_bind, run_underlying hu, Result.andThen_ok, (te_ok.tells he).run_sizeOf, hsmall, if_false]
      rw [if_pos h0]
      simp only [Sem.run_bind, Sem.run_pure, Result.andThen_ok, r1', newRow, run_newObj]
      rfl
    · rw [if_neg h0] at zc1
      simp only [Sem.run_bind, z1, Result.andThen_ok, Sem.run_pure, Result.ok.injEq, and_true] at zc1
      subst zc1
      simp only [Instr.buildSlice, Sem.run_bind, run_underlying hu, Result.andThen_ok, (te_ok.tells he).run_sizeOf, hsmall, if_false]
      rw [if_neg h0]
      simp only [Sem.run_bind, Sem.run_pure, Result.andThen_ok, z1, r1', newRow, run_newObj]
      rfl
  have hcl : cs.length = xs.length := by rw [hc', cl_length (f := bc) (e := 1) (fun _ => rfl), Nat.mul_one]
  have hal : arr'.size = cs.length := r2.symm ▸ rfl
  obtain ⟨W, hW⟩ : ∃ W, W = w.alloc (.cells arr' e (arr'.size, arr'.size + 1)) := ⟨_, rfl⟩
  have hconv := Go.Lib.run_convert_bytes_const (P := Try.prog) w t e arr' xs.length xs.length hu ((te_ok.tells he).int hu8)
  rw [← hW] at hconv
  have hc : Chg w φ Λ s.h id ⟨some (w.heap.size, 0), 0⟩ W := hW ▸ Chg.alloc hs.hs hid (.cells arr' e (arr'.size, arr'.size + 1)) 0 0
  have hnew : W.heap[w.heap.size]? = some (.cells arr' e (arr'.size, arr'.size + 1)) := by rw [hW]; exact heap_alloc_new w _
  have hob : ObjRep W (upd φ id (some ⟨some (w.heap.size, 0), 0⟩)) Λ (.row (cl bc xs) 1 0) ⟨some (w.heap.size, 0), 0⟩ :=
    ⟨rfl, .inr ⟨w.heap.size, 0, arr', e, _, _, rfl, hnew, .inl (Nat.le_refl _), by rw [← hc', hal]; omega, fun j c hj => by
      rw [← hc'] at hj
      obtain ⟨y, y1, y2⟩ := r3 j c hj
      exact ⟨y, y1, hc.rep y2⟩⟩⟩
  have hs1 : Sim n W (upd φ id (some ⟨some (w.heap.size, 0), 0⟩)) Λ (s.seth id (some (.row (cl bc xs) 1 0))) a := ⟨hs.defs, hs.size, fun i => hc.rep (hs.tmps i), hc.hsim hob⟩
  have hv1 : Rep W (upd φ id (some ⟨some (w.heap.size, 0), 0⟩)) Λ (.sl id 0 0 xs.length 1) (.slice (some ⟨w.heap.size, 0, none⟩) xs.length xs.length) :=
    Rep.sl (off := 0) (upd_same _ _ _) rfl rfl hnew (by omega) (Nat.le_refl _)
  have hs2 := (hs1.put (some d1) (by simpa using hdn) hv1).put o2.dst hdn2 hv1
  have hev : (a.put (some d1) (.slice (some ⟨w.heap.size, 0, none⟩) xs.length xs.length)).eval (.tmp d1) = .slice (some ⟨w.heap.size, 0, none⟩) xs.length xs.length := by
    have hd' : d1 < n := Nat.blt_eq.mp hdn
    simp [Act.put, Act.eval, Array.getD, hs.size, hd']
  simp only [wpOps, h1, h2, Region.wanted, g1, g2, if_true]
  refine .inl ?_
  unfold Oper.wp
  rw [show (execOp a.eval o1).run Try.prog w = .ok (.value (.slice (some ⟨w.heap.size, 0, none⟩) xs.length xs.length)) (w.alloc (.cells arr' e)) by simp [execOp, ho, hrun]]
  refine .inl ?_
  rw [hd1]
  rw [show (execOp (a.put (some d1) (.slice (some ⟨w.heap.size, 0, none⟩) xs.length xs.length)).eval o2).run Try.prog (w.alloc (.cells arr' e)) = .ok (.value (.slice (some ⟨w.heap.size, 0, none⟩) xs.length xs.length)) W by
    simp only [execOp, ho2, hev, Sem.run_bind, hconv, Result.andThen_ok, Sem.run_pure]]
  exact hr Λ W _ _ hs2 QQ fun ae s3 w3 φ3 a3 q3 hs3 g3 => hQ ae s3 w3 φ3 a3 q3 hs3 (hc.goes.trans g3)
end rules
end Go.Proofs.Ytokccoloholgaaa.Fw


set_option linter.unusedVariables false
set_option linter.unusedSimpArgs false
namespace Go.Proofs.Ytokccoloholgaaa.Fw
open Go.RowKit
def soaS : List UInt8 := List.replicate 22 0
def smR1 : Rr := ⟨[0], 6, 1, 100, soaS⟩
def smR2 : Rr := ⟨[0], 2, 1, 100, [1, 97, 0]⟩
def smR3 : Rr := ⟨[1, 97, 0], 1, 1, 100, [0, 0, 0, 1]⟩
def smT : Tr := ⟨[⟨[0], [smR1, smR2, smR3]⟩], [⟨1, [0]⟩]⟩
theorem smT_ok : TrOk smT := by
  refine ⟨by decide, fun z hz => ?_, by decide, fun s hs => ?_⟩
  · simp only [smT, List.mem_singleton] at hz
    subst hz
    refine ⟨by decide, ⟨by decide, fun r hr => ?_⟩, fun r hr => ?_⟩
    · simp only [List.mem_cons, List.not_mem_nil, or_false] at hr
      rcases hr with rfl | rfl | rfl <;> decide
    · simp only [List.mem_cons, List.not_mem_nil, or_false] at hr
      rcases hr with rfl | rfl | rfl <;> decide
  · simp only [smT, List.mem_singleton] at hs
    subst hs; decide
theorem smT_can : canT smT = true := by decide +kernel
set_option maxRecDepth 20000 in
set_option maxHeartbeats 2000000 in
theorem c_ciceronelaw18_Small  : AC Try.prog 15 [] emp (Ret (.agg (trC smT))) := by
 refine AC.intro te_ok (fn := Try.f15) ⟨Try.func15, rfl, rfl⟩ (Nat.le_of_ble_eq_true rfl) ?_
 refine AWp.seq ?_
 refine AWp.region ?_
 refine AOps.cons rfl rfl (q_alloc 100) ?_
 refine AOps.nil ?_
 refine AWp.seq ?_
 refine AWp.region ?_
 refine AOps.cons rfl rfl (q_make 200 bc 0 20 (hb := by simp)) ?_
 refine AOps.cons rfl rfl (q_conv_ls) ?_
 refine AOps.cons rfl rfl (q_sadd (h := by simp)) ?_
 refine AOps.cons rfl rfl (q_assign) ?_
 refine AOps.nil ?_
 refine AWp.seq ?_
 refine AWp.region ?_
 refine AOps.weak (Weak.full 0 [] (t := [(0, .ptr 100 0 0), (1, str soaS)]) (hl := [(100, .box [.v (.slice none 0 0), .v (.slice none 0 0)])])) ?_
 refine AOps.cons rfl rfl (q_move) ?_
 refine AOps.cons rfl rfl (q_conv_sl 301) ?_
 refine AOps.weak (Weak.full 0 [] (t := [(0, .ptr 100 0 0), (6, .fz 0 soaS.length (cl bc soaS))]) (hl := [(100, .box [.v (.slice none 0 0), .v (.slice none 0 0)])])) ?_
 refine AOps.cons rfl rfl (q_build [(_, _), (_, _), (_, _), (_, _), (_, _)]) ?_
 refine AOps.bsconv 303 [1, 97, 0] [(_, _), (_, _), (_, _)] rfl rfl rfl rfl ?_
 refine AOps.weak (Weak.full 0 [] (t := [(0, .ptr 100 0 0), (7, .agg (rrc smR1)), (9, .fz 0 ([1, 97, 0] : List UInt8).length (cl bc [1, 97, 0]))]) (hl := [(100, .box [.v (.slice none 0 0), .v (.slice none 0 0)])])) ?_
 refine AOps.cons rfl rfl (q_build [(_, _), (_, _), (_, _), (_, _), (_, _)]) ?_
 refine AOps.cons rfl rfl (q_bs 306 bc [0, 0, 0, 1] [(_, _), (_, _), (_, _), (_, _)]) ?_
 refine AOps.weak (Weak.full 0 [] (t := [(0, .ptr 100 0 0), (7, .agg (rrc smR1)), (10, .agg (rrc smR2)), (11, .fz 0 ([0, 0, 0, 1] : List UInt8).length (cl bc [0, 0, 0, 1]))]) (hl := [(100, .box [.v (.slice none 0 0), .v (.slice none 0 0)])])) ?_
 refine AOps.cons rfl rfl (q_build [(_, _), (_, _), (_, _), (_, _), (_, _)]) ?_
 refine AOps.cons rfl rfl (q_bs 308 rrc [smR1, smR2, smR3] [(_, _), (_, _), (_, _)]) ?_
 refine AOps.weak (Weak.full 0 [] (t := [(0, .ptr 100 0 0), (13, .fz 0 [smR1, smR2, smR3].length (cl rrc [smR1, smR2, smR3]))]) (hl := [(100, .box [.v (.slice none 0 0), .v (.slice none 0 0)])])) ?_
 refine AOps.cons rfl rfl (q_build [(_, _), (_, _)]) ?_
 refine AOps.cons rfl rfl (q_bs 310 zoC [⟨[0], [smR1, smR2, smR3]⟩] [(_, _)]) ?_
 refine AOps.weak (Weak.full 0 [] (t := [(0, .ptr 100 0 0), (15, .fz 0 smT.zs.length (cl zoC smT.zs))]) (hl := [(100, .box [.v (.slice none 0 0), .v (.slice none 0 0)])])) ?_
 refine AOps.cons rfl rfl (q_bs 311 ic [0] [(_, _)]) ?_
 refine AOps.weak (Weak.full 0 [] (t := [(0, .ptr 100 0 0), (15, .fz 0 smT.zs.length (cl zoC smT.zs)), (16, .fz 0 ([0] : List Int).length (cl ic [0]))]) (hl := [(100, .box [.v (.slice none 0 0), .v (.slice none 0 0)])])) ?_
 refine AOps.cons rfl rfl (q_build [(_, _), (_, _)]) ?_
 refine AOps.cons rfl rfl (q_bs 313 svC [⟨1, [0]⟩] [(_, _)]) ?_
 refine AOps.weak (Weak.full 0 [] (t := [(0, .ptr 100 0 0), (15, .fz 0 smT.zs.length (cl zoC smT.zs)), (18, .fz 0 smT.ss.length (cl svC smT.ss))]) (hl := [(100, .box [.v (.slice none 0 0), .v (.slice none 0 0)])])) ?_
 refine AOps.cons rfl rfl (q_build [(_, _), (_, _)]) ?_
 refine AOps.cons rfl rfl (q_store) ?_
 refine AOps.nil ?_
 refine AWp.ret ?_
 show Fin te Try.f15 _ _
 refine q_ret (0) [_] [_] ?_
 rfl
end Go.Proofs.Ytokccoloholgaaa.Fw


set_option linter.unusedVariables false
set_option linter.unusedSimpArgs false
namespace Go.Proofs.Ytokccoloholgaaa.Fw
open Go.RowKit
def fstO (l : List Rr) (i : Nat) : Bool := !((l.take i).any fun o => decide (lowN o.da = lowN (l.getD i default).da))
def nmF (g : List UInt8 → List Rr) (l : List Rr) (k : Nat) : List Rr := ((List.range k).filter (fstO l)).flatMap fun i => g (l.getD i default).da
def nmK (l : List Rr) (k : Nat) : Nat := ((List.range k).filter (fstO l)).length
theorem nmF_step {g : List UInt8 → List Rr} {l : List Rr} {k : Nat} : nmF g l (k + 1) = nmF g l k ++ (if fstO l k then g (l.getD k default).da else []) := by
  rw [nmF, List.range_succ, List.filter_append, List.flatMap_append]
  congr 1
  cases h : fstO l k <;> simp [List.filter, h]
theorem nmF_yes {g : List UInt8 → List Rr} {l : List Rr} {k : Nat} (h : fstO l k = true) : nmF g l (k + 1) = nmF g l k ++ g (l.getD k default).da := by rw [nmF_step, if_pos h]
theorem nmF_no {g : List UInt8 → List Rr} {l : List Rr} {k : Nat} (h : fstO l k = false) : nmF g l (k + 1) = nmF g l k := by rw [nmF_step, if_neg (by rw [h]; decide), List.append_nil]
theorem nmK_yes {l : List Rr} {k : Nat} (h : fstO l k = true) : nmK l (k + 1) = nmK l k + 1 := by
  rw [nmK, List.range_succ, List.filter_append, List.length_append]; simp [List.filter, h, nmK]
theorem nmK_no {l : List Rr} {k : Nat} (h : fstO l k = false) : nmK l (k + 1) = nmK l k := by
  rw [nmK, List.range_succ, List.filter_append, List.length_append]; simp [List.filter, h, nmK]
def MetD (l : List Rr) (i : Nat) (m : List (List UInt8 × Bool)) : Prop := ∀ a, (mget m a).getD false = decide (a ∈ (l.take i).map fun r => lowN r.da)
theorem MetD.start (l : List Rr) : MetD l 0 [] := fun a => by simp [mget]
theorem MetD.step {l : List Rr} {i : Nat} {m : List (List UInt8 × Bool)} (h : MetD l i m) (hi : i < l.length) : MetD l (i + 1) (mput m (lowN (l.getD i default).da) true) := fun a => by
  rw [mget_put, map_step hi]
  obtain ⟨x, hx⟩ : ∃ x, x = lowN (l.getD i default).da := ⟨_, rfl⟩
  rw [← hx]
  by_cases e : x = a
  · rw [if_pos e]; simp [e]
  · rw [if_neg e, h a]
    have e2 : ¬ a = x := fun k => e k.symm
    simp [e2]
theorem MetD.same {l : List Rr} {i : Nat} {m : List (List UInt8 × Bool)} (h : MetD l i m) (hi : i < l.length) (hm : (mget m (lowN (l.getD i default).da)).getD false = true) : MetD l (i + 1) m := fun a => by
  rw [map_step hi, h a]
  rw [h] at hm
  have hm2 := of_decide_eq_true hm
  refine decide_eq_decide.2 ⟨fun q => List.mem_append.2 (.inl q), fun q => ?_⟩
  rcases List.mem_append.1 q with q | q
  · exact q
  · rw [List.mem_singleton] at q; rw [q]; exact hm2
theorem MetD.fst {l : List Rr} {i : Nat} {m : List (List UInt8 × Bool)} (h : MetD l i m) : fstO l i = !(mget m (lowN (l.getD i default).da)).getD false := by
  rw [h, fstO]
  congr 1
  rw [Bool.eq_iff_iff, List.any_eq_true, decide_eq_true_iff, List.mem_map]
  constructor
  · rintro ⟨x, h1, h2⟩; exact ⟨x, h1, of_decide_eq_true h2⟩
  · rintro ⟨x, h1, h2⟩; exact ⟨x, h1, decide_eq_true h2⟩
theorem nmF_small {g : List UInt8 → List Rr} {l : List Rr} {c : Nat} (hg : ∀ r ∈ l, (g r.da).length ≤ c) : ∀ {k : Nat}, k ≤ l.length → (nmF g l k).length ≤ c * k
  | 0, _ => by simp [nmF]
  | k + 1, hk => by
    have ih := nmF_small hg (k := k) (by omega)
    have h1 := hg _ (getD_mem' (l := l) (i := k) (by omega))
    rw [nmF_step, List.length_append, Nat.mul_succ]
    split
    · omega
    · simp; omega
end Go.Proofs.Ytokccoloholgaaa.Fw


set_option linter.unusedVariables false
set_option linter.unusedSimpArgs false
set_option linter.unusedSectionVars false
namespace Go.Proofs.Ytokccoloholgaaa.Fw
open Go.RowKit
section rules
variable {n : Nat} {s : AS} {o : Oper} {d : Option Tmp} {Q : APost} {κ β : Type} [DecidableEq κ]
end rules
section jumpsR
variable {P : Program} {n : Nat} {Q : APost} {s : AS}
def AExit.jumpB (l : Nat) (J : AS → Prop) (Q : APost) : APost
  | .goto l', s' => l' = l ∧ J s'
  | e, s' => Q e s'
theorem AWp.jumpsR {α : Type} {c rest : Code} (l : Nat) (K : List Nat) (T : α → List (Nat × AV)) (H : α → List (Nat × AObj)) (I : α → Prop) (μ : α → Nat) (hf : findLabel c l = some (.seq .skip rest))
    (first : (∀ s', (∃ x, I x ∧ Back s s' K (T x) (H x)) → AWp P n (.seq (.label l) rest) (AExit.jumpTo l (fun x => s.over K (T x) (H x)) I Q) s') → AWp P n c (AExit.jumpTo l (fun x => s.over K (T x) (H x)) I Q) s)
    (pass : ∀ x, I x → AWp P n rest (AExit.jumpB l (fun s' => ∃ x', I x' ∧ Back s s' K (T x') (H x') ∧ μ x' < μ x) Q) (s.over K (T x) (H x))) : AWp P n (.scope c) Q s :=
  .dom fun hd => AWp.jumps l (fun x => s.over K (T x) (H x)) I μ hf (fun hj => first fun s' ⟨x, a, b⟩ => hj s' ⟨x, a, b.weak hd⟩) fun x hx => (pass x hx).mono fun e s' q => by
    cases e with
    | goto l' => obtain ⟨h1, x', h2, h3, h4⟩ := q; exact ⟨h1, x', h2, h3.weak hd, h4⟩
    | normal => exact q
    | exit id => exact q
    | ret => exact q
    | panic v => exact q
end jumpsR
section bad
end bad
end Go.Proofs.Ytokccoloholgaaa.Fw


set_option linter.unusedVariables false
set_option linter.unusedSimpArgs false
namespace Go.Proofs.Ytokccoloholgaaa.Fw
open Go.RowKit
structure Fl where
  aa : Bool
  code : Int
  an : List Rr
  au : List Rr
  ad : List Rr
  va : Nat
  vd : Nat
def gluZ (z : Zo) (l : List Rr) : List Rr := nmF (fun n => atZ z n 1) l l.length
def fil (z : Zo) (ty : Int) (aa : Bool) (an : List Rr) (n : List UInt8) (v : Nat) : Fl :=
  if cutZ z n ≠ [] then
    if an.length = 0 then ⟨aa, 0, an, atZ z (cutZ z n) 2, gluZ z (atZ z (cutZ z n) 2), v, nmK (atZ z (cutZ z n) 2) (atZ z (cutZ z n) 2).length⟩
    else ⟨aa, 0, an, [], [], v, 0⟩
  else if h : 0 < (atZ z n 5).length ∧ ty ≠ 5 then
    if h2 : withN ((atZ z n 5).getD 0 default).da z.o = true ∧ (an ++ atZ z n 5).length < 8 then fil z ty true (an ++ atZ z n 5) ((atZ z n 5).getD 0 default).da (v + 1)
    else ⟨true, 0, an ++ atZ z n 5, [], [], v + 1, 0⟩
  else if 0 < (atZ z n ty).length then ⟨true, 0, an ++ atZ z n ty, [], [], v + 1, 0⟩
  else ⟨true, if theZ z n then 0 else 3, an, atZ z z.o 6, [], v, 0⟩
termination_by 8 - an.length
decreasing_by rw [List.length_append] at h2 ⊢; omega
section
variable {z : Zo} {ty : Int} {aa : Bool} {an : List Rr} {n : List UInt8} {v : Nat}
theorem fil_cut0 (h : cutZ z n ≠ []) (h2 : an.length = 0) : fil z ty aa an n v = ⟨aa, 0, an, atZ z (cutZ z n) 2, gluZ z (atZ z (cutZ z n) 2), v, nmK (atZ z (cutZ z n) 2) (atZ z (cutZ z n) 2).length⟩ := by rw [fil, if_pos h, if_pos h2]
theorem fil_cutn (h : cutZ z n ≠ []) (h2 : ¬ an.length = 0) : fil z ty aa an n v = ⟨aa, 0, an, [], [], v, 0⟩ := by rw [fil, if_pos h, if_neg h2]
theorem fil_on (h : ¬ cutZ z n ≠ []) (h1 : 0 < (atZ z n 5).length ∧ ty ≠ 5) (h2 : withN ((atZ z n 5).getD 0 default).da z.o = true ∧ (an ++ atZ z n 5).length < 8) : fil z ty aa an n v = fil z ty true (an ++ atZ z n 5) ((atZ z n 5).getD 0 default).da (v + 1) := by rw [fil, if_neg h, dif_pos h1, dif_pos h2]
theorem fil_stop (h : ¬ cutZ z n ≠ []) (h1 : 0 < (atZ z n 5).length ∧ ty ≠ 5) (h2 : ¬ (withN ((atZ z n 5).getD 0 default).da z.o = true ∧ (an ++ atZ z n 5).length < 8)) : fil z ty aa an n v = ⟨true, 0, an ++ atZ z n 5, [], [], v + 1, 0⟩ := by rw [fil, if_neg h, dif_pos h1, dif_neg h2]
theorem fil_has (h : ¬ cutZ z n ≠ []) (h1 : ¬ (0 < (atZ z n 5).length ∧ ty ≠ 5)) (h2 : 0 < (atZ z n ty).length) : fil z ty aa an n v = ⟨true, 0, an ++ atZ z n ty, [], [], v + 1, 0⟩ := by rw [fil, if_neg h, dif_neg h1, if_pos h2]
theorem fil_none (h : ¬ cutZ z n ≠ []) (h1 : ¬ (0 < (atZ z n 5).length ∧ ty ≠ 5)) (h2 : ¬ 0 < (atZ z n ty).length) : fil z ty aa an n v = ⟨true, if theZ z n then 0 else 3, an, atZ z z.o 6, [], v, 0⟩ := by rw [fil, if_neg h, dif_neg h1, if_neg h2]
end
theorem at_len {z : Zo} (h : z.rs.length ≤ 400) (n : List UInt8) (t : Int) : (atZ z n t).length ≤ 400 := by
  have := List.length_filter_le (atP n t) z.rs
  unfold atZ; omega
set_option maxRecDepth 20000 in
set_option maxHeartbeats 2000000 in
theorem c_fill1 (h : Hdr) (qs : List Qu) (aa : Bool) (code : Int) (an au : List Rr) (va : Nat) (z : Zo) (n : List UInt8) (acc : List Rr) (v : Nat) (hz : ZoOk z) (hs : z.rs.length ≤ 400) (hn : n.length ≤ 255) (hacc : acc.length ≤ 1000000) : AC Try.prog 95 [str n, .ptr 3 0 0, .ptr 4 0 0] (hlook [(0, .box [i64 h.id, tf h.resp, i64 h.op, tf (aa), tf h.tc, tf h.rd, tf h.ra, i64 (code), .fz 0 qs.length (cl quc qs), .sl 1 (va) 0 (an).length 5, .fz 0 (au).length (cl rrc (au)), .sl 2 (v) 0 (acc).length 5]), (1, .row (cl rrc an) 5 va), (2, .row (cl rrc (acc)) 5 (v)), (3, .box [.ptr 0 0 0]), (4, .box (zoC z))]) (RetH (.tup []) [(0, .box [i64 h.id, tf h.resp, i64 h.op, tf (aa), tf h.tc, tf h.rd, tf h.ra, i64 (code), .fz 0 qs.length (cl quc qs), .sl 1 (va) 0 (an).length 5, .fz 0 (au).length (cl rrc (au)), .sl 2 (v + 1) 0 (acc ++ atZ z n 1).length 5]), (1, .row (cl rrc an) 5 va), (2, .row (cl rrc (acc ++ atZ z n 1)) 5 (v + 1)), (3, .box [.ptr 0 0 0]), (4, .box (zoC z))]) := by
 have hal := at_len hs n 1
 refine AC.intro te_ok (fn := Try.f95) ⟨Try.func95, rfl, rfl⟩ (Nat.le_of_ble_eq_true rfl) ?_
 refine AWp.draws [⟨0, [1], [3], some 4, _, none⟩,
     ⟨1, [1], [3], some 5, _, none⟩,
     ⟨2, [5], [0], some 6, _, none⟩,
     ⟨3, [6], [0], some 7, _, none⟩,
     ⟨4, [7], [0], some 8, _, none⟩,
     ⟨5, [2], [4], some 9, _, none⟩,
     ⟨6, [0], [], some 10, _, none⟩,
     ⟨7, [9, 10], [], some 11, _, none⟩,
     ⟨8, [8, 11], [2], some 12, _, some (2, _)⟩,
     ⟨9, [4], [0], some 13, _, none⟩,
     ⟨10, [13], [0], some 14, _, none⟩,
     ⟨11, [12, 14], [0, 2], none, _, some (0, _)⟩]
  [⟨0, [1], [3], some 4, .any, none⟩,
      ⟨1, [1], [3], some 5, .any, none⟩,
      ⟨2, [5], [0], some 6, .any, none⟩,
      ⟨3, [6], [0], some 7, .any, none⟩,
      ⟨4, [7], [0], some 8, .any, none⟩,
      ⟨5, [2], [4], some 9, .any, none⟩,
      ⟨6, [0], [], some 10, .any, none⟩,
      ⟨7, [9, 10], [], some 11, .any, none⟩,
      ⟨8, [8, 11], [2], some 12, .any, some (2, .box [])⟩,
      ⟨9, [4], [0], some 13, .any, none⟩,
      ⟨10, [13], [0], some 14, .any, none⟩,
      ⟨11, [12, 14], [0, 2], none, .any, some (0, .box [])⟩]
  mixed_ok rfl (by kernel_rfl) ⟨DS.ok_over fun s0 => OpAt.go rfl rfl (q_load),
      DS.ok_over fun s0 => OpAt.go rfl rfl (q_load),
      DS.ok_over fun s0 => OpAt.go rfl rfl (q_nil),
      DS.ok_over fun s0 => OpAt.go rfl rfl (q_fa),
      DS.ok_over fun s0 => OpAt.go rfl rfl (q_load),
      DS.ok_over fun s0 => OpAt.go rfl rfl (q_load),
      DS.ok_over fun s0 => OpAt.go rfl rfl (q_move),
      DS.ok_over fun s0 => OpAt.go rfl rfl (q_call (0) (hc := (c_zone_at z n 1 hz (by omega)))),
      DS.ok_over fun s0 => OpAt.go rfl rfl (q_app),
      DS.ok_over fun s0 => OpAt.go rfl rfl (q_nil),
      DS.ok_over fun s0 => OpAt.go rfl rfl (q_fa),
      DS.ok_over fun s0 => OpAt.go rfl rfl (q_store), trivial⟩ ?_
 dsimp only [final, DS.upd, AS.seto]
 show Fin te Try.f95 _ _
 refine q_retH (0) [] [] [] [(_, _), (_, _), (_, _), (_, _), (_, _)] ?_
 rfl
set_option maxRecDepth 20000 in
set_option maxHeartbeats 2000000 in
theorem c_named_f (h : Hdr) (qs : List Qu) (aa : Bool) (code : Int) (an au : List Rr) (va : Nat) (z : Zo) (l : List Rr) (hz : ZoOk z) (hs : z.rs.length ≤ 400) (hl : l.length ≤ 400) (hc : ∀ r ∈ l, canN r.da = true) : AC Try.prog 45 [.fz 0 l.length (cl rrc l), .fn (.func 95) [] [.ptr 3 0 0, .ptr 4 0 0]] (hlook [(0, .box [i64 h.id, tf h.resp, i64 h.op, tf (aa), tf h.tc, tf h.rd, tf h.ra, i64 (code), .fz 0 qs.length (cl quc qs), .sl 1 (va) 0 (an).length 5, .fz 0 (au).length (cl rrc (au)), .sl 2 (0) 0 (([] : List Rr)).length 5]), (1, .row (cl rrc an) 5 va), (2, .row (cl rrc (([] : List Rr))) 5 (0)), (3, .box [.ptr 0 0 0]), (4, .box (zoC z))]) (RetH (.tup []) [(0, .box [i64 h.id, tf h.resp, i64 h.op, tf (aa), tf h.tc, tf h.rd, tf h.ra, i64 (code), .fz 0 qs.length (cl quc qs), .sl 1 (va) 0 (an).length 5, .fz 0 (au).length (cl rrc (au)), .sl 2 (nmK l l.length) 0 (nmF (fun n => atZ z n 1) l l.length).length 5]), (1, .row (cl rrc an) 5 va), (2, .row (cl rrc (nmF (fun n => atZ z n 1) l l.length)) 5 (nmK l l.length)), (3, .box [.ptr 0 0 0]), (4, .box (zoC z))]) := by
 have hsm : ∀ k, k ≤ l.length → (nmF (fun n => atZ z n 1) l k).length ≤ 400 * k := fun k => nmF_small (l := l) (c := 400) (fun r hr => at_len hs r.da 1)
 refine AC.intro te_ok (fn := Try.f45) ⟨Try.func45, rfl, rfl⟩ (Nat.le_of_ble_eq_true rfl) ?_
 refine AWp.seq ?_
 refine AWp.region ?_
 refine AOps.cons rfl rfl (q_makeMap 100 MStr (fun b : Bool => tf b)) ?_
 refine AOps.cons rfl rfl (q_assign) ?_
 refine AOps.nil ?_
 refine AWp.seq ?_
 refine AWp.region ?_
 refine AOps.cons rfl rfl (q_move) ?_
 refine AOps.cons rfl rfl (q_len) ?_
 refine AOps.cons rfl rfl (q_move) ?_
 refine AOps.nil ?_
 refine AWp.block ?_
 refine AWp.loopR (α := Nat × List (List UInt8 × Bool) × List Rr × Nat) [6, 7, 11, 12, 13, 14, 15, 16, 17, 18, 19, 20, 21, 22, 23, 24, 25, 26, 27, 28, 29, 30] (fun x_ => [(11, i64 (x_.1))]) (fun x_ => [(100, .map (me MStr (fun b : Bool => tf b) (x_.2.1))), (0, .box [i64 h.id, tf h.resp, i64 h.op, tf (aa), tf h.tc, tf h.rd, tf h.ra, i64 (code), .fz 0 qs.length (cl quc qs), .sl 1 (va) 0 (an).length 5, .fz 0 (au).length (cl rrc (au)), .sl 2 ((x_.2.2.2)) 0 ((x_.2.2.1)).length 5]), (1, .row (cl rrc an) 5 va), (2, .row (cl rrc ((x_.2.2.1))) 5 ((x_.2.2.2))), (3, .box [.ptr 0 0 0]), (4, .box (zoC z))]) (fun x_ => (x_.1) ≤ l.length ∧ MetD l (x_.1) (x_.2.1) ∧ (x_.2.2.1) = nmF (fun n => atZ z n 1) l (x_.1) ∧ (x_.2.2.2) = nmK l (x_.1)) (fun x_ => l.length - (x_.1)) (0, [], [], 0) ?_ (Back.mk' (HasT.cons HasT.nil) (HasH.cons (HasH.cons (HasH.cons (HasH.cons (HasH.cons (HasH.cons HasH.nil))))) (h2 := by exact objIn_me (fun _ => rfl)) )) ?_
 ·
  exact ⟨Nat.zero_le _, MetD.start l, rfl, rfl⟩
 ·
  rintro ⟨i, m, a2, v2⟩ hI2
  change i ≤ l.length ∧ MetD l i m ∧ a2 = nmF (fun n => atZ z n 1) l i ∧ v2 = nmK l i at hI2
  obtain ⟨hi, hm, ha, hv⟩ := hI2
  refine AWp.as (s' := AS.over _ [6, 7, 11, 12, 13, 14, 15, 16, 17, 18, 19, 20, 21, 22, 23, 24, 25, 26, 27, 28, 29, 30] [(11, i64 i)] [(100, .map (me MStr (fun b : Bool => tf b) m)), (0, .box [i64 h.id, tf h.resp, i64 h.op, tf (aa), tf h.tc, tf h.rd, tf h.ra, i64 (code), .fz 0 qs.length (cl quc qs), .sl 1 (va) 0 (an).length 5, .fz 0 (au).length (cl rrc (au)), .sl 2 (v2) 0 (a2).length 5]), (1, .row (cl rrc an) 5 va), (2, .row (cl rrc (a2)) 5 (v2)), (3, .box [.ptr 0 0 0]), (4, .box (zoC z))]) rfl ?_
  have hsi := hsm i hi
  have hal := congrArg List.length ha
  refine AWp.seq ?_
  refine AWp.region ?_
  refine AOps.dec rfl rfl (q_lss) (fun h2_0 => ?_) (fun h2_0 => ?_)
  ·
   refine AOps.nil ?_
   refine AWp.seq ?_
   refine AWp.cond_t rfl ?_
   refine AWp.skip ?_
   refine AWp.seq ?_
   refine AWp.block ?_
   refine AWp.seq ?_
   refine AWp.region ?_
   refine AOps.cons rfl rfl (q_ix) ?_
   refine AOps.cons rfl rfl (q_load) ?_
   refine AOps.cons rfl rfl (q_alloc 402) ?_
   refine AOps.cons rfl rfl (q_store) ?_
   refine AOps.nil ?_
   refine AWp.seq ?_
   refine AWp.region ?_
   have hci := hc _ (getD_mem' (l := l) (i := i) (by omega))
   have hcl := canN_le2 hci
   refine AOps.cons rfl rfl (q_fa) ?_
   refine AOps.cons rfl rfl (q_load) ?_
   refine AOps.cons rfl rfl (by first | exact q_conv_zs | exact q_conv_ls) ?_
   refine AOps.cons rfl rfl (q_call (0) (hc := (c_name_Lower (l.getD i default).da (by omega)))) ?_
   refine AOps.cons rfl rfl (q_assign) ?_
   refine AOps.nil ?_
   refine AWp.seq ?_
   refine AWp.region ?_
   refine AOps.cons rfl rfl (q_move) ?_
   refine AOps.cons rfl rfl (q_move) ?_
   refine AOps.bool rfl rfl (q_lookup MStr) (fun h5_2 => ?_) (fun h5_2 => ?_)
   ·
    refine AOps.cons rfl rfl (q_not) ?_
    refine AOps.nil ?_
    refine AWp.cond_f rfl ?_
    refine AWp.skip ?_
    refine AWp.region ?_
    refine AOps.cons rfl rfl (q_add) ?_
    refine AOps.cons rfl rfl (q_move) ?_
    refine AOps.nil ?_
    refine ⟨(i + 1, m, a2, v2), ?_, Back.mk' (HasT.cons HasT.nil) (HasH.cons (HasH.cons (HasH.cons (HasH.cons (HasH.cons (HasH.cons HasH.nil))))) (h2 := by exact objIn_me (fun _ => rfl)) ), ?_⟩
    ·
     try dsimp only
     have hf : fstO l i = false := by rw [hm.fst, h5_2]; rfl
     exact ⟨by omega, hm.same (by omega) h5_2, by rw [nmF_no hf, ha], by rw [nmK_no hf, hv]⟩
    ·
     try dsimp only
     first | omega | (simp; omega)
   ·
    refine AOps.cons rfl rfl (q_not) ?_
    refine AOps.nil ?_
    refine AWp.cond_t rfl ?_
    refine AWp.seq ?_
    refine AWp.region ?_
    refine AOps.cons rfl rfl (q_move) ?_
    refine AOps.cons rfl rfl (q_move) ?_
    refine AOps.cons rfl rfl (q_mapUpdate MStr true) ?_
    refine AOps.nil ?_
    refine AWp.region ?_
    refine AOps.cons rfl rfl (q_move) ?_
    refine AOps.cons rfl rfl (q_fa) ?_
    refine AOps.cons rfl rfl (q_load) ?_
    refine AOps.cons rfl rfl (by first | exact q_conv_zs | exact q_conv_ls) ?_
    refine AOps.cons rfl rfl (q_callB (0) [(0, 0), (1, 1), (2, 2), (3, 3), (4, 4)] [] [(_, _), (_, _), (_, _), (_, _), (_, _)] (hobj := by repeat' (first | exact trivial | exact lv_ok rfl | exact lv_sl rfl rfl | exact lv_ptr rfl rfl | exact lv_mp rfl rfl | exact lobj_row (fun _ => rfl) | exact lobj_me (fun _ => rfl) | refine lobj_box ?_ | refine ⟨rfl, ⟨_, rfl, ?_⟩, ?_⟩ | refine ⟨?_, ?_⟩)) (hB := by repeat' (first | exact trivial | exact hb_rowc (lv := 0) (fun _ => rfl) | exact hb_me (lv := 0) (fun _ => rfl) | exact rfl | refine ⟨rfl, rfl, ?_, ?_⟩)) (hL := by repeat' (first | exact trivial | exact hl_row (fun _ => rfl) | exact hl_me (fun _ => rfl) | exact ⟨rfl, rfl⟩ | refine ⟨?_, ?_⟩)) (hc := (c_fill1 h qs aa code an au va z (l.getD i default).da a2 v2 hz hs (by omega) (by omega)))) ?_
    refine AOps.nil ?_
    refine AWp.region ?_
    refine AOps.cons rfl rfl (q_add) ?_
    refine AOps.cons rfl rfl (q_move) ?_
    refine AOps.nil ?_
    refine ⟨(i + 1, mput m (lowN (l.getD i default).da) true, a2 ++ atZ z (l.getD i default).da 1, v2 + 1), ?_, Back.mk' (HasT.cons HasT.nil) (HasH.cons (HasH.cons (HasH.cons (HasH.cons (HasH.cons (HasH.cons HasH.nil))))) (h2 := by exact objIn_me (fun _ => rfl)) ), ?_⟩
    ·
     try dsimp only
     have hf : fstO l i = true := by rw [hm.fst, h5_2]; rfl
     exact ⟨by omega, hm.step (by omega), by rw [nmF_yes hf, ha], by rw [nmK_yes hf, hv]⟩
    ·
     try dsimp only
     first | omega | (simp; omega)
  ·
   refine AOps.nil ?_
   refine AWp.seq ?_
   refine AWp.cond_f rfl ?_
   refine AWp.exit ?_
   show Fin te Try.f45 _ _
   obtain rfl : i = l.length := by omega
   rw [ha, hv]
   refine q_retH (0) [] [] [] [(_, _), (_, _), (_, _), (_, _), (_, _)] ?_ (hobj := by repeat' (first | exact trivial | exact lv_ok rfl | exact lv_sl rfl rfl | exact lv_rn rfl rfl .row rfl | exact lv_ptr rfl rfl | exact lv_mp rfl rfl | exact lv_nilz | exact lv_row0 rfl rfl .row (fun _ => rfl) (Nat.le_of_ble_eq_true rfl) (fun _ => rfl) | exact lobj_row (fun _ => rfl) | exact lobj_rown (fun _ => rfl) | exact lobj_me (fun _ => rfl) | refine lobj_box ?_ | refine ⟨rfl, ⟨_, rfl, ?_⟩, ?_⟩ | refine ⟨?_, ?_⟩))
   rfl
set_option maxRecDepth 20000 in
set_option maxHeartbeats 2000000 in
theorem c_fill (h : Hdr) (qs : List Qu) (z : Zo) (n0 : List UInt8) (ty : Int) (hz : ZoOk z) (hs : z.rs.length ≤ 400) (hn0 : n0.length ≤ 255) (hc : ∀ r ∈ z.rs, r.ty = 2 ∨ r.ty = 5 → canN r.da = true) : AC Try.prog 60 [.agg (zoC z), str n0, i64 ty, .ptr 0 0 0] (hlook [(0, .box [i64 h.id, tf h.resp, i64 h.op, tf (false), tf h.tc, tf h.rd, tf h.ra, i64 (0), .fz 0 qs.length (cl quc qs), .v (.slice none 0 0), .fz 0 (([] : List Rr)).length (cl rrc (([] : List Rr))), .v (.slice none 0 0)])]) (RetH (.tup []) [(0, .box [i64 h.id, tf h.resp, i64 h.op, tf ((fil z ty false [] n0 0).aa), tf h.tc, tf h.rd, tf h.ra, i64 ((fil z ty false [] n0 0).code), .fz 0 qs.length (cl quc qs), .fz 0 ((fil z ty false [] n0 0).an).length (cl rrc ((fil z ty false [] n0 0).an)), .fz 0 ((fil z ty false [] n0 0).au).length (cl rrc ((fil z ty false [] n0 0).au)), .fz 0 ((fil z ty false [] n0 0).ad).length (cl rrc ((fil z ty false [] n0 0).ad))])]) := by
 have hzl := hz.1
 have hal := fun n t => at_len hs n t
 refine AC.intro te_ok (fn := Try.f60) ⟨Try.func60, rfl, rfl⟩ (Nat.le_of_ble_eq_true rfl) ?_
 refine AWp.seq ?_
 refine AWp.region ?_
 refine AOps.cons rfl rfl (q_box 100) ?_
 refine AOps.cons rfl rfl (q_box 101) ?_
 refine AOps.weak (Weak.nilcell 0 9001 9 5 rrc) ?_
 refine AOps.weak (Weak.nilcell 0 9002 11 5 rrc) ?_
 refine AOps.nil ?_
 refine AWp.jumpsR (α := List Rr × List UInt8 × Bool × Nat) 0 [1, 8, 9, 10, 11, 12, 13, 14, 15, 16, 17, 18, 19, 20, 21, 22, 23, 24, 25, 26, 27, 28, 29, 30, 31, 32, 33, 34, 35, 36, 37, 38, 39, 40, 41, 42, 43, 44, 45, 46, 47, 48, 49, 50, 51, 52, 53, 54, 55, 56, 57, 58, 59, 60, 61, 62, 63, 64, 65, 66, 67, 68, 69, 70, 71, 72, 73, 74, 75, 76, 77, 78, 79, 80, 81, 82, 83, 84, 85, 86, 87, 88, 89, 90, 91, 92, 93, 94, 95, 96, 97, 98, 99, 100, 101, 102, 103, 104, 105, 106, 107] (fun x_ => [(1, str (x_.2.1))]) (fun x_ => [(0, .box [i64 h.id, tf h.resp, i64 h.op, tf ((x_.2.2.1)), tf h.tc, tf h.rd, tf h.ra, i64 (0), .fz 0 qs.length (cl quc qs), .sl 9001 ((x_.2.2.2)) 0 ((x_.1)).length 5, .fz 0 (([] : List Rr)).length (cl rrc (([] : List Rr))), .sl 9002 (0) 0 (([] : List Rr)).length 5]), (9001, .row (cl rrc (x_.1)) 5 (x_.2.2.2))]) (fun x_ => fil z ty (x_.2.2.1) (x_.1) (x_.2.1) (x_.2.2.2) = (fil z ty false [] n0 0) ∧ (x_.1).length ≤ 8 ∧ (x_.2.1).length ≤ 255 ∧ ((x_.1).length = 0 → (x_.2.2.1) = false)) (fun x_ => 8 - (x_.1).length) rfl (fun hj => ?_) ?_
 ·
  refine hj _ ⟨([], n0, false, 0), ?_, Back.mk' (HasT.cons HasT.nil) (HasH.cons (HasH.cons HasH.nil))⟩
  exact ⟨rfl, by simp, hn0, fun _ => rfl⟩
 ·
  rintro ⟨an, n, aa, v⟩ hI
  change fil z ty aa an n v = (fil z ty false [] n0 0) ∧ an.length ≤ 8 ∧ n.length ≤ 255 ∧ (an.length = 0 → aa = false) at hI
  obtain ⟨hE, hA, hN, hQ⟩ := hI
  refine AWp.as (s' := AS.over _ [1, 8, 9, 10, 11, 12, 13, 14, 15, 16, 17, 18, 19, 20, 21, 22, 23, 24, 25, 26, 27, 28, 29, 30, 31, 32, 33, 34, 35, 36, 37, 38, 39, 40, 41, 42, 43, 44, 45, 46, 47, 48, 49, 50, 51, 52, 53, 54, 55, 56, 57, 58, 59, 60, 61, 62, 63, 64, 65, 66, 67, 68, 69, 70, 71, 72, 73, 74, 75, 76, 77, 78, 79, 80, 81, 82, 83, 84, 85, 86, 87, 88, 89, 90, 91, 92, 93, 94, 95, 96, 97, 98, 99, 100, 101, 102, 103, 104, 105, 106, 107] [(1, str n)] [(0, .box [i64 h.id, tf h.resp, i64 h.op, tf (aa), tf h.tc, tf h.rd, tf h.ra, i64 (0), .fz 0 qs.length (cl quc qs), .sl 9001 (v) 0 (an).length 5, .fz 0 (([] : List Rr)).length (cl rrc (([] : List Rr))), .sl 9002 (0) 0 (([] : List Rr)).length 5]), (9001, .row (cl rrc an) 5 v)]) rfl ?_
  have hcl := cutZ_len hz n
  have ha5 := hal n 5
  have haty := hal n ty
  refine AWp.seq ?_
  refine AWp.seq ?_
  refine AWp.region ?_
  refine AOps.cons rfl rfl (q_load) ?_
  refine AOps.cons rfl rfl (q_move) ?_
  refine AOps.cons rfl rfl (q_call (0) (hc := (c_zone_cut z n hz (by omega)))) ?_
  refine AOps.cons rfl rfl (q_move) ?_
  refine AOps.cons rfl rfl (q_extract) ?_
  refine AOps.bool rfl rfl (q_extract) (fun h1_5 => ?_) (fun h1_5 => ?_)
  ·
   refine AOps.cons rfl rfl (q_assign) ?_
   refine AOps.cons rfl rfl (q_assign) ?_
   refine AOps.nil ?_
   refine AWp.seq ?_
   refine AWp.region ?_
   refine AOps.cons rfl rfl (q_move) ?_
   refine AOps.nil ?_
   refine AWp.cond_t rfl ?_
   refine AWp.seq ?_
   refine AWp.seq ?_
   refine AWp.region ?_
   have hcut : cutZ z n ≠ [] := of_decide_eq_true h1_5
   refine AOps.cons rfl rfl (q_load) ?_
   refine AOps.cons rfl rfl (q_nil) ?_
   refine AOps.cons rfl rfl (q_fa) ?_
   refine AOps.cons rfl rfl (q_load) ?_
   refine AOps.cons rfl rfl (q_len) ?_
   refine AOps.dec rfl rfl (q_eql) (fun h3_5 => ?_) (fun h3_5 => ?_)
   ·
    refine AOps.nil ?_
    refine AWp.cond_t rfl ?_
    refine AWp.seq ?_
    have han : an.length = 0 := by omega
    obtain rfl := List.eq_nil_of_length_eq_zero han
    have hc2 := hal (cutZ z n) 2
    have hcc : ∀ r ∈ atZ z (cutZ z n) 2, canN r.da = true := fun r hr => hc r (at_mem hr).1 (.inl (at_mem hr).2.1)
    refine AWp.draws [⟨0, [7], [101], some 25, _, none⟩,
        ⟨1, [4], [100], some 26, _, none⟩,
        ⟨2, [8], [], some 27, _, none⟩,
        ⟨3, [26, 27], [], some 28, _, none⟩,
        ⟨4, [25], [0], some 29, _, none⟩,
        ⟨5, [29], [0], some 30, _, none⟩,
        ⟨6, [28, 30], [0], none, _, some (0, _)⟩]
     [⟨0, [7], [101], some 25, .any, none⟩,
         ⟨1, [4], [100], some 26, .any, none⟩,
         ⟨2, [8], [], some 27, .any, none⟩,
         ⟨3, [26, 27], [], some 28, .any, none⟩,
         ⟨4, [25], [0], some 29, .any, none⟩,
         ⟨5, [29], [0], some 30, .any, none⟩,
         ⟨6, [28, 30], [0], none, .any, some (0, .box [])⟩]
     mixed_ok rfl (by kernel_rfl) ⟨DS.ok_over fun s0 => OpAt.go rfl rfl (q_load),
         DS.ok_over fun s0 => OpAt.go rfl rfl (q_load),
         DS.ok_over fun s0 => OpAt.go rfl rfl (q_move),
         DS.ok_over fun s0 => OpAt.go rfl rfl (q_call (0) (hc := (c_zone_at z (cutZ z n) 2 hz hcl))),
         DS.ok_over fun s0 => OpAt.go rfl rfl (q_nil),
         DS.ok_over fun s0 => OpAt.go rfl rfl (q_fa),
         DS.ok_over fun s0 => OpAt.go rfl rfl (q_store), trivial⟩ ?_
    dsimp only [final, DS.upd, AS.seto]
    refine AWp.region ?_
    refine AOps.cons rfl rfl (q_load) ?_
    refine AOps.cons rfl rfl (q_nil) ?_
    refine AOps.cons rfl rfl (q_fa) ?_
    refine AOps.cons rfl rfl (q_load) ?_
    refine AOps.cons rfl rfl (q_makeFunc [] [_, _]) ?_
    refine AOps.cons rfl rfl (q_callB (0) [(0, 0), (1, 9001), (2, 9002), (3, 101), (4, 100)] [] [(_, _), (_, _), (_, _), (_, _), (_, _)] (hA := by exact ⟨lv_ok rfl, lv_fn trivial ⟨lv_ptr rfl rfl, lv_ptr rfl rfl, trivial⟩, trivial⟩) (hc := (c_named_f h qs aa 0 [] (atZ z (cutZ z n) 2) v z (atZ z (cutZ z n) 2) hz hs hc2 hcc))) ?_
    refine AOps.nil ?_
    refine AWp.ret ?_
    show Fin te Try.f60 _ _
    rw [fil_cut0 hcut rfl] at hE
    rw [← hE]
    refine q_retH (0) [] [] [] [(_, _)] ?_
    rfl
   ·
    refine AOps.nil ?_
    refine AWp.cond_f rfl ?_
    refine AWp.skip ?_
    refine AWp.ret ?_
    show Fin te Try.f60 _ _
    rw [fil_cutn hcut (by omega)] at hE
    rw [← hE]
    refine q_retH (0) [] [] [] [(_, _)] ?_
    rfl
  ·
   refine AOps.cons rfl rfl (q_assign) ?_
   refine AOps.cons rfl rfl (q_assign) ?_
   refine AOps.nil ?_
   refine AWp.seq ?_
   refine AWp.region ?_
   refine AOps.cons rfl rfl (q_move) ?_
   refine AOps.nil ?_
   refine AWp.cond_f rfl ?_
   refine AWp.skip ?_
   refine AWp.seq ?_
   refine AWp.region ?_
   have hcut : ¬ cutZ z n ≠ [] := of_decide_eq_false h1_5
   refine AOps.cons rfl rfl (q_load) ?_
   refine AOps.cons rfl rfl (q_nil) ?_
   refine AOps.cons rfl rfl (q_fa) ?_
   refine AOps.cons rfl rfl (q_fa) ?_
   refine AOps.cons rfl rfl (q_store) ?_
   refine AOps.nil ?_
   refine AWp.seq ?_
   refine AWp.seq ?_
   refine AWp.region ?_
   refine AOps.cons rfl rfl (q_load) ?_
   refine AOps.cons rfl rfl (q_move) ?_
   refine AOps.cons rfl rfl (q_call (0) (hc := (c_zone_at z n 5 hz (by omega)))) ?_
   refine AOps.cons rfl rfl (q_assign) ?_
   refine AOps.nil ?_
   refine AWp.seq ?_
   refine AWp.region ?_
   refine AOps.cons rfl rfl (q_move) ?_
   refine AOps.cons rfl rfl (q_len) ?_
   refine AOps.dec rfl rfl (q_gtr) (fun h8_2 => ?_) (fun h8_2 => ?_)
   ·
    refine AOps.cons rfl rfl (q_move) ?_
    refine AOps.gcons rfl rfl rfl rfl rfl (q_move) ?_
    refine AOps.gdec rfl rfl rfl rfl rfl (q_neq) (fun h8_5 => ?_) (fun h8_5 => ?_)
    ·
     refine AOps.cons rfl rfl (q_pick) ?_
     refine AOps.nil ?_
     refine AWp.cond_t rfl ?_
     refine AWp.seq ?_
     have hali : 0 < (atZ z n 5).length ∧ ty ≠ 5 := ⟨by omega, h8_5⟩
     have hx := hc _ (at_mem (getD_mem' (l := atZ z n 5) (i := 0) hali.1)).1 (.inr (at_mem (getD_mem' (l := atZ z n 5) (i := 0) hali.1)).2.1)
     have hxl := canN_le2 hx
     refine AWp.draws [⟨0, [7], [101], some 51, _, none⟩,
         ⟨1, [7], [101], some 52, _, none⟩,
         ⟨2, [52], [0], some 53, _, none⟩,
         ⟨3, [53], [0], some 54, _, none⟩,
         ⟨4, [54], [0], some 55, _, none⟩,
         ⟨5, [10], [], some 56, _, none⟩,
         ⟨6, [55, 56], [9001], some 57, _, some (9001, _)⟩,
         ⟨7, [51], [0], some 58, _, none⟩,
         ⟨8, [58], [0], some 59, _, none⟩,
         ⟨9, [57, 59], [0, 9001], none, _, some (0, _)⟩]
      [⟨0, [7], [101], some 51, .any, none⟩,
          ⟨1, [7], [101], some 52, .any, none⟩,
          ⟨2, [52], [0], some 53, .any, none⟩,
          ⟨3, [53], [0], some 54, .any, none⟩,
          ⟨4, [54], [0], some 55, .any, none⟩,
          ⟨5, [10], [], some 56, .any, none⟩,
          ⟨6, [55, 56], [9001], some 57, .any, some (9001, .box [])⟩,
          ⟨7, [51], [0], some 58, .any, none⟩,
          ⟨8, [58], [0], some 59, .any, none⟩,
          ⟨9, [57, 59], [0, 9001], none, .any, some (0, .box [])⟩]
      mixed_ok rfl (by kernel_rfl) ⟨DS.ok_over fun s0 => OpAt.go rfl rfl (q_load),
          DS.ok_over fun s0 => OpAt.go rfl rfl (q_load),
          DS.ok_over fun s0 => OpAt.go rfl rfl (q_nil),
          DS.ok_over fun s0 => OpAt.go rfl rfl (q_fa),
          DS.ok_over fun s0 => OpAt.go rfl rfl (q_load),
          DS.ok_over fun s0 => OpAt.go rfl rfl (q_move),
          DS.ok_over fun s0 => OpAt.go rfl rfl (q_app),
          DS.ok_over fun s0 => OpAt.go rfl rfl (q_nil),
          DS.ok_over fun s0 => OpAt.go rfl rfl (q_fa),
          DS.ok_over fun s0 => OpAt.go rfl rfl (q_store), trivial⟩ ?_
     dsimp only [final, DS.upd, AS.seto]
     refine AWp.seq ?_
     refine AWp.region ?_
     refine AOps.cons rfl rfl (q_move) ?_
     refine AOps.cons rfl rfl (q_ix) ?_
     refine AOps.cons rfl rfl (q_fa) ?_
     refine AOps.cons rfl rfl (q_load) ?_
     refine AOps.cons rfl rfl (by first | exact q_conv_zs | exact q_conv_ls) ?_
     refine AOps.cons rfl rfl (q_assign) ?_
     refine AOps.nil ?_
     refine AWp.seq ?_
     refine AWp.seq ?_
     refine AWp.region ?_
     refine AOps.cons rfl rfl (q_move) ?_
     refine AOps.cons rfl rfl (q_fa) ?_
     refine AOps.cons rfl rfl (q_load) ?_
     refine AOps.bool rfl rfl (q_call (0) (hc := (c_name_Within ((atZ z n 5).getD 0 default).da z.o (by omega) (by omega)))) (fun h11_3 => ?_) (fun h11_3 => ?_)
     ·
      refine AOps.cons rfl rfl (q_move) ?_
      refine AOps.gcons rfl rfl rfl rfl rfl (q_load) ?_
      refine AOps.gcons rfl rfl rfl rfl rfl (q_nil) ?_
      refine AOps.gcons rfl rfl rfl rfl rfl (q_fa) ?_
      refine AOps.gcons rfl rfl rfl rfl rfl (q_load) ?_
      refine AOps.gcons rfl rfl rfl rfl rfl (q_len) ?_
      refine AOps.gdec rfl rfl rfl rfl rfl (q_lss) (fun h11_10 => ?_) (fun h11_10 => ?_)
      ·
       refine AOps.cons rfl rfl (q_pick) ?_
       refine AOps.nil ?_
       refine AWp.cond_t rfl ?_
       refine AWp.goto ?_
       refine ⟨rfl, (an ++ atZ z n 5, ((atZ z n 5).getD 0 default).da, true, v + 1), ?_, Back.mk' (HasT.cons HasT.nil) (HasH.cons (HasH.cons HasH.nil)), ?_⟩
       ·
        try dsimp only
        refine ⟨by rw [← hE, fil_on hcut hali ⟨h11_3, by omega⟩], by omega, canN_le2 hx, fun q => ?_⟩
        rw [List.length_append] at q; omega
       ·
        try dsimp only
        have hq8 := h11_10
        simp only [List.length_append] at hq8 ⊢
        omega
      ·
       refine AOps.cons rfl rfl (q_pick) ?_
       refine AOps.nil ?_
       refine AWp.cond_f rfl ?_
       refine AWp.skip ?_
       refine AWp.ret ?_
       show Fin te Try.f60 _ _
       rw [fil_stop hcut hali (fun q => h11_10 (by have := q.2; omega))] at hE
       rw [← hE]
       refine q_retH (0) [] [] [] [(_, _)] ?_
       rfl
     ·
      refine AOps.cons rfl rfl (q_move) ?_
      refine AOps.gskip rfl rfl rfl rfl rfl rfl rfl rfl ?_
      refine AOps.gskip rfl rfl rfl rfl rfl rfl rfl rfl ?_
      refine AOps.gskip rfl rfl rfl rfl rfl rfl rfl rfl ?_
      refine AOps.gskip rfl rfl rfl rfl rfl rfl rfl rfl ?_
      refine AOps.gskip rfl rfl rfl rfl rfl rfl rfl rfl ?_
      refine AOps.gskip rfl rfl rfl rfl rfl rfl rfl rfl ?_
      refine AOps.cons rfl rfl (q_pick) ?_
      refine AOps.nil ?_
      refine AWp.cond_f rfl ?_
      refine AWp.skip ?_
      refine AWp.ret ?_
      show Fin te Try.f60 _ _
      rw [fil_stop hcut hali (fun q => by rw [h11_3] at q; cases q.1)] at hE
      rw [← hE]
      refine q_retH (0) [] [] [] [(_, _)] ?_
      rfl
    ·
     refine AOps.cons rfl rfl (q_pick) ?_
     refine AOps.nil ?_
     refine AWp.cond_f rfl ?_
     refine AWp.skip ?_
     refine AWp.seq ?_
     refine AWp.seq ?_
     refine AWp.region ?_
     have hali : ¬ (0 < (atZ z n 5).length ∧ ty ≠ 5) := fun q => h8_5 q.2
     refine AOps.cons rfl rfl (q_load) ?_
     refine AOps.cons rfl rfl (q_move) ?_
     refine AOps.cons rfl rfl (q_move) ?_
     refine AOps.cons rfl rfl (q_call (0) (hc := (c_zone_at z n ty hz (by omega)))) ?_
     refine AOps.cons rfl rfl (q_assign) ?_
     refine AOps.nil ?_
     refine AWp.seq ?_
     refine AWp.region ?_
     refine AOps.cons rfl rfl (q_move) ?_
     refine AOps.cons rfl rfl (q_len) ?_
     refine AOps.dec rfl rfl (q_gtr) (fun h13_2 => ?_) (fun h13_2 => ?_)
     ·
      refine AOps.nil ?_
      refine AWp.cond_t rfl ?_
      refine AWp.seq ?_
      refine AWp.draws [⟨0, [7], [101], some 84, _, none⟩,
          ⟨1, [7], [101], some 85, _, none⟩,
          ⟨2, [85], [0], some 86, _, none⟩,
          ⟨3, [86], [0], some 87, _, none⟩,
          ⟨4, [87], [0], some 88, _, none⟩,
          ⟨5, [11], [], some 89, _, none⟩,
          ⟨6, [88, 89], [9001], some 90, _, some (9001, _)⟩,
          ⟨7, [84], [0], some 91, _, none⟩,
          ⟨8, [91], [0], some 92, _, none⟩,
          ⟨9, [90, 92], [0, 9001], none, _, some (0, _)⟩]
       [⟨0, [7], [101], some 84, .any, none⟩,
           ⟨1, [7], [101], some 85, .any, none⟩,
           ⟨2, [85], [0], some 86, .any, none⟩,
           ⟨3, [86], [0], some 87, .any, none⟩,
           ⟨4, [87], [0], some 88, .any, none⟩,
           ⟨5, [11], [], some 89, .any, none⟩,
           ⟨6, [88, 89], [9001], some 90, .any, some (9001, .box [])⟩,
           ⟨7, [84], [0], some 91, .any, none⟩,
           ⟨8, [91], [0], some 92, .any, none⟩,
           ⟨9, [90, 92], [0, 9001], none, .any, some (0, .box [])⟩]
       mixed_ok rfl (by kernel_rfl) ⟨DS.ok_over fun s0 => OpAt.go rfl rfl (q_load),
           DS.ok_over fun s0 => OpAt.go rfl rfl (q_load),
           DS.ok_over fun s0 => OpAt.go rfl rfl (q_nil),
           DS.ok_over fun s0 => OpAt.go rfl rfl (q_fa),
           DS.ok_over fun s0 => OpAt.go rfl rfl (q_load),
           DS.ok_over fun s0 => OpAt.go rfl rfl (q_move),
           DS.ok_over fun s0 => OpAt.go rfl rfl (q_app),
           DS.ok_over fun s0 => OpAt.go rfl rfl (q_nil),
           DS.ok_over fun s0 => OpAt.go rfl rfl (q_fa),
           DS.ok_over fun s0 => OpAt.go rfl rfl (q_store), trivial⟩ ?_
      dsimp only [final, DS.upd, AS.seto]
      refine AWp.ret ?_
      show Fin te Try.f60 _ _
      rw [fil_has hcut hali (by omega)] at hE
      rw [← hE]
      refine q_retH (0) [] [] [] [(_, _)] ?_
      rfl
     ·
      refine AOps.nil ?_
      refine AWp.cond_f rfl ?_
      refine AWp.skip ?_
      refine AWp.seq ?_
      refine AWp.draws [⟨0, [7], [101], some 93, _, none⟩,
          ⟨1, [4], [100], some 94, _, none⟩,
          ⟨2, [4], [100], some 95, _, none⟩,
          ⟨3, [95], [100], some 96, _, none⟩,
          ⟨4, [94, 96], [], some 97, _, none⟩,
          ⟨5, [93], [0], some 98, _, none⟩,
          ⟨6, [98], [0], some 99, _, none⟩,
          ⟨7, [97, 99], [0], none, _, some (0, _)⟩]
       [⟨0, [7], [101], some 93, .any, none⟩,
           ⟨1, [4], [100], some 94, .any, none⟩,
           ⟨2, [4], [100], some 95, .any, none⟩,
           ⟨3, [95], [100], some 96, .any, none⟩,
           ⟨4, [94, 96], [], some 97, .any, none⟩,
           ⟨5, [93], [0], some 98, .any, none⟩,
           ⟨6, [98], [0], some 99, .any, none⟩,
           ⟨7, [97, 99], [0], none, .any, some (0, .box [])⟩]
       mixed_ok rfl (by kernel_rfl) ⟨DS.ok_over fun s0 => OpAt.go rfl rfl (q_load),
           DS.ok_over fun s0 => OpAt.go rfl rfl (q_load),
           DS.ok_over fun s0 => OpAt.go rfl rfl (q_fa),
           DS.ok_over fun s0 => OpAt.go rfl rfl (q_load),
           DS.ok_over fun s0 => OpAt.go rfl rfl (q_call (0) (hc := (c_zone_at z z.o 6 hz (by omega)))),
           DS.ok_over fun s0 => OpAt.go rfl rfl (q_nil),
           DS.ok_over fun s0 => OpAt.go rfl rfl (q_fa),
           DS.ok_over fun s0 => OpAt.go rfl rfl (q_store), trivial⟩ ?_
      dsimp only [final, DS.upd, AS.seto]
      refine AWp.seq ?_
      refine AWp.region ?_
      refine AOps.cons rfl rfl (q_load) ?_
      refine AOps.cons rfl rfl (q_move) ?_
      refine AOps.bool rfl rfl (q_call (0) (hc := (c_zone_there z n hz (by omega)))) (fun h16_2 => ?_) (fun h16_2 => ?_)
      ·
       refine AOps.cons rfl rfl (q_not) ?_
       refine AOps.nil ?_
       refine AWp.cond_f rfl ?_
       refine AWp.skip ?_
       show Fin te Try.f60 _ _
       rw [fil_none hcut hali (by omega), if_pos h16_2] at hE
       rw [← hE]
       refine q_retH (0) [] [] [] [(_, _)] ?_
       rfl
      ·
       refine AOps.cons rfl rfl (q_not) ?_
       refine AOps.nil ?_
       refine AWp.cond_t rfl ?_
       refine AWp.region ?_
       refine AOps.cons rfl rfl (q_load) ?_
       refine AOps.cons rfl rfl (q_nil) ?_
       refine AOps.cons rfl rfl (q_fa) ?_
       refine AOps.cons rfl rfl (q_fa) ?_
       refine AOps.cons rfl rfl (q_store) ?_
       refine AOps.nil ?_
       show Fin te Try.f60 _ _
       rw [fil_none hcut hali (by omega), if_neg (by rw [h16_2]; decide)] at hE
       rw [← hE]
       refine q_retH (0) [] [] [] [(_, _)] ?_
       rfl
   ·
    refine AOps.cons rfl rfl (q_move) ?_
    refine AOps.gskip rfl rfl rfl rfl rfl rfl rfl rfl ?_
    refine AOps.gskip rfl rfl rfl rfl rfl rfl rfl rfl ?_
    refine AOps.cons rfl rfl (q_pick) ?_
    refine AOps.nil ?_
    refine AWp.cond_f rfl ?_
    refine AWp.skip ?_
    refine AWp.seq ?_
    refine AWp.seq ?_
    refine AWp.region ?_
    have hali : ¬ (0 < (atZ z n 5).length ∧ ty ≠ 5) := fun q => absurd q.1 (by omega)
    refine AOps.cons rfl rfl (q_load) ?_
    refine AOps.cons rfl rfl (q_move) ?_
    refine AOps.cons rfl rfl (q_move) ?_
    refine AOps.cons rfl rfl (q_call (0) (hc := (c_zone_at z n ty hz (by omega)))) ?_
    refine AOps.cons rfl rfl (q_assign) ?_
    refine AOps.nil ?_
    refine AWp.seq ?_
    refine AWp.region ?_
    refine AOps.cons rfl rfl (q_move) ?_
    refine AOps.cons rfl rfl (q_len) ?_
    refine AOps.dec rfl rfl (q_gtr) (fun h13_2 => ?_) (fun h13_2 => ?_)
    ·
     refine AOps.nil ?_
     refine AWp.cond_t rfl ?_
     refine AWp.seq ?_
     refine AWp.draws [⟨0, [7], [101], some 84, _, none⟩,
         ⟨1, [7], [101], some 85, _, none⟩,
         ⟨2, [85], [0], some 86, _, none⟩,
         ⟨3, [86], [0], some 87, _, none⟩,
         ⟨4, [87], [0], some 88, _, none⟩,
         ⟨5, [11], [], some 89, _, none⟩,
         ⟨6, [88, 89], [9001], some 90, _, some (9001, _)⟩,
         ⟨7, [84], [0], some 91, _, none⟩,
         ⟨8, [91], [0], some 92, _, none⟩,
         ⟨9, [90, 92], [0, 9001], none, _, some (0, _)⟩]
      [⟨0, [7], [101], some 84, .any, none⟩,
          ⟨1, [7], [101], some 85, .any, none⟩,
          ⟨2, [85], [0], some 86, .any, none⟩,
          ⟨3, [86], [0], some 87, .any, none⟩,
          ⟨4, [87], [0], some 88, .any, none⟩,
          ⟨5, [11], [], some 89, .any, none⟩,
          ⟨6, [88, 89], [9001], some 90, .any, some (9001, .box [])⟩,
          ⟨7, [84], [0], some 91, .any, none⟩,
          ⟨8, [91], [0], some 92, .any, none⟩,
          ⟨9, [90, 92], [0, 9001], none, .any, some (0, .box [])⟩]
      mixed_ok rfl (by kernel_rfl) ⟨DS.ok_over fun s0 => OpAt.go rfl rfl (q_load),
          DS.ok_over fun s0 => OpAt.go rfl rfl (q_load),
          DS.ok_over fun s0 => OpAt.go rfl rfl (q_nil),
          DS.ok_over fun s0 => OpAt.go rfl rfl (q_fa),
          DS.ok_over fun s0 => OpAt.go rfl rfl (q_load),
          DS.ok_over fun s0 => OpAt.go rfl rfl (q_move),
          DS.ok_over fun s0 => OpAt.go rfl rfl (q_app),
          DS.ok_over fun s0 => OpAt.go rfl rfl (q_nil),
          DS.ok_over fun s0 => OpAt.go rfl rfl (q_fa),
          DS.ok_over fun s0 => OpAt.go rfl rfl (q_store), trivial⟩ ?_
     dsimp only [final, DS.upd, AS.seto]
     refine AWp.ret ?_
     show Fin te Try.f60 _ _
     rw [fil_has hcut hali (by omega)] at hE
     rw [← hE]
     refine q_retH (0) [] [] [] [(_, _)] ?_
     rfl
    ·
     refine AOps.nil ?_
     refine AWp.cond_f rfl ?_
     refine AWp.skip ?_
     refine AWp.seq ?_
     refine AWp.draws [⟨0, [7], [101], some 93, _, none⟩,
         ⟨1, [4], [100], some 94, _, none⟩,
         ⟨2, [4], [100], some 95, _, none⟩,
         ⟨3, [95], [100], some 96, _, none⟩,
         ⟨4, [94, 96], [], some 97, _, none⟩,
         ⟨5, [93], [0], some 98, _, none⟩,
         ⟨6, [98], [0], some 99, _, none⟩,
         ⟨7, [97, 99], [0], none, _, some (0, _)⟩]
      [⟨0, [7], [101], some 93, .any, none⟩,
          ⟨1, [4], [100], some 94, .any, none⟩,
          ⟨2, [4], [100], some 95, .any, none⟩,
          ⟨3, [95], [100], some 96, .any, none⟩,
          ⟨4, [94, 96], [], some 97, .any, none⟩,
          ⟨5, [93], [0], some 98, .any, none⟩,
          ⟨6, [98], [0], some 99, .any, none⟩,
          ⟨7, [97, 99], [0], none, .any, some (0, .box [])⟩]
      mixed_ok rfl (by kernel_rfl) ⟨DS.ok_over fun s0 => OpAt.go rfl rfl (q_load),
          DS.ok_over fun s0 => OpAt.go rfl rfl (q_load),
          DS.ok_over fun s0 => OpAt.go rfl rfl (q_fa),
          DS.ok_over fun s0 => OpAt.go rfl rfl (q_load),
          DS.ok_over fun s0 => OpAt.go rfl rfl (q_call (0) (hc := (c_zone_at z z.o 6 hz (by omega)))),
          DS.ok_over fun s0 => OpAt.go rfl rfl (q_nil),
          DS.ok_over fun s0 => OpAt.go rfl rfl (q_fa),
          DS.ok_over fun s0 => OpAt.go rfl rfl (q_store), trivial⟩ ?_
     dsimp only [final, DS.upd, AS.seto]
     refine AWp.seq ?_
     refine AWp.region ?_
     refine AOps.cons rfl rfl (q_load) ?_
     refine AOps.cons rfl rfl (q_move) ?_
     refine AOps.bool rfl rfl (q_call (0) (hc := (c_zone_there z n hz (by omega)))) (fun h16_2 => ?_) (fun h16_2 => ?_)
     ·
      refine AOps.cons rfl rfl (q_not) ?_
      refine AOps.nil ?_
      refine AWp.cond_f rfl ?_
      refine AWp.skip ?_
      show Fin te Try.f60 _ _
      rw [fil_none hcut hali (by omega), if_pos h16_2] at hE
      rw [← hE]
      refine q_retH (0) [] [] [] [(_, _)] ?_
      rfl
     ·
      refine AOps.cons rfl rfl (q_not) ?_
      refine AOps.nil ?_
      refine AWp.cond_t rfl ?_
      refine AWp.region ?_
      refine AOps.cons rfl rfl (q_load) ?_
      refine AOps.cons rfl rfl (q_nil) ?_
      refine AOps.cons rfl rfl (q_fa) ?_
      refine AOps.cons rfl rfl (q_fa) ?_
      refine AOps.cons rfl rfl (q_store) ?_
      refine AOps.nil ?_
      show Fin te Try.f60 _ _
      rw [fil_none hcut hali (by omega), if_neg (by rw [h16_2]; decide)] at hE
      rw [← hE]
      refine q_retH (0) [] [] [] [(_, _)] ?_
      rfl
end Go.Proofs.Ytokccoloholgaaa.Fw


set_option linter.unusedVariables false
set_option linter.unusedSimpArgs false
namespace Go.Proofs.Ytokccoloholgaaa.Fw
open Go.RowKit
def Lw (n : List UInt8) : List (List UInt8) := lowL (labN n)
theorem with_iff {a b : List UInt8} : withN a b = true ↔ canN a = true ∧ canN b = true ∧ Lw b <:+ Lw a := by
  constructor
  · intro h
    obtain ⟨h1, h2⟩ := withN_can h
    obtain ⟨la, ha, rfl⟩ := can_nm h1
    obtain ⟨lb, hb, rfl⟩ := can_nm h2
    exact ⟨h1, h2, by rw [Lw, Lw, ha.lab, hb.lab]; exact (ha.within hb).1 h⟩
  · rintro ⟨h1, h2, h3⟩
    obtain ⟨la, ha, rfl⟩ := can_nm h1
    obtain ⟨lb, hb, rfl⟩ := can_nm h2
    rw [Lw, Lw, ha.lab, hb.lab] at h3
    exact (ha.within hb).2 h3
theorem same_iff {a b : List UInt8} : sameN a b = true ↔ canN a = true ∧ canN b = true ∧ Lw a = Lw b := by
  constructor
  · intro h
    have h0 := h
    unfold sameN at h
    simp only [Bool.and_eq_true] at h
    obtain ⟨⟨h1, h2⟩, _⟩ := h
    obtain ⟨la, ha, rfl⟩ := can_nm h1
    obtain ⟨lb, hb, rfl⟩ := can_nm h2
    rw [ha.same hb] at h0
    exact ⟨h1, h2, by rw [Lw, Lw, ha.lab, hb.lab]; exact of_decide_eq_true h0⟩
  · rintro ⟨h1, h2, h3⟩
    obtain ⟨la, ha, rfl⟩ := can_nm h1
    obtain ⟨lb, hb, rfl⟩ := can_nm h2
    rw [Lw, Lw, ha.lab, hb.lab] at h3
    rw [ha.same hb]; exact decide_eq_true h3
theorem cnt_Lw (n : List UInt8) : cntN n = (Lw n).length := by rw [cntN, Lw, lowL_length]
theorem with_trans {a b c : List UInt8} (h : withN a b = true) (k : withN b c = true) : withN a c = true := by
  obtain ⟨h1, h2, h3⟩ := with_iff.1 h
  obtain ⟨k1, k2, k3⟩ := with_iff.1 k
  exact with_iff.2 ⟨h1, k2, k3.trans h3⟩
theorem with_chain {n a b : List UInt8} (ha : withN n a = true) (hb : withN n b = true) (hc : cntN b ≤ cntN a) : withN a b = true := by
  obtain ⟨h1, h2, h3⟩ := with_iff.1 ha
  obtain ⟨k1, k2, k3⟩ := with_iff.1 hb
  rw [cnt_Lw, cnt_Lw] at hc
  exact with_iff.2 ⟨h2, k2, List.suffix_of_suffix_length_le k3 h3 (by omega)⟩
theorem with_eq {a b : List UInt8} (h : withN a b = true) (hc : cntN a = cntN b) : sameN a b = true := by
  obtain ⟨h1, h2, h3⟩ := with_iff.1 h
  rw [cnt_Lw, cnt_Lw] at hc
  exact same_iff.2 ⟨h1, h2, (h3.eq_of_length (by omega)).symm⟩
theorem same_cnt {a b : List UInt8} (h : sameN a b = true) : cntN a = cntN b := by
  rw [cnt_Lw, cnt_Lw, (same_iff.1 h).2.2]
theorem same_trans {a b c : List UInt8} (h : sameN a b = true) (k : sameN b c = true) : sameN a c = true := by
  obtain ⟨h1, h2, h3⟩ := same_iff.1 h
  obtain ⟨k1, k2, k3⟩ := same_iff.1 k
  exact same_iff.2 ⟨h1, k2, h3.trans k3⟩
theorem same_symm {a b : List UInt8} (h : sameN a b = true) : sameN b a = true := by rw [sameN_comm]; exact h
theorem near_best {t : Tr} {p : Zo → Bool} : ∀ {w : List Int} {b : Int}, (∀ i ∈ w, 0 ≤ i) → -1 ≤ b → (0 ≤ b → p (zAt t b) = true) →
    (0 ≤ w.foldl (nearS t p) b → p (zAt t (w.foldl (nearS t p) b)) = true) ∧ mostT t b ≤ mostT t (w.foldl (nearS t p) b) ∧ (∀ i ∈ w, p (zAt t i) = true → cntN (zAt t i).o ≤ mostT t (w.foldl (nearS t p) b)) ∧ (w.foldl (nearS t p) b = b ∨ w.foldl (nearS t p) b ∈ w)
  | [], b, _, _, hp => ⟨hp, Int.le_refl _, (fun i h => by cases h), .inl rfl⟩
  | i :: w, b, hw, hb, hp => by
    rw [List.foldl_cons]
    have hi := hw i (by simp)
    by_cases hc : p (zAt t i) = true ∧ mostT t b < cntN (zAt t i).o
    · have e : nearS t p b i = i := nearS_take hc.1 hc.2
      rw [e]
      obtain ⟨h1, h2, h3, h4⟩ := near_best (w := w) (b := i) (fun j hj => hw j (by simp [hj])) (by omega) (fun _ => hc.1)
      rw [mostT_at hi] at h2
      refine ⟨h1, by omega, fun j hj hpj => ?_, ?_⟩
      · rcases List.mem_cons.1 hj with rfl | hj
        · exact h2
        · exact h3 j hj hpj
      · rcases h4 with h4 | h4
        · exact .inr (by rw [h4]; simp)
        · exact .inr (by simp [h4])
    · have e : nearS t p b i = b := by
        by_cases hp2 : p (zAt t i) = true
        · exact nearS_keep (fun q => hc ⟨hp2, q⟩)
        · exact nearS_no (Bool.eq_false_iff.2 hp2)
      rw [e]
      obtain ⟨h1, h2, h3, h4⟩ := near_best (w := w) (b := b) (fun j hj => hw j (by simp [hj])) hb hp
      refine ⟨h1, h2, fun j hj hpj => ?_, ?_⟩
      · rcases List.mem_cons.1 hj with rfl | hj
        · have : ¬ mostT t b < cntN (zAt t j).o := fun q => hc ⟨hpj, q⟩
          omega
        · exact h3 j hj hpj
      · rcases h4 with h4 | h4
        · exact .inl h4
        · exact .inr (by simp [h4])
theorem nearF_best {t : Tr} {p : Zo → Bool} {w : List Int} (hw : ∀ i ∈ w, 0 ≤ i) (h : 0 ≤ nearF t p w) : p (zAt t (nearF t p w)) = true ∧ nearF t p w ∈ w ∧ ∀ i ∈ w, p (zAt t i) = true → cntN (zAt t i).o ≤ cntN (zAt t (nearF t p w)).o := by
  obtain ⟨h1, _, h3, h4⟩ := near_best (t := t) (p := p) (w := w) (b := -1) hw (by omega) (fun q => absurd q (by omega))
  refine ⟨h1 h, ?_, fun i hi hp => ?_⟩
  · rcases h4 with h4 | h4
    · have h5 : nearF t p w = -1 := h4
      omega
    · exact h4
  · have := h3 i hi hp
    rw [show mostT t (w.foldl (nearS t p) (-1)) = cntN (zAt t (nearF t p w)).o from mostT_at h] at this
    exact this
section
variable {t : Tr}
theorem org_uniq (h : canT t = true) {i j : Nat} (hi : i < t.zs.length) (hj : j < t.zs.length) (hs : sameN (t.zs.getD i default).o (t.zs.getD j default).o = true) : i = j := by
  have key : ∀ {i j : Nat}, i < j → j < t.zs.length → sameN (t.zs.getD i default).o (t.zs.getD j default).o = true → False := by
    intro i j hij hj hs
    have h1 := (canT_parts h).2.2.2.2.1 j hj
    unfold orgO at h1
    simp only [Bool.and_eq_true, Bool.not_eq_true', List.any_eq_false] at h1
    exact h1.2 _ (List.mem_take_iff_getElem.2 ⟨i, by omega, (gd_at (by omega)).symm⟩) hs
  rcases Nat.lt_trichotomy i j with h1 | h1 | h1
  · exact (key h1 hj hs).elim
  · exact h1
  · exact (key h1 hi (same_symm hs)).elim
theorem org_can (h : canT t = true) {z : Zo} (hz : z ∈ t.zs) : canN z.o = true := by
  obtain ⟨i, hi, rfl⟩ := List.getElem_of_mem hz
  have h1 := (canT_parts h).2.2.2.2.1 i hi
  unfold orgO at h1
  simp only [Bool.and_eq_true] at h1
  rw [← gd_at hi]; exact h1.1
theorem join_of (h : canT t = true) {k : Nat} (hk : k < t.zs.length) : (∀ i, i < t.zs.length → kidO t (parT t) k i = true) ∧ ∀ r ∈ (t.zs.getD k default).rs, joinQ t (parT t) k (t.zs.getD k default) r = false := by
  have h1 := (canT_parts h).2.2.2.2.2.2 k hk
  unfold zonO joinZ at h1
  simp only [Bool.and_eq_true, range_all_iff, Bool.not_eq_true', List.any_eq_false] at h1
  exact ⟨h1.2.1, fun r hr => Bool.eq_false_iff.2 (h1.2.2 r hr)⟩
theorem cut_some {z : Zo} {n : List UInt8} {r : Rr} (hr : r ∈ z.rs) (h : cutP z n r = true) : cutZ z n ≠ [] := by
  have key : ∀ (l : List Rr) (b : List UInt8), (b ≠ [] ∨ ∃ r ∈ l, cutP z n r = true) → l.foldl (cutS z n) b ≠ [] := by
    intro l
    induction l with
    | nil => rintro b (hb | ⟨r, hr, _⟩)
             · exact hb
             · cases hr
    | cons a l ih =>
      intro b hb
      rw [List.foldl_cons]
      refine ih _ ?_
      rcases hb with hb | ⟨r, hr, hp⟩
      · left
        unfold cutS; split
        · rename_i hc
          simp only [Bool.and_eq_true] at hc
          have := hc.1
          unfold cutP at this
          simp only [Bool.and_eq_true] at this
          exact withN_ne this.1.2
        · exact hb
      · rcases List.mem_cons.1 hr with rfl | hr
        · left
          have hne : r.nm ≠ [] := by
            have := hp
            unfold cutP at this
            simp only [Bool.and_eq_true] at this
            exact withN_ne this.1.2
          unfold cutS
          split
          · exact hne
          · rename_i hc
            intro e
            apply hc
            rw [hp, e]; rfl
        · exact .inr ⟨r, hr, hp⟩
  exact key z.rs [] (.inr ⟨r, hr, h⟩)
theorem cutP_iff {z : Zo} {n : List UInt8} {r : Rr} : cutP z n r = true ↔ r.ty = 2 ∧ sameN r.nm z.o = false ∧ withN r.nm z.o = true ∧ withN n r.nm = true := by
  unfold cutP
  simp only [Bool.and_eq_true, decide_eq_true_eq, Bool.not_eq_true', and_assoc]
theorem par_best (h : canT t = true) {c z : Zo} (hc : c ∈ t.zs) (hz : z ∈ t.zs) (hp : parP c z = true) : ∃ u ∈ t.zs, u = zAt t (parOf t c) ∧ 0 ≤ parOf t c ∧ parOf t c < t.zs.length ∧ parP c u = true ∧ cntN z.o ≤ cntN u.o := by
  obtain ⟨i, hi, rfl⟩ := List.getElem_of_mem hz
  have e : zAt t (i : Int) = t.zs[i] := gd_at hi
  have him : (i : Int) ∈ everyT t := List.mem_map.2 ⟨i, List.mem_range.2 hi, rfl⟩
  have h0 : 0 ≤ parOf t c := near_pos (fun j hj => (everyT_in t j hj).1) ⟨i, him, by rw [e]; exact hp⟩
  have h1 := (nearF_in (t := t) (p := parP c) (everyT_in t)).2
  obtain ⟨h2, _, h3⟩ := nearF_best (t := t) (p := parP c) (w := everyT t) (fun j hj => (everyT_in t j hj).1) h0
  refine ⟨_, zAt_mem ⟨h0, h1⟩, rfl, h0, h1, h2, ?_⟩
  have := h3 i him (by rw [e]; exact hp)
  rw [e] at this; exact this
theorem parP_iff {c z : Zo} : parP c z = true ↔ withN c.o z.o = true ∧ sameN c.o z.o = false := by
  unfold parP
  simp only [Bool.and_eq_true, Bool.not_eq_true']
end
end Go.Proofs.Ytokccoloholgaaa.Fw


set_option linter.unusedVariables false
set_option linter.unusedSimpArgs false
namespace Go.Proofs.Ytokccoloholgaaa.Fw
open Go.RowKit
def Msg.rrs (m : Msg) : List Rr := m.an ++ m.au ++ m.ad
def NmOk (m : Msg) : Prop := (∀ x ∈ m.qs, x.nm.length ≤ 140737488351232) ∧ ∀ x ∈ m.rrs, x.nm.length ≤ 140737488351232
section
variable {d : Nat} {s n b u : TypeId} {is in' ib iu : TI}
theorem has_rrN {t y : TypeId} {it iy : TI} {cs : List AV} (h : Has te (d + 2) t cs) (ht : te.get t = some it) (kt : it.k = .struct [(0, s), (1, n), (2, n), (3, n), (4, y)]) (hs : te.get s = some is) (ks : is.k = .str) (hn : te.get n = some in') (kn : in'.k = .int .i64)
    (hy : te.get y = some iy) (ky : iy.k = .slice u) (hu : te.get u = some iu) (ku : iu.k = .int .u8) (bu : iu.bytes = 1) : ∃ x : Rr, cs = rrc x ∧ (x.da.length ≤ 140737488351232 ∧ x.nm.length ≤ 140737488351232) := by
  obtain ⟨_, w, rfl, q, hh⟩ := has_struct h ht kt
  obtain ⟨a1, rfl, bn⟩ := has_str q hs ks
  obtain ⟨_, w, rfl, q, hh⟩ := hh
  obtain ⟨a2, rfl, _⟩ := has_int q hn kn
  obtain ⟨_, w, rfl, q, hh⟩ := hh
  obtain ⟨a3, rfl, _⟩ := has_int q hn kn
  obtain ⟨_, w, rfl, q, hh⟩ := hh
  obtain ⟨a4, rfl, _⟩ := has_int q hn kn
  obtain ⟨_, w, rfl, q, hh⟩ := hh
  obtain ⟨a5, rfl, h5⟩ := has_bytes q hy ky hu ku bu
  cases hh
  exact ⟨⟨a1, a2, a3, a4, a5⟩, rfl, h5, bn⟩
theorem has_rrsN {t r y : TypeId} {it ir iy : TI} {cs : List AV} (h : Has te (d + 3) t cs) (ht : te.get t = some it) (kt : it.k = .slice r) (hr : te.get r = some ir) (kr : ir.k = .struct [(0, s), (1, n), (2, n), (3, n), (4, y)]) (br : ir.bytes = 64)
    (hs : te.get s = some is) (ks : is.k = .str) (hn : te.get n = some in') (kn : in'.k = .int .i64) (hy : te.get y = some iy) (ky : iy.k = .slice u) (hu : te.get u = some iu) (ku : iu.k = .int .u8) (bu : iu.bytes = 1) : ∃ l : List Rr, cs = [.fz 0 l.length (cl rrc l)] ∧ (RrsOk l ∧ ∀ x ∈ l, x.nm.length ≤ 140737488351232) := by
  obtain ⟨l, h1, h2, h3⟩ := has_sl (f := rrc) (q := fun x => x.da.length ≤ 140737488351232 ∧ x.nm.length ≤ 140737488351232) h ht kt hr fun c hc => has_rrN hc hr kr hs ks hn kn hy ky hu ku bu
  exact ⟨l, h1, ⟨by rw [br] at h2; exact h2, fun x hx => (h3 x hx).1⟩, fun x hx => (h3 x hx).2⟩
end
section
variable {d : Nat} {s n u : TypeId} {is in' iu : TI}
theorem has_zo {t rl r y : TypeId} {it irl ir iy : TI} {cs : List AV} (h : Has te (d + 4) t cs) (ht : te.get t = some it) (kt : it.k = .struct [(0, s), (1, rl)]) (hrl : te.get rl = some irl) (krl : irl.k = .slice r) (hr : te.get r = some ir) (kr : ir.k = .struct [(0, s), (1, n), (2, n), (3, n), (4, y)]) (br : ir.bytes = 64)
    (hs : te.get s = some is) (ks : is.k = .str) (hn : te.get n = some in') (kn : in'.k = .int .i64) (hy : te.get y = some iy) (ky : iy.k = .slice u) (hu : te.get u = some iu) (ku : iu.k = .int .u8) (bu : iu.bytes = 1) : ∃ z : Zo, cs = zoC z ∧ ZoOk z := by
  obtain ⟨_, w, rfl, q, hh⟩ := has_struct h ht kt
  obtain ⟨a1, rfl, b1⟩ := has_str q hs ks
  obtain ⟨_, w, rfl, q, hh⟩ := hh
  obtain ⟨l, rfl, b2, b3⟩ := has_rrsN q hrl krl hr kr br hs ks hn kn hy ky hu ku bu
  cases hh
  exact ⟨⟨a1, l⟩, rfl, b1, b2, b3⟩
theorem has_sv {t il : TypeId} {it iil : TI} {cs : List AV} (h : Has te (d + 4) t cs) (ht : te.get t = some it) (kt : it.k = .struct [(0, n), (1, il)]) (hil : te.get il = some iil) (kil : iil.k = .slice n) (hn : te.get n = some in') (kn : in'.k = .int .i64) (bn : in'.bytes = 8) : ∃ x : Sv, cs = svC x ∧ x.zs.length * 8 ≤ 140737488351232 := by
  obtain ⟨_, w, rfl, q, hh⟩ := has_struct h ht kt
  obtain ⟨a1, rfl, _⟩ := has_int q hn kn
  obtain ⟨_, w, rfl, q, hh⟩ := hh
  obtain ⟨l, rfl, b2, _⟩ := has_intsc q hil kil hn kn bn
  cases hh
  exact ⟨⟨a1, l⟩, rfl, b2⟩
theorem has_tr {t zl z rl r y sl sv il : TypeId} {it izl iz irl ir iy isl isv iil : TI} {cs : List AV} (h : Has te (d + 6) t cs) (ht : te.get t = some it) (kt : it.k = .struct [(0, zl), (1, sl)]) (hzl : te.get zl = some izl) (kzl : izl.k = .slice z) (hz : te.get z = some iz) (kz : iz.k = .struct [(0, s), (1, rl)]) (bz : iz.bytes = 40)
    (hsl : te.get sl = some isl) (ksl : isl.k = .slice sv) (hsv : te.get sv = some isv) (ksv : isv.k = .struct [(0, n), (1, il)]) (bsv : isv.bytes = 32) (hil : te.get il = some iil) (kil : iil.k = .slice n)
    (hrl : te.get rl = some irl) (krl : irl.k = .slice r) (hr : te.get r = some ir) (kr : ir.k = .struct [(0, s), (1, n), (2, n), (3, n), (4, y)]) (br : ir.bytes = 64)
    (hs : te.get s = some is) (ks : is.k = .str) (hn : te.get n = some in') (kn : in'.k = .int .i64) (bn : in'.bytes = 8) (hy : te.get y = some iy) (ky : iy.k = .slice u) (hu : te.get u = some iu) (ku : iu.k = .int .u8) (bu : iu.bytes = 1) : ∃ T : Tr, cs = trC T ∧ TrOk T := by
  obtain ⟨_, w, rfl, q, hh⟩ := has_struct h ht kt
  obtain ⟨a, rfl, a1, a2⟩ := has_sl (f := zoC) (q := ZoOk) q hzl kzl hz fun c hc => has_zo hc hz kz hrl krl hr kr br hs ks hn kn hy ky hu ku bu
  obtain ⟨_, w, rfl, q, hh⟩ := hh
  obtain ⟨b, rfl, b1, b2⟩ := has_sl (f := svC) (q := fun x => x.zs.length * 8 ≤ 140737488351232) q hsl ksl hsv fun c hc => has_sv hc hsv ksv hil kil hn kn bn
  cases hh
  exact ⟨⟨a, b⟩, rfl, by rw [bz] at a1; exact a1, a2, by rw [bsv] at b1; exact b1, b2⟩
end
end Go.Proofs.Ytokccoloholgaaa.Fw


set_option linter.unusedVariables false
set_option linter.unusedSimpArgs false
namespace Go.Proofs.Ytokccoloholgaaa.Fw
open Go.RowKit
def mZ : Msg := ⟨⟨0, false, 0, false, false, false, false, 0⟩, [], [], [], []⟩
def isAd (a : Int) (s : Sv) : Bool := decide (s.ad = a)
def baseM (m : Msg) (q : Qu) (c : Int) : Msg := ⟨⟨m.h.id, true, m.h.op, false, false, m.h.rd, false, c⟩, [q], [], [], []⟩
def filM (m : Msg) (q : Qu) (f : Fl) : Msg := ⟨⟨m.h.id, true, m.h.op, f.aa, false, m.h.rd, false, f.code⟩, [q], f.an, f.au, f.ad⟩
def serR (t : Tr) (s : Sv) (m : Msg) (q : Qu) : Msg :=
  if m.h.op ≠ 0 then baseM m q 4 else if q.cs ≠ 1 ∨ homeT t s.zs q.nm < 0 then baseM m q 5 else filM m q (fil (zAt t (homeT t s.zs q.nm)) q.ty false [] q.nm 0)
def serO (t : Tr) (a : Int) (m : Msg) : Bool := canT t && !m.h.resp && decide (m.qs.length = 1) && canN (m.qs.getD 0 default).nm && decide (0 ≤ idx (isAd a) t.ss)
def serV (t : Tr) (a : Int) (m : Msg) : Msg := if serO t a m then serR t (t.ss.getD (idx (isAd a) t.ss).toNat default) m (m.qs.getD 0 default) else mZ
section
variable {t : Tr} {a : Int} {m : Msg}
theorem ser_1 (h : canT t = false) : serO t a m = false := by rw [serO, h]; rfl
theorem ser_2 (h : m.h.resp = true) : serO t a m = false := by rw [serO, h, Bool.not_true, Bool.and_false]; rfl
theorem ser_3 (h : ¬ (m.qs.length : Int) = 1) : serO t a m = false := by rw [serO, decide_eq_false (p := m.qs.length = 1) (by omega), Bool.and_false]; rfl
theorem ser_4 (h : canN (m.qs.getD 0 default).nm = false) : serO t a m = false := by rw [serO, h, Bool.and_false]; rfl
theorem ser_5 (h : idx (isAd a) t.ss < 0) : serO t a m = false := by rw [serO, decide_eq_false (p := 0 ≤ idx (isAd a) t.ss) (by omega), Bool.and_false]
theorem ser_yes (h1 : canT t = true) (h2 : m.h.resp = false) (h3 : ¬ ¬ (m.qs.length : Int) = 1) (h4 : canN (m.qs.getD 0 default).nm = true) (h5 : ¬ idx (isAd a) t.ss < 0) : serO t a m = true := by
  rw [serO, h1, h2, decide_eq_true (p := m.qs.length = 1) (by omega), h4, decide_eq_true (p := 0 ≤ idx (isAd a) t.ss) (by omega)]; rfl
theorem ser_none (h : serO t a m = false) : serV t a m = mZ := by rw [serV, h]; rfl
theorem ser_some (h : serO t a m = true) : serV t a m = serR t (t.ss.getD (idx (isAd a) t.ss).toNat default) m (m.qs.getD 0 default) := by rw [serV, h]; rfl
theorem idx_lt {α : Type} {g : α → Bool} : ∀ {l : List α}, 0 < l.length → idx g l < l.length
  | [a], _ => by unfold idx; split <;> simp [idx]
  | a :: b :: l, _ => by
    have h := idx_lt (g := g) (l := b :: l) (by simp)
    unfold idx
    simp only [List.length_cons] at h ⊢
    split
    · omega
    · split <;> omega
theorem idx_lt' {α : Type} {g : α → Bool} {l : List α} (h : ¬ idx g l < 0) : (idx g l).toNat < l.length := by
  cases l with
  | nil => simp [idx] at h
  | cons a l => have := idx_lt (g := g) (l := a :: l) (by simp); omega
theorem srv_in (h : canT t = true) {s : Sv} (hs : s ∈ t.ss) : ∀ i ∈ s.zs, 0 ≤ i ∧ i < t.zs.length := by
  intro i hi
  obtain ⟨j, hj, rfl⟩ := List.getElem_of_mem hs
  have h1 := (canT_parts h).2.2.2.1
  unfold srvT at h1
  simp only [Bool.and_eq_true, range_all_iff] at h1
  have h2 := h1.2 j hj
  unfold svO at h2
  rw [gd_at hj] at h2
  simp only [Bool.and_eq_true, Bool.not_eq_true', List.any_eq_false] at h2
  have h3 := h2.2 i hi
  simp only [badZ, Bool.or_eq_true, decide_eq_true_eq, not_or] at h3
  omega
theorem zs_small (h : canT t = true) {z : Zo} (hz : z ∈ t.zs) : z.rs.length ≤ 400 := by
  have h1 := sum_mem hz
  have h2 := (canT_parts h).2.2.2.2.2.1
  omega
theorem zs_data (h : canT t = true) {z : Zo} (hz : z ∈ t.zs) : ∀ r ∈ z.rs, r.ty = 2 ∨ r.ty = 5 → canN r.da = true := fun r hr hty => data_can (canT_in h hz hr) hty
end
set_option maxRecDepth 20000 in
set_option maxHeartbeats 2000000 in
theorem c_IndexFunc_sv (l : List (Sv)) (lv lv' lw : Nat) (caps : List AV) (g : Sv → Bool) {fid : Nat} (hl : l.length ≤ 140737488351232) (hcaps : AV.oks lw caps = true) (hg : ∀ x ∈ l, AC Try.prog fid (.agg (svC x) :: caps) emp (Ret (tf (g x)))) : AC Try.prog 58 [.fz lv l.length (cl (svC) l), .fn (.func fid) [] caps] emp (Ret (i64 (idx g l))) := by
 refine AC.intro te_ok (fn := Try.f58) ⟨Try.func58, rfl, rfl⟩ (Nat.le_of_ble_eq_true rfl) ?_
 refine AWp.seq ?_
 refine AWp.region ?_
 refine AOps.cons rfl rfl (q_assign) ?_
 refine AOps.nil ?_
 refine AWp.seq ?_
 refine AWp.seq ?_
 refine AWp.region ?_
 refine AOps.cons rfl rfl (q_move) ?_
 refine AOps.cons rfl rfl (q_len) ?_
 refine AOps.cons rfl rfl (q_move) ?_
 refine AOps.nil ?_
 refine AWp.block ?_
 refine AWp.loopR (α := Nat) [4, 5, 8, 9, 10, 11, 12, 13, 14, 15, 16, 17, 18] (fun i => [(8, i64 i)]) (fun i => []) (fun i => i ≤ l.length ∧ ∀ x ∈ l.take i, g x = false) (fun i => l.length - i) 0 ?_ (Back.mk' (HasT.cons HasT.nil) HasH.nil) ?_
 ·
  exact ⟨Nat.zero_le _, by simp⟩
 ·
  rintro i ⟨hi, hI⟩
  refine AWp.seq ?_
  refine AWp.region ?_
  refine AOps.dec rfl rfl (q_lss) (fun h2_0 => ?_) (fun h2_0 => ?_)
  ·
   refine AOps.nil ?_
   refine AWp.seq ?_
   refine AWp.cond_t rfl ?_
   refine AWp.skip ?_
   refine AWp.seq ?_
   refine AWp.block ?_
   refine AWp.seq ?_
   refine AWp.region ?_
   refine AOps.cons rfl rfl (q_move) ?_
   refine AOps.cons rfl rfl (q_assign) ?_
   refine AOps.nil ?_
   refine AWp.seq ?_
   refine AWp.region ?_
   refine AOps.cons rfl rfl (q_move) ?_
   refine AOps.cons rfl rfl (q_move) ?_
   refine AOps.cons rfl rfl (q_move) ?_
   refine AOps.cons rfl rfl (q_ix) ?_
   refine AOps.cons rfl rfl (q_load) ?_
   refine AOps.bool rfl rfl (q_call (lv + lv' + lw) (hA := by exact fvs_caps (l := lw) (fv_okb rfl (by first | rfl | exact ble_of (by omega) | (simp [AV.ok, AV.oks]; done))) (by omega) hcaps) (hc := (hg _ (getD_mem (i := i) (by omega))))) (fun h4_5 => ?_) (fun h4_5 => ?_)
   ·
    refine AOps.nil ?_
    refine AWp.cond_t rfl ?_
    refine AWp.seq ?_
    refine AWp.region ?_
    refine AOps.cons rfl rfl (q_move) ?_
    refine AOps.cons rfl rfl (q_assign) ?_
    refine AOps.nil ?_
    refine AWp.ret ?_
    show Fin te Try.f58 _ _
    refine q_ret (0) [_] [_] ?_
    exact i64_eq (idx_at (by omega) hI h4_5).symm
   ·
    refine AOps.nil ?_
    refine AWp.cond_f rfl ?_
    refine AWp.skip ?_
    refine AWp.region ?_
    refine AOps.cons rfl rfl (q_add) ?_
    refine AOps.cons rfl rfl (q_move) ?_
    refine AOps.nil ?_
    refine ⟨i + 1, ?_, Back.mk' (HasT.cons HasT.nil) HasH.nil, ?_⟩
    ·
     exact ⟨by omega, idx_step (by omega) hI h4_5⟩
    ·
     first | omega | (simp; omega)
  ·
   refine AOps.nil ?_
   refine AWp.seq ?_
   refine AWp.cond_f rfl ?_
   refine AWp.exit ?_
   refine AWp.seq ?_
   refine AWp.region ?_
   refine AOps.cons rfl rfl (q_assign) ?_
   refine AOps.nil ?_
   refine AWp.ret ?_
   show Fin te Try.f58 _ _
   refine q_ret (0) [_] [_] ?_
   exact i64_eq (idx_none (by rwa [List.take_of_length_le (by omega)] at hI)).symm
set_option maxRecDepth 20000 in
set_option maxHeartbeats 2000000 in
theorem c_zone_Serve_1 (s : Sv) (a : Int) (lv : Nat) : AC Try.prog 59 [.agg (svC s), .fp lv [i64 a]] emp (Ret (tf (isAd a s))) := by
 refine AC.intro te_ok (fn := Try.f59) ⟨Try.func59, rfl, rfl⟩ (Nat.le_of_ble_eq_true rfl) ?_
 refine AWp.seq ?_
 refine AWp.region ?_
 refine AOps.cons rfl rfl (q_box 100) ?_
 refine AOps.cons rfl rfl (q_assign) ?_
 refine AOps.nil ?_
 refine AWp.seq ?_
 refine AWp.region ?_
 refine AOps.cons rfl rfl (q_fa) ?_
 refine AOps.cons rfl rfl (q_load) ?_
 refine AOps.cons rfl rfl (q_load) ?_
 refine AOps.cons rfl rfl (q_eql) ?_
 refine AOps.cons rfl rfl (q_assign) ?_
 refine AOps.nil ?_
 refine AWp.ret ?_
 show Fin te Try.f59 _ _
 refine q_ret (0) [_] [_] ?_
 rfl
set_option maxRecDepth 20000 in
set_option maxHeartbeats 2000000 in
theorem c_zone_Serve (t : Tr) (a : Int) (m : Msg) (ht : TrOk t) (hm : MsgOk m) (hn : NmOk m) : AC Try.prog 22 [.agg (trC t), i64 a, .agg (msgC m)] emp (Ret (.tup [.agg (msgC (serV t a m)), tf (serO t a m)])) := by
 have hb1 := ht.1
 have hb2 := ht.2.2.1
 have hmq := hm.1
 refine AC.intro te_ok (fn := Try.f22) ⟨Try.func22, rfl, rfl⟩ (Nat.le_of_ble_eq_true rfl) ?_
 refine AWp.seq ?_
 refine AWp.region ?_
 refine AOps.cons rfl rfl (q_box 100) ?_
 refine AOps.cons rfl rfl (q_box 101) ?_
 refine AOps.cons rfl rfl (q_box 102) ?_
 refine AOps.cons rfl rfl (q_alloc 103) ?_
 refine AOps.cons rfl rfl (q_assign) ?_
 refine AOps.nil ?_
 refine AWp.seq ?_
 refine AWp.seq ?_
 refine AWp.region ?_
 refine AOps.cons rfl rfl (q_load) ?_
 refine AOps.bool rfl rfl (q_call (0) (hc := (c_zone_Can t ht))) (fun h1_1 => ?_) (fun h1_1 => ?_)
 ·
  refine AOps.cons rfl rfl (q_not) ?_
  refine AOps.cons rfl rfl (q_move) ?_
  refine AOps.gcons rfl rfl rfl rfl rfl (q_fa) ?_
  refine AOps.gcons rfl rfl rfl rfl rfl (q_fa) ?_
  refine AOps.gbool rfl rfl rfl rfl rfl (q_load) (fun h1_6 => ?_) (fun h1_6 => ?_)
  ·
   refine AOps.cons rfl rfl (q_pick) ?_
   refine AOps.cons rfl rfl (q_move) ?_
   refine AOps.gskip rfl rfl rfl rfl rfl rfl rfl rfl ?_
   refine AOps.gskip rfl rfl rfl rfl rfl rfl rfl rfl ?_
   refine AOps.gskip rfl rfl rfl rfl rfl rfl rfl rfl ?_
   refine AOps.gskip rfl rfl rfl rfl rfl rfl rfl rfl ?_
   refine AOps.cons rfl rfl (q_pick) ?_
   refine AOps.cons rfl rfl (q_move) ?_
   refine AOps.gskip rfl rfl rfl rfl rfl rfl rfl rfl ?_
   refine AOps.gskip rfl rfl rfl rfl rfl rfl rfl rfl ?_
   refine AOps.gskip rfl rfl rfl rfl rfl rfl rfl rfl ?_
   refine AOps.gskip rfl rfl rfl rfl rfl rfl rfl rfl ?_
   refine AOps.gskip rfl rfl rfl rfl rfl rfl rfl rfl ?_
   refine AOps.gskip rfl rfl rfl rfl rfl rfl rfl rfl ?_
   refine AOps.gskip rfl rfl rfl rfl rfl rfl rfl rfl ?_
   refine AOps.cons rfl rfl (q_pick) ?_
   refine AOps.nil ?_
   refine AWp.cond_t rfl ?_
   refine AWp.seq ?_
   refine AWp.region ?_
   refine AOps.cons rfl rfl (q_build []) ?_
   refine AOps.cons rfl rfl (q_store) ?_
   refine AOps.cons rfl rfl (q_assign) ?_
   refine AOps.weak (Weak.full 0 [] (t := [(7, tf false), (6, .ptr 103 0 0)]) (hl := [(103, .box (msgC mZ))])) ?_
   refine AOps.nil ?_
   refine AWp.ret ?_
   show Fin te Try.f22 _ _
   refine q_ret (0) [_, _] [_, _] ?_
   have hno : serO t a m = false := ser_2 h1_6
   rw [ser_none hno, hno]; rfl
  ·
   refine AOps.cons rfl rfl (q_pick) ?_
   refine AOps.cons rfl rfl (q_move) ?_
   refine AOps.gcons rfl rfl rfl rfl rfl (q_fa) ?_
   refine AOps.gcons rfl rfl rfl rfl rfl (q_load) ?_
   refine AOps.gcons rfl rfl rfl rfl rfl (q_len) ?_
   refine AOps.gdec rfl rfl rfl rfl rfl (q_neq) (fun h1_12 => ?_) (fun h1_12 => ?_)
   ·
    refine AOps.cons rfl rfl (q_pick) ?_
    refine AOps.cons rfl rfl (q_move) ?_
    refine AOps.gskip rfl rfl rfl rfl rfl rfl rfl rfl ?_
    refine AOps.gskip rfl rfl rfl rfl rfl rfl rfl rfl ?_
    refine AOps.gskip rfl rfl rfl rfl rfl rfl rfl rfl ?_
    refine AOps.gskip rfl rfl rfl rfl rfl rfl rfl rfl ?_
    refine AOps.gskip rfl rfl rfl rfl rfl rfl rfl rfl ?_
    refine AOps.gskip rfl rfl rfl rfl rfl rfl rfl rfl ?_
    refine AOps.gskip rfl rfl rfl rfl rfl rfl rfl rfl ?_
    refine AOps.cons rfl rfl (q_pick) ?_
    refine AOps.nil ?_
    refine AWp.cond_t rfl ?_
    refine AWp.seq ?_
    refine AWp.region ?_
    refine AOps.cons rfl rfl (q_build []) ?_
    refine AOps.cons rfl rfl (q_store) ?_
    refine AOps.cons rfl rfl (q_assign) ?_
    refine AOps.weak (Weak.full 0 [] (t := [(7, tf false), (6, .ptr 103 0 0)]) (hl := [(103, .box (msgC mZ))])) ?_
    refine AOps.nil ?_
    refine AWp.ret ?_
    show Fin te Try.f22 _ _
    refine q_ret (0) [_, _] [_, _] ?_
    have hno : serO t a m = false := ser_3 h1_12
    rw [ser_none hno, hno]; rfl
   ·
    refine AOps.cons rfl rfl (q_pick) ?_
    refine AOps.cons rfl rfl (q_move) ?_
    refine AOps.gcons rfl rfl rfl rfl rfl (q_fa) ?_
    refine AOps.gcons rfl rfl rfl rfl rfl (q_load) ?_
    have hl1 : m.qs.length = 1 := by omega
    have hqn := hn.1 _ (getD_mem' (l := m.qs) (i := 0) (by omega))
    refine AOps.gcons rfl rfl rfl rfl rfl (q_ix) ?_
    refine AOps.gcons rfl rfl rfl rfl rfl (q_fa) ?_
    refine AOps.gcons rfl rfl rfl rfl rfl (q_load) ?_
    refine AOps.gbool rfl rfl rfl rfl rfl (q_call (0) (hc := (c_name_Can (m.qs.getD 0 default).nm (by omega)))) (fun h1_20 => ?_) (fun h1_20 => ?_)
    ·
     refine AOps.gcons rfl rfl rfl rfl rfl (q_not) ?_
     refine AOps.cons rfl rfl (q_pick) ?_
     refine AOps.nil ?_
     refine AWp.cond_f rfl ?_
     refine AWp.skip ?_
     refine AWp.seq ?_
     refine AWp.region ?_
     refine AOps.cons rfl rfl (q_fa) ?_
     refine AOps.cons rfl rfl (q_load) ?_
     refine AOps.cons rfl rfl (q_makeFunc [] [_]) ?_
     refine AOps.cons rfl rfl (q_call (0) (hc := (c_IndexFunc_sv t.ss 0 0 1 [.fp 1 [i64 a]] (isAd a) (by omega) rfl (fun s hs => c_zone_Serve_1 s a 1)))) ?_
     refine AOps.cons rfl rfl (q_assign) ?_
     refine AOps.nil ?_
     refine AWp.seq ?_
     refine AWp.seq ?_
     refine AWp.region ?_
     refine AOps.cons rfl rfl (q_move) ?_
     refine AOps.dec rfl rfl (q_lss) (fun h4_1 => ?_) (fun h4_1 => ?_)
     ·
      refine AOps.nil ?_
      refine AWp.cond_t rfl ?_
      refine AWp.seq ?_
      refine AWp.region ?_
      refine AOps.cons rfl rfl (q_build []) ?_
      refine AOps.cons rfl rfl (q_store) ?_
      refine AOps.cons rfl rfl (q_assign) ?_
      refine AOps.weak (Weak.full 0 [] (t := [(7, tf false), (6, .ptr 103 0 0)]) (hl := [(103, .box (msgC mZ))])) ?_
      refine AOps.nil ?_
      refine AWp.ret ?_
      show Fin te Try.f22 _ _
      refine q_ret (0) [_, _] [_, _] ?_
      have hno : serO t a m = false := ser_5 h4_1
      rw [ser_none hno, hno]; rfl
     ·
      refine AOps.nil ?_
      refine AWp.cond_f rfl ?_
      refine AWp.skip ?_
      refine AWp.seq ?_
      refine AWp.region ?_
      have hyes := ser_yes h1_1 h1_6 h1_12 h1_20 h4_1
      have hcan := h1_1
      have hix := idx_lt' h4_1
      have hsm : (t.ss.getD (idx (isAd a) t.ss).toNat default) ∈ t.ss := getD_mem' hix
      have hin := srv_in hcan hsm
      have hszl := ht.2.2.2 _ hsm
      have hql := canN_le2 h1_20
      refine AOps.cons rfl rfl (q_fa) ?_
      refine AOps.cons rfl rfl (q_load) ?_
      refine AOps.cons rfl rfl (q_ix) ?_
      refine AOps.cons rfl rfl (q_load) ?_
      refine AOps.cons rfl rfl (q_alloc 704) ?_
      refine AOps.cons rfl rfl (q_store) ?_
      refine AOps.nil ?_
      refine AWp.seq ?_
      refine AWp.region ?_
      refine AOps.cons rfl rfl (q_fa) ?_
      refine AOps.cons rfl rfl (q_fa) ?_
      refine AOps.cons rfl rfl (q_load) ?_
      refine AOps.cons rfl rfl (q_fa) ?_
      refine AOps.cons rfl rfl (q_fa) ?_
      refine AOps.cons rfl rfl (q_load) ?_
      refine AOps.cons rfl rfl (q_fa) ?_
      refine AOps.cons rfl rfl (q_fa) ?_
      refine AOps.cons rfl rfl (q_load) ?_
      refine AOps.cons rfl rfl (q_build [(_, _), (_, _), (_, _), (_, _)]) ?_
      refine AOps.cons rfl rfl (q_load) ?_
      refine AOps.cons rfl rfl (q_bs 811 quc [(m.qs.getD 0 default)] [(_, _)]) ?_
      refine AOps.cons rfl rfl (q_build [(_, _), (_, _)]) ?_
      refine AOps.cons rfl rfl (q_alloc 813) ?_
      refine AOps.cons rfl rfl (q_store) ?_
      refine AOps.weak (Weak.full 0 [] (t := [(3, .ptr 100 0 0), (5, .ptr 102 0 0), (6, .ptr 103 0 0), (8, i64 (idx (isAd a) t.ss)), (9, .ptr 704 0 0), (10, .ptr 813 0 0)]) (hl := [(100, .box (trC t)), (102, .box (msgC m)), (103, .box [.v (.int .i64 0), .v (.bool false), .v (.int .i64 0), .v (.bool false), .v (.bool false), .v (.bool false), .v (.bool false), .v (.int .i64 0), .v (.slice none 0 0), .v (.slice none 0 0), .v (.slice none 0 0), .v (.slice none 0 0)]), (704, .box (quc (m.qs.getD 0 default))), (813, .box [i64 m.h.id, tf true, i64 m.h.op, tf (false), .v (.bool false), tf m.h.rd, .v (.bool false), i64 (0), .fz 0 [(m.qs.getD 0 default)].length (cl quc [(m.qs.getD 0 default)]), .v (.slice none 0 0), .fz 0 (([] : List Rr)).length (cl rrc (([] : List Rr))), .v (.slice none 0 0)])])) ?_
      refine AOps.nil ?_
      refine AWp.seq ?_
      refine AWp.draws [⟨0, [3], [100], some 60, _, none⟩,
          ⟨1, [3], [100], some 61, _, none⟩,
          ⟨2, [61], [100], some 62, _, none⟩,
          ⟨3, [8], [], some 63, _, none⟩,
          ⟨4, [62, 63], [], some 64, _, none⟩,
          ⟨5, [64], [], some 65, _, none⟩,
          ⟨6, [65], [], some 66, _, none⟩,
          ⟨7, [9], [704], some 67, _, none⟩,
          ⟨8, [67], [704], some 68, _, none⟩,
          ⟨9, [60, 66, 68], [], some 69, _, none⟩,
          ⟨10, [69], [], some 11, _, none⟩]
       [⟨0, [3], [100], some 60, .any, none⟩,
           ⟨1, [3], [100], some 61, .any, none⟩,
           ⟨2, [61], [100], some 62, .any, none⟩,
           ⟨3, [8], [], some 63, .any, none⟩,
           ⟨4, [62, 63], [], some 64, .any, none⟩,
           ⟨5, [64], [], some 65, .any, none⟩,
           ⟨6, [65], [], some 66, .any, none⟩,
           ⟨7, [9], [704], some 67, .any, none⟩,
           ⟨8, [67], [704], some 68, .any, none⟩,
           ⟨9, [60, 66, 68], [], some 69, .any, none⟩,
           ⟨10, [69], [], some 11, .any, none⟩]
       mixed_ok rfl (by kernel_rfl) ⟨DS.ok_over fun s0 => OpAt.go rfl rfl (q_load),
           DS.ok_over fun s0 => OpAt.go rfl rfl (q_fa),
           DS.ok_over fun s0 => OpAt.go rfl rfl (q_load),
           DS.ok_over fun s0 => OpAt.go rfl rfl (q_move),
           DS.ok_over fun s0 => OpAt.go rfl rfl (q_ix),
           DS.ok_over fun s0 => OpAt.go rfl rfl (q_fa),
           DS.ok_over fun s0 => OpAt.go rfl rfl (q_load),
           DS.ok_over fun s0 => OpAt.go rfl rfl (q_fa),
           DS.ok_over fun s0 => OpAt.go rfl rfl (q_load),
           DS.ok_over fun s0 => OpAt.go rfl rfl (q_call (0) (hc := (c_zone_home t (t.ss.getD (idx (isAd a) t.ss).toNat default).zs 0 (m.qs.getD 0 default).nm ht (by omega) hin (by omega)))),
           DS.ok_over fun s0 => OpAt.go rfl rfl (q_assign), trivial⟩ ?_
      dsimp only [final, DS.upd, AS.seto]
      refine AWp.seq ?_
      refine AWp.block ?_
      refine AWp.seq ?_
      refine AWp.region ?_
      refine AOps.cons rfl rfl (q_fa) ?_
      refine AOps.cons rfl rfl (q_fa) ?_
      refine AOps.cons rfl rfl (q_load) ?_
      refine AOps.dec rfl rfl (q_neq) (fun h10_3 => ?_) (fun h10_3 => ?_)
      ·
       refine AOps.cons rfl rfl (q_assign) ?_
       refine AOps.nil ?_
       refine AWp.cond_t rfl ?_
       refine AWp.region ?_
       refine AOps.cons rfl rfl (q_fa) ?_
       refine AOps.cons rfl rfl (q_fa) ?_
       refine AOps.cons rfl rfl (q_store) ?_
       refine AOps.nil ?_
       refine AWp.seq ?_
       refine AWp.region ?_
       refine AOps.weak (Weak.full 0 [] (t := [(6, .ptr 103 0 0), (10, .ptr 813 0 0)]) (hl := [(103, .box [.v (.int .i64 0), .v (.bool false), .v (.int .i64 0), .v (.bool false), .v (.bool false), .v (.bool false), .v (.bool false), .v (.int .i64 0), .v (.slice none 0 0), .v (.slice none 0 0), .v (.slice none 0 0), .v (.slice none 0 0)]), (813, .box [i64 m.h.id, tf true, i64 m.h.op, tf (false), .v (.bool false), tf m.h.rd, .v (.bool false), i64 (4), .fz 0 [(m.qs.getD 0 default)].length (cl quc [(m.qs.getD 0 default)]), .fz 0 (([] : List Rr)).length (cl rrc (([] : List Rr))), .fz 0 (([] : List Rr)).length (cl rrc (([] : List Rr))), .fz 0 (([] : List Rr)).length (cl rrc (([] : List Rr)))])])) ?_
       refine AOps.cons rfl rfl (q_load) ?_
       refine AOps.cons rfl rfl (q_store) ?_
       refine AOps.cons rfl rfl (q_assign) ?_
       refine AOps.nil ?_
       refine AWp.ret ?_
       show Fin te Try.f22 _ _
       refine q_ret (0) [_, _] [_, _] ?_
       rw [ser_some hyes, hyes, serR, if_pos h10_3]; rfl
      ·
       refine AOps.cons rfl rfl (q_assign) ?_
       refine AOps.nil ?_
       refine AWp.cond_f rfl ?_
       refine AWp.seq ?_
       refine AWp.region ?_
       refine AOps.cons rfl rfl (q_fa) ?_
       refine AOps.cons rfl rfl (q_load) ?_
       refine AOps.dec rfl rfl (q_neq) (fun h12_2 => ?_) (fun h12_2 => ?_)
       ·
        refine AOps.cons rfl rfl (q_move) ?_
        refine AOps.gskip rfl rfl rfl rfl rfl rfl rfl rfl ?_
        refine AOps.gskip rfl rfl rfl rfl rfl rfl rfl rfl ?_
        refine AOps.cons rfl rfl (q_pick) ?_
        refine AOps.cons rfl rfl (q_assign) ?_
        refine AOps.nil ?_
        refine AWp.cond_t rfl ?_
        refine AWp.region ?_
        refine AOps.cons rfl rfl (q_fa) ?_
        refine AOps.cons rfl rfl (q_fa) ?_
        refine AOps.cons rfl rfl (q_store) ?_
        refine AOps.nil ?_
        refine AWp.seq ?_
        refine AWp.region ?_
        refine AOps.weak (Weak.full 0 [] (t := [(6, .ptr 103 0 0), (10, .ptr 813 0 0)]) (hl := [(103, .box [.v (.int .i64 0), .v (.bool false), .v (.int .i64 0), .v (.bool false), .v (.bool false), .v (.bool false), .v (.bool false), .v (.int .i64 0), .v (.slice none 0 0), .v (.slice none 0 0), .v (.slice none 0 0), .v (.slice none 0 0)]), (813, .box [i64 m.h.id, tf true, i64 m.h.op, tf (false), .v (.bool false), tf m.h.rd, .v (.bool false), i64 (5), .fz 0 [(m.qs.getD 0 default)].length (cl quc [(m.qs.getD 0 default)]), .fz 0 (([] : List Rr)).length (cl rrc (([] : List Rr))), .fz 0 (([] : List Rr)).length (cl rrc (([] : List Rr))), .fz 0 (([] : List Rr)).length (cl rrc (([] : List Rr)))])])) ?_
        refine AOps.cons rfl rfl (q_load) ?_
        refine AOps.cons rfl rfl (q_store) ?_
        refine AOps.cons rfl rfl (q_assign) ?_
        refine AOps.nil ?_
        refine AWp.ret ?_
        show Fin te Try.f22 _ _
        refine q_ret (0) [_, _] [_, _] ?_
        rw [ser_some hyes, hyes, serR, if_neg h10_3, if_pos (.inl h12_2)]; rfl
       ·
        refine AOps.cons rfl rfl (q_move) ?_
        refine AOps.gcons rfl rfl rfl rfl rfl (q_move) ?_
        refine AOps.gdec rfl rfl rfl rfl rfl (q_lss) (fun h12_5 => ?_) (fun h12_5 => ?_)
        ·
         refine AOps.cons rfl rfl (q_pick) ?_
         refine AOps.cons rfl rfl (q_assign) ?_
         refine AOps.nil ?_
         refine AWp.cond_t rfl ?_
         refine AWp.region ?_
         refine AOps.cons rfl rfl (q_fa) ?_
         refine AOps.cons rfl rfl (q_fa) ?_
         refine AOps.cons rfl rfl (q_store) ?_
         refine AOps.nil ?_
         refine AWp.seq ?_
         refine AWp.region ?_
         refine AOps.weak (Weak.full 0 [] (t := [(6, .ptr 103 0 0), (10, .ptr 813 0 0)]) (hl := [(103, .box [.v (.int .i64 0), .v (.bool false), .v (.int .i64 0), .v (.bool false), .v (.bool false), .v (.bool false), .v (.bool false), .v (.int .i64 0), .v (.slice none 0 0), .v (.slice none 0 0), .v (.slice none 0 0), .v (.slice none 0 0)]), (813, .box [i64 m.h.id, tf true, i64 m.h.op, tf (false), .v (.bool false), tf m.h.rd, .v (.bool false), i64 (5), .fz 0 [(m.qs.getD 0 default)].length (cl quc [(m.qs.getD 0 default)]), .fz 0 (([] : List Rr)).length (cl rrc (([] : List Rr))), .fz 0 (([] : List Rr)).length (cl rrc (([] : List Rr))), .fz 0 (([] : List Rr)).length (cl rrc (([] : List Rr)))])])) ?_
         refine AOps.cons rfl rfl (q_load) ?_
         refine AOps.cons rfl rfl (q_store) ?_
         refine AOps.cons rfl rfl (q_assign) ?_
         refine AOps.nil ?_
         refine AWp.ret ?_
         show Fin te Try.f22 _ _
         refine q_ret (0) [_, _] [_, _] ?_
         rw [ser_some hyes, hyes, serR, if_neg h10_3, if_pos (.inr h12_5)]; rfl
        ·
         refine AOps.cons rfl rfl (q_pick) ?_
         refine AOps.cons rfl rfl (q_assign) ?_
         refine AOps.nil ?_
         refine AWp.cond_f rfl ?_
         have hhk := nearF_in (t := t) (p := fun z => withN (m.qs.getD 0 default).nm z.o) hin
         have hk0 : 0 ≤ homeT t (t.ss.getD (idx (isAd a) t.ss).toNat default).zs (m.qs.getD 0 default).nm ∧ homeT t (t.ss.getD (idx (isAd a) t.ss).toNat default).zs (m.qs.getD 0 default).nm < t.zs.length := ⟨by omega, hhk.2⟩
         have hzm := zAt_mem hk0
         have hzo := zo_ok ht hk0
         refine AWp.draws [⟨0, [3], [100], some 70, _, none⟩,
             ⟨1, [70], [100], some 71, _, none⟩,
             ⟨2, [11], [], some 72, _, none⟩,
             ⟨3, [71, 72], [], some 73, _, none⟩,
             ⟨4, [73], [], some 74, _, none⟩,
             ⟨5, [9], [704], some 75, _, none⟩,
             ⟨6, [75], [704], some 76, _, none⟩,
             ⟨7, [9], [704], some 77, _, none⟩,
             ⟨8, [77], [704], some 78, _, none⟩,
             ⟨9, [10, 74, 76, 78], [813], some 79, _, some (813, _)⟩]
          [⟨0, [3], [100], some 70, .any, none⟩,
              ⟨1, [70], [100], some 71, .any, none⟩,
              ⟨2, [11], [], some 72, .any, none⟩,
              ⟨3, [71, 72], [], some 73, .any, none⟩,
              ⟨4, [73], [], some 74, .any, none⟩,
              ⟨5, [9], [704], some 75, .any, none⟩,
              ⟨6, [75], [704], some 76, .any, none⟩,
              ⟨7, [9], [704], some 77, .any, none⟩,
              ⟨8, [77], [704], some 78, .any, none⟩,
              ⟨9, [10, 74, 76, 78], [813], some 79, .any, some (813, .box [])⟩]
          mixed_ok rfl (by kernel_rfl) ⟨DS.ok_over fun s0 => OpAt.go rfl rfl (q_fa),
              DS.ok_over fun s0 => OpAt.go rfl rfl (q_load),
              DS.ok_over fun s0 => OpAt.go rfl rfl (q_move),
              DS.ok_over fun s0 => OpAt.go rfl rfl (q_ix),
              DS.ok_over fun s0 => OpAt.go rfl rfl (q_load),
              DS.ok_over fun s0 => OpAt.go rfl rfl (q_fa),
              DS.ok_over fun s0 => OpAt.go rfl rfl (q_load),
              DS.ok_over fun s0 => OpAt.go rfl rfl (q_fa),
              DS.ok_over fun s0 => OpAt.go rfl rfl (q_load),
              DS.ok_over fun s0 => OpAt.go rfl rfl (q_callB (0) [(0, 813)] [] [(_, _)] (hc := (c_fill ⟨m.h.id, true, m.h.op, false, false, m.h.rd, false, 0⟩ [(m.qs.getD 0 default)] (zAt t (homeT t (t.ss.getD (idx (isAd a) t.ss).toNat default).zs (m.qs.getD 0 default).nm)) (m.qs.getD 0 default).nm (m.qs.getD 0 default).ty hzo (zs_small hcan hzm) (by omega) (zs_data hcan hzm)))), trivial⟩ ?_
         dsimp only [final, DS.upd, AS.seto]
         refine AWp.seq ?_
         refine AWp.region ?_
         refine AOps.cons rfl rfl (q_load) ?_
         refine AOps.cons rfl rfl (q_store) ?_
         refine AOps.cons rfl rfl (q_assign) ?_
         refine AOps.nil ?_
         refine AWp.ret ?_
         show Fin te Try.f22 _ _
         refine q_ret (0) [_, _] [_, _] ?_
         rw [ser_some hyes, hyes, serR, if_neg h10_3, if_neg (fun q => q.elim h12_2 h12_5)]; rfl
    ·
     refine AOps.gcons rfl rfl rfl rfl rfl (q_not) ?_
     refine AOps.cons rfl rfl (q_pick) ?_
     refine AOps.nil ?_
     refine AWp.cond_t rfl ?_
     refine AWp.seq ?_
     refine AWp.region ?_
     refine AOps.cons rfl rfl (q_build []) ?_
     refine AOps.cons rfl rfl (q_store) ?_
     refine AOps.cons rfl rfl (q_assign) ?_
     refine AOps.weak (Weak.full 0 [] (t := [(7, tf false), (6, .ptr 103 0 0)]) (hl := [(103, .box (msgC mZ))])) ?_
     refine AOps.nil ?_
     refine AWp.ret ?_
     show Fin te Try.f22 _ _
     refine q_ret (0) [_, _] [_, _] ?_
     have hno : serO t a m = false := ser_4 h1_20
     rw [ser_none hno, hno]; rfl
 ·
  refine AOps.cons rfl rfl (q_not) ?_
  refine AOps.cons rfl rfl (q_move) ?_
  refine AOps.gskip rfl rfl rfl rfl rfl rfl rfl rfl ?_
  refine AOps.gskip rfl rfl rfl rfl rfl rfl rfl rfl ?_
  refine AOps.gskip rfl rfl rfl rfl rfl rfl rfl rfl ?_
  refine AOps.cons rfl rfl (q_pick) ?_
  refine AOps.cons rfl rfl (q_move) ?_
  refine AOps.gskip rfl rfl rfl rfl rfl rfl rfl rfl ?_
  refine AOps.gskip rfl rfl rfl rfl rfl rfl rfl rfl ?_
  refine AOps.gskip rfl rfl rfl rfl rfl rfl rfl rfl ?_
  refine AOps.gskip rfl rfl rfl rfl rfl rfl rfl rfl ?_
  refine AOps.cons rfl rfl (q_pick) ?_
  refine AOps.cons rfl rfl (q_move) ?_
  refine AOps.gskip rfl rfl rfl rfl rfl rfl rfl rfl ?_
  refine AOps.gskip rfl rfl rfl rfl rfl rfl rfl rfl ?_
  refine AOps.gskip rfl rfl rfl rfl rfl rfl rfl rfl ?_
  refine AOps.gskip rfl rfl rfl rfl rfl rfl rfl rfl ?_
  refine AOps.gskip rfl rfl rfl rfl rfl rfl rfl rfl ?_
  refine AOps.gskip rfl rfl rfl rfl rfl rfl rfl rfl ?_
  refine AOps.gskip rfl rfl rfl rfl rfl rfl rfl rfl ?_
  refine AOps.cons rfl rfl (q_pick) ?_
  refine AOps.nil ?_
  refine AWp.cond_t rfl ?_
  refine AWp.seq ?_
  refine AWp.region ?_
  refine AOps.cons rfl rfl (q_build []) ?_
  refine AOps.cons rfl rfl (q_store) ?_
  refine AOps.cons rfl rfl (q_assign) ?_
  refine AOps.weak (Weak.full 0 [] (t := [(7, tf false), (6, .ptr 103 0 0)]) (hl := [(103, .box (msgC mZ))])) ?_
  refine AOps.nil ?_
  refine AWp.ret ?_
  show Fin te Try.f22 _ _
  refine q_ret (0) [_, _] [_, _] ?_
  have hno : serO t a m = false := ser_1 h1_1
  rw [ser_none hno, hno]; rfl
end Go.Proofs.Ytokccoloholgaaa.Fw


set_option linter.unusedVariables false
set_option linter.unusedSimpArgs false
namespace Go.Proofs.Ytokccoloholgaaa.Fw
open Go.RowKit
section
variable {t : Tr}
def m0 (q : Qu) : Msg := ⟨⟨0, false, 0, false, false, false, false, 0⟩, [q], [], [], []⟩
theorem canT_ss (h : canT t = true) {ss : List Sv} (hs : srvT ⟨t.zs, ss⟩ = true) : canT ⟨t.zs, ss⟩ = true := by
  unfold canT at h
  simp only [Bool.and_eq_true] at h
  show (decide (1 ≤ t.zs.length) && decide (t.zs.length ≤ 20) && decide ((t.zs.getD 0 default).o = [0]) && srvT ⟨t.zs, ss⟩ && (List.range t.zs.length).all (orgO t) && decide (sumT t.zs ≤ 400) && (List.range t.zs.length).all (zonO t)) = true
  rw [h.1.1.1.1.1.1, h.1.1.1.1.1.2, h.1.1.1.1.2, hs, h.1.1.2, h.1.2, h.2]; rfl
theorem srv_one {zs : List Zo} {w : List Int} (hw : ∀ i ∈ w, 0 ≤ i ∧ i < zs.length) : srvT ⟨zs, [⟨7, w⟩]⟩ = true := by
  have hb : w.any (badZ ⟨zs, [⟨7, w⟩]⟩) = false := by
    rw [List.any_eq_false]
    intro i hi
    have := hw i hi
    rw [badZ_no (t := ⟨zs, [⟨7, w⟩]⟩) (by omega) (by show ¬ (zs.length : Int) ≤ i; omega)]; decide
  unfold srvT
  show (decide ((1 : Nat) ≤ 40) && (List.range 1).all (svO ⟨zs, [⟨7, w⟩]⟩)) = true
  rw [Bool.and_eq_true]
  refine ⟨by decide, range_all_iff.2 fun j hj => ?_⟩
  obtain rfl : j = 0 := by omega
  show (decide ((0 : Int) ≤ 7) && decide ((7 : Int) ≤ 4294967295) && !decide ((7 : Int) ∈ ([] : List Int)) && !(w.any (badZ ⟨zs, [⟨7, w⟩]⟩))) = true
  rw [hb]; decide
theorem m0_ok {q : Qu} (hq : q.nm.length ≤ 140737488351232) : MsgOk (m0 q) ∧ NmOk (m0 q) := by
  refine ⟨⟨by show 1 * 32 ≤ _; decide, ⟨by show 0 * 64 ≤ _; decide, by simp [m0]⟩, ⟨by show 0 * 64 ≤ _; decide, by simp [m0]⟩, ⟨by show 0 * 64 ≤ _; decide, by simp [m0]⟩⟩, ?_, by simp [m0, Msg.rrs]⟩
  intro x hx
  have : x = q := by simpa [m0] using hx
  rw [this]; exact hq
theorem idx_7 {w : List Int} : idx (isAd 7) [(⟨7, w⟩ : Sv)] = 0 := by simp [idx, isAd]
end
end Go.Proofs.Ytokccoloholgaaa.Fw


set_option linter.unusedVariables false
set_option linter.unusedSimpArgs false
namespace Go.Proofs.Ytokccoloholgaaa.Fw
open Go.RowKit
theorem cut_min {z : Zo} {n : List UInt8} {r : Rr} (hr : r ∈ z.rs) (h : cutP z n r = true) : cntN (cutZ z n) ≤ cntN r.nm := by
  have key : ∀ (l : List Rr) (b : List UInt8), (b ≠ [] → l.foldl (cutS z n) b ≠ [] ∧ cntN (l.foldl (cutS z n) b) ≤ cntN b) ∧ ∀ r ∈ l, cutP z n r = true → cntN (l.foldl (cutS z n) b) ≤ cntN r.nm := by
    intro l
    induction l with
    | nil => intro b; exact ⟨fun hb => ⟨hb, Int.le_refl _⟩, fun r hr => by cases hr⟩
    | cons a l ih =>
      intro b
      rw [List.foldl_cons]
      obtain ⟨i1, i2⟩ := ih (cutS z n b a)
      have hne : cutP z n a = true → a.nm ≠ [] := fun hp => withN_ne (cutP_iff.1 hp).2.2.1
      have hstep : b ≠ [] → cutS z n b a ≠ [] ∧ cntN (cutS z n b a) ≤ cntN b := by
        intro hb
        unfold cutS
        split
        · rename_i hc
          simp only [Bool.and_eq_true, Bool.or_eq_true, decide_eq_true_eq] at hc
          exact ⟨hne hc.1, hc.2.elim (fun e => absurd e hb) (fun e => by omega)⟩
        · exact ⟨hb, Int.le_refl _⟩
      refine ⟨fun hb => ?_, fun r hr hp => ?_⟩
      · obtain ⟨s1, s2⟩ := hstep hb
        obtain ⟨j1, j2⟩ := i1 s1
        exact ⟨j1, by omega⟩
      · rcases List.mem_cons.1 hr with rfl | hr
        · have hs : cutS z n b r ≠ [] ∧ cntN (cutS z n b r) ≤ cntN r.nm := by
            by_cases hb : b = []
            · rw [cutS_take hp (.inl hb)]; exact ⟨hne hp, Int.le_refl _⟩
            · by_cases hl : cntN r.nm < cntN b
              · rw [cutS_take hp (.inr hl)]; exact ⟨hne hp, Int.le_refl _⟩
              · rw [cutS_keep hb hl]; exact ⟨hb, by omega⟩
          have := (i1 hs.1).2
          omega
        · exact i2 r hr hp
  exact (key z.rs []).2 r hr h
section
variable {t : Tr}
def refP (t : Tr) (up : List UInt8) (k : Nat) : Int := (everyN k).foldl (nearS t fun z => withN up z.o) 0
theorem refP_step {up : List UInt8} {k : Nat} : refP t up (k + 1) = nearS t (fun z => withN up z.o) (refP t up k) k := by
  rw [refP, everyN_step, List.foldl_append]; rfl
def onT (t : Tr) (p : Int) : Tr := ⟨t.zs, [⟨7, [p]⟩]⟩
theorem onT_ok (ht : TrOk t) (p : Int) : TrOk (onT t p) := ⟨ht.1, ht.2.1, by show 1 * 32 ≤ _; decide, fun s hs => by
  have : s = ⟨7, [p]⟩ := by simpa [onT] using hs
  subst this; show 1 * 8 ≤ _; decide⟩
theorem child_labels (h : canT t = true) {j : Nat} (hj0 : 0 < j) (hj : j < t.zs.length) : ∃ l ls, Nm (l :: ls) ∧ (t.zs.getD j default).o = joinN (l :: ls) := by
  obtain ⟨ls, hn, e⟩ := can_nm (org_can h (getD_mem' hj))
  cases ls with
  | nil =>
    exfalso
    have h0 := (canT_parts h).2.2.1
    have : j = 0 := org_uniq h hj (by omega) (by rw [h0, e]; exact sameN_self nm_root.can)
    omega
  | cons l ls => exact ⟨l, ls, hn, e⟩
theorem refers (h : canT t = true) {j : Nat} (hj0 : 0 < j) (hj : j < t.zs.length) {p : Int} (hp : p = refP t (parS (t.zs.getD j default).o) t.zs.length) {b : UInt8} {n : List UInt8} (hn : n = [1, b] ++ (t.zs.getD j default).o) (hcn : canN n = true) :
    serO (onT t p) 7 (m0 ⟨n, 1, 1⟩) = true ∧ ∃ au ad vd, serV (onT t p) 7 (m0 ⟨n, 1, 1⟩) = filM (m0 ⟨n, 1, 1⟩) ⟨n, 1, 1⟩ ⟨false, 0, [], au, ad, 0, vd⟩ ∧ 0 < au.length ∧ au.length ≤ 400 ∧ ∀ r ∈ au, r.ty = 2 ∧ sameN r.nm (t.zs.getD j default).o = true := by
  obtain ⟨l, ls, hnm, hco⟩ := child_labels h hj0 hj
  obtain ⟨c, hc⟩ : ∃ c, c = t.zs.getD j default := ⟨_, rfl⟩
  have hcm : c ∈ t.zs := by rw [hc]; exact getD_mem' hj
  rw [← hc] at hco hn hp ⊢
  have hnl : Nm ls := hnm.drop 1
  have hup : parS c.o = joinN ls := by rw [hco, hnm.par.1, if_neg (by simp)]; rfl
  have hLc : Lw c.o = l.map lowC :: lowL ls := by rw [hco, Lw, hnm.lab]; rfl
  have hLu : Lw (parS c.o) = lowL ls := by rw [hup, Lw, hnl.lab]
  have hcu : canN (parS c.o) = true := by rw [hup]; exact hnl.can
  have hcc : canN c.o = true := org_can h hcm
  have upw : ∀ z ∈ t.zs, (withN (parS c.o) z.o = true ↔ parP c z = true) := by
    intro z hz
    rw [parP_iff, with_iff, with_iff, hLu, hLc]
    constructor
    · rintro ⟨_, h2, h3⟩
      refine ⟨⟨hcc, h2, h3.trans (List.suffix_cons _ _)⟩, ?_⟩
      cases hs : sameN c.o z.o with
      | false => rfl
      | true =>
        have h4 := (same_iff.1 hs).2.2
        rw [hLc] at h4
        have := h3.length_le
        rw [← h4] at this; simp at this; omega
    · rintro ⟨⟨_, h2, h3⟩, h4⟩
      refine ⟨hcu, h2, ?_⟩
      rcases List.suffix_cons_iff.1 h3 with h5 | h5
      · rw [same_iff.2 ⟨hcc, h2, by rw [hLc, h5]⟩] at h4; cases h4
      · exact h5
  have hp1 := (canT_parts h).1
  obtain ⟨b1, b2, b3, b4⟩ := near_best (t := t) (p := fun z => withN (parS c.o) z.o) (w := everyT t) (b := 0) (fun i hi => (everyT_in t i hi).1) (by omega) (fun _ => by
    show withN (parS c.o) (t.zs.getD 0 default).o = true
    rw [(canT_parts h).2.2.1]; exact root_with hcu)
  have hpe : p = (everyT t).foldl (nearS t fun z => withN (parS c.o) z.o) 0 := hp
  rw [← hpe] at b1 b2 b3 b4
  have hpr : 0 ≤ p ∧ p < t.zs.length := by
    rcases b4 with b4 | b4
    · rw [b4]; omega
    · exact everyT_in t p b4
  have hzm : zAt t p ∈ t.zs := zAt_mem hpr
  have hzw := b1 hpr.1
  have hzp := (upw _ hzm).1 hzw
  obtain ⟨u, hu, ue, u0, u1, u2, u3⟩ := par_best h hcm hzm hzp
  have hle : cntN u.o ≤ cntN (zAt t p).o := by
    have := b3 (parOf t c) (List.mem_map.2 ⟨(parOf t c).toNat, List.mem_range.2 (by omega), by omega⟩) (by rw [← ue]; exact (upw _ hu).2 u2)
    rw [mostT_at hpr.1, ← ue] at this; exact this
  obtain ⟨q1, q2⟩ := parP_iff.1 u2
  obtain ⟨z1, z2⟩ := parP_iff.1 hzp
  have hs : sameN u.o (zAt t p).o = true := with_eq (with_chain q1 z1 u3) (by omega)
  have hpar : parOf t c = p := by
    rw [ue] at hs
    have := org_uniq h (i := (parOf t c).toNat) (j := p.toNat) (by omega) (by omega) hs
    omega
  have hkid := (join_of h (k := p.toNat) (by omega)).1 j hj
  unfold kidO at hkid
  have ezp : zAt t ((p.toNat : Nat) : Int) = zAt t p := by rw [show ((p.toNat : Nat) : Int) = p by omega]
  rw [parT_get hj, ← hc, hpar, show ((p.toNat : Nat) : Int) = p by omega, decide_eq_false (by omega), decide_eq_false (fun q => q rfl), Bool.false_or, Bool.false_or, Bool.and_eq_true, Bool.and_eq_true] at hkid
  have hcut := hkid.1.1
  have hcne : cutZ (zAt t p) c.o ≠ [] := fun q => by rw [q, sameN_nil] at hcut; cases hcut
  obtain ⟨r0, hr0, r1, r2⟩ := cutZ_mem hcne
  obtain ⟨p1, p2, p3, p4⟩ := cutP_iff.1 r2
  have hN : n = joinN ([b] :: l :: ls) := by rw [hn, hco, joinN_cons (l := [b])]; rfl
  have hNn : Nm ([b] :: l :: ls) := ⟨fun x hx => by
    rcases List.mem_cons.1 hx with rfl | hx
    · simp
    · exact hnm.1 x hx, by rw [← hN]; exact canN_le2 hcn⟩
  have hnw : withN n c.o = true := with_iff.2 ⟨hcn, hcc, by rw [hLc, hN, Lw, hNn.lab]; exact List.suffix_cons _ _⟩
  have hp0 : cutP (zAt t p) n r0 = true := cutP_iff.2 ⟨p1, p2, p3, with_trans hnw p4⟩
  have hne : cutZ (zAt t p) n ≠ [] := cut_some hr0 hp0
  obtain ⟨s0, hs0, s1, s2⟩ := cutZ_mem hne
  obtain ⟨t1, t2, t3, t4⟩ := cutP_iff.1 s2
  have hc0 : cntN r0.nm = cntN c.o := by rw [r1] at hcut; exact same_cnt hcut
  have hm1 := cut_min hr0 hp0
  rw [s1, hc0] at hm1
  have hcs : withN c.o s0.nm = true := with_chain hnw t4 hm1
  have hm2 := cut_min hs0 (cutP_iff.2 ⟨t1, t2, t3, hcs⟩)
  rw [r1, hc0] at hm2
  have hsame : sameN s0.nm c.o = true := same_symm (with_eq hcs (by omega))
  have hzn : withN n (zAt t p).o = true := with_trans hnw z1
  have hx : canT (onT t p) = true := canT_ss h (srv_one (w := [p]) fun i hi => by rw [List.mem_singleton] at hi; rw [hi]; exact hpr)
  have hhome : homeT (onT t p) [p] n = p := by
    show nearS (onT t p) (fun z => withN n z.o) (-1) p = p
    exact nearS_take (t := onT t p) (p := fun z => withN n z.o) hzn (mostT_neg (by omega) _)
  have hso : serO (onT t p) 7 (m0 ⟨n, 1, 1⟩) = true := by
    show (canT (onT t p) && !false && decide (1 = 1) && canN n && decide (0 ≤ idx (isAd 7) [(⟨7, [p]⟩ : Sv)])) = true
    rw [hx, hcn, idx_7]; rfl
  refine ⟨hso, atZ (zAt t p) (cutZ (zAt t p) n) 2, gluZ (zAt t p) (atZ (zAt t p) (cutZ (zAt t p) n) 2), nmK (atZ (zAt t p) (cutZ (zAt t p) n) 2) (atZ (zAt t p) (cutZ (zAt t p) n) 2).length, ?_, ?_, at_small h hzm _ _, ?_⟩
  · rw [ser_some hso]
    have e : idx (isAd 7) (onT t p).ss = 0 := idx_7
    rw [e]
    show serR (onT t p) ⟨7, [p]⟩ (m0 ⟨n, 1, 1⟩) ⟨n, 1, 1⟩ = _
    have ef : fil (zAt (onT t p) p) 1 false [] n 0 = ⟨false, 0, [], atZ (zAt t p) (cutZ (zAt t p) n) 2, gluZ (zAt t p) (atZ (zAt t p) (cutZ (zAt t p) n) 2), 0, nmK (atZ (zAt t p) (cutZ (zAt t p) n) 2) (atZ (zAt t p) (cutZ (zAt t p) n) 2).length⟩ := fil_cut0 hne rfl
    rw [serR, if_neg (fun k => k rfl), if_neg (fun k => k.elim (fun k => k rfl) (fun k => by
      have k2 : homeT (onT t p) [p] n < 0 := k
      omega))]
    show filM (m0 ⟨n, 1, 1⟩) ⟨n, 1, 1⟩ (fil (zAt (onT t p) (homeT (onT t p) [p] n)) 1 false [] n 0) = _
    rw [hhome, ef]
  · have hmem : s0 ∈ atZ (zAt t p) (cutZ (zAt t p) n) 2 := List.mem_filter.2 ⟨hs0, by rw [atP, decide_eq_true t1, s1, sameN_self (withN_can t3).1]; rfl⟩
    exact List.length_pos_of_mem hmem
  · intro r hr
    obtain ⟨m1, m2, m3⟩ := at_mem hr
    rw [s1] at m3
    exact ⟨m2, same_trans m3 hsame⟩
end
theorem w3 (w : Bool) (b : Prop) [Decidable b] : w = false ∨ (w = true ∧ b) ∨ (w = true ∧ ¬ b) := by
  cases w
  · exact .inl rfl
  · by_cases h : b
    · exact .inr (.inl ⟨rfl, h⟩)
    · exact .inr (.inr ⟨rfl, h⟩)
end Go.Proofs.Ytokccoloholgaaa.Fw


set_option linter.unusedVariables false
set_option linter.unusedSimpArgs false
namespace Go.Proofs.Ytokccoloholgaaa.Fw
open Go.RowKit
end Go.Proofs.Ytokccoloholgaaa.Fw


set_option linter.unusedVariables false
set_option linter.unusedSimpArgs false
namespace Go.Proofs.Ytokccoloholgaaa.Fw
open Go.RowKit
end Go.Proofs.Ytokccoloholgaaa.Fw


set_option linter.unusedVariables false
set_option linter.unusedSimpArgs false
namespace Go.Proofs.Ytokccoloholgaaa.Fw
open Go.RowKit
theorem gen_k {y m : Int} (h : 0 < m) : 0 ≤ y % m ∧ y % m < m := ⟨Int.emod_nonneg _ (by omega), Int.emod_lt_of_pos _ h⟩
theorem parS_le {n : List UInt8} (h : canN n = true) : (parS n).length ≤ 255 := by
  obtain ⟨ls, a, rfl⟩ := can_nm h
  rw [a.par.1]
  split
  · simp
  · exact (a.drop 1).2
set_option maxRecDepth 20000 in
set_option maxHeartbeats 2000000 in
theorem c_ciceronelaw18_ZoneRefers (t : Tr) (y : Int) (c : UInt8) (ht : TrOk t) : AC Try.prog 5 [.agg (trC t), i64 y, u8 c.toNat] emp (Ret (tf true)) := by
 have hb1 := ht.1
 have hcb := c.toNat_lt
 refine AC.intro te_ok (fn := Try.f5) ⟨Try.func5, rfl, rfl⟩ (Nat.le_of_ble_eq_true rfl) ?_
 refine AWp.seq ?_
 refine AWp.region ?_
 refine AOps.cons rfl rfl (q_box 100) ?_
 refine AOps.cons rfl rfl (q_assign) ?_
 refine AOps.nil ?_
 refine AWp.seq ?_
 refine AWp.seq ?_
 refine AWp.region ?_
 refine AOps.cons rfl rfl (q_load) ?_
 refine AOps.bool rfl rfl (q_call (0) (hc := (c_rCan t ht))) (fun h1_1 => ?_) (fun h1_1 => ?_)
 ·
  refine AOps.cons rfl rfl (q_not) ?_
  refine AOps.cons rfl rfl (q_move) ?_
  refine AOps.gcons rfl rfl rfl rfl rfl (q_fa) ?_
  refine AOps.gcons rfl rfl rfl rfl rfl (q_load) ?_
  refine AOps.gcons rfl rfl rfl rfl rfl (q_len) ?_
  refine AOps.gdec rfl rfl rfl rfl rfl (q_lss) (fun h1_7 => ?_) (fun h1_7 => ?_)
  ·
   refine AOps.cons rfl rfl (q_pick) ?_
   refine AOps.nil ?_
   refine AWp.cond_t rfl ?_
   refine AWp.seq ?_
   refine AWp.draws [⟨0, [3], [100], some 28, _, none⟩,
       ⟨1, [28], [], some 29, _, none⟩,
       ⟨2, [3], [100], some 30, _, none⟩,
       ⟨3, [30], [], some 31, _, none⟩,
       ⟨4, [29, 31], [], some 32, _, none⟩,
       ⟨5, [32], [], some 33, _, none⟩,
       ⟨6, [33], [], some 34, _, none⟩,
       ⟨7, [33, 34], [], some 35, _, none⟩,
       ⟨8, [33, 35], [], some 36, _, none⟩,
       ⟨9, [36], [], some 6, _, none⟩]
    [⟨0, [3], [100], some 28, .any, none⟩,
        ⟨1, [28], [], some 29, .any, none⟩,
        ⟨2, [3], [100], some 30, .any, none⟩,
        ⟨3, [30], [], some 31, .any, none⟩,
        ⟨4, [29, 31], [], some 32, .any, none⟩,
        ⟨5, [32], [], some 33, .any, none⟩,
        ⟨6, [33], [], some 34, .any, none⟩,
        ⟨7, [33, 34], [], some 35, .any, none⟩,
        ⟨8, [33, 35], [], some 36, .any, none⟩,
        ⟨9, [36], [], some 6, .any, none⟩]
    mixed_ok rfl (by kernel_rfl) ⟨DS.ok_over fun s0 => OpAt.go rfl rfl (q_load),
        DS.ok_over fun s0 => OpAt.go rfl rfl (q_call (0) (hc := (c_zone_Can t ht))),
        DS.ok_over fun s0 => OpAt.go rfl rfl (q_load),
        DS.ok_over fun s0 => OpAt.go rfl rfl (q_call (0) (hc := (c_rCan t ht))),
        DS.ok_over fun s0 => OpAt.go rfl rfl ((OpOk.bool_is (c := true) (q_beql) (by simp))),
        DS.ok_over fun s0 => OpAt.go rfl rfl (q_move),
        DS.ok_over fun s0 => OpAt.ggo rfl rfl rfl rfl rfl (q_call (0) (hc := c_ciceronelaw18_Small)),
        DS.ok_over fun s0 => OpAt.ggo rfl rfl rfl rfl rfl ((OpOk.bool_is (c := true) (q_call (0) (hc := (c_zone_Can smT smT_ok))) (smT_can))),
        DS.ok_over fun s0 => OpAt.go rfl rfl (q_pick),
        DS.ok_over fun s0 => OpAt.go rfl rfl (q_assign), trivial⟩ ?_
   dsimp only [final, DS.upd, AS.seto]
   refine AWp.ret ?_
   show Fin te Try.f5 _ _
   refine q_ret (0) [_] [_] ?_
   rfl
  ·
   refine AOps.cons rfl rfl (q_pick) ?_
   refine AOps.nil ?_
   refine AWp.cond_f rfl ?_
   refine AWp.skip ?_
   refine AWp.seq ?_
   have hcan := h1_1
   have hpos : (0 : Int) < (t.zs.length : Int) - 1 := by omega
   have hbig : ((t.zs.length : Int) - 1) % 18446744073709551616 = (t.zs.length : Int) - 1 := by omega
   have hk1 : 0 ≤ (y % 18446744073709551616 % (((t.zs.length : Int) - 1) % 18446744073709551616)) := (gen_k (by omega)).1
   have hk2 : (y % 18446744073709551616 % (((t.zs.length : Int) - 1) % 18446744073709551616)) < (t.zs.length : Int) - 1 := Int.lt_of_lt_of_le (gen_k (by omega)).2 (Int.le_of_eq hbig)
   have hk3 : 0 ≤ 1 + (y % 18446744073709551616 % (((t.zs.length : Int) - 1) % 18446744073709551616)) := Int.add_nonneg (by decide) hk1
   have hk4 : 1 + (y % 18446744073709551616 % (((t.zs.length : Int) - 1) % 18446744073709551616)) < (t.zs.length : Int) := by generalize (y % 18446744073709551616 % (((t.zs.length : Int) - 1) % 18446744073709551616)) = k at *; omega
   refine AWp.draws [⟨0, [3], [100], some 37, _, none⟩,
       ⟨1, [37], [100], some 38, _, none⟩,
       ⟨2, [1], [], some 39, _, none⟩,
       ⟨3, [39], [], some 40, _, none⟩,
       ⟨4, [3], [100], some 41, _, none⟩,
       ⟨5, [41], [100], some 42, _, none⟩,
       ⟨6, [42], [], some 43, _, none⟩,
       ⟨7, [43], [], some 44, _, none⟩,
       ⟨8, [44], [], some 45, _, none⟩,
       ⟨9, [40, 45], [], some 46, _, none⟩,
       ⟨10, [46], [], some 47, _, none⟩,
       ⟨11, [47], [], some 48, _, none⟩,
       ⟨12, [38, 48], [], some 49, _, none⟩,
       ⟨13, [49], [], some 50, _, none⟩,
       ⟨14, [50], [], some 51, _, none⟩,
       ⟨15, [51], [], some 7, _, none⟩]
    [⟨0, [3], [100], some 37, .any, none⟩,
        ⟨1, [37], [100], some 38, .any, none⟩,
        ⟨2, [1], [], some 39, .any, none⟩,
        ⟨3, [39], [], some 40, .any, none⟩,
        ⟨4, [3], [100], some 41, .any, none⟩,
        ⟨5, [41], [100], some 42, .any, none⟩,
        ⟨6, [42], [], some 43, .any, none⟩,
        ⟨7, [43], [], some 44, .any, none⟩,
        ⟨8, [44], [], some 45, .any, none⟩,
        ⟨9, [40, 45], [], some 46, .any, none⟩,
        ⟨10, [46], [], some 47, .any, none⟩,
        ⟨11, [47], [], some 48, .any, none⟩,
        ⟨12, [38, 48], [], some 49, .any, none⟩,
        ⟨13, [49], [], some 50, .any, none⟩,
        ⟨14, [50], [], some 51, .any, none⟩,
        ⟨15, [51], [], some 7, .any, none⟩]
    mixed_ok rfl (by kernel_rfl) ⟨DS.ok_over fun s0 => OpAt.go rfl rfl (q_fa),
        DS.ok_over fun s0 => OpAt.go rfl rfl (q_load),
        DS.ok_over fun s0 => OpAt.go rfl rfl (q_move),
        DS.ok_over fun s0 => OpAt.go rfl rfl (q_conv_u64),
        DS.ok_over fun s0 => OpAt.go rfl rfl (q_fa),
        DS.ok_over fun s0 => OpAt.go rfl rfl (q_load),
        DS.ok_over fun s0 => OpAt.go rfl rfl (q_len),
        DS.ok_over fun s0 => OpAt.go rfl rfl (q_sub),
        DS.ok_over fun s0 => OpAt.go rfl rfl (q_conv_u64),
        DS.ok_over fun s0 => OpAt.go rfl rfl (q_rem),
        DS.ok_over fun s0 => OpAt.go rfl rfl (q_conv_i64 (h1 := Int.le_trans (by decide) hk1) (h2 := Int.le_trans (Int.le_of_lt hk2) (by omega))),
        DS.ok_over fun s0 => OpAt.go rfl rfl (q_add (h1 := Int.le_trans (by decide) hk3) (h2 := Int.le_trans (Int.le_of_lt hk4) (by omega))),
        DS.ok_over fun s0 => OpAt.go rfl rfl (q_ix (h0 := hk3) (h1 := hk4)),
        DS.ok_over fun s0 => OpAt.go rfl rfl (q_fa),
        DS.ok_over fun s0 => OpAt.go rfl rfl (q_load),
        DS.ok_over fun s0 => OpAt.go rfl rfl (q_assign), trivial⟩ ?_
   dsimp only [final, DS.upd, AS.seto]
   refine AWp.seq ?_
   refine AWp.region ?_
   obtain ⟨j, hj0, hj, hje⟩ : ∃ j : Nat, 0 < j ∧ j < t.zs.length ∧ (1 + (y % 18446744073709551616 % (((t.zs.length : Int) - 1) % 18446744073709551616))).toNat = j := ⟨_, by generalize (y % 18446744073709551616 % (((t.zs.length : Int) - 1) % 18446744073709551616)) = k at *; omega, by generalize (y % 18446744073709551616 % (((t.zs.length : Int) - 1) % 18446744073709551616)) = k at *; omega, rfl⟩
   rw [hje]
   clear hk1 hk2 hk3 hk4 hje
   have hzj := ht.2.1 _ (getD_mem' (l := t.zs) (i := j) hj)
   have hjc := org_can hcan (getD_mem' (l := t.zs) (i := j) hj)
   have hjl := canN_le2 hjc
   have hjl2 : (t.zs[j]?.getD default).o.length ≤ 255 := by rw [← List.getD_eq_getElem?_getD]; exact hjl
   have hpl := parS_le hjc
   refine AOps.cons rfl rfl (q_move) ?_
   refine AOps.cons rfl rfl (q_call (0) (hc := (c_ciceroneref01_Parent (t.zs.getD j default).o (by omega)))) ?_
   refine AOps.cons rfl rfl (q_move) ?_
   refine AOps.cons rfl rfl (q_extract) ?_
   refine AOps.cons rfl rfl (q_extract) ?_
   refine AOps.cons rfl rfl (q_assign) ?_
   refine AOps.cons rfl rfl (q_assign) ?_
   refine AOps.nil ?_
   refine AWp.seq ?_
   refine AWp.region ?_
   refine AOps.cons rfl rfl (q_assign) ?_
   refine AOps.nil ?_
   refine AWp.seq ?_
   refine AWp.seq ?_
   refine AWp.region ?_
   refine AOps.cons rfl rfl (q_fa) ?_
   refine AOps.cons rfl rfl (q_load) ?_
   refine AOps.cons rfl rfl (q_len) ?_
   refine AOps.cons rfl rfl (q_move) ?_
   refine AOps.nil ?_
   refine AWp.block ?_
   refine AWp.loopR (α := Nat × Int) [10, 11, 12, 60, 61, 62, 63, 64, 65, 66, 67, 68, 69, 70, 71, 72, 73, 74, 75, 76, 77, 78, 79, 80, 81, 82, 83] (fun x_ => [(60, i64 (x_.1)), (10, i64 (x_.2))]) (fun x_ => []) (fun x_ => (x_.1) ≤ t.zs.length ∧ (x_.2) = refP t (parS (t.zs.getD j default).o) (x_.1) ∧ 0 ≤ (x_.2) ∧ (x_.2) < t.zs.length) (fun x_ => t.zs.length - (x_.1)) (0, 0) ?_ (Back.mk' (HasT.cons (HasT.cons HasT.nil)) HasH.nil) ?_
   ·
    exact ⟨Nat.zero_le _, rfl, by omega, by omega⟩
   ·
    rintro ⟨i, p⟩ hI7
    change i ≤ t.zs.length ∧ p = refP t (parS (t.zs.getD j default).o) i ∧ 0 ≤ p ∧ p < t.zs.length at hI7
    obtain ⟨hi, hp, hp0, hp1⟩ := hI7
    refine AWp.as (s' := AS.over _ [10, 11, 12, 60, 61, 62, 63, 64, 65, 66, 67, 68, 69, 70, 71, 72, 73, 74, 75, 76, 77, 78, 79, 80, 81, 82, 83] [(60, i64 i), (10, i64 p)] []) rfl ?_
    refine AWp.seq ?_
    refine AWp.region ?_
    refine AOps.dec rfl rfl (q_lss) (fun h7_0 => ?_) (fun h7_0 => ?_)
    ·
     refine AOps.nil ?_
     refine AWp.seq ?_
     refine AWp.cond_t rfl ?_
     refine AWp.skip ?_
     refine AWp.seq ?_
     refine AWp.block ?_
     refine AWp.seq ?_
     refine AWp.region ?_
     have hzi := ht.2.1 _ (getD_mem' (l := t.zs) (i := i) (by omega))
     have hzl := hzi.1
     refine AOps.cons rfl rfl (q_move) ?_
     refine AOps.cons rfl rfl (q_ix) ?_
     refine AOps.cons rfl rfl (q_load) ?_
     refine AOps.cons rfl rfl (q_alloc 903) ?_
     refine AOps.cons rfl rfl (q_assign) ?_
     refine AOps.cons rfl rfl (q_store) ?_
     refine AOps.nil ?_
     refine AWp.seq ?_
     have hzp := zo_ok ht (i := p) ⟨hp0, hp1⟩
     have hzpl := hzp.1
     rcases w3 (withN (parS (t.zs.getD j default).o) (t.zs.getD i default).o) (cntN (zAt t p).o < cntN (t.zs.getD i default).o) with h1 | ⟨h1, h2⟩ | ⟨h1, h2⟩
     ·
      refine AWp.draws [⟨0, [8], [], some 65, _, none⟩,
          ⟨1, [12], [903], some 66, _, none⟩,
          ⟨2, [66], [903], some 67, _, none⟩,
          ⟨3, [65, 67], [], some 68, _, none⟩,
          ⟨4, [68], [], some 69, _, none⟩,
          ⟨5, [69], [], some 70, .v undef, none⟩,
          ⟨6, [69], [], some 71, .v undef, none⟩,
          ⟨7, [69], [], some 72, .v undef, none⟩,
          ⟨8, [69], [], some 73, .v undef, none⟩,
          ⟨9, [69], [], some 74, .v undef, none⟩,
          ⟨10, [69], [], some 75, .v undef, none⟩,
          ⟨11, [69], [], some 76, .v undef, none⟩,
          ⟨12, [69], [], some 77, .v undef, none⟩,
          ⟨13, [69], [], some 78, .v undef, none⟩,
          ⟨14, [69], [], some 79, .v undef, none⟩,
          ⟨15, [69], [], some 80, .v undef, none⟩,
          ⟨16, [69, 80], [], some 81, _, none⟩]
       [⟨0, [8], [], some 65, .any, none⟩,
           ⟨1, [12], [903], some 66, .any, none⟩,
           ⟨2, [66], [903], some 67, .any, none⟩,
           ⟨3, [65, 67], [], some 68, .any, none⟩,
           ⟨4, [68], [], some 69, .any, none⟩,
           ⟨5, [69], [], some 70, .any, none⟩,
           ⟨6, [69], [], some 71, .any, none⟩,
           ⟨7, [69], [], some 72, .any, none⟩,
           ⟨8, [69], [], some 73, .any, none⟩,
           ⟨9, [69], [], some 74, .any, none⟩,
           ⟨10, [69], [], some 75, .any, none⟩,
           ⟨11, [69], [], some 76, .any, none⟩,
           ⟨12, [69], [], some 77, .any, none⟩,
           ⟨13, [69], [], some 78, .any, none⟩,
           ⟨14, [69], [], some 79, .any, none⟩,
           ⟨15, [69], [], some 80, .any, none⟩,
           ⟨16, [69, 80], [], some 81, .any, none⟩]
       mixed_ok rfl (by kernel_rfl) ⟨DS.ok_over fun s0 => OpAt.go rfl rfl (q_move),
           DS.ok_over fun s0 => OpAt.go rfl rfl (q_fa),
           DS.ok_over fun s0 => OpAt.go rfl rfl (q_load),
           DS.ok_over fun s0 => OpAt.go rfl rfl ((OpOk.bool_is (c := false) (q_call (0) (hc := (c_ciceroneref01_Within (parS (t.zs.getD j default).o) (t.zs.getD i default).o (by omega) (by omega)))) (h1))),
           DS.ok_over fun s0 => OpAt.go rfl rfl (q_move),
           DS.ok_over fun s0 => OpAt.gskip rfl rfl rfl rfl rfl rfl rfl rfl,
           DS.ok_over fun s0 => OpAt.gskip rfl rfl rfl rfl rfl rfl rfl rfl,
           DS.ok_over fun s0 => OpAt.gskip rfl rfl rfl rfl rfl rfl rfl rfl,
           DS.ok_over fun s0 => OpAt.gskip rfl rfl rfl rfl rfl rfl rfl rfl,
           DS.ok_over fun s0 => OpAt.gskip rfl rfl rfl rfl rfl rfl rfl rfl,
           DS.ok_over fun s0 => OpAt.gskip rfl rfl rfl rfl rfl rfl rfl rfl,
           DS.ok_over fun s0 => OpAt.gskip rfl rfl rfl rfl rfl rfl rfl rfl,
           DS.ok_over fun s0 => OpAt.gskip rfl rfl rfl rfl rfl rfl rfl rfl,
           DS.ok_over fun s0 => OpAt.gskip rfl rfl rfl rfl rfl rfl rfl rfl,
           DS.ok_over fun s0 => OpAt.gskip rfl rfl rfl rfl rfl rfl rfl rfl,
           DS.ok_over fun s0 => OpAt.gskip rfl rfl rfl rfl rfl rfl rfl rfl,
           DS.ok_over fun s0 => OpAt.go rfl rfl (q_pick), trivial⟩ ?_
      dsimp only [final, DS.upd, AS.seto]
      refine AWp.cond_f rfl ?_
      refine AWp.skip ?_
      refine AWp.region ?_
      refine AOps.cons rfl rfl (q_add) ?_
      refine AOps.cons rfl rfl (q_move) ?_
      refine AOps.nil ?_
      refine ⟨(i + 1, p), ?_, Back.mk' (HasT.cons (HasT.cons HasT.nil)) HasH.nil, ?_⟩
      ·
       try dsimp only
       exact ⟨by omega, by rw [refP_step, ← hp]; exact (nearS_no (t := t) (i := (i : Int)) (p := fun z => withN (parS (t.zs.getD j default).o) z.o) h1).symm, hp0, hp1⟩
      ·
       try dsimp only
       first | omega | (simp; omega)
     ·
      refine AWp.draws [⟨0, [8], [], some 65, _, none⟩,
          ⟨1, [12], [903], some 66, _, none⟩,
          ⟨2, [66], [903], some 67, _, none⟩,
          ⟨3, [65, 67], [], some 68, _, none⟩,
          ⟨4, [68], [], some 69, _, none⟩,
          ⟨5, [12, 69], [903], some 70, _, none⟩,
          ⟨6, [69, 70], [903], some 71, _, none⟩,
          ⟨7, [69, 71], [], some 72, _, none⟩,
          ⟨8, [3, 69], [100], some 73, _, none⟩,
          ⟨9, [69, 73], [100], some 74, _, none⟩,
          ⟨10, [10, 69], [], some 75, _, none⟩,
          ⟨11, [69, 74, 75], [], some 76, _, none⟩,
          ⟨12, [69, 76], [], some 77, _, none⟩,
          ⟨13, [69, 77], [], some 78, _, none⟩,
          ⟨14, [69, 78], [], some 79, _, none⟩,
          ⟨15, [69, 72, 79], [], some 80, _, none⟩,
          ⟨16, [69, 80], [], some 81, _, none⟩]
       [⟨0, [8], [], some 65, .any, none⟩,
           ⟨1, [12], [903], some 66, .any, none⟩,
           ⟨2, [66], [903], some 67, .any, none⟩,
           ⟨3, [65, 67], [], some 68, .any, none⟩,
           ⟨4, [68], [], some 69, .any, none⟩,
           ⟨5, [12, 69], [903], some 70, .any, none⟩,
           ⟨6, [69, 70], [903], some 71, .any, none⟩,
           ⟨7, [69, 71], [], some 72, .any, none⟩,
           ⟨8, [3, 69], [100], some 73, .any, none⟩,
           ⟨9, [69, 73], [100], some 74, .any, none⟩,
           ⟨10, [10, 69], [], some 75, .any, none⟩,
           ⟨11, [69, 74, 75], [], some 76, .any, none⟩,
           ⟨12, [69, 76], [], some 77, .any, none⟩,
           ⟨13, [69, 77], [], some 78, .any, none⟩,
           ⟨14, [69, 78], [], some 79, .any, none⟩,
           ⟨15, [69, 72, 79], [], some 80, .any, none⟩,
           ⟨16, [69, 80], [], some 81, .any, none⟩]
       mixed_ok rfl (by kernel_rfl) ⟨DS.ok_over fun s0 => OpAt.go rfl rfl (q_move),
           DS.ok_over fun s0 => OpAt.go rfl rfl (q_fa),
           DS.ok_over fun s0 => OpAt.go rfl rfl (q_load),
           DS.ok_over fun s0 => OpAt.go rfl rfl ((OpOk.bool_is (c := true) (q_call (0) (hc := (c_ciceroneref01_Within (parS (t.zs.getD j default).o) (t.zs.getD i default).o (by omega) (by omega)))) (h1))),
           DS.ok_over fun s0 => OpAt.go rfl rfl (q_move),
           DS.ok_over fun s0 => OpAt.ggo rfl rfl rfl rfl rfl (q_fa),
           DS.ok_over fun s0 => OpAt.ggo rfl rfl rfl rfl rfl (q_load),
           DS.ok_over fun s0 => OpAt.ggo rfl rfl rfl rfl rfl (q_call (0) (hc := (c_ciceroneref01_Count (t.zs.getD i default).o (by omega)))),
           DS.ok_over fun s0 => OpAt.ggo rfl rfl rfl rfl rfl (q_fa),
           DS.ok_over fun s0 => OpAt.ggo rfl rfl rfl rfl rfl (q_load),
           DS.ok_over fun s0 => OpAt.ggo rfl rfl rfl rfl rfl (q_move),
           DS.ok_over fun s0 => OpAt.ggo rfl rfl rfl rfl rfl (q_ix),
           DS.ok_over fun s0 => OpAt.ggo rfl rfl rfl rfl rfl (q_fa),
           DS.ok_over fun s0 => OpAt.ggo rfl rfl rfl rfl rfl (q_load),
           DS.ok_over fun s0 => OpAt.ggo rfl rfl rfl rfl rfl (q_call (0) (hc := (c_ciceroneref01_Count (zAt t p).o (by omega)))),
           DS.ok_over fun s0 => OpAt.ggo rfl rfl rfl rfl rfl ((OpOk.dec_t (q_gtr) (h2))),
           DS.ok_over fun s0 => OpAt.go rfl rfl (q_pick), trivial⟩ ?_
      dsimp only [final, DS.upd, AS.seto]
      refine AWp.cond_t rfl ?_
      refine AWp.region ?_
      refine AOps.cons rfl rfl (q_move) ?_
      refine AOps.cons rfl rfl (q_assign) ?_
      refine AOps.nil ?_
      refine AWp.region ?_
      refine AOps.cons rfl rfl (q_add) ?_
      refine AOps.cons rfl rfl (q_move) ?_
      refine AOps.nil ?_
      refine ⟨(i + 1, (i : Int)), ?_, Back.mk' (HasT.cons (HasT.cons HasT.nil)) HasH.nil, ?_⟩
      ·
       try dsimp only
       exact ⟨by omega, by rw [refP_step, ← hp]; exact (nearS_take (t := t) (i := (i : Int)) (p := fun z => withN (parS (t.zs.getD j default).o) z.o) h1 (by rw [mostT_at hp0]; exact h2)).symm, by omega, by omega⟩
      ·
       try dsimp only
       first | omega | (simp; omega)
     ·
      refine AWp.draws [⟨0, [8], [], some 65, _, none⟩,
          ⟨1, [12], [903], some 66, _, none⟩,
          ⟨2, [66], [903], some 67, _, none⟩,
          ⟨3, [65, 67], [], some 68, _, none⟩,
          ⟨4, [68], [], some 69, _, none⟩,
          ⟨5, [12, 69], [903], some 70, _, none⟩,
          ⟨6, [69, 70], [903], some 71, _, none⟩,
          ⟨7, [69, 71], [], some 72, _, none⟩,
          ⟨8, [3, 69], [100], some 73, _, none⟩,
          ⟨9, [69, 73], [100], some 74, _, none⟩,
          ⟨10, [10, 69], [], some 75, _, none⟩,
          ⟨11, [69, 74, 75], [], some 76, _, none⟩,
          ⟨12, [69, 76], [], some 77, _, none⟩,
          ⟨13, [69, 77], [], some 78, _, none⟩,
          ⟨14, [69, 78], [], some 79, _, none⟩,
          ⟨15, [69, 72, 79], [], some 80, _, none⟩,
          ⟨16, [69, 80], [], some 81, _, none⟩]
       [⟨0, [8], [], some 65, .any, none⟩,
           ⟨1, [12], [903], some 66, .any, none⟩,
           ⟨2, [66], [903], some 67, .any, none⟩,
           ⟨3, [65, 67], [], some 68, .any, none⟩,
           ⟨4, [68], [], some 69, .any, none⟩,
           ⟨5, [12, 69], [903], some 70, .any, none⟩,
           ⟨6, [69, 70], [903], some 71, .any, none⟩,
           ⟨7, [69, 71], [], some 72, .any, none⟩,
           ⟨8, [3, 69], [100], some 73, .any, none⟩,
           ⟨9, [69, 73], [100], some 74, .any, none⟩,
           ⟨10, [10, 69], [], some 75, .any, none⟩,
           ⟨11, [69, 74, 75], [], some 76, .any, none⟩,
           ⟨12, [69, 76], [], some 77, .any, none⟩,
           ⟨13, [69, 77], [], some 78, .any, none⟩,
           ⟨14, [69, 78], [], some 79, .any, none⟩,
           ⟨15, [69, 72, 79], [], some 80, .any, none⟩,
           ⟨16, [69, 80], [], some 81, .any, none⟩]
       mixed_ok rfl (by kernel_rfl) ⟨DS.ok_over fun s0 => OpAt.go rfl rfl (q_move),
           DS.ok_over fun s0 => OpAt.go rfl rfl (q_fa),
           DS.ok_over fun s0 => OpAt.go rfl rfl (q_load),
           DS.ok_over fun s0 => OpAt.go rfl rfl ((OpOk.bool_is (c := true) (q_call (0) (hc := (c_ciceroneref01_Within (parS (t.zs.getD j default).o) (t.zs.getD i default).o (by omega) (by omega)))) (h1))),
           DS.ok_over fun s0 => OpAt.go rfl rfl (q_move),
           DS.ok_over fun s0 => OpAt.ggo rfl rfl rfl rfl rfl (q_fa),
           DS.ok_over fun s0 => OpAt.ggo rfl rfl rfl rfl rfl (q_load),
           DS.ok_over fun s0 => OpAt.ggo rfl rfl rfl rfl rfl (q_call (0) (hc := (c_ciceroneref01_Count (t.zs.getD i default).o (by omega)))),
           DS.ok_over fun s0 => OpAt.ggo rfl rfl rfl rfl rfl (q_fa),
           DS.ok_over fun s0 => OpAt.ggo rfl rfl rfl rfl rfl (q_load),
           DS.ok_over fun s0 => OpAt.ggo rfl rfl rfl rfl rfl (q_move),
           DS.ok_over fun s0 => OpAt.ggo rfl rfl rfl rfl rfl (q_ix),
           DS.ok_over fun s0 => OpAt.ggo rfl rfl rfl rfl rfl (q_fa),
           DS.ok_over fun s0 => OpAt.ggo rfl rfl rfl rfl rfl (q_load),
           DS.ok_over fun s0 => OpAt.ggo rfl rfl rfl rfl rfl (q_call (0) (hc := (c_ciceroneref01_Count (zAt t p).o (by omega)))),
           DS.ok_over fun s0 => OpAt.ggo rfl rfl rfl rfl rfl ((OpOk.dec_f (q_gtr) (h2))),
           DS.ok_over fun s0 => OpAt.go rfl rfl (q_pick), trivial⟩ ?_
      dsimp only [final, DS.upd, AS.seto]
      refine AWp.cond_f rfl ?_
      refine AWp.skip ?_
      refine AWp.region ?_
      refine AOps.cons rfl rfl (q_add) ?_
      refine AOps.cons rfl rfl (q_move) ?_
      refine AOps.nil ?_
      refine ⟨(i + 1, p), ?_, Back.mk' (HasT.cons (HasT.cons HasT.nil)) HasH.nil, ?_⟩
      ·
       try dsimp only
       exact ⟨by omega, by rw [refP_step, ← hp]; exact (nearS_keep (t := t) (i := (i : Int)) (by rw [mostT_at hp0]; exact h2)).symm, hp0, hp1⟩
      ·
       try dsimp only
       first | omega | (simp; omega)
    ·
     refine AOps.nil ?_
     refine AWp.seq ?_
     refine AWp.cond_f rfl ?_
     refine AWp.exit ?_
     refine AWp.seq ?_
     refine AWp.region ?_
     obtain rfl : i = t.zs.length := by omega
     refine AOps.cons rfl rfl (q_fa) ?_
     refine AOps.cons rfl rfl (q_load) ?_
     refine AOps.cons rfl rfl (q_move) ?_
     refine AOps.cons rfl rfl (q_bs 1303 ic [p] [(_, _)]) ?_
     refine AOps.weak (Weak.full 0 [] (t := [(2, u8 c.toNat), (3, .ptr 100 0 0), (7, str (t.zs.getD j default).o), (85, .fz 0 t.zs.length (cl zoC t.zs)), (87, .fz 0 [p].length (cl ic [p]))]) (hl := [(100, .box (trC t))])) ?_
     refine AOps.cons rfl rfl (q_build [(_, _), (_, _)]) ?_
     refine AOps.cons rfl rfl (q_bs 1305 svC [⟨7, [p]⟩] [(_, _)]) ?_
     refine AOps.weak (Weak.full 0 [] (t := [(2, u8 c.toNat), (3, .ptr 100 0 0), (7, str (t.zs.getD j default).o), (85, .fz 0 t.zs.length (cl zoC t.zs)), (89, .fz 0 (onT t p).ss.length (cl svC (onT t p).ss))]) (hl := [(100, .box (trC t))])) ?_
     refine AOps.cons rfl rfl (q_build [(_, _), (_, _)]) ?_
     refine AOps.cons rfl rfl (q_alloc 1307) ?_
     refine AOps.cons rfl rfl (q_store) ?_
     refine AOps.nil ?_
     refine AWp.seq ?_
     refine AWp.region ?_
     refine AOps.cons rfl rfl (q_move) ?_
     refine AOps.cons rfl rfl (q_rem8 _ 26) ?_
     refine AOps.cons rfl rfl (q_add8 97 _) ?_
     refine AOps.cons rfl rfl (q_bs 1403 bc [1, 97 + c % 26] [(_, _), (_, _)]) ?_
     refine AOps.cons rfl rfl (q_conv_ls) ?_
     refine AOps.cons rfl rfl (q_move) ?_
     refine AOps.cons rfl rfl (q_sadd (h := by simp; omega)) ?_
     refine AOps.cons rfl rfl (q_assign) ?_
     refine AOps.nil ?_
     refine AWp.seq ?_
     refine AWp.seq ?_
     refine AWp.region ?_
     refine AOps.cons rfl rfl (q_move) ?_
     refine AOps.bool rfl rfl (q_call (0) (hc := (c_ciceroneref01_Can ([1, 97 + c % 26] ++ (t.zs.getD j default).o) (by simp; omega)))) (fun h14_1 => ?_) (fun h14_1 => ?_)
     ·
      refine AOps.cons rfl rfl (q_not) ?_
      refine AOps.nil ?_
      refine AWp.cond_f rfl ?_
      refine AWp.skip ?_
      refine AWp.seq ?_
      refine AWp.region ?_
      refine AOps.cons rfl rfl (q_load) ?_
      refine AOps.cons rfl rfl (q_move) ?_
      refine AOps.cons rfl rfl (q_build [(_, _), (_, _), (_, _)]) ?_
      refine AOps.cons rfl rfl (q_bs 1703 quc [(⟨([1, 97 + c % 26] ++ (t.zs.getD j default).o), 1, 1⟩ : Qu)] [(_, _)]) ?_
      refine AOps.weak (Weak.full 0 [] (t := [(2, u8 c.toNat), (3, .ptr 100 0 0), (7, str (t.zs.getD j default).o), (104, .agg (trC (onT t p))), (107, .fz 0 [(⟨([1, 97 + c % 26] ++ (t.zs.getD j default).o), 1, 1⟩ : Qu)].length (cl quc [(⟨([1, 97 + c % 26] ++ (t.zs.getD j default).o), 1, 1⟩ : Qu)]))]) (hl := [(100, .box (trC t))])) ?_
      refine AOps.cons rfl rfl (q_build [(_, _)]) ?_
      refine AOps.cons rfl rfl (q_call (0) (hA := by exact ⟨fv_okb rfl rfl, fv_okb rfl rfl, fv_agg ⟨fv_okb rfl rfl, fv_okb rfl rfl, fv_okb rfl rfl, fv_okb rfl rfl, fv_okb rfl rfl, fv_okb rfl rfl, fv_okb rfl rfl, fv_okb rfl rfl, fv_okb rfl rfl, fv_nilz, fv_nilz, fv_nilz, trivial⟩, trivial⟩) (hc := (c_zone_Serve (onT t p) 7 (m0 (⟨([1, 97 + c % 26] ++ (t.zs.getD j default).o), 1, 1⟩ : Qu)) (onT_ok ht p) (m0_ok (q := (⟨([1, 97 + c % 26] ++ (t.zs.getD j default).o), 1, 1⟩ : Qu)) (by show (([1, 97 + c % 26] ++ (t.zs.getD j default).o)).length ≤ _; simp; omega)).1 (m0_ok (q := (⟨([1, 97 + c % 26] ++ (t.zs.getD j default).o), 1, 1⟩ : Qu)) (by show (([1, 97 + c % 26] ++ (t.zs.getD j default).o)).length ≤ _; simp; omega)).2))) ?_
      refine AOps.cons rfl rfl (q_move) ?_
      refine AOps.cons rfl rfl (q_extract) ?_
      refine AOps.cons rfl rfl (q_extract) ?_
      refine AOps.cons rfl rfl (q_alloc 1709) ?_
      refine AOps.cons rfl rfl (q_store) ?_
      refine AOps.cons rfl rfl (q_assign) ?_
      refine AOps.nil ?_
      refine AWp.seq ?_
      refine AWp.seq ?_
      refine AWp.region ?_
      obtain ⟨hso, au, ad, vd, hf, hau, hau4, hall⟩ := refers hcan hj0 hj hp (b := 97 + c % 26) rfl h14_1
      rw [hf]
      refine AOps.weak (Weak.full 0 [] (t := [(2, u8 c.toNat), (3, .ptr 100 0 0), (7, str (t.zs.getD j default).o), (15, .ptr 1709 0 0), (16, tf (serO (onT t p) 7 (m0 (⟨([1, 97 + c % 26] ++ (t.zs.getD j default).o), 1, 1⟩ : Qu))))]) (hl := [(100, .box (trC t)), (1709, .box [i64 0, tf true, i64 0, tf false, tf false, tf false, tf false, i64 0, .fz 0 [(⟨([1, 97 + c % 26] ++ (t.zs.getD j default).o), 1, 1⟩ : Qu)].length (cl quc [(⟨([1, 97 + c % 26] ++ (t.zs.getD j default).o), 1, 1⟩ : Qu)]), .fz 0 (([] : List Rr)).length (cl rrc (([] : List Rr))), .fz 0 (au).length (cl rrc (au)), .fz 0 (ad).length (cl rrc (ad))])])) ?_
      refine AOps.cons rfl rfl ((OpOk.bool_is (c := true) (q_move) (hso))) ?_
      refine AOps.cons rfl rfl (q_not) ?_
      refine AOps.cons rfl rfl (q_move) ?_
      refine AOps.gcons rfl rfl rfl rfl rfl (q_fa) ?_
      refine AOps.gcons rfl rfl rfl rfl rfl (q_fa) ?_
      refine AOps.gcons rfl rfl rfl rfl rfl ((OpOk.bool_is (c := false) (q_load) (rfl))) ?_
      refine AOps.cons rfl rfl (q_pick) ?_
      refine AOps.cons rfl rfl (q_move) ?_
      refine AOps.gcons rfl rfl rfl rfl rfl (q_fa) ?_
      refine AOps.gcons rfl rfl rfl rfl rfl (q_load) ?_
      refine AOps.gcons rfl rfl rfl rfl rfl (q_len) ?_
      refine AOps.gcons rfl rfl rfl rfl rfl ((OpOk.dec_f (q_gtr) (by simp))) ?_
      refine AOps.cons rfl rfl (q_pick) ?_
      refine AOps.cons rfl rfl (q_move) ?_
      refine AOps.gcons rfl rfl rfl rfl rfl (q_fa) ?_
      refine AOps.gcons rfl rfl rfl rfl rfl (q_load) ?_
      refine AOps.gcons rfl rfl rfl rfl rfl (q_len) ?_
      refine AOps.gcons rfl rfl rfl rfl rfl ((OpOk.dec_f (q_eql) (by omega))) ?_
      refine AOps.cons rfl rfl (q_pick) ?_
      refine AOps.cons rfl rfl (q_move) ?_
      refine AOps.gcons rfl rfl rfl rfl rfl (q_fa) ?_
      refine AOps.gcons rfl rfl rfl rfl rfl (q_fa) ?_
      refine AOps.gcons rfl rfl rfl rfl rfl (q_load) ?_
      refine AOps.gcons rfl rfl rfl rfl rfl ((OpOk.dec_f (q_neq) (fun k => k rfl))) ?_
      refine AOps.cons rfl rfl (q_pick) ?_
      refine AOps.nil ?_
      refine AWp.cond_f rfl ?_
      refine AWp.skip ?_
      refine AWp.seq ?_
      refine AWp.seq ?_
      refine AWp.region ?_
      refine AOps.cons rfl rfl (q_fa) ?_
      refine AOps.cons rfl rfl (q_load) ?_
      refine AOps.cons rfl rfl (q_len) ?_
      refine AOps.cons rfl rfl (q_move) ?_
      refine AOps.nil ?_
      refine AWp.block ?_
      refine AWp.loopR (α := Nat) [6, 18, 140, 141, 142, 143, 144, 145, 146, 147, 148, 149, 150, 151, 152, 153, 154] (fun i => [(140, i64 i)]) (fun i => []) (fun i => i ≤ au.length) (fun i => au.length - i) 0 ?_ (Back.mk' (HasT.cons HasT.nil) HasH.nil) ?_
      ·
       exact Nat.zero_le _
      ·
       rintro i hi
       refine AWp.seq ?_
       refine AWp.region ?_
       refine AOps.dec rfl rfl (q_lss) (fun h20_0 => ?_) (fun h20_0 => ?_)
       ·
        refine AOps.nil ?_
        refine AWp.seq ?_
        refine AWp.cond_t rfl ?_
        refine AWp.skip ?_
        refine AWp.seq ?_
        refine AWp.block ?_
        refine AWp.seq ?_
        refine AWp.region ?_
        refine AOps.cons rfl rfl (q_ix) ?_
        refine AOps.cons rfl rfl (q_load) ?_
        refine AOps.cons rfl rfl (q_alloc 2202) ?_
        refine AOps.cons rfl rfl (q_store) ?_
        refine AOps.nil ?_
        refine AWp.seq ?_
        refine AWp.region ?_
        obtain ⟨hty, hsm⟩ := hall _ (getD_mem' (l := au) (i := i) (by omega))
        have hnl := canN_le2 (same_iff.1 hsm).1
        refine AOps.cons rfl rfl (q_fa) ?_
        refine AOps.cons rfl rfl (q_load) ?_
        refine AOps.cons rfl rfl ((OpOk.dec_f (q_neq) (fun k => k hty))) ?_
        refine AOps.cons rfl rfl (q_move) ?_
        refine AOps.gcons rfl rfl rfl rfl rfl (q_fa) ?_
        refine AOps.gcons rfl rfl rfl rfl rfl (q_load) ?_
        refine AOps.gcons rfl rfl rfl rfl rfl (q_move) ?_
        refine AOps.gcons rfl rfl rfl rfl rfl ((OpOk.bool_is (c := true) (q_call (0) (hc := (c_ciceroneref01_Same (au.getD i default).nm (t.zs.getD j default).o (by omega) (by omega)))) (hsm))) ?_
        refine AOps.gcons rfl rfl rfl rfl rfl (q_not) ?_
        refine AOps.cons rfl rfl (q_pick) ?_
        refine AOps.nil ?_
        refine AWp.cond_f rfl ?_
        refine AWp.skip ?_
        refine AWp.region ?_
        refine AOps.cons rfl rfl (q_add) ?_
        refine AOps.cons rfl rfl (q_move) ?_
        refine AOps.nil ?_
        refine ⟨i + 1, ?_, Back.mk' (HasT.cons HasT.nil) HasH.nil, ?_⟩
        ·
         first | assumption | omega | decide | (simp; omega) | (simp [*]; done)
        ·
         first | omega | (simp; omega)
       ·
        refine AOps.nil ?_
        refine AWp.seq ?_
        refine AWp.cond_f rfl ?_
        refine AWp.exit ?_
        refine AWp.seq ?_
        refine AWp.region ?_
        refine AOps.cons rfl rfl (q_assign) ?_
        refine AOps.nil ?_
        refine AWp.ret ?_
        show Fin te Try.f5 _ _
        refine q_ret (0) [_] [_] ?_
        rfl
     ·
      refine AOps.cons rfl rfl (q_not) ?_
      refine AOps.nil ?_
      refine AWp.cond_t rfl ?_
      refine AWp.seq ?_
      refine AWp.region ?_
      refine AOps.cons rfl rfl (q_call (0) (hc := c_ciceronelaw18_Small)) ?_
      refine AOps.cons rfl rfl ((OpOk.bool_is (c := true) (q_call (0) (hc := (c_zone_Can smT smT_ok))) (smT_can))) ?_
      refine AOps.cons rfl rfl (q_assign) ?_
      refine AOps.nil ?_
      refine AWp.ret ?_
      show Fin te Try.f5 _ _
      refine q_ret (0) [_] [_] ?_
      rfl
 ·
  refine AOps.cons rfl rfl (q_not) ?_
  refine AOps.cons rfl rfl (q_move) ?_
  refine AOps.gskip rfl rfl rfl rfl rfl rfl rfl rfl ?_
  refine AOps.gskip rfl rfl rfl rfl rfl rfl rfl rfl ?_
  refine AOps.gskip rfl rfl rfl rfl rfl rfl rfl rfl ?_
  refine AOps.gskip rfl rfl rfl rfl rfl rfl rfl rfl ?_
  refine AOps.cons rfl rfl (q_pick) ?_
  refine AOps.nil ?_
  refine AWp.cond_t rfl ?_
  refine AWp.seq ?_
  refine AWp.draws [⟨0, [3], [100], some 28, _, none⟩,
      ⟨1, [28], [], some 29, _, none⟩,
      ⟨2, [3], [100], some 30, _, none⟩,
      ⟨3, [30], [], some 31, _, none⟩,
      ⟨4, [29, 31], [], some 32, _, none⟩,
      ⟨5, [32], [], some 33, _, none⟩,
      ⟨6, [33], [], some 34, _, none⟩,
      ⟨7, [33, 34], [], some 35, _, none⟩,
      ⟨8, [33, 35], [], some 36, _, none⟩,
      ⟨9, [36], [], some 6, _, none⟩]
   [⟨0, [3], [100], some 28, .any, none⟩,
       ⟨1, [28], [], some 29, .any, none⟩,
       ⟨2, [3], [100], some 30, .any, none⟩,
       ⟨3, [30], [], some 31, .any, none⟩,
       ⟨4, [29, 31], [], some 32, .any, none⟩,
       ⟨5, [32], [], some 33, .any, none⟩,
       ⟨6, [33], [], some 34, .any, none⟩,
       ⟨7, [33, 34], [], some 35, .any, none⟩,
       ⟨8, [33, 35], [], some 36, .any, none⟩,
       ⟨9, [36], [], some 6, .any, none⟩]
   mixed_ok rfl (by kernel_rfl) ⟨DS.ok_over fun s0 => OpAt.go rfl rfl (q_load),
       DS.ok_over fun s0 => OpAt.go rfl rfl (q_call (0) (hc := (c_zone_Can t ht))),
       DS.ok_over fun s0 => OpAt.go rfl rfl (q_load),
       DS.ok_over fun s0 => OpAt.go rfl rfl (q_call (0) (hc := (c_rCan t ht))),
       DS.ok_over fun s0 => OpAt.go rfl rfl ((OpOk.bool_is (c := true) (q_beql) (by simp))),
       DS.ok_over fun s0 => OpAt.go rfl rfl (q_move),
       DS.ok_over fun s0 => OpAt.ggo rfl rfl rfl rfl rfl (q_call (0) (hc := c_ciceronelaw18_Small)),
       DS.ok_over fun s0 => OpAt.ggo rfl rfl rfl rfl rfl ((OpOk.bool_is (c := true) (q_call (0) (hc := (c_zone_Can smT smT_ok))) (smT_can))),
       DS.ok_over fun s0 => OpAt.go rfl rfl (q_pick),
       DS.ok_over fun s0 => OpAt.go rfl rfl (q_assign), trivial⟩ ?_
  dsimp only [final, DS.upd, AS.seto]
  refine AWp.ret ?_
  show Fin te Try.f5 _ _
  refine q_ret (0) [_] [_] ?_
  rfl
end Go.Proofs.Ytokccoloholgaaa.Fw


