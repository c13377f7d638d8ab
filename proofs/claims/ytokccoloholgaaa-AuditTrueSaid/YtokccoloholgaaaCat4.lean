/- The texts R18, W18d, W18e, W18f, W03d, R18b, R18c, one behind the other: what the walks and plain laws need; conditions stand with each theorem. -/
import Derived.Test.YtokccoloholgaaaCat3
set_option linter.unusedVariables false
set_option linter.unusedSimpArgs false
namespace Go.Proofs.Ytokccoloholgaaa.Fw
open Go.RowKit
def belB (a b : List UInt8) : Bool := withN a b && !sameN a b
theorem atP_no1 {n : List UInt8} {t : Int} {r : Rr} (h : sameN r.nm n = false) : atP n t r = false := by rw [atP, h, Bool.and_false]
theorem atP_no2 {n : List UInt8} {t : Int} {r : Rr} (h : ¬ r.ty = t) : atP n t r = false := by rw [atP, decide_eq_false h, Bool.false_and]
theorem atP_yes {n : List UInt8} {t : Int} {r : Rr} (h : sameN r.nm n = true) (h2 : r.ty = t) : atP n t r = true := by rw [atP, h, decide_eq_true h2]; rfl
theorem cutP_nob {z : Zo} {n : List UInt8} {r : Rr} (h : belB r.nm z.o = false) : cutP z n r = false := by
  unfold belB at h; unfold cutP
  cases hw : withN r.nm z.o with
  | false => simp
  | true => rw [hw, Bool.true_and] at h; rw [h]; simp
theorem cutP_yesb {z : Zo} {n : List UInt8} {r : Rr} (h1 : ¬ ¬ r.ty = 2) (h : belB r.nm z.o = true) (h4 : withN n r.nm = true) : cutP z n r = true := by
  unfold belB at h
  simp only [Bool.and_eq_true] at h
  rw [Decidable.not_not] at h1
  rw [cutP, decide_eq_true h1, h.1, h.2, h4]; rfl
theorem any_step {α : Type} [Inhabited α] {p : α → Bool} {l : List α} {i : Nat} (h : i < l.length) : (l.take (i + 1)).any p = ((l.take i).any p || p (l.getD i default)) := by
  rw [take_step' h, List.any_append]; simp [List.any_cons, List.any_nil]
theorem any_no {α : Type} [Inhabited α] {p : α → Bool} {l : List α} {i : Nat} (h : i < l.length) (h1 : (l.take i).any p = false) (h2 : p (l.getD i default) = false) : (l.take (i + 1)).any p = false := by rw [any_step h, h1, h2]; rfl
theorem any_yes {α : Type} [Inhabited α] {p : α → Bool} {l : List α} {i : Nat} (h : i < l.length) (h2 : p (l.getD i default) = true) : l.any p = true := List.any_eq_true.2 ⟨_, getD_mem' h, h2⟩
theorem all_step {α : Type} [Inhabited α] {p : α → Bool} {l : List α} {i : Nat} (h : i < l.length) (h1 : (l.take i).all p = true) (h2 : p (l.getD i default) = true) : (l.take (i + 1)).all p = true := by
  rw [take_step' h, List.all_append, h1]; simp only [List.all_cons, List.all_nil, h2, Bool.and_true]
theorem all_no {α : Type} [Inhabited α] {p : α → Bool} {l : List α} {i : Nat} (h : i < l.length) (h2 : p (l.getD i default) = false) : l.all p = false := by
  cases hx : l.all p with
  | false => rfl
  | true => rw [List.all_eq_true.1 hx _ (getD_mem' h)] at h2; cases h2
theorem cntN_nn (n : List UInt8) : 0 ≤ cntN n := by unfold cntN; omega
theorem near4 (w : Bool) (a b : Prop) [Decidable a] [Decidable b] : w = false ∨ (w = true ∧ a) ∨ (w = true ∧ ¬ a ∧ b) ∨ (w = true ∧ ¬ a ∧ ¬ b) := by
  cases w
  · exact .inl rfl
  · by_cases h1 : a
    · exact .inr (.inl ⟨rfl, h1⟩)
    · by_cases h2 : b
      · exact .inr (.inr (.inl ⟨rfl, h1, h2⟩))
      · exact .inr (.inr (.inr ⟨rfl, h1, h2⟩))
theorem mostT_neg {t : Tr} {b : Int} (h : b < 0) (n : List UInt8) : mostT t b < cntN n := by
  have := cntN_nn n
  rw [mostT, if_pos h]; omega
def parL (t : Tr) (z : Zo) (k : Nat) : List Int := (everyN k).filter fun j => belB z.o (zAt t j).o
theorem parL_step {t : Tr} {z : Zo} {k : Nat} : parL t z (k + 1) = parL t z k ++ (if belB z.o (zAt t k).o then [(k : Int)] else []) := by
  rw [parL, everyN_step, List.filter_append]
  congr 1
  cases h : belB z.o (zAt t k).o <;> simp [List.filter, h]
theorem near_filter {t : Tr} {p q : Zo → Bool} : ∀ {w : List Int} {b : Int}, (w.filter fun j => q (zAt t j) && p (zAt t j)).foldl (nearS t q) b = w.foldl (nearS t fun z => q z && p z) b
  | [], b => rfl
  | i :: w, b => by
    rw [List.filter_cons, List.foldl_cons]
    cases h : (q (zAt t i) && p (zAt t i)) with
    | false =>
      rw [if_neg (by simp)]
      have e : nearS t (fun z => q z && p z) b i = b := nearS_no (p := fun z => q z && p z) h
      rw [e]; exact near_filter
    | true =>
      rw [if_pos rfl, List.foldl_cons]
      have hq : q (zAt t i) = true := by simp only [Bool.and_eq_true] at h; exact h.1
      have e : nearS t (fun z => q z && p z) b i = nearS t q b i := by
        show (if ((q (zAt t i) && p (zAt t i)) && decide (mostT t b < cntN (zAt t i).o)) = true then i else b) = _
        rw [h, nearS, hq]
      rw [e]; exact near_filter
theorem parL_near (t : Tr) (z : Zo) : homeT t (parL t z t.zs.length) z.o = parOf t z := near_filter (p := fun o => !sameN z.o o.o) (q := fun o => withN z.o o.o)
theorem parL_in {t : Tr} {z : Zo} {k : Nat} (hk : k ≤ t.zs.length) : ∀ i ∈ parL t z k, 0 ≤ i ∧ i < t.zs.length := fun i hi => by
  have := everyN_in (List.mem_filter.1 hi).1
  omega
theorem parL_len {t : Tr} {z : Zo} {k : Nat} : (parL t z k).length ≤ k := by
  have h1 := List.length_filter_le (fun j => belB z.o (zAt t j).o) (everyN k)
  rw [everyN_len] at h1; exact h1
set_option maxRecDepth 20000 in
set_option maxHeartbeats 2000000 in
theorem c_ciceroneref18_CopyRR (r : Rr) (hd : r.da.length ≤ 140737488351232) : AC Try.prog 91 [.agg (rrc r)] emp (Ret (.agg (rrc r))) := by
 refine AC.intro te_ok (fn := Try.f91) ⟨Try.func91, rfl, rfl⟩ (Nat.le_of_ble_eq_true rfl) ?_
 refine AWp.seq ?_
 refine AWp.region ?_
 refine aC_ rfl rfl (q_box 100) ?_
 refine aC_ rfl rfl (q_alloc 101) ?_
 refine AOps.nil ?_
 refine AWp.seq ?_
 refine AWp.region ?_
 refine aC_ rfl rfl (q_bs 200 bc [] []) ?_
 refine aC_ rfl rfl (q_fa) ?_
 refine aC_ rfl rfl (q_load) ?_
 refine aC_ rfl rfl (q_appz (l := ([] : List UInt8)) (m := r.da)) ?_
 refine aC_ rfl rfl (q_fa) ?_
 refine aC_ rfl rfl (q_store) ?_
 refine AOps.nil ?_
 refine AWp.seq ?_
 refine AWp.region ?_
 refine aC_ rfl rfl (q_load) ?_
 refine aC_ rfl rfl (q_store) ?_
 refine AOps.nil ?_
 refine AWp.ret ?_
 show Fin te Try.f91 _ _
 refine q_ret (0) [_] [_] ?_
 rfl
set_option maxRecDepth 20000 in
set_option maxHeartbeats 2000000 in
theorem c_rat (z : Zo) (n : List UInt8) (t : Int) (hz : ZoOk z) (hn : n.length ≤ 140737488351232) : AC Try.prog 49 [.agg (zoC z), str n, i64 t] emp (Ret (.fz 0 (atZ z n t).length (cl rrc (atZ z n t)))) := by
 have hrl : z.rs.length * 64 ≤ 140737488351232 := hz.2.1.1
 have hol := hz.1
 refine AC.intro te_ok (fn := Try.f49) ⟨Try.func49, rfl, rfl⟩ (Nat.le_of_ble_eq_true rfl) ?_
 refine AWp.seq ?_
 refine AWp.region ?_
 refine aC_ rfl rfl (q_box 100) ?_
 refine aC_ rfl rfl (q_assign) ?_
 refine AOps.nil ?_
 refine AWp.seq ?_
 refine AWp.region ?_
 refine aC_ rfl rfl (q_nilrow 200 5 rrc) ?_
 refine AOps.nil ?_
 refine AWp.seq ?_
 refine AWp.seq ?_
 refine AWp.region ?_
 refine aC_ rfl rfl (q_fa) ?_
 refine aC_ rfl rfl (q_load) ?_
 refine aC_ rfl rfl (q_len) ?_
 refine aC_ rfl rfl (q_move) ?_
 refine AOps.nil ?_
 refine AWp.block ?_
 refine AWp.loopR (α := Nat × List Rr × Nat) [7, 9, 13, 14, 15, 16, 17, 18, 19, 20, 21, 22, 23, 24, 25, 26, 27, 28, 29, 30, 31, 32] (fun x_ => [(13, i64 (x_.1)), (7, .sl 200 (x_.2.2) 0 (x_.2.1).length 5)]) (fun x_ => [(200, .row (cl rrc (x_.2.1)) 5 (x_.2.2))]) (fun x_ => (x_.1) ≤ z.rs.length ∧ (x_.2.1) = (z.rs.take (x_.1)).filter (atP n t)) (fun x_ => z.rs.length - (x_.1)) (0, [], 0) ?_ (Back.mk' (HasT.cons (HasT.cons HasT.nil)) (HasH.cons HasH.nil)) ?_
 ·
  exact ⟨Nat.zero_le _, rfl⟩
 ·
  rintro ⟨i, acc, v⟩ hI3
  change i ≤ z.rs.length ∧ acc = (z.rs.take i).filter (atP n t) at hI3
  obtain ⟨hi, ha⟩ := hI3
  refine AWp.as (s' := AS.over _ [7, 9, 13, 14, 15, 16, 17, 18, 19, 20, 21, 22, 23, 24, 25, 26, 27, 28, 29, 30, 31, 32] [(13, i64 i), (7, .sl 200 v 0 acc.length 5)] [(200, .row (cl rrc acc) 5 v)]) rfl ?_
  have hal := at_step_ok ha
  refine AWp.seq ?_
  refine AWp.region ?_
  refine AOps.dec rfl rfl (q_lss) (fun h3_0 => ?_) (fun h3_0 => ?_)
  ·
   refine AOps.nil ?_
   refine AWp.seq ?_
   refine AWp.cond_t rfl ?_
   refine AWp.skip ?_
   refine AWp.seq ?_
   refine AWp.block ?_
   refine AWp.seq ?_
   refine AWp.region ?_
   have hr := hz.2.2 _ (getD_mem' (l := z.rs) (i := i) (by omega))
   have hrd := hz.2.1.2 _ (getD_mem' (l := z.rs) (i := i) (by omega))
   refine aC_ rfl rfl (q_ix) ?_
   refine aC_ rfl rfl (q_load) ?_
   refine aC_ rfl rfl (q_alloc 502) ?_
   refine aC_ rfl rfl (q_store) ?_
   refine AOps.nil ?_
   refine AWp.seq ?_
   refine AWp.region ?_
   refine aC_ rfl rfl (q_fa) ?_
   refine aC_ rfl rfl (q_load) ?_
   refine aC_ rfl rfl (q_move) ?_
   refine AOps.bool rfl rfl (q_call (0) (hc := (c_ciceroneref01_Same (z.rs.getD i default).nm n (by omega) (by omega)))) (fun h5_3 => ?_) (fun h5_3 => ?_)
   ·
    refine aC_ rfl rfl (q_move) ?_
    refine AOps.gcons rfl rfl rfl rfl rfl (q_fa) ?_
    refine AOps.gcons rfl rfl rfl rfl rfl (q_load) ?_
    refine AOps.gcons rfl rfl rfl rfl rfl (q_move) ?_
    refine AOps.gdec rfl rfl rfl rfl rfl (q_eql) (fun h5_8 => ?_) (fun h5_8 => ?_)
    ·
     refine aC_ rfl rfl (q_pick) ?_
     refine AOps.nil ?_
     refine AWp.cond_t rfl ?_
     refine AWp.region ?_
     refine aC_ rfl rfl (q_move) ?_
     refine aC_ rfl rfl (q_load) ?_
     refine aC_ rfl rfl (q_call (0) (hc := (c_ciceroneref18_CopyRR (z.rs.getD i default) hrd))) ?_
     refine aC_ rfl rfl (q_bs 703 rrc [_] [(_, _)]) ?_
     refine aC_ rfl rfl (q_app) ?_
     refine aC_ rfl rfl (q_assign) ?_
     refine AOps.nil ?_
     refine AWp.region ?_
     refine aC_ rfl rfl (q_add) ?_
     refine aC_ rfl rfl (q_move) ?_
     refine AOps.nil ?_
     refine ⟨(i + 1, acc ++ [z.rs.getD i default], v + 1), ?_, Back.mk' (HasT.cons (HasT.cons HasT.nil)) (HasH.cons HasH.nil), ?_⟩
     ·
      try dsimp only
      exact ⟨by omega, by rw [filter_yes (i := i) (by omega) (atP_yes h5_3 h5_8), ← ha]⟩
     ·
      try dsimp only
      first | omega | (simp; omega)
    ·
     refine aC_ rfl rfl (q_pick) ?_
     refine AOps.nil ?_
     refine AWp.cond_f rfl ?_
     refine AWp.skip ?_
     refine AWp.region ?_
     refine aC_ rfl rfl (q_add) ?_
     refine aC_ rfl rfl (q_move) ?_
     refine AOps.nil ?_
     refine ⟨(i + 1, acc, v), ?_, Back.mk' (HasT.cons (HasT.cons HasT.nil)) (HasH.cons HasH.nil), ?_⟩
     ·
      try dsimp only
      exact ⟨by omega, by rw [filter_no (i := i) (by omega) (atP_no2 h5_8), ← ha]⟩
     ·
      try dsimp only
      first | omega | (simp; omega)
   ·
    refine aC_ rfl rfl (q_move) ?_
    refine aG_ rfl rfl rfl rfl rfl rfl rfl rfl ?_
    refine aG_ rfl rfl rfl rfl rfl rfl rfl rfl ?_
    refine aG_ rfl rfl rfl rfl rfl rfl rfl rfl ?_
    refine aG_ rfl rfl rfl rfl rfl rfl rfl rfl ?_
    refine aC_ rfl rfl (q_pick) ?_
    refine AOps.nil ?_
    refine AWp.cond_f rfl ?_
    refine AWp.skip ?_
    refine AWp.region ?_
    refine aC_ rfl rfl (q_add) ?_
    refine aC_ rfl rfl (q_move) ?_
    refine AOps.nil ?_
    refine ⟨(i + 1, acc, v), ?_, Back.mk' (HasT.cons (HasT.cons HasT.nil)) (HasH.cons HasH.nil), ?_⟩
    ·
     try dsimp only
     exact ⟨by omega, by rw [filter_no (by omega) (atP_no1 h5_3), ← ha]⟩
    ·
     try dsimp only
     first | omega | (simp; omega)
  ·
   refine AOps.nil ?_
   refine AWp.seq ?_
   refine AWp.cond_f rfl ?_
   refine AWp.exit ?_
   refine AWp.seq ?_
   refine AWp.region ?_
   refine aC_ rfl rfl (q_move) ?_
   refine aC_ rfl rfl (q_assign) ?_
   refine AOps.nil ?_
   refine AWp.ret ?_
   show Fin te Try.f49 _ _
   obtain rfl : i = z.rs.length := by omega
   rw [List.take_length] at ha
   obtain rfl : acc = atZ z n t := ha
   refine q_ret (0) [_] [_] ?_
   rfl
set_option maxRecDepth 20000 in
set_option maxHeartbeats 2000000 in
theorem c_ciceroneref18_below (a b : List UInt8) (ha : a.length ≤ 140737488351232) (hb : b.length ≤ 140737488351232) : AC Try.prog 116 [str a, str b] emp (Ret (tf (belB a b))) := by
 refine AC.intro te_ok (fn := Try.f116) ⟨Try.func116, rfl, rfl⟩ (Nat.le_of_ble_eq_true rfl) ?_
 refine AWp.seq ?_
 refine AWp.region ?_
 refine aC_ rfl rfl (q_assign) ?_
 refine AOps.nil ?_
 refine AWp.seq ?_
 refine AWp.region ?_
 refine aC_ rfl rfl (q_move) ?_
 refine aC_ rfl rfl (q_move) ?_
 refine AOps.bool rfl rfl (q_call (0) (hc := (c_ciceroneref01_Within a b (by omega) (by omega)))) (fun h1_2 => ?_) (fun h1_2 => ?_)
 ·
  refine aC_ rfl rfl (q_move) ?_
  refine AOps.gcons rfl rfl rfl rfl rfl (q_move) ?_
  refine AOps.gcons rfl rfl rfl rfl rfl (q_move) ?_
  refine AOps.gcons rfl rfl rfl rfl rfl (q_call (0) (hc := (c_ciceroneref01_Same a b (by omega) (by omega)))) ?_
  refine AOps.gcons rfl rfl rfl rfl rfl (q_not) ?_
  refine aC_ rfl rfl (q_pick) ?_
  refine aC_ rfl rfl (q_assign) ?_
  refine AOps.nil ?_
  refine AWp.ret ?_
  show Fin te Try.f116 _ _
  refine q_ret (0) [_] [_] ?_
  exact congrArg tf (by simp_all [belB])
 ·
  refine aC_ rfl rfl (q_move) ?_
  refine aG_ rfl rfl rfl rfl rfl rfl rfl rfl ?_
  refine aG_ rfl rfl rfl rfl rfl rfl rfl rfl ?_
  refine aG_ rfl rfl rfl rfl rfl rfl rfl rfl ?_
  refine aG_ rfl rfl rfl rfl rfl rfl rfl rfl ?_
  refine aC_ rfl rfl (q_pick) ?_
  refine aC_ rfl rfl (q_assign) ?_
  refine AOps.nil ?_
  refine AWp.ret ?_
  show Fin te Try.f116 _ _
  refine q_ret (0) [_] [_] ?_
  exact congrArg tf (by simp_all [belB])
set_option maxRecDepth 20000 in
set_option maxHeartbeats 2000000 in
theorem c_rcut (z : Zo) (n : List UInt8) (hz : ZoOk z) (hn : n.length ≤ 140737488351232) : AC Try.prog 86 [.agg (zoC z), str n] emp (Ret (str (cutZ z n))) := by
 have hrl : z.rs.length * 64 ≤ 140737488351232 := hz.2.1.1
 have hol := hz.1
 refine AC.intro te_ok (fn := Try.f86) ⟨Try.func86, rfl, rfl⟩ (Nat.le_of_ble_eq_true rfl) ?_
 refine AWp.seq ?_
 refine AWp.region ?_
 refine aC_ rfl rfl (q_box 100) ?_
 refine aC_ rfl rfl (q_assign) ?_
 refine AOps.nil ?_
 refine AWp.seq ?_
 refine AWp.region ?_
 refine aC_ rfl rfl (q_assign) ?_
 refine AOps.nil ?_
 refine AWp.seq ?_
 refine AWp.seq ?_
 refine AWp.region ?_
 refine aC_ rfl rfl (q_fa) ?_
 refine aC_ rfl rfl (q_load) ?_
 refine aC_ rfl rfl (q_len) ?_
 refine aC_ rfl rfl (q_move) ?_
 refine AOps.nil ?_
 refine AWp.block ?_
 refine AWp.loopR (α := Nat × List UInt8) [5, 7, 11, 12, 13, 14, 15, 16, 17, 18, 19, 20, 21, 22, 23, 24, 25, 26, 27, 28, 29, 30, 31, 32, 33, 34, 35, 36, 37, 38, 39, 40, 41, 42, 43, 44, 45] (fun x_ => [(11, i64 (x_.1)), (5, str (x_.2))]) (fun x_ => []) (fun x_ => (x_.1) ≤ z.rs.length ∧ (z.rs.take (x_.1)).foldl (cutS z n) [] = (x_.2)) (fun x_ => z.rs.length - (x_.1)) (0, []) ?_ (Back.mk' (HasT.cons (HasT.cons HasT.nil)) HasH.nil) ?_
 ·
  exact ⟨Nat.zero_le _, rfl⟩
 ·
  rintro ⟨i, b⟩ hI3
  change i ≤ z.rs.length ∧ (z.rs.take i).foldl (cutS z n) [] = b at hI3
  obtain ⟨hi, hb⟩ := hI3
  refine AWp.as (s' := AS.over _ [5, 7, 11, 12, 13, 14, 15, 16, 17, 18, 19, 20, 21, 22, 23, 24, 25, 26, 27, 28, 29, 30, 31, 32, 33, 34, 35, 36, 37, 38, 39, 40, 41, 42, 43, 44, 45] [(11, i64 i), (5, str b)] []) rfl ?_
  have hbl := cut_take_len hz n i
  rw [hb] at hbl
  refine AWp.seq ?_
  refine AWp.region ?_
  refine AOps.dec rfl rfl (q_lss) (fun h3_0 => ?_) (fun h3_0 => ?_)
  ·
   refine AOps.nil ?_
   refine AWp.seq ?_
   refine AWp.cond_t rfl ?_
   refine AWp.skip ?_
   refine AWp.seq ?_
   refine AWp.block ?_
   refine AWp.seq ?_
   refine AWp.region ?_
   have hr := hz.2.2 _ (getD_mem' (l := z.rs) (i := i) (by omega))
   have hrd := hz.2.1.2 _ (getD_mem' (l := z.rs) (i := i) (by omega))
   refine aC_ rfl rfl (q_ix) ?_
   refine aC_ rfl rfl (q_load) ?_
   refine aC_ rfl rfl (q_alloc 502) ?_
   refine aC_ rfl rfl (q_store) ?_
   refine AOps.nil ?_
   refine AWp.seq ?_
   refine AWp.seq ?_
   refine AWp.region ?_
   refine aC_ rfl rfl (q_fa) ?_
   refine aC_ rfl rfl (q_load) ?_
   refine AOps.dec rfl rfl (q_neq) (fun h5_2 => ?_) (fun h5_2 => ?_)
   ·
    refine aC_ rfl rfl (q_move) ?_
    refine aG_ rfl rfl rfl rfl rfl rfl rfl rfl ?_
    refine aG_ rfl rfl rfl rfl rfl rfl rfl rfl ?_
    refine aG_ rfl rfl rfl rfl rfl rfl rfl rfl ?_
    refine aG_ rfl rfl rfl rfl rfl rfl rfl rfl ?_
    refine aG_ rfl rfl rfl rfl rfl rfl rfl rfl ?_
    refine aG_ rfl rfl rfl rfl rfl rfl rfl rfl ?_
    refine aC_ rfl rfl (q_pick) ?_
    refine aC_ rfl rfl (q_move) ?_
    refine aG_ rfl rfl rfl rfl rfl rfl rfl rfl ?_
    refine aG_ rfl rfl rfl rfl rfl rfl rfl rfl ?_
    refine aG_ rfl rfl rfl rfl rfl rfl rfl rfl ?_
    refine aG_ rfl rfl rfl rfl rfl rfl rfl rfl ?_
    refine aG_ rfl rfl rfl rfl rfl rfl rfl rfl ?_
    refine aC_ rfl rfl (q_pick) ?_
    refine AOps.nil ?_
    refine AWp.cond_t rfl ?_
    refine AWp.exit ?_
    refine AWp.region ?_
    refine aC_ rfl rfl (q_add) ?_
    refine aC_ rfl rfl (q_move) ?_
    refine AOps.nil ?_
    refine ⟨(i + 1, b), ?_, Back.mk' (HasT.cons (HasT.cons HasT.nil)) HasH.nil, ?_⟩
    ·
     try dsimp only
     exact ⟨by omega, by rw [foldl_step (by omega), hb]; exact cutS_no (cutP_no1 h5_2)⟩
    ·
     try dsimp only
     first | omega | (simp; omega)
   ·
    refine aC_ rfl rfl (q_move) ?_
    refine AOps.gcons rfl rfl rfl rfl rfl (q_fa) ?_
    refine AOps.gcons rfl rfl rfl rfl rfl (q_load) ?_
    refine AOps.gcons rfl rfl rfl rfl rfl (q_fa) ?_
    refine AOps.gcons rfl rfl rfl rfl rfl (q_load) ?_
    refine AOps.gbool rfl rfl rfl rfl rfl (q_call (0) (hc := (c_ciceroneref18_below (z.rs.getD i default).nm z.o (by omega) (by omega)))) (fun h5_8 => ?_) (fun h5_8 => ?_)
    ·
     refine AOps.gcons rfl rfl rfl rfl rfl (q_not) ?_
     refine aC_ rfl rfl (q_pick) ?_
     refine aC_ rfl rfl (q_move) ?_
     refine AOps.gcons rfl rfl rfl rfl rfl (q_move) ?_
     refine AOps.gcons rfl rfl rfl rfl rfl (q_fa) ?_
     refine AOps.gcons rfl rfl rfl rfl rfl (q_load) ?_
     refine AOps.gbool rfl rfl rfl rfl rfl (q_call (0) (hc := (c_ciceroneref01_Within n (z.rs.getD i default).nm (by omega) (by omega)))) (fun h5_15 => ?_) (fun h5_15 => ?_)
     ·
      refine AOps.gcons rfl rfl rfl rfl rfl (q_not) ?_
      refine aC_ rfl rfl (q_pick) ?_
      refine AOps.nil ?_
      refine AWp.cond_f rfl ?_
      refine AWp.skip ?_
      refine AWp.seq ?_
      refine AWp.region ?_
      have hP : cutP z n (z.rs.getD i default) = true := cutP_yesb h5_2 h5_8 h5_15
      refine aC_ rfl rfl (q_move) ?_
      refine AOps.dec rfl rfl (q_seql) (fun h6_1 => ?_) (fun h6_1 => ?_)
      ·
       refine aC_ rfl rfl (q_move) ?_
       refine aG_ rfl rfl rfl rfl rfl rfl rfl rfl ?_
       refine aG_ rfl rfl rfl rfl rfl rfl rfl rfl ?_
       refine aG_ rfl rfl rfl rfl rfl rfl rfl rfl ?_
       refine aG_ rfl rfl rfl rfl rfl rfl rfl rfl ?_
       refine aG_ rfl rfl rfl rfl rfl rfl rfl rfl ?_
       refine aG_ rfl rfl rfl rfl rfl rfl rfl rfl ?_
       refine aC_ rfl rfl (q_pick) ?_
       refine AOps.nil ?_
       refine AWp.cond_t rfl ?_
       refine AWp.region ?_
       refine aC_ rfl rfl (q_fa) ?_
       refine aC_ rfl rfl (q_load) ?_
       refine aC_ rfl rfl (q_assign) ?_
       refine AOps.nil ?_
       refine AWp.region ?_
       refine aC_ rfl rfl (q_add) ?_
       refine aC_ rfl rfl (q_move) ?_
       refine AOps.nil ?_
       refine ⟨(i + 1, (z.rs.getD i default).nm), ?_, Back.mk' (HasT.cons (HasT.cons HasT.nil)) HasH.nil, ?_⟩
       ·
        try dsimp only
        exact ⟨by omega, by rw [foldl_step (by omega), hb]; exact cutS_take hP (.inl h6_1)⟩
       ·
        try dsimp only
        first | omega | (simp; omega)
      ·
       refine aC_ rfl rfl (q_move) ?_
       refine AOps.gcons rfl rfl rfl rfl rfl (q_fa) ?_
       refine AOps.gcons rfl rfl rfl rfl rfl (q_load) ?_
       refine AOps.gcons rfl rfl rfl rfl rfl (q_call (0) (hc := (c_ciceroneref01_Count (z.rs.getD i default).nm (by omega)))) ?_
       refine AOps.gcons rfl rfl rfl rfl rfl (q_move) ?_
       refine AOps.gcons rfl rfl rfl rfl rfl (q_call (0) (hc := (c_ciceroneref01_Count b (by omega)))) ?_
       refine AOps.gdec rfl rfl rfl rfl rfl (q_lss) (fun h6_8 => ?_) (fun h6_8 => ?_)
       ·
        refine aC_ rfl rfl (q_pick) ?_
        refine AOps.nil ?_
        refine AWp.cond_t rfl ?_
        refine AWp.region ?_
        refine aC_ rfl rfl (q_fa) ?_
        refine aC_ rfl rfl (q_load) ?_
        refine aC_ rfl rfl (q_assign) ?_
        refine AOps.nil ?_
        refine AWp.region ?_
        refine aC_ rfl rfl (q_add) ?_
        refine aC_ rfl rfl (q_move) ?_
        refine AOps.nil ?_
        refine ⟨(i + 1, (z.rs.getD i default).nm), ?_, Back.mk' (HasT.cons (HasT.cons HasT.nil)) HasH.nil, ?_⟩
        ·
         try dsimp only
         exact ⟨by omega, by rw [foldl_step (by omega), hb]; exact cutS_take hP (.inr h6_8)⟩
        ·
         try dsimp only
         first | omega | (simp; omega)
       ·
        refine aC_ rfl rfl (q_pick) ?_
        refine AOps.nil ?_
        refine AWp.cond_f rfl ?_
        refine AWp.skip ?_
        refine AWp.region ?_
        refine aC_ rfl rfl (q_add) ?_
        refine aC_ rfl rfl (q_move) ?_
        refine AOps.nil ?_
        refine ⟨(i + 1, b), ?_, Back.mk' (HasT.cons (HasT.cons HasT.nil)) HasH.nil, ?_⟩
        ·
         try dsimp only
         exact ⟨by omega, by rw [foldl_step (by omega), hb]; exact cutS_keep h6_1 h6_8⟩
        ·
         try dsimp only
         first | omega | (simp; omega)
     ·
      refine AOps.gcons rfl rfl rfl rfl rfl (q_not) ?_
      refine aC_ rfl rfl (q_pick) ?_
      refine AOps.nil ?_
      refine AWp.cond_t rfl ?_
      refine AWp.exit ?_
      refine AWp.region ?_
      refine aC_ rfl rfl (q_add) ?_
      refine aC_ rfl rfl (q_move) ?_
      refine AOps.nil ?_
      refine ⟨(i + 1, b), ?_, Back.mk' (HasT.cons (HasT.cons HasT.nil)) HasH.nil, ?_⟩
      ·
       try dsimp only
       exact ⟨by omega, by rw [foldl_step (by omega), hb]; exact cutS_no (cutP_no4 h5_15)⟩
      ·
       try dsimp only
       first | omega | (simp; omega)
    ·
     refine AOps.gcons rfl rfl rfl rfl rfl (q_not) ?_
     refine aC_ rfl rfl (q_pick) ?_
     refine aC_ rfl rfl (q_move) ?_
     refine aG_ rfl rfl rfl rfl rfl rfl rfl rfl ?_
     refine aG_ rfl rfl rfl rfl rfl rfl rfl rfl ?_
     refine aG_ rfl rfl rfl rfl rfl rfl rfl rfl ?_
     refine aG_ rfl rfl rfl rfl rfl rfl rfl rfl ?_
     refine aG_ rfl rfl rfl rfl rfl rfl rfl rfl ?_
     refine aC_ rfl rfl (q_pick) ?_
     refine AOps.nil ?_
     refine AWp.cond_t rfl ?_
     refine AWp.exit ?_
     refine AWp.region ?_
     refine aC_ rfl rfl (q_add) ?_
     refine aC_ rfl rfl (q_move) ?_
     refine AOps.nil ?_
     refine ⟨(i + 1, b), ?_, Back.mk' (HasT.cons (HasT.cons HasT.nil)) HasH.nil, ?_⟩
     ·
      try dsimp only
      exact ⟨by omega, by rw [foldl_step (by omega), hb]; exact cutS_no (cutP_nob h5_8)⟩
     ·
      try dsimp only
      first | omega | (simp; omega)
  ·
   refine AOps.nil ?_
   refine AWp.seq ?_
   refine AWp.cond_f rfl ?_
   refine AWp.exit ?_
   refine AWp.seq ?_
   refine AWp.region ?_
   refine aC_ rfl rfl (q_move) ?_
   refine aC_ rfl rfl (q_assign) ?_
   refine AOps.nil ?_
   refine AWp.ret ?_
   show Fin te Try.f86 _ _
   obtain rfl : i = z.rs.length := by omega
   rw [List.take_length] at hb
   obtain rfl : b = cutZ z n := hb.symm
   refine q_ret (0) [_] [_] ?_
   rfl
set_option maxRecDepth 20000 in
set_option maxHeartbeats 2000000 in
theorem c_rthere (z : Zo) (n : List UInt8) (hz : ZoOk z) (hn : n.length ≤ 140737488351232) : AC Try.prog 54 [.agg (zoC z), str n] emp (Ret (tf (theZ z n))) := by
 have hrl : z.rs.length * 64 ≤ 140737488351232 := hz.2.1.1
 have hol := hz.1
 have hcl := cutZ_len hz n
 refine AC.intro te_ok (fn := Try.f54) ⟨Try.func54, rfl, rfl⟩ (Nat.le_of_ble_eq_true rfl) ?_
 refine AWp.seq ?_
 refine AWp.region ?_
 refine aC_ rfl rfl (q_box 100) ?_
 refine aC_ rfl rfl (q_assign) ?_
 refine AOps.nil ?_
 refine AWp.seq ?_
 refine AWp.region ?_
 refine aC_ rfl rfl (q_load) ?_
 refine aC_ rfl rfl (q_move) ?_
 refine aC_ rfl rfl (q_call (0) (hc := (c_rcut z n hz hn))) ?_
 refine aC_ rfl rfl (q_assign) ?_
 refine AOps.nil ?_
 refine AWp.seq ?_
 refine AWp.seq ?_
 refine AWp.region ?_
 refine aC_ rfl rfl (q_move) ?_
 refine AOps.dec rfl rfl (q_sneq) (fun h2_1 => ?_) (fun h2_1 => ?_)
 ·
  refine aC_ rfl rfl (q_move) ?_
  refine AOps.gcons rfl rfl rfl rfl rfl (q_move) ?_
  refine AOps.gcons rfl rfl rfl rfl rfl (q_move) ?_
  refine AOps.gbool rfl rfl rfl rfl rfl (q_call (0) (hc := (c_ciceroneref01_Same (cutZ z n) n (by omega) (by omega)))) (fun h2_5 => ?_) (fun h2_5 => ?_)
  ·
   refine AOps.gcons rfl rfl rfl rfl rfl (q_not) ?_
   refine aC_ rfl rfl (q_pick) ?_
   refine AOps.nil ?_
   refine AWp.cond_f rfl ?_
   refine AWp.skip ?_
   refine AWp.seq ?_
   refine AWp.seq ?_
   refine AWp.region ?_
   have hh : hidZ z n = false := by rw [hidZ, h2_5, Bool.not_true, Bool.and_false]
   refine aC_ rfl rfl (q_fa) ?_
   refine aC_ rfl rfl (q_load) ?_
   refine aC_ rfl rfl (q_len) ?_
   refine aC_ rfl rfl (q_move) ?_
   refine AOps.nil ?_
   refine AWp.block ?_
   refine AWp.loopR (α := Nat) [4, 7, 8, 23, 24, 25, 26, 27, 28, 29, 30, 31, 32, 33, 34, 35, 36, 37, 38, 39, 40, 41, 42, 43, 44, 45] (fun i => [(23, i64 i)]) (fun i => []) (fun i => i ≤ z.rs.length ∧ (z.rs.take i).any (thP z n) = false) (fun i => z.rs.length - i) 0 ?_ (Back.mk' (HasT.cons HasT.nil) HasH.nil) ?_
   ·
    exact ⟨Nat.zero_le _, rfl⟩
   ·
    rintro i ⟨hi, ha⟩
    refine AWp.seq ?_
    refine AWp.region ?_
    refine AOps.dec rfl rfl (q_lss) (fun h5_0 => ?_) (fun h5_0 => ?_)
    ·
     refine AOps.nil ?_
     refine AWp.seq ?_
     refine AWp.cond_t rfl ?_
     refine AWp.skip ?_
     refine AWp.seq ?_
     refine AWp.block ?_
     refine AWp.seq ?_
     refine AWp.region ?_
     have hr := hz.2.2 _ (getD_mem' (l := z.rs) (i := i) (by omega))
     have hrd := hz.2.1.2 _ (getD_mem' (l := z.rs) (i := i) (by omega))
     have hcr := cutZ_len hz (z.rs.getD i default).nm
     refine aC_ rfl rfl (q_ix) ?_
     refine aC_ rfl rfl (q_load) ?_
     refine aC_ rfl rfl (q_alloc 702) ?_
     refine aC_ rfl rfl (q_store) ?_
     refine AOps.nil ?_
     refine AWp.seq ?_
     refine AWp.region ?_
     refine aC_ rfl rfl (q_load) ?_
     refine aC_ rfl rfl (q_fa) ?_
     refine aC_ rfl rfl (q_load) ?_
     refine aC_ rfl rfl (q_call (0) (hc := (c_rcut z (z.rs.getD i default).nm hz hr))) ?_
     refine aC_ rfl rfl (q_assign) ?_
     refine AOps.nil ?_
     refine AWp.seq ?_
     refine AWp.region ?_
     refine aC_ rfl rfl (q_fa) ?_
     refine aC_ rfl rfl (q_load) ?_
     refine aC_ rfl rfl (q_move) ?_
     refine AOps.bool rfl rfl (q_call (0) (hc := (c_ciceroneref01_Within (z.rs.getD i default).nm n (by omega) (by omega)))) (fun h8_3 => ?_) (fun h8_3 => ?_)
     ·
      refine aC_ rfl rfl (q_move) ?_
      refine AOps.gcons rfl rfl rfl rfl rfl (q_move) ?_
      refine AOps.gdec rfl rfl rfl rfl rfl (q_seql) (fun h8_6 => ?_) (fun h8_6 => ?_)
      ·
       refine AOps.gcons rfl rfl rfl rfl rfl (q_move) ?_
       refine aG_ rfl rfl rfl rfl rfl rfl rfl rfl ?_
       refine aG_ rfl rfl rfl rfl rfl rfl rfl rfl ?_
       refine aG_ rfl rfl rfl rfl rfl rfl rfl rfl ?_
       refine aG_ rfl rfl rfl rfl rfl rfl rfl rfl ?_
       refine AOps.gcons rfl rfl rfl rfl rfl (q_pick) ?_
       refine aC_ rfl rfl (q_pick) ?_
       refine AOps.nil ?_
       refine AWp.cond_t rfl ?_
       refine AWp.seq ?_
       refine AWp.region ?_
       refine aC_ rfl rfl (q_assign) ?_
       refine AOps.nil ?_
       refine AWp.ret ?_
       show Fin te Try.f54 _ _
       refine q_ret (0) [_] [_] ?_
       exact congrArg tf (by rw [theZ, hh, any_yes (i := i) (by omega) (by rw [thP, h8_3, hidZ, decide_eq_false (not_not_intro h8_6)]; rfl)]; rfl)
      ·
       refine AOps.gcons rfl rfl rfl rfl rfl (q_move) ?_
       refine AOps.gcons rfl rfl rfl rfl rfl (q_move) ?_
       refine AOps.gcons rfl rfl rfl rfl rfl (q_fa) ?_
       refine AOps.gcons rfl rfl rfl rfl rfl (q_load) ?_
       refine AOps.gbool rfl rfl rfl rfl rfl (q_call (0) (hc := (c_ciceroneref01_Same (cutZ z (z.rs.getD i default).nm) (z.rs.getD i default).nm (by omega) (by omega)))) (fun h8_11 => ?_) (fun h8_11 => ?_)
       ·
        refine AOps.gcons rfl rfl rfl rfl rfl (q_pick) ?_
        refine aC_ rfl rfl (q_pick) ?_
        refine AOps.nil ?_
        refine AWp.cond_t rfl ?_
        refine AWp.seq ?_
        refine AWp.region ?_
        refine aC_ rfl rfl (q_assign) ?_
        refine AOps.nil ?_
        refine AWp.ret ?_
        show Fin te Try.f54 _ _
        refine q_ret (0) [_] [_] ?_
        exact congrArg tf (by rw [theZ, hh, any_yes (i := i) (by omega) (by rw [thP, h8_3, hidZ, h8_11, Bool.not_true, Bool.and_false]; rfl)]; rfl)
       ·
        refine AOps.gcons rfl rfl rfl rfl rfl (q_pick) ?_
        refine aC_ rfl rfl (q_pick) ?_
        refine AOps.nil ?_
        refine AWp.cond_f rfl ?_
        refine AWp.skip ?_
        refine AWp.region ?_
        refine aC_ rfl rfl (q_add) ?_
        refine aC_ rfl rfl (q_move) ?_
        refine AOps.nil ?_
        refine ⟨i + 1, ?_, Back.mk' (HasT.cons HasT.nil) HasH.nil, ?_⟩
        ·
         exact ⟨by omega, any_no (by omega) ha (by rw [thP, hidZ, decide_eq_true h8_6, h8_11, Bool.not_false, Bool.and_true, Bool.not_true, Bool.and_false])⟩
        ·
         first | omega | (simp; omega)
     ·
      refine aC_ rfl rfl (q_move) ?_
      refine aG_ rfl rfl rfl rfl rfl rfl rfl rfl ?_
      refine aG_ rfl rfl rfl rfl rfl rfl rfl rfl ?_
      refine aG_ rfl rfl rfl rfl rfl rfl rfl rfl ?_
      refine AOps.gskipu rfl rfl rfl rfl rfl rfl rfl ?_
      refine AOps.gskipu rfl rfl rfl rfl rfl rfl rfl ?_
      refine AOps.gskipu rfl rfl rfl rfl rfl rfl rfl ?_
      refine AOps.gskipu rfl rfl rfl rfl rfl rfl rfl ?_
      refine aG_ rfl rfl rfl rfl rfl rfl rfl rfl ?_
      refine aC_ rfl rfl (q_pick) ?_
      refine AOps.nil ?_
      refine AWp.cond_f rfl ?_
      refine AWp.skip ?_
      refine AWp.region ?_
      refine aC_ rfl rfl (q_add) ?_
      refine aC_ rfl rfl (q_move) ?_
      refine AOps.nil ?_
      refine ⟨i + 1, ?_, Back.mk' (HasT.cons HasT.nil) HasH.nil, ?_⟩
      ·
       exact ⟨by omega, any_no (by omega) ha (by rw [thP, h8_3, Bool.false_and])⟩
      ·
       first | omega | (simp; omega)
    ·
     refine AOps.nil ?_
     refine AWp.seq ?_
     refine AWp.cond_f rfl ?_
     refine AWp.exit ?_
     refine AWp.seq ?_
     refine AWp.region ?_
     refine aC_ rfl rfl (q_assign) ?_
     refine AOps.nil ?_
     refine AWp.ret ?_
     show Fin te Try.f54 _ _
     refine q_ret (0) [_] [_] ?_
     obtain rfl : i = z.rs.length := by omega
     rw [List.take_length] at ha
     exact congrArg tf (by rw [theZ, ha, Bool.and_false])
  ·
   refine AOps.gcons rfl rfl rfl rfl rfl (q_not) ?_
   refine aC_ rfl rfl (q_pick) ?_
   refine AOps.nil ?_
   refine AWp.cond_t rfl ?_
   refine AWp.seq ?_
   refine AWp.region ?_
   refine aC_ rfl rfl (q_assign) ?_
   refine AOps.nil ?_
   refine AWp.ret ?_
   show Fin te Try.f54 _ _
   refine q_ret (0) [_] [_] ?_
   exact congrArg tf (by rw [theZ, hidZ, decide_eq_true h2_1, h2_5]; rfl)
 ·
  refine aC_ rfl rfl (q_move) ?_
  refine aG_ rfl rfl rfl rfl rfl rfl rfl rfl ?_
  refine aG_ rfl rfl rfl rfl rfl rfl rfl rfl ?_
  refine aG_ rfl rfl rfl rfl rfl rfl rfl rfl ?_
  refine aG_ rfl rfl rfl rfl rfl rfl rfl rfl ?_
  refine aC_ rfl rfl (q_pick) ?_
  refine AOps.nil ?_
  refine AWp.cond_f rfl ?_
  refine AWp.skip ?_
  refine AWp.seq ?_
  refine AWp.seq ?_
  refine AWp.region ?_
  have hh : hidZ z n = false := by rw [hidZ, decide_eq_false h2_1, Bool.false_and]
  refine aC_ rfl rfl (q_fa) ?_
  refine aC_ rfl rfl (q_load) ?_
  refine aC_ rfl rfl (q_len) ?_
  refine aC_ rfl rfl (q_move) ?_
  refine AOps.nil ?_
  refine AWp.block ?_
  refine AWp.loopR (α := Nat) [4, 7, 8, 23, 24, 25, 26, 27, 28, 29, 30, 31, 32, 33, 34, 35, 36, 37, 38, 39, 40, 41, 42, 43, 44, 45] (fun i => [(23, i64 i)]) (fun i => []) (fun i => i ≤ z.rs.length ∧ (z.rs.take i).any (thP z n) = false) (fun i => z.rs.length - i) 0 ?_ (Back.mk' (HasT.cons HasT.nil) HasH.nil) ?_
  ·
   exact ⟨Nat.zero_le _, rfl⟩
  ·
   rintro i ⟨hi, ha⟩
   refine AWp.seq ?_
   refine AWp.region ?_
   refine AOps.dec rfl rfl (q_lss) (fun h5_0 => ?_) (fun h5_0 => ?_)
   ·
    refine AOps.nil ?_
    refine AWp.seq ?_
    refine AWp.cond_t rfl ?_
    refine AWp.skip ?_
    refine AWp.seq ?_
    refine AWp.block ?_
    refine AWp.seq ?_
    refine AWp.region ?_
    have hr := hz.2.2 _ (getD_mem' (l := z.rs) (i := i) (by omega))
    have hrd := hz.2.1.2 _ (getD_mem' (l := z.rs) (i := i) (by omega))
    have hcr := cutZ_len hz (z.rs.getD i default).nm
    refine aC_ rfl rfl (q_ix) ?_
    refine aC_ rfl rfl (q_load) ?_
    refine aC_ rfl rfl (q_alloc 702) ?_
    refine aC_ rfl rfl (q_store) ?_
    refine AOps.nil ?_
    refine AWp.seq ?_
    refine AWp.region ?_
    refine aC_ rfl rfl (q_load) ?_
    refine aC_ rfl rfl (q_fa) ?_
    refine aC_ rfl rfl (q_load) ?_
    refine aC_ rfl rfl (q_call (0) (hc := (c_rcut z (z.rs.getD i default).nm hz hr))) ?_
    refine aC_ rfl rfl (q_assign) ?_
    refine AOps.nil ?_
    refine AWp.seq ?_
    refine AWp.region ?_
    refine aC_ rfl rfl (q_fa) ?_
    refine aC_ rfl rfl (q_load) ?_
    refine aC_ rfl rfl (q_move) ?_
    refine AOps.bool rfl rfl (q_call (0) (hc := (c_ciceroneref01_Within (z.rs.getD i default).nm n (by omega) (by omega)))) (fun h8_3 => ?_) (fun h8_3 => ?_)
    ·
     refine aC_ rfl rfl (q_move) ?_
     refine AOps.gcons rfl rfl rfl rfl rfl (q_move) ?_
     refine AOps.gdec rfl rfl rfl rfl rfl (q_seql) (fun h8_6 => ?_) (fun h8_6 => ?_)
     ·
      refine AOps.gcons rfl rfl rfl rfl rfl (q_move) ?_
      refine aG_ rfl rfl rfl rfl rfl rfl rfl rfl ?_
      refine aG_ rfl rfl rfl rfl rfl rfl rfl rfl ?_
      refine aG_ rfl rfl rfl rfl rfl rfl rfl rfl ?_
      refine aG_ rfl rfl rfl rfl rfl rfl rfl rfl ?_
      refine AOps.gcons rfl rfl rfl rfl rfl (q_pick) ?_
      refine aC_ rfl rfl (q_pick) ?_
      refine AOps.nil ?_
      refine AWp.cond_t rfl ?_
      refine AWp.seq ?_
      refine AWp.region ?_
      refine aC_ rfl rfl (q_assign) ?_
      refine AOps.nil ?_
      refine AWp.ret ?_
      show Fin te Try.f54 _ _
      refine q_ret (0) [_] [_] ?_
      exact congrArg tf (by rw [theZ, hh, any_yes (i := i) (by omega) (by rw [thP, h8_3, hidZ, decide_eq_false (not_not_intro h8_6)]; rfl)]; rfl)
     ·
      refine AOps.gcons rfl rfl rfl rfl rfl (q_move) ?_
      refine AOps.gcons rfl rfl rfl rfl rfl (q_move) ?_
      refine AOps.gcons rfl rfl rfl rfl rfl (q_fa) ?_
      refine AOps.gcons rfl rfl rfl rfl rfl (q_load) ?_
      refine AOps.gbool rfl rfl rfl rfl rfl (q_call (0) (hc := (c_ciceroneref01_Same (cutZ z (z.rs.getD i default).nm) (z.rs.getD i default).nm (by omega) (by omega)))) (fun h8_11 => ?_) (fun h8_11 => ?_)
      ·
       refine AOps.gcons rfl rfl rfl rfl rfl (q_pick) ?_
       refine aC_ rfl rfl (q_pick) ?_
       refine AOps.nil ?_
       refine AWp.cond_t rfl ?_
       refine AWp.seq ?_
       refine AWp.region ?_
       refine aC_ rfl rfl (q_assign) ?_
       refine AOps.nil ?_
       refine AWp.ret ?_
       show Fin te Try.f54 _ _
       refine q_ret (0) [_] [_] ?_
       exact congrArg tf (by rw [theZ, hh, any_yes (i := i) (by omega) (by rw [thP, h8_3, hidZ, h8_11, Bool.not_true, Bool.and_false]; rfl)]; rfl)
      ·
       refine AOps.gcons rfl rfl rfl rfl rfl (q_pick) ?_
       refine aC_ rfl rfl (q_pick) ?_
       refine AOps.nil ?_
       refine AWp.cond_f rfl ?_
       refine AWp.skip ?_
       refine AWp.region ?_
       refine aC_ rfl rfl (q_add) ?_
       refine aC_ rfl rfl (q_move) ?_
       refine AOps.nil ?_
       refine ⟨i + 1, ?_, Back.mk' (HasT.cons HasT.nil) HasH.nil, ?_⟩
       ·
        exact ⟨by omega, any_no (by omega) ha (by rw [thP, hidZ, decide_eq_true h8_6, h8_11, Bool.not_false, Bool.and_true, Bool.not_true, Bool.and_false])⟩
       ·
        first | omega | (simp; omega)
    ·
     refine aC_ rfl rfl (q_move) ?_
     refine aG_ rfl rfl rfl rfl rfl rfl rfl rfl ?_
     refine aG_ rfl rfl rfl rfl rfl rfl rfl rfl ?_
     refine aG_ rfl rfl rfl rfl rfl rfl rfl rfl ?_
     refine AOps.gskipu rfl rfl rfl rfl rfl rfl rfl ?_
     refine AOps.gskipu rfl rfl rfl rfl rfl rfl rfl ?_
     refine AOps.gskipu rfl rfl rfl rfl rfl rfl rfl ?_
     refine AOps.gskipu rfl rfl rfl rfl rfl rfl rfl ?_
     refine aG_ rfl rfl rfl rfl rfl rfl rfl rfl ?_
     refine aC_ rfl rfl (q_pick) ?_
     refine AOps.nil ?_
     refine AWp.cond_f rfl ?_
     refine AWp.skip ?_
     refine AWp.region ?_
     refine aC_ rfl rfl (q_add) ?_
     refine aC_ rfl rfl (q_move) ?_
     refine AOps.nil ?_
     refine ⟨i + 1, ?_, Back.mk' (HasT.cons HasT.nil) HasH.nil, ?_⟩
     ·
      exact ⟨by omega, any_no (by omega) ha (by rw [thP, h8_3, Bool.false_and])⟩
     ·
      first | omega | (simp; omega)
   ·
    refine AOps.nil ?_
    refine AWp.seq ?_
    refine AWp.cond_f rfl ?_
    refine AWp.exit ?_
    refine AWp.seq ?_
    refine AWp.region ?_
    refine aC_ rfl rfl (q_assign) ?_
    refine AOps.nil ?_
    refine AWp.ret ?_
    show Fin te Try.f54 _ _
    refine q_ret (0) [_] [_] ?_
    obtain rfl : i = z.rs.length := by omega
    rw [List.take_length] at ha
    exact congrArg tf (by rw [theZ, ha, Bool.and_false])
set_option maxRecDepth 20000 in
set_option maxHeartbeats 2000000 in
theorem c_ciceroneref18_nearest (t : Tr) (w : List Int) (lw : Nat) (n : List UInt8) (ht : TrOk t) (hw : w.length ≤ 140737488351232) (hin : ∀ i ∈ w, 0 ≤ i ∧ i < t.zs.length) (hn : n.length ≤ 140737488351232) : AC Try.prog 50 [.agg (trC t), .fz lw w.length (cl ic w), str n] emp (Ret (i64 (homeT t w n))) := by
 have hb1 := ht.1
 refine AC.intro te_ok (fn := Try.f50) ⟨Try.func50, rfl, rfl⟩ (Nat.le_of_ble_eq_true rfl) ?_
 refine AWp.seq ?_
 refine AWp.region ?_
 refine aC_ rfl rfl (q_box 100) ?_
 refine aC_ rfl rfl (q_assign) ?_
 refine AOps.nil ?_
 refine AWp.seq ?_
 refine AWp.region ?_
 refine aC_ rfl rfl (q_assign) ?_
 refine AOps.nil ?_
 refine AWp.seq ?_
 refine AWp.seq ?_
 refine AWp.region ?_
 refine aC_ rfl rfl (q_move) ?_
 refine aC_ rfl rfl (q_len) ?_
 refine aC_ rfl rfl (q_move) ?_
 refine AOps.nil ?_
 refine AWp.block ?_
 refine AWp.loopR (α := Nat × Int) [7, 9, 12, 13, 14, 15, 16, 17, 18, 19, 20, 21, 22, 23, 24, 25, 26, 27, 28, 29, 30, 31, 32, 33, 34, 35, 36, 37, 38, 39, 40, 41, 42, 43, 44, 45, 46] (fun x_ => [(12, i64 (x_.1)), (7, i64 (x_.2))]) (fun x_ => []) (fun x_ => (x_.1) ≤ w.length ∧ (w.take (x_.1)).foldl (nearS t fun z => withN n z.o) (-1) = (x_.2) ∧ -1 ≤ (x_.2) ∧ (x_.2) < t.zs.length) (fun x_ => w.length - (x_.1)) (0, -1) ?_ (Back.mk' (HasT.cons (HasT.cons HasT.nil)) HasH.nil) ?_
 ·
  exact ⟨Nat.zero_le _, rfl, by omega, by omega⟩
 ·
  rintro ⟨i, b⟩ hI3
  change i ≤ w.length ∧ (w.take i).foldl (nearS t fun z => withN n z.o) (-1) = b ∧ -1 ≤ b ∧ b < t.zs.length at hI3
  obtain ⟨hi, hb, hb1, hb2⟩ := hI3
  refine AWp.as (s' := AS.over _ [7, 9, 12, 13, 14, 15, 16, 17, 18, 19, 20, 21, 22, 23, 24, 25, 26, 27, 28, 29, 30, 31, 32, 33, 34, 35, 36, 37, 38, 39, 40, 41, 42, 43, 44, 45, 46] [(12, i64 i), (7, i64 b)] []) rfl ?_
  refine AWp.seq ?_
  refine AWp.region ?_
  refine AOps.dec rfl rfl (q_lss) (fun h3_0 => ?_) (fun h3_0 => ?_)
  ·
   refine AOps.nil ?_
   refine AWp.seq ?_
   refine AWp.cond_t rfl ?_
   refine AWp.skip ?_
   refine AWp.seq ?_
   refine AWp.block ?_
   refine AWp.seq ?_
   refine AWp.region ?_
   refine aC_ rfl rfl (q_ix) ?_
   refine aC_ rfl rfl (q_load) ?_
   refine aC_ rfl rfl (q_assign) ?_
   refine AOps.nil ?_
   refine AWp.seq ?_
   have hj := hin _ (getD_mem' (l := w) (i := i) (by omega))
   have hj2 : 0 ≤ w[i]?.getD 0 ∧ w[i]?.getD 0 < t.zs.length := by have h := hj; rw [List.getD_eq_getElem?_getD] at h; exact h
   have hzo := zo_ok ht hj
   have hol := hzo.1
   rcases near4 (withN n (zAt t (w.getD i default)).o) (b < 0) (cntN (zAt t b).o < cntN (zAt t (w.getD i default)).o) with h1 | ⟨h1, h2⟩ | ⟨h1, h2, h3⟩ | ⟨h1, h2, h3⟩
   rotate_right 2
   ·
    have hbo := (zo_ok ht (i := b) ⟨by omega, hb2⟩).1
    refine AWp.draws [⟨0, [2], [], some 16, _, none⟩,
 ⟨1, [3], [100], some 17, _, none⟩,
 ⟨2, [17], [100], some 18, _, none⟩,
 ⟨3, [9], [], some 19, _, none⟩,
 ⟨4, [18, 19], [], some 20, _, none⟩,
 ⟨5, [20], [], some 21, _, none⟩,
 ⟨6, [21], [], some 22, _, none⟩,
 ⟨7, [16, 22], [], some 23, _, none⟩,
 ⟨8, [23], [], some 24, _, none⟩,
 ⟨9, [7, 24], [], some 25, _, none⟩,
 ⟨10, [24, 25], [], some 26, _, none⟩,
 ⟨11, [24, 26], [], some 27, _, none⟩,
 ⟨12, [3, 27], [100], some 28, _, none⟩,
 ⟨13, [27, 28], [100], some 29, _, none⟩,
 ⟨14, [9, 27], [], some 30, _, none⟩,
 ⟨15, [27, 29, 30], [], some 31, _, none⟩,
 ⟨16, [27, 31], [], some 32, _, none⟩,
 ⟨17, [27, 32], [], some 33, _, none⟩,
 ⟨18, [27, 33], [], some 34, _, none⟩,
 ⟨19, [3, 27], [100], some 35, _, none⟩,
 ⟨20, [27, 35], [100], some 36, _, none⟩,
 ⟨21, [7, 27], [], some 37, _, none⟩,
 ⟨22, [27, 36, 37], [], some 38, _, none⟩,
 ⟨23, [27, 38], [], some 39, _, none⟩,
 ⟨24, [27, 39], [], some 40, _, none⟩,
 ⟨25, [27, 40], [], some 41, _, none⟩,
 ⟨26, [27, 34, 41], [], some 42, _, none⟩,
 ⟨27, [24, 27, 42], [], some 43, _, none⟩,
 ⟨28, [24, 43], [], some 44, _, none⟩]
     [kN_ 0 [2] [] 16,
 kN_ 1 [3] [100] 17,
 kN_ 2 [17] [100] 18,
 kN_ 3 [9] [] 19,
 kN_ 4 [18, 19] [] 20,
 kN_ 5 [20] [] 21,
 kN_ 6 [21] [] 22,
 kN_ 7 [16, 22] [] 23,
 kN_ 8 [23] [] 24,
 kN_ 9 [7, 24] [] 25,
 kN_ 10 [24, 25] [] 26,
 kN_ 11 [24, 26] [] 27,
 kN_ 12 [3, 27] [100] 28,
 kN_ 13 [27, 28] [100] 29,
 kN_ 14 [9, 27] [] 30,
 kN_ 15 [27, 29, 30] [] 31,
 kN_ 16 [27, 31] [] 32,
 kN_ 17 [27, 32] [] 33,
 kN_ 18 [27, 33] [] 34,
 kN_ 19 [3, 27] [100] 35,
 kN_ 20 [27, 35] [100] 36,
 kN_ 21 [7, 27] [] 37,
 kN_ 22 [27, 36, 37] [] 38,
 kN_ 23 [27, 38] [] 39,
 kN_ 24 [27, 39] [] 40,
 kN_ 25 [27, 40] [] 41,
 kN_ 26 [27, 34, 41] [] 42,
 kN_ 27 [24, 27, 42] [] 43,
 kN_ 28 [24, 43] [] 44]
     mixed_ok rfl (by kernel_rfl) ⟨dK_ fun s0 => oG_ rfl rfl (q_move),
 dK_ fun s0 => oG_ rfl rfl (q_fa),
 dK_ fun s0 => oG_ rfl rfl (q_load),
 dK_ fun s0 => oG_ rfl rfl (q_move),
 dK_ fun s0 => oG_ rfl rfl (q_ix),
 dK_ fun s0 => oG_ rfl rfl (q_fa),
 dK_ fun s0 => oG_ rfl rfl (q_load),
 dK_ fun s0 => oG_ rfl rfl ((OpOk.bool_is (c := true) (q_call (lw) (hc := (c_ciceroneref01_Within n (zAt t (w.getD i default)).o (by omega) (by omega)))) (h1))),
 dK_ fun s0 => oG_ rfl rfl (q_move),
 dK_ fun s0 => oO_ rfl rfl rfl rfl rfl (q_move),
 dK_ fun s0 => oO_ rfl rfl rfl rfl rfl ((OpOk.dec_f (q_lss) (h2))),
 dK_ fun s0 => oO_ rfl rfl rfl rfl rfl (q_move),
 dK_ fun s0 => oO_ rfl rfl rfl rfl rfl (q_fa),
 dK_ fun s0 => oO_ rfl rfl rfl rfl rfl (q_load),
 dK_ fun s0 => oO_ rfl rfl rfl rfl rfl (q_move),
 dK_ fun s0 => oO_ rfl rfl rfl rfl rfl (q_ix),
 dK_ fun s0 => oO_ rfl rfl rfl rfl rfl (q_fa),
 dK_ fun s0 => oO_ rfl rfl rfl rfl rfl (q_load),
 dK_ fun s0 => oO_ rfl rfl rfl rfl rfl (q_call (lw) (hc := (c_ciceroneref01_Count (zAt t (w.getD i default)).o (by omega)))),
 dK_ fun s0 => oO_ rfl rfl rfl rfl rfl (q_fa),
 dK_ fun s0 => oO_ rfl rfl rfl rfl rfl (q_load),
 dK_ fun s0 => oO_ rfl rfl rfl rfl rfl (q_move),
 dK_ fun s0 => oO_ rfl rfl rfl rfl rfl (q_ix),
 dK_ fun s0 => oO_ rfl rfl rfl rfl rfl (q_fa),
 dK_ fun s0 => oO_ rfl rfl rfl rfl rfl (q_load),
 dK_ fun s0 => oO_ rfl rfl rfl rfl rfl (q_call (lw) (hc := (c_ciceroneref01_Count (zAt t b).o (by omega)))),
 dK_ fun s0 => oO_ rfl rfl rfl rfl rfl ((OpOk.dec_t (q_gtr) (h3))),
 dK_ fun s0 => oO_ rfl rfl rfl rfl rfl (q_pick),
 dK_ fun s0 => oG_ rfl rfl (q_pick), trivial⟩ ?_
    dsimp only [final, DS.upd, AS.seto]
    refine AWp.cond_t rfl ?_
    refine AWp.region ?_
    refine aC_ rfl rfl (q_move) ?_
    refine aC_ rfl rfl (q_assign) ?_
    refine AOps.nil ?_
    refine AWp.region ?_
    refine aC_ rfl rfl (q_add) ?_
    refine aC_ rfl rfl (q_move) ?_
    refine AOps.nil ?_
    refine ⟨(i + 1, w.getD i default), ?_, Back.mk' (HasT.cons (HasT.cons HasT.nil)) HasH.nil, ?_⟩
    ·
     try dsimp only
     exact ⟨by omega, by rw [foldl_step (by omega), hb]; exact nearS_take (p := fun z => withN n z.o) h1 (by rw [mostT_at (by omega)]; exact h3), by omega, by omega⟩
    ·
     try dsimp only
     first | omega | (simp; omega)
   ·
    have hbo := (zo_ok ht (i := b) ⟨by omega, hb2⟩).1
    refine AWp.draws [⟨0, [2], [], some 16, _, none⟩,
 ⟨1, [3], [100], some 17, _, none⟩,
 ⟨2, [17], [100], some 18, _, none⟩,
 ⟨3, [9], [], some 19, _, none⟩,
 ⟨4, [18, 19], [], some 20, _, none⟩,
 ⟨5, [20], [], some 21, _, none⟩,
 ⟨6, [21], [], some 22, _, none⟩,
 ⟨7, [16, 22], [], some 23, _, none⟩,
 ⟨8, [23], [], some 24, _, none⟩,
 ⟨9, [7, 24], [], some 25, _, none⟩,
 ⟨10, [24, 25], [], some 26, _, none⟩,
 ⟨11, [24, 26], [], some 27, _, none⟩,
 ⟨12, [3, 27], [100], some 28, _, none⟩,
 ⟨13, [27, 28], [100], some 29, _, none⟩,
 ⟨14, [9, 27], [], some 30, _, none⟩,
 ⟨15, [27, 29, 30], [], some 31, _, none⟩,
 ⟨16, [27, 31], [], some 32, _, none⟩,
 ⟨17, [27, 32], [], some 33, _, none⟩,
 ⟨18, [27, 33], [], some 34, _, none⟩,
 ⟨19, [3, 27], [100], some 35, _, none⟩,
 ⟨20, [27, 35], [100], some 36, _, none⟩,
 ⟨21, [7, 27], [], some 37, _, none⟩,
 ⟨22, [27, 36, 37], [], some 38, _, none⟩,
 ⟨23, [27, 38], [], some 39, _, none⟩,
 ⟨24, [27, 39], [], some 40, _, none⟩,
 ⟨25, [27, 40], [], some 41, _, none⟩,
 ⟨26, [27, 34, 41], [], some 42, _, none⟩,
 ⟨27, [24, 27, 42], [], some 43, _, none⟩,
 ⟨28, [24, 43], [], some 44, _, none⟩]
     [kN_ 0 [2] [] 16,
 kN_ 1 [3] [100] 17,
 kN_ 2 [17] [100] 18,
 kN_ 3 [9] [] 19,
 kN_ 4 [18, 19] [] 20,
 kN_ 5 [20] [] 21,
 kN_ 6 [21] [] 22,
 kN_ 7 [16, 22] [] 23,
 kN_ 8 [23] [] 24,
 kN_ 9 [7, 24] [] 25,
 kN_ 10 [24, 25] [] 26,
 kN_ 11 [24, 26] [] 27,
 kN_ 12 [3, 27] [100] 28,
 kN_ 13 [27, 28] [100] 29,
 kN_ 14 [9, 27] [] 30,
 kN_ 15 [27, 29, 30] [] 31,
 kN_ 16 [27, 31] [] 32,
 kN_ 17 [27, 32] [] 33,
 kN_ 18 [27, 33] [] 34,
 kN_ 19 [3, 27] [100] 35,
 kN_ 20 [27, 35] [100] 36,
 kN_ 21 [7, 27] [] 37,
 kN_ 22 [27, 36, 37] [] 38,
 kN_ 23 [27, 38] [] 39,
 kN_ 24 [27, 39] [] 40,
 kN_ 25 [27, 40] [] 41,
 kN_ 26 [27, 34, 41] [] 42,
 kN_ 27 [24, 27, 42] [] 43,
 kN_ 28 [24, 43] [] 44]
     mixed_ok rfl (by kernel_rfl) ⟨dK_ fun s0 => oG_ rfl rfl (q_move),
 dK_ fun s0 => oG_ rfl rfl (q_fa),
 dK_ fun s0 => oG_ rfl rfl (q_load),
 dK_ fun s0 => oG_ rfl rfl (q_move),
 dK_ fun s0 => oG_ rfl rfl (q_ix),
 dK_ fun s0 => oG_ rfl rfl (q_fa),
 dK_ fun s0 => oG_ rfl rfl (q_load),
 dK_ fun s0 => oG_ rfl rfl ((OpOk.bool_is (c := true) (q_call (lw) (hc := (c_ciceroneref01_Within n (zAt t (w.getD i default)).o (by omega) (by omega)))) (h1))),
 dK_ fun s0 => oG_ rfl rfl (q_move),
 dK_ fun s0 => oO_ rfl rfl rfl rfl rfl (q_move),
 dK_ fun s0 => oO_ rfl rfl rfl rfl rfl ((OpOk.dec_f (q_lss) (h2))),
 dK_ fun s0 => oO_ rfl rfl rfl rfl rfl (q_move),
 dK_ fun s0 => oO_ rfl rfl rfl rfl rfl (q_fa),
 dK_ fun s0 => oO_ rfl rfl rfl rfl rfl (q_load),
 dK_ fun s0 => oO_ rfl rfl rfl rfl rfl (q_move),
 dK_ fun s0 => oO_ rfl rfl rfl rfl rfl (q_ix),
 dK_ fun s0 => oO_ rfl rfl rfl rfl rfl (q_fa),
 dK_ fun s0 => oO_ rfl rfl rfl rfl rfl (q_load),
 dK_ fun s0 => oO_ rfl rfl rfl rfl rfl (q_call (lw) (hc := (c_ciceroneref01_Count (zAt t (w.getD i default)).o (by omega)))),
 dK_ fun s0 => oO_ rfl rfl rfl rfl rfl (q_fa),
 dK_ fun s0 => oO_ rfl rfl rfl rfl rfl (q_load),
 dK_ fun s0 => oO_ rfl rfl rfl rfl rfl (q_move),
 dK_ fun s0 => oO_ rfl rfl rfl rfl rfl (q_ix),
 dK_ fun s0 => oO_ rfl rfl rfl rfl rfl (q_fa),
 dK_ fun s0 => oO_ rfl rfl rfl rfl rfl (q_load),
 dK_ fun s0 => oO_ rfl rfl rfl rfl rfl (q_call (lw) (hc := (c_ciceroneref01_Count (zAt t b).o (by omega)))),
 dK_ fun s0 => oO_ rfl rfl rfl rfl rfl ((OpOk.dec_f (q_gtr) (h3))),
 dK_ fun s0 => oO_ rfl rfl rfl rfl rfl (q_pick),
 dK_ fun s0 => oG_ rfl rfl (q_pick), trivial⟩ ?_
    dsimp only [final, DS.upd, AS.seto]
    refine AWp.cond_f rfl ?_
    refine AWp.skip ?_
    refine AWp.region ?_
    refine aC_ rfl rfl (q_add) ?_
    refine aC_ rfl rfl (q_move) ?_
    refine AOps.nil ?_
    refine ⟨(i + 1, b), ?_, Back.mk' (HasT.cons (HasT.cons HasT.nil)) HasH.nil, ?_⟩
    ·
     try dsimp only
     exact ⟨by omega, by rw [foldl_step (by omega), hb]; exact nearS_keep (by rw [mostT_at (by omega)]; exact h3), hb1, hb2⟩
    ·
     try dsimp only
     first | omega | (simp; omega)
   ·
    refine AWp.draws [⟨0, [2], [], some 16, _, none⟩,
 ⟨1, [3], [100], some 17, _, none⟩,
 ⟨2, [17], [100], some 18, _, none⟩,
 ⟨3, [9], [], some 19, _, none⟩,
 ⟨4, [18, 19], [], some 20, _, none⟩,
 ⟨5, [20], [], some 21, _, none⟩,
 ⟨6, [21], [], some 22, _, none⟩,
 ⟨7, [16, 22], [], some 23, _, none⟩,
 ⟨8, [23], [], some 24, _, none⟩,
 ⟨9, [24], [], some 25, .v undef, none⟩,
 ⟨10, [24], [], some 26, .v undef, none⟩,
 ⟨11, [24], [], some 27, .v undef, none⟩,
 ⟨12, [27], [], some 28, .v undef, none⟩,
 ⟨13, [27], [], some 29, .v undef, none⟩,
 ⟨14, [27], [], some 30, .v undef, none⟩,
 ⟨15, [27], [], some 31, .v undef, none⟩,
 ⟨16, [27], [], some 32, .v undef, none⟩,
 ⟨17, [27], [], some 33, .v undef, none⟩,
 ⟨18, [27], [], some 34, .v undef, none⟩,
 ⟨19, [27], [], some 35, .v undef, none⟩,
 ⟨20, [27], [], some 36, .v undef, none⟩,
 ⟨21, [27], [], some 37, .v undef, none⟩,
 ⟨22, [27], [], some 38, .v undef, none⟩,
 ⟨23, [27], [], some 39, .v undef, none⟩,
 ⟨24, [27], [], some 40, .v undef, none⟩,
 ⟨25, [27], [], some 41, .v undef, none⟩,
 ⟨26, [27], [], some 42, .v undef, none⟩,
 ⟨27, [24], [], some 43, .v undef, none⟩,
 ⟨28, [24, 43], [], some 44, _, none⟩]
     [kN_ 0 [2] [] 16,
 kN_ 1 [3] [100] 17,
 kN_ 2 [17] [100] 18,
 kN_ 3 [9] [] 19,
 kN_ 4 [18, 19] [] 20,
 kN_ 5 [20] [] 21,
 kN_ 6 [21] [] 22,
 kN_ 7 [16, 22] [] 23,
 kN_ 8 [23] [] 24,
 kN_ 9 [24] [] 25,
 kN_ 10 [24] [] 26,
 kN_ 11 [24] [] 27,
 kN_ 12 [27] [] 28,
 kN_ 13 [27] [] 29,
 kN_ 14 [27] [] 30,
 kN_ 15 [27] [] 31,
 kN_ 16 [27] [] 32,
 kN_ 17 [27] [] 33,
 kN_ 18 [27] [] 34,
 kN_ 19 [27] [] 35,
 kN_ 20 [27] [] 36,
 kN_ 21 [27] [] 37,
 kN_ 22 [27] [] 38,
 kN_ 23 [27] [] 39,
 kN_ 24 [27] [] 40,
 kN_ 25 [27] [] 41,
 kN_ 26 [27] [] 42,
 kN_ 27 [24] [] 43,
 kN_ 28 [24, 43] [] 44]
     mixed_ok rfl (by kernel_rfl) ⟨dK_ fun s0 => oG_ rfl rfl (q_move),
 dK_ fun s0 => oG_ rfl rfl (q_fa),
 dK_ fun s0 => oG_ rfl rfl (q_load),
 dK_ fun s0 => oG_ rfl rfl (q_move),
 dK_ fun s0 => oG_ rfl rfl (q_ix),
 dK_ fun s0 => oG_ rfl rfl (q_fa),
 dK_ fun s0 => oG_ rfl rfl (q_load),
 dK_ fun s0 => oG_ rfl rfl ((OpOk.bool_is (c := false) (q_call (lw) (hc := (c_ciceroneref01_Within n (zAt t (w.getD i default)).o (by omega) (by omega)))) (h1))),
 dK_ fun s0 => oG_ rfl rfl (q_move),
 dK_ fun s0 => oS_ rfl rfl rfl rfl rfl rfl rfl rfl,
 dK_ fun s0 => oS_ rfl rfl rfl rfl rfl rfl rfl rfl,
 dK_ fun s0 => oS_ rfl rfl rfl rfl rfl rfl rfl rfl,
 DS.ok_over fun s0 => OpAt.gskipu rfl rfl rfl rfl rfl rfl rfl,
 DS.ok_over fun s0 => OpAt.gskipu rfl rfl rfl rfl rfl rfl rfl,
 DS.ok_over fun s0 => OpAt.gskipu rfl rfl rfl rfl rfl rfl rfl,
 DS.ok_over fun s0 => OpAt.gskipu rfl rfl rfl rfl rfl rfl rfl,
 DS.ok_over fun s0 => OpAt.gskipu rfl rfl rfl rfl rfl rfl rfl,
 DS.ok_over fun s0 => OpAt.gskipu rfl rfl rfl rfl rfl rfl rfl,
 DS.ok_over fun s0 => OpAt.gskipu rfl rfl rfl rfl rfl rfl rfl,
 DS.ok_over fun s0 => OpAt.gskipu rfl rfl rfl rfl rfl rfl rfl,
 DS.ok_over fun s0 => OpAt.gskipu rfl rfl rfl rfl rfl rfl rfl,
 DS.ok_over fun s0 => OpAt.gskipu rfl rfl rfl rfl rfl rfl rfl,
 DS.ok_over fun s0 => OpAt.gskipu rfl rfl rfl rfl rfl rfl rfl,
 DS.ok_over fun s0 => OpAt.gskipu rfl rfl rfl rfl rfl rfl rfl,
 DS.ok_over fun s0 => OpAt.gskipu rfl rfl rfl rfl rfl rfl rfl,
 DS.ok_over fun s0 => OpAt.gskipu rfl rfl rfl rfl rfl rfl rfl,
 DS.ok_over fun s0 => OpAt.gskipu rfl rfl rfl rfl rfl rfl rfl,
 dK_ fun s0 => oS_ rfl rfl rfl rfl rfl rfl rfl rfl,
 dK_ fun s0 => oG_ rfl rfl (q_pick), trivial⟩ ?_
    dsimp only [final, DS.upd, AS.seto]
    refine AWp.cond_f rfl ?_
    refine AWp.skip ?_
    refine AWp.region ?_
    refine aC_ rfl rfl (q_add) ?_
    refine aC_ rfl rfl (q_move) ?_
    refine AOps.nil ?_
    refine ⟨(i + 1, b), ?_, Back.mk' (HasT.cons (HasT.cons HasT.nil)) HasH.nil, ?_⟩
    ·
     try dsimp only
     exact ⟨by omega, by rw [foldl_step (by omega), hb]; exact nearS_no (p := fun z => withN n z.o) h1, hb1, hb2⟩
    ·
     try dsimp only
     first | omega | (simp; omega)
   ·
    refine AWp.draws [⟨0, [2], [], some 16, _, none⟩,
 ⟨1, [3], [100], some 17, _, none⟩,
 ⟨2, [17], [100], some 18, _, none⟩,
 ⟨3, [9], [], some 19, _, none⟩,
 ⟨4, [18, 19], [], some 20, _, none⟩,
 ⟨5, [20], [], some 21, _, none⟩,
 ⟨6, [21], [], some 22, _, none⟩,
 ⟨7, [16, 22], [], some 23, _, none⟩,
 ⟨8, [23], [], some 24, _, none⟩,
 ⟨9, [7, 24], [], some 25, _, none⟩,
 ⟨10, [24, 25], [], some 26, _, none⟩,
 ⟨11, [24, 26], [], some 27, _, none⟩,
 ⟨12, [27], [], some 28, .v undef, none⟩,
 ⟨13, [27], [], some 29, .v undef, none⟩,
 ⟨14, [27], [], some 30, .v undef, none⟩,
 ⟨15, [27], [], some 31, .v undef, none⟩,
 ⟨16, [27], [], some 32, .v undef, none⟩,
 ⟨17, [27], [], some 33, .v undef, none⟩,
 ⟨18, [27], [], some 34, .v undef, none⟩,
 ⟨19, [27], [], some 35, .v undef, none⟩,
 ⟨20, [27], [], some 36, .v undef, none⟩,
 ⟨21, [27], [], some 37, .v undef, none⟩,
 ⟨22, [27], [], some 38, .v undef, none⟩,
 ⟨23, [27], [], some 39, .v undef, none⟩,
 ⟨24, [27], [], some 40, .v undef, none⟩,
 ⟨25, [27], [], some 41, .v undef, none⟩,
 ⟨26, [27], [], some 42, .v undef, none⟩,
 ⟨27, [24, 27, 42], [], some 43, _, none⟩,
 ⟨28, [24, 43], [], some 44, _, none⟩]
     [kN_ 0 [2] [] 16,
 kN_ 1 [3] [100] 17,
 kN_ 2 [17] [100] 18,
 kN_ 3 [9] [] 19,
 kN_ 4 [18, 19] [] 20,
 kN_ 5 [20] [] 21,
 kN_ 6 [21] [] 22,
 kN_ 7 [16, 22] [] 23,
 kN_ 8 [23] [] 24,
 kN_ 9 [7, 24] [] 25,
 kN_ 10 [24, 25] [] 26,
 kN_ 11 [24, 26] [] 27,
 kN_ 12 [27] [] 28,
 kN_ 13 [27] [] 29,
 kN_ 14 [27] [] 30,
 kN_ 15 [27] [] 31,
 kN_ 16 [27] [] 32,
 kN_ 17 [27] [] 33,
 kN_ 18 [27] [] 34,
 kN_ 19 [27] [] 35,
 kN_ 20 [27] [] 36,
 kN_ 21 [27] [] 37,
 kN_ 22 [27] [] 38,
 kN_ 23 [27] [] 39,
 kN_ 24 [27] [] 40,
 kN_ 25 [27] [] 41,
 kN_ 26 [27] [] 42,
 kN_ 27 [24, 27, 42] [] 43,
 kN_ 28 [24, 43] [] 44]
     mixed_ok rfl (by kernel_rfl) ⟨dK_ fun s0 => oG_ rfl rfl (q_move),
 dK_ fun s0 => oG_ rfl rfl (q_fa),
 dK_ fun s0 => oG_ rfl rfl (q_load),
 dK_ fun s0 => oG_ rfl rfl (q_move),
 dK_ fun s0 => oG_ rfl rfl (q_ix),
 dK_ fun s0 => oG_ rfl rfl (q_fa),
 dK_ fun s0 => oG_ rfl rfl (q_load),
 dK_ fun s0 => oG_ rfl rfl ((OpOk.bool_is (c := true) (q_call (lw) (hc := (c_ciceroneref01_Within n (zAt t (w.getD i default)).o (by omega) (by omega)))) (h1))),
 dK_ fun s0 => oG_ rfl rfl (q_move),
 dK_ fun s0 => oO_ rfl rfl rfl rfl rfl (q_move),
 dK_ fun s0 => oO_ rfl rfl rfl rfl rfl ((OpOk.dec_t (q_lss) (h2))),
 dK_ fun s0 => oO_ rfl rfl rfl rfl rfl (q_move),
 dK_ fun s0 => oS_ rfl rfl rfl rfl rfl rfl rfl rfl,
 dK_ fun s0 => oS_ rfl rfl rfl rfl rfl rfl rfl rfl,
 dK_ fun s0 => oS_ rfl rfl rfl rfl rfl rfl rfl rfl,
 dK_ fun s0 => oS_ rfl rfl rfl rfl rfl rfl rfl rfl,
 dK_ fun s0 => oS_ rfl rfl rfl rfl rfl rfl rfl rfl,
 dK_ fun s0 => oS_ rfl rfl rfl rfl rfl rfl rfl rfl,
 dK_ fun s0 => oS_ rfl rfl rfl rfl rfl rfl rfl rfl,
 dK_ fun s0 => oS_ rfl rfl rfl rfl rfl rfl rfl rfl,
 dK_ fun s0 => oS_ rfl rfl rfl rfl rfl rfl rfl rfl,
 dK_ fun s0 => oS_ rfl rfl rfl rfl rfl rfl rfl rfl,
 dK_ fun s0 => oS_ rfl rfl rfl rfl rfl rfl rfl rfl,
 dK_ fun s0 => oS_ rfl rfl rfl rfl rfl rfl rfl rfl,
 dK_ fun s0 => oS_ rfl rfl rfl rfl rfl rfl rfl rfl,
 dK_ fun s0 => oS_ rfl rfl rfl rfl rfl rfl rfl rfl,
 dK_ fun s0 => oS_ rfl rfl rfl rfl rfl rfl rfl rfl,
 dK_ fun s0 => oO_ rfl rfl rfl rfl rfl (q_pick),
 dK_ fun s0 => oG_ rfl rfl (q_pick), trivial⟩ ?_
    dsimp only [final, DS.upd, AS.seto]
    refine AWp.cond_t rfl ?_
    refine AWp.region ?_
    refine aC_ rfl rfl (q_move) ?_
    refine aC_ rfl rfl (q_assign) ?_
    refine AOps.nil ?_
    refine AWp.region ?_
    refine aC_ rfl rfl (q_add) ?_
    refine aC_ rfl rfl (q_move) ?_
    refine AOps.nil ?_
    refine ⟨(i + 1, w.getD i default), ?_, Back.mk' (HasT.cons (HasT.cons HasT.nil)) HasH.nil, ?_⟩
    ·
     try dsimp only
     exact ⟨by omega, by rw [foldl_step (by omega), hb]; exact nearS_take (p := fun z => withN n z.o) h1 (mostT_neg h2 _), by omega, by omega⟩
    ·
     try dsimp only
     first | omega | (simp; omega)
  ·
   refine AOps.nil ?_
   refine AWp.seq ?_
   refine AWp.cond_f rfl ?_
   refine AWp.exit ?_
   refine AWp.seq ?_
   refine AWp.region ?_
   refine aC_ rfl rfl (q_move) ?_
   refine aC_ rfl rfl (q_assign) ?_
   refine AOps.nil ?_
   refine AWp.ret ?_
   show Fin te Try.f50 _ _
   obtain rfl : i = w.length := by omega
   rw [List.take_length] at hb
   obtain rfl : b = homeT t w n := hb.symm
   refine q_ret (0) [_] [_] ?_
   rfl
set_option maxRecDepth 20000 in
set_option maxHeartbeats 2000000 in
theorem c_revery (t : Tr) (ht : TrOk t) : AC Try.prog 51 [.agg (trC t)] emp (Ret (.fz 0 (everyT t).length (cl ic (everyT t)))) := by
 have hb1 := ht.1
 refine AC.intro te_ok (fn := Try.f51) ⟨Try.func51, rfl, rfl⟩ (Nat.le_of_ble_eq_true rfl) ?_
 refine AWp.seq ?_
 refine AWp.region ?_
 refine aC_ rfl rfl (q_box 100) ?_
 refine aC_ rfl rfl (q_assign) ?_
 refine AOps.nil ?_
 refine AWp.seq ?_
 refine AWp.region ?_
 refine aC_ rfl rfl (q_nilrow 200 1 ic) ?_
 refine AOps.nil ?_
 refine AWp.seq ?_
 refine AWp.seq ?_
 refine AWp.region ?_
 refine aC_ rfl rfl (q_fa) ?_
 refine aC_ rfl rfl (q_load) ?_
 refine aC_ rfl rfl (q_len) ?_
 refine aC_ rfl rfl (q_move) ?_
 refine AOps.nil ?_
 refine AWp.block ?_
 refine AWp.loopR (α := Nat × List Int × Nat) [3, 4, 8, 9, 10, 11, 12, 13, 14, 15] (fun x_ => [(8, i64 (x_.1)), (3, .sl 200 (x_.2.2) 0 (x_.2.1).length 1)]) (fun x_ => [(200, .row (cl ic (x_.2.1)) 1 (x_.2.2))]) (fun x_ => (x_.1) ≤ t.zs.length ∧ (x_.2.1) = everyN (x_.1)) (fun x_ => t.zs.length - (x_.1)) (0, [], 0) ?_ (Back.mk' (HasT.cons (HasT.cons HasT.nil)) (HasH.cons HasH.nil)) ?_
 ·
  exact ⟨Nat.zero_le _, rfl⟩
 ·
  rintro ⟨i, acc, v⟩ hI3
  change i ≤ t.zs.length ∧ acc = everyN i at hI3
  obtain ⟨hi, ha⟩ := hI3
  refine AWp.as (s' := AS.over _ [3, 4, 8, 9, 10, 11, 12, 13, 14, 15] [(8, i64 i), (3, .sl 200 v 0 acc.length 1)] [(200, .row (cl ic acc) 1 v)]) rfl ?_
  have hal : acc.length = i := by rw [ha, everyN_len]
  refine AWp.seq ?_
  refine AWp.region ?_
  refine AOps.dec rfl rfl (q_lss) (fun h3_0 => ?_) (fun h3_0 => ?_)
  ·
   refine AOps.nil ?_
   refine AWp.seq ?_
   refine AWp.cond_t rfl ?_
   refine AWp.skip ?_
   refine AWp.seq ?_
   refine AWp.block ?_
   refine AWp.seq ?_
   refine AWp.region ?_
   refine aC_ rfl rfl (q_move) ?_
   refine aC_ rfl rfl (q_assign) ?_
   refine AOps.nil ?_
   refine AWp.region ?_
   refine aC_ rfl rfl (q_move) ?_
   refine aC_ rfl rfl (q_move) ?_
   refine aC_ rfl rfl (q_bs 602 ic [_] [(_, _)]) ?_
   refine aC_ rfl rfl (q_app) ?_
   refine aC_ rfl rfl (q_assign) ?_
   refine AOps.nil ?_
   refine AWp.region ?_
   refine aC_ rfl rfl (q_add) ?_
   refine aC_ rfl rfl (q_move) ?_
   refine AOps.nil ?_
   refine ⟨(i + 1, acc ++ [(i : Int)], v + 1), ?_, Back.mk' (HasT.cons (HasT.cons HasT.nil)) (HasH.cons HasH.nil), ?_⟩
   ·
    try dsimp only
    exact ⟨by omega, by rw [everyN_step, ha]⟩
   ·
    try dsimp only
    first | omega | (simp; omega)
  ·
   refine AOps.nil ?_
   refine AWp.seq ?_
   refine AWp.cond_f rfl ?_
   refine AWp.exit ?_
   refine AWp.seq ?_
   refine AWp.region ?_
   refine aC_ rfl rfl (q_move) ?_
   refine aC_ rfl rfl (q_assign) ?_
   refine AOps.nil ?_
   refine AWp.ret ?_
   show Fin te Try.f51 _ _
   obtain rfl : i = t.zs.length := by omega
   obtain rfl : acc = everyT t := ha
   refine q_ret (0) [_] [_] ?_
   rfl
end Go.Proofs.Ytokccoloholgaaa.Fw


set_option linter.unusedVariables false
set_option linter.unusedSimpArgs false
namespace Go.Proofs.Ytokccoloholgaaa.Fw
open Go.RowKit
theorem kid4 (a b : Prop) [Decidable a] [Decidable b] (c : Bool) : (a ∧ b ∧ c = true) ∨ (a ∧ b ∧ c = false) ∨ (a ∧ ¬ b) ∨ ¬ a := by
  by_cases h1 : a
  · by_cases h2 : b
    · cases c
      · exact .inr (.inl ⟨h1, h2, rfl⟩)
      · exact .inl ⟨h1, h2, rfl⟩
    · exact .inr (.inr (.inl ⟨h1, h2⟩))
  · exact .inr (.inr (.inr h1))
set_option maxRecDepth 20000 in
set_option maxHeartbeats 2000000 in
theorem c_zone_joined_1 (t : Tr) (up : List Int) (k : Int) (z : Zo) (r : Rr) (lv lu : Nat) (ht : TrOk t) (hz : ZoOk z) (hr : r.nm.length ≤ 140737488351232) (hu : up.length = t.zs.length) (hl : lu ≤ lv) : AC Try.prog 84 [.agg (rrc r), .fp lv (zoC z), .fp lv (trC t), .fp lv [.fz lu up.length (cl ic up)], .fp lv [i64 k]] emp (Ret (tf (joinQ t up k z r))) := by
 have hb1 := ht.1
 have hol := hz.1
 refine AC.intro te_ok (fn := Try.f84) ⟨Try.func84, rfl, rfl⟩ (Nat.le_of_ble_eq_true rfl) ?_
 refine AWp.seq ?_
 refine AWp.region ?_
 refine aC_ rfl rfl (q_box 100) ?_
 refine aC_ rfl rfl (q_assign) ?_
 refine AOps.nil ?_
 refine AWp.seq ?_
 refine AWp.seq ?_
 refine AWp.region ?_
 refine aC_ rfl rfl (q_fa) ?_
 refine aC_ rfl rfl (q_load) ?_
 refine AOps.dec rfl rfl (q_neq) (fun h1_2 => ?_) (fun h1_2 => ?_)
 ·
  refine aC_ rfl rfl (q_move) ?_
  refine aG_ rfl rfl rfl rfl rfl rfl rfl rfl ?_
  refine aG_ rfl rfl rfl rfl rfl rfl rfl rfl ?_
  refine aG_ rfl rfl rfl rfl rfl rfl rfl rfl ?_
  refine aG_ rfl rfl rfl rfl rfl rfl rfl rfl ?_
  refine aG_ rfl rfl rfl rfl rfl rfl rfl rfl ?_
  refine aC_ rfl rfl (q_pick) ?_
  refine AOps.nil ?_
  refine AWp.cond_t rfl ?_
  refine AWp.seq ?_
  refine AWp.region ?_
  refine aC_ rfl rfl (q_assign) ?_
  refine AOps.nil ?_
  refine AWp.ret ?_
  show Fin te Try.f84 _ _
  refine q_ret (0) [_] [_] ?_
  exact congrArg tf (by simp [joinQ, *])
 ·
  refine aC_ rfl rfl (q_move) ?_
  refine AOps.gcons rfl rfl rfl rfl rfl (q_fa) ?_
  refine AOps.gcons rfl rfl rfl rfl rfl (q_load) ?_
  refine AOps.gcons rfl rfl rfl rfl rfl (q_fa) ?_
  refine AOps.gcons rfl rfl rfl rfl rfl (q_load) ?_
  refine AOps.gbool rfl rfl rfl rfl rfl (q_call (lv) (hc := (c_name_Same r.nm z.o (by omega) (by omega)))) (fun h1_8 => ?_) (fun h1_8 => ?_)
  ·
   refine aC_ rfl rfl (q_pick) ?_
   refine AOps.nil ?_
   refine AWp.cond_t rfl ?_
   refine AWp.seq ?_
   refine AWp.region ?_
   refine aC_ rfl rfl (q_assign) ?_
   refine AOps.nil ?_
   refine AWp.ret ?_
   show Fin te Try.f84 _ _
   refine q_ret (0) [_] [_] ?_
   exact congrArg tf (by simp [joinQ, *])
  ·
   refine aC_ rfl rfl (q_pick) ?_
   refine AOps.nil ?_
   refine AWp.cond_f rfl ?_
   refine AWp.skip ?_
   refine AWp.seq ?_
   refine AWp.seq ?_
   refine AWp.region ?_
   refine aC_ rfl rfl (q_fa) ?_
   refine aC_ rfl rfl (q_load) ?_
   refine aC_ rfl rfl (q_len) ?_
   refine aC_ rfl rfl (q_move) ?_
   refine AOps.nil ?_
   refine AWp.block ?_
   refine AWp.loopR (α := Nat) [6, 7, 8, 22, 23, 24, 25, 26, 27, 28, 29, 30, 31, 32, 33, 34, 35, 36, 37, 38, 39, 40, 41, 42, 43, 44] (fun i => [(22, i64 i)]) (fun i => []) (fun i => i ≤ t.zs.length ∧ ∀ j, j < i → childB t up k r.nm j = false) (fun i => t.zs.length - i) 0 ?_ (Back.mk' (HasT.cons HasT.nil) HasH.nil) ?_
   ·
    exact ⟨Nat.zero_le _, fun j hj => absurd hj (Nat.not_lt_zero j)⟩
   ·
    rintro i ⟨hi, hc⟩
    refine AWp.seq ?_
    refine AWp.region ?_
    refine AOps.dec rfl rfl (q_lss) (fun h4_0 => ?_) (fun h4_0 => ?_)
    ·
     refine AOps.nil ?_
     refine AWp.seq ?_
     refine AWp.cond_t rfl ?_
     refine AWp.skip ?_
     refine AWp.seq ?_
     refine AWp.block ?_
     refine AWp.seq ?_
     refine AWp.region ?_
     refine aC_ rfl rfl (q_move) ?_
     refine aC_ rfl rfl (q_ix) ?_
     refine aC_ rfl rfl (q_load) ?_
     refine aC_ rfl rfl (q_alloc 603) ?_
     refine aC_ rfl rfl (q_assign) ?_
     refine aC_ rfl rfl (q_store) ?_
     refine AOps.nil ?_
     refine AWp.seq ?_
     have hzi := ht.2.1 _ (getD_mem' (l := t.zs) (i := i) (by omega))
     have hzl := hzi.1
     rcases kid4 (0 < (i : Int)) (up.getD i default = k) (sameN (t.zs.getD i default).o r.nm) with ⟨h1, h2, h3⟩ | ⟨h1, h2, h3⟩ | ⟨h1, h2⟩ | h1
     ·
      refine AWp.draws [⟨0, [7], [], some 27, _, none⟩,
 ⟨1, [27], [], some 28, _, none⟩,
 ⟨2, [28], [], some 29, _, none⟩,
 ⟨3, [3, 29], [], some 30, _, none⟩,
 ⟨4, [7, 29], [], some 31, _, none⟩,
 ⟨5, [29, 30, 31], [], some 32, _, none⟩,
 ⟨6, [29, 32], [], some 33, _, none⟩,
 ⟨7, [4, 29], [], some 34, _, none⟩,
 ⟨8, [29, 33, 34], [], some 35, _, none⟩,
 ⟨9, [29, 35], [], some 36, _, none⟩,
 ⟨10, [36], [], some 37, _, none⟩,
 ⟨11, [8, 37], [603], some 38, _, none⟩,
 ⟨12, [37, 38], [603], some 39, _, none⟩,
 ⟨13, [5, 37], [100], some 40, _, none⟩,
 ⟨14, [37, 40], [100], some 41, _, none⟩,
 ⟨15, [37, 39, 41], [], some 42, _, none⟩,
 ⟨16, [37, 42], [], some 43, _, none⟩]
       [kN_ 0 [7] [] 27,
 kN_ 1 [27] [] 28,
 kN_ 2 [28] [] 29,
 kN_ 3 [3, 29] [] 30,
 kN_ 4 [7, 29] [] 31,
 kN_ 5 [29, 30, 31] [] 32,
 kN_ 6 [29, 32] [] 33,
 kN_ 7 [4, 29] [] 34,
 kN_ 8 [29, 33, 34] [] 35,
 kN_ 9 [29, 35] [] 36,
 kN_ 10 [36] [] 37,
 kN_ 11 [8, 37] [603] 38,
 kN_ 12 [37, 38] [603] 39,
 kN_ 13 [5, 37] [100] 40,
 kN_ 14 [37, 40] [100] 41,
 kN_ 15 [37, 39, 41] [] 42,
 kN_ 16 [37, 42] [] 43]
       mixed_ok rfl (by kernel_rfl) ⟨dK_ fun s0 => oG_ rfl rfl (q_move),
 dK_ fun s0 => oG_ rfl rfl ((OpOk.dec_t (q_gtr) (h1))),
 dK_ fun s0 => oG_ rfl rfl (q_move),
 dK_ fun s0 => oO_ rfl rfl rfl rfl rfl (q_load),
 dK_ fun s0 => oO_ rfl rfl rfl rfl rfl (q_move),
 dK_ fun s0 => oO_ rfl rfl rfl rfl rfl (q_ix),
 dK_ fun s0 => oO_ rfl rfl rfl rfl rfl (q_load),
 dK_ fun s0 => oO_ rfl rfl rfl rfl rfl (q_load),
 dK_ fun s0 => oO_ rfl rfl rfl rfl rfl ((OpOk.dec_t (q_eql) (h2))),
 dK_ fun s0 => oG_ rfl rfl (q_pick),
 dK_ fun s0 => oG_ rfl rfl (q_move),
 dK_ fun s0 => oO_ rfl rfl rfl rfl rfl (q_fa),
 dK_ fun s0 => oO_ rfl rfl rfl rfl rfl (q_load),
 dK_ fun s0 => oO_ rfl rfl rfl rfl rfl (q_fa),
 dK_ fun s0 => oO_ rfl rfl rfl rfl rfl (q_load),
 dK_ fun s0 => oO_ rfl rfl rfl rfl rfl ((OpOk.bool_is (c := true) (q_call (lv) (hc := (c_name_Same (t.zs.getD i default).o r.nm (by omega) (by omega)))) (h3))),
 dK_ fun s0 => oG_ rfl rfl (q_pick), trivial⟩ ?_
      dsimp only [final, DS.upd, AS.seto]
      refine AWp.cond_t rfl ?_
      refine AWp.seq ?_
      refine AWp.region ?_
      refine aC_ rfl rfl (q_assign) ?_
      refine AOps.nil ?_
      refine AWp.ret ?_
      show Fin te Try.f84 _ _
      refine q_ret (0) [_] [_] ?_
      exact congrArg tf (by rw [joinQ, range_any_yes (j := i) (by omega) (show childB t up k r.nm i = true by rw [childB, decide_eq_true (by omega), decide_eq_true h2, h3]; rfl), Bool.not_true, Bool.and_false])
     ·
      refine AWp.draws [⟨0, [7], [], some 27, _, none⟩,
 ⟨1, [27], [], some 28, _, none⟩,
 ⟨2, [28], [], some 29, _, none⟩,
 ⟨3, [3, 29], [], some 30, _, none⟩,
 ⟨4, [7, 29], [], some 31, _, none⟩,
 ⟨5, [29, 30, 31], [], some 32, _, none⟩,
 ⟨6, [29, 32], [], some 33, _, none⟩,
 ⟨7, [4, 29], [], some 34, _, none⟩,
 ⟨8, [29, 33, 34], [], some 35, _, none⟩,
 ⟨9, [29, 35], [], some 36, _, none⟩,
 ⟨10, [36], [], some 37, _, none⟩,
 ⟨11, [8, 37], [603], some 38, _, none⟩,
 ⟨12, [37, 38], [603], some 39, _, none⟩,
 ⟨13, [5, 37], [100], some 40, _, none⟩,
 ⟨14, [37, 40], [100], some 41, _, none⟩,
 ⟨15, [37, 39, 41], [], some 42, _, none⟩,
 ⟨16, [37, 42], [], some 43, _, none⟩]
       [kN_ 0 [7] [] 27,
 kN_ 1 [27] [] 28,
 kN_ 2 [28] [] 29,
 kN_ 3 [3, 29] [] 30,
 kN_ 4 [7, 29] [] 31,
 kN_ 5 [29, 30, 31] [] 32,
 kN_ 6 [29, 32] [] 33,
 kN_ 7 [4, 29] [] 34,
 kN_ 8 [29, 33, 34] [] 35,
 kN_ 9 [29, 35] [] 36,
 kN_ 10 [36] [] 37,
 kN_ 11 [8, 37] [603] 38,
 kN_ 12 [37, 38] [603] 39,
 kN_ 13 [5, 37] [100] 40,
 kN_ 14 [37, 40] [100] 41,
 kN_ 15 [37, 39, 41] [] 42,
 kN_ 16 [37, 42] [] 43]
       mixed_ok rfl (by kernel_rfl) ⟨dK_ fun s0 => oG_ rfl rfl (q_move),
 dK_ fun s0 => oG_ rfl rfl ((OpOk.dec_t (q_gtr) (h1))),
 dK_ fun s0 => oG_ rfl rfl (q_move),
 dK_ fun s0 => oO_ rfl rfl rfl rfl rfl (q_load),
 dK_ fun s0 => oO_ rfl rfl rfl rfl rfl (q_move),
 dK_ fun s0 => oO_ rfl rfl rfl rfl rfl (q_ix),
 dK_ fun s0 => oO_ rfl rfl rfl rfl rfl (q_load),
 dK_ fun s0 => oO_ rfl rfl rfl rfl rfl (q_load),
 dK_ fun s0 => oO_ rfl rfl rfl rfl rfl ((OpOk.dec_t (q_eql) (h2))),
 dK_ fun s0 => oG_ rfl rfl (q_pick),
 dK_ fun s0 => oG_ rfl rfl (q_move),
 dK_ fun s0 => oO_ rfl rfl rfl rfl rfl (q_fa),
 dK_ fun s0 => oO_ rfl rfl rfl rfl rfl (q_load),
 dK_ fun s0 => oO_ rfl rfl rfl rfl rfl (q_fa),
 dK_ fun s0 => oO_ rfl rfl rfl rfl rfl (q_load),
 dK_ fun s0 => oO_ rfl rfl rfl rfl rfl ((OpOk.bool_is (c := false) (q_call (lv) (hc := (c_name_Same (t.zs.getD i default).o r.nm (by omega) (by omega)))) (h3))),
 dK_ fun s0 => oG_ rfl rfl (q_pick), trivial⟩ ?_
      dsimp only [final, DS.upd, AS.seto]
      refine AWp.cond_f rfl ?_
      refine AWp.skip ?_
      refine AWp.region ?_
      refine aC_ rfl rfl (q_add) ?_
      refine aC_ rfl rfl (q_move) ?_
      refine AOps.nil ?_
      refine ⟨i + 1, ?_, Back.mk' (HasT.cons HasT.nil) HasH.nil, ?_⟩
      ·
       exact ⟨by omega, lt_step hc (by rw [childB, h3, Bool.and_false])⟩
      ·
       first | omega | (simp; omega)
     ·
      refine AWp.draws [⟨0, [7], [], some 27, _, none⟩,
 ⟨1, [27], [], some 28, _, none⟩,
 ⟨2, [28], [], some 29, _, none⟩,
 ⟨3, [3, 29], [], some 30, _, none⟩,
 ⟨4, [7, 29], [], some 31, _, none⟩,
 ⟨5, [29, 30, 31], [], some 32, _, none⟩,
 ⟨6, [29, 32], [], some 33, _, none⟩,
 ⟨7, [4, 29], [], some 34, _, none⟩,
 ⟨8, [29, 33, 34], [], some 35, _, none⟩,
 ⟨9, [29, 35], [], some 36, _, none⟩,
 ⟨10, [36], [], some 37, _, none⟩,
 ⟨11, [37], [], some 38, .v undef, none⟩,
 ⟨12, [37], [], some 39, .v undef, none⟩,
 ⟨13, [37], [], some 40, .v undef, none⟩,
 ⟨14, [37], [], some 41, .v undef, none⟩,
 ⟨15, [37], [], some 42, .v undef, none⟩,
 ⟨16, [37, 42], [], some 43, _, none⟩]
       [kN_ 0 [7] [] 27,
 kN_ 1 [27] [] 28,
 kN_ 2 [28] [] 29,
 kN_ 3 [3, 29] [] 30,
 kN_ 4 [7, 29] [] 31,
 kN_ 5 [29, 30, 31] [] 32,
 kN_ 6 [29, 32] [] 33,
 kN_ 7 [4, 29] [] 34,
 kN_ 8 [29, 33, 34] [] 35,
 kN_ 9 [29, 35] [] 36,
 kN_ 10 [36] [] 37,
 kN_ 11 [37] [] 38,
 kN_ 12 [37] [] 39,
 kN_ 13 [37] [] 40,
 kN_ 14 [37] [] 41,
 kN_ 15 [37] [] 42,
 kN_ 16 [37, 42] [] 43]
       mixed_ok rfl (by kernel_rfl) ⟨dK_ fun s0 => oG_ rfl rfl (q_move),
 dK_ fun s0 => oG_ rfl rfl ((OpOk.dec_t (q_gtr) (h1))),
 dK_ fun s0 => oG_ rfl rfl (q_move),
 dK_ fun s0 => oO_ rfl rfl rfl rfl rfl (q_load),
 dK_ fun s0 => oO_ rfl rfl rfl rfl rfl (q_move),
 dK_ fun s0 => oO_ rfl rfl rfl rfl rfl (q_ix),
 dK_ fun s0 => oO_ rfl rfl rfl rfl rfl (q_load),
 dK_ fun s0 => oO_ rfl rfl rfl rfl rfl (q_load),
 dK_ fun s0 => oO_ rfl rfl rfl rfl rfl ((OpOk.dec_f (q_eql) (h2))),
 dK_ fun s0 => oG_ rfl rfl (q_pick),
 dK_ fun s0 => oG_ rfl rfl (q_move),
 dK_ fun s0 => oS_ rfl rfl rfl rfl rfl rfl rfl rfl,
 dK_ fun s0 => oS_ rfl rfl rfl rfl rfl rfl rfl rfl,
 dK_ fun s0 => oS_ rfl rfl rfl rfl rfl rfl rfl rfl,
 dK_ fun s0 => oS_ rfl rfl rfl rfl rfl rfl rfl rfl,
 dK_ fun s0 => oS_ rfl rfl rfl rfl rfl rfl rfl rfl,
 dK_ fun s0 => oG_ rfl rfl (q_pick), trivial⟩ ?_
      dsimp only [final, DS.upd, AS.seto]
      refine AWp.cond_f rfl ?_
      refine AWp.skip ?_
      refine AWp.region ?_
      refine aC_ rfl rfl (q_add) ?_
      refine aC_ rfl rfl (q_move) ?_
      refine AOps.nil ?_
      refine ⟨i + 1, ?_, Back.mk' (HasT.cons HasT.nil) HasH.nil, ?_⟩
      ·
       exact ⟨by omega, lt_step hc (by rw [childB, decide_eq_false h2, Bool.and_false, Bool.false_and])⟩
      ·
       first | omega | (simp; omega)
     ·
      refine AWp.draws [⟨0, [7], [], some 27, _, none⟩,
 ⟨1, [27], [], some 28, _, none⟩,
 ⟨2, [28], [], some 29, _, none⟩,
 ⟨3, [29], [], some 30, .v undef, none⟩,
 ⟨4, [29], [], some 31, .v undef, none⟩,
 ⟨5, [29], [], some 32, .v undef, none⟩,
 ⟨6, [29], [], some 33, .v undef, none⟩,
 ⟨7, [29], [], some 34, .v undef, none⟩,
 ⟨8, [29], [], some 35, .v undef, none⟩,
 ⟨9, [29, 35], [], some 36, _, none⟩,
 ⟨10, [36], [], some 37, _, none⟩,
 ⟨11, [37], [], some 38, .v undef, none⟩,
 ⟨12, [37], [], some 39, .v undef, none⟩,
 ⟨13, [37], [], some 40, .v undef, none⟩,
 ⟨14, [37], [], some 41, .v undef, none⟩,
 ⟨15, [37], [], some 42, .v undef, none⟩,
 ⟨16, [37, 42], [], some 43, _, none⟩]
       [kN_ 0 [7] [] 27,
 kN_ 1 [27] [] 28,
 kN_ 2 [28] [] 29,
 kN_ 3 [29] [] 30,
 kN_ 4 [29] [] 31,
 kN_ 5 [29] [] 32,
 kN_ 6 [29] [] 33,
 kN_ 7 [29] [] 34,
 kN_ 8 [29] [] 35,
 kN_ 9 [29, 35] [] 36,
 kN_ 10 [36] [] 37,
 kN_ 11 [37] [] 38,
 kN_ 12 [37] [] 39,
 kN_ 13 [37] [] 40,
 kN_ 14 [37] [] 41,
 kN_ 15 [37] [] 42,
 kN_ 16 [37, 42] [] 43]
       mixed_ok rfl (by kernel_rfl) ⟨dK_ fun s0 => oG_ rfl rfl (q_move),
 dK_ fun s0 => oG_ rfl rfl ((OpOk.dec_f (q_gtr) (h1))),
 dK_ fun s0 => oG_ rfl rfl (q_move),
 dK_ fun s0 => oS_ rfl rfl rfl rfl rfl rfl rfl rfl,
 dK_ fun s0 => oS_ rfl rfl rfl rfl rfl rfl rfl rfl,
 dK_ fun s0 => oS_ rfl rfl rfl rfl rfl rfl rfl rfl,
 dK_ fun s0 => oS_ rfl rfl rfl rfl rfl rfl rfl rfl,
 dK_ fun s0 => oS_ rfl rfl rfl rfl rfl rfl rfl rfl,
 dK_ fun s0 => oS_ rfl rfl rfl rfl rfl rfl rfl rfl,
 dK_ fun s0 => oG_ rfl rfl (q_pick),
 dK_ fun s0 => oG_ rfl rfl (q_move),
 dK_ fun s0 => oS_ rfl rfl rfl rfl rfl rfl rfl rfl,
 dK_ fun s0 => oS_ rfl rfl rfl rfl rfl rfl rfl rfl,
 dK_ fun s0 => oS_ rfl rfl rfl rfl rfl rfl rfl rfl,
 dK_ fun s0 => oS_ rfl rfl rfl rfl rfl rfl rfl rfl,
 dK_ fun s0 => oS_ rfl rfl rfl rfl rfl rfl rfl rfl,
 dK_ fun s0 => oG_ rfl rfl (q_pick), trivial⟩ ?_
      dsimp only [final, DS.upd, AS.seto]
      refine AWp.cond_f rfl ?_
      refine AWp.skip ?_
      refine AWp.region ?_
      refine aC_ rfl rfl (q_add) ?_
      refine aC_ rfl rfl (q_move) ?_
      refine AOps.nil ?_
      refine ⟨i + 1, ?_, Back.mk' (HasT.cons HasT.nil) HasH.nil, ?_⟩
      ·
       exact ⟨by omega, lt_step hc (by rw [childB, decide_eq_false (by omega), Bool.false_and, Bool.false_and])⟩
      ·
       first | omega | (simp; omega)
    ·
     refine AOps.nil ?_
     refine AWp.seq ?_
     refine AWp.cond_f rfl ?_
     refine AWp.exit ?_
     refine AWp.seq ?_
     refine AWp.region ?_
     refine aC_ rfl rfl (q_assign) ?_
     refine AOps.nil ?_
     refine AWp.ret ?_
     show Fin te Try.f84 _ _
     refine q_ret (0) [_] [_] ?_
     obtain rfl : i = t.zs.length := by omega
     exact congrArg tf (by rw [joinQ, range_any_no hc]; simp_all)
end Go.Proofs.Ytokccoloholgaaa.Fw


set_option linter.unusedVariables false
set_option linter.unusedSimpArgs false
namespace Go.Proofs.Ytokccoloholgaaa.Fw
open Go.RowKit
theorem sameN_nil (n : List UInt8) : sameN [] n = false := by
  unfold sameN
  have : canN [] = false := by
    cases h : canN [] with
    | false => rfl
    | true => exact absurd rfl (canN_ne h)
  rw [this]; rfl
theorem joinZ_no {t : Tr} {up : List Int} {k : Int} {j : Nat} (hj : j < t.zs.length) (h : kidO t up k j = false) : joinZ t up k = false := by rw [joinZ, range_all_no hj h, Bool.false_and]
theorem kidO_no {t : Tr} {up : List Int} {k : Int} {i : Nat} (h0 : ¬ (i : Int) = 0) (h1 : up.getD i default = k) (h : (sameN (cutZ (zAt t k) (t.zs.getD i default).o) (t.zs.getD i default).o && subR (atZ (zAt t k) (t.zs.getD i default).o 2) (atZ (t.zs.getD i default) (t.zs.getD i default).o 2) && subR (atZ (t.zs.getD i default) (t.zs.getD i default).o 2) (atZ (zAt t k) (t.zs.getD i default).o 2)) = false) : kidO t up k i = false := by
  rw [kidO, decide_eq_false (by omega), decide_eq_false (by simpa using h1), h]; rfl
theorem kidO_yes {t : Tr} {up : List Int} {k : Int} {i : Nat} (h1 : sameN (cutZ (zAt t k) (t.zs.getD i default).o) (t.zs.getD i default).o = true) (h2 : subR (atZ (zAt t k) (t.zs.getD i default).o 2) (atZ (t.zs.getD i default) (t.zs.getD i default).o 2) = true) (h3 : subR (atZ (t.zs.getD i default) (t.zs.getD i default).o 2) (atZ (zAt t k) (t.zs.getD i default).o 2) = true) : kidO t up k i = true := by
  rw [kidO, h1, h2, h3]; simp
theorem kid3 (a b : Prop) [Decidable a] [Decidable b] : a ∨ (¬ a ∧ ¬ b) ∨ (¬ a ∧ b) := by
  by_cases h1 : a
  · exact .inl h1
  · by_cases h2 : b
    · exact .inr (.inr ⟨h1, h2⟩)
    · exact .inr (.inl ⟨h1, h2⟩)
theorem srvT_no {t : Tr} {j : Nat} (hj : j < t.ss.length) (h : svO t j = false) : srvT t = false := by rw [srvT, range_all_no hj h, Bool.and_false]
theorem srvT_yes {t : Tr} (h : ∀ j, j < t.ss.length → svO t j = true) : srvT t = decide (t.ss.length ≤ 40) := by rw [srvT, range_all_iff.2 h, Bool.and_true]
def MetA (t : Tr) (i : Nat) (m : List (Int × Bool)) : Prop := ∀ a, (mget m a).getD false = decide (a ∈ (t.ss.take i).map Sv.ad)
theorem MetA.start (t : Tr) : MetA t 0 [] := fun a => by simp [mget]
theorem MetA.step {t : Tr} {i : Nat} {m : List (Int × Bool)} (h : MetA t i m) (hi : i < t.ss.length) : MetA t (i + 1) (mput m (t.ss.getD i default).ad true) := fun a => by
  rw [mget_put, map_step hi]
  obtain ⟨x, hx⟩ : ∃ x, x = (t.ss.getD i default).ad := ⟨_, rfl⟩
  rw [← hx]
  by_cases e : x = a
  · rw [if_pos e]; simp [e]
  · rw [if_neg e, h a]
    have e2 : ¬ a = x := fun k => e k.symm
    simp [e2]
theorem baseO_yes {z : Zo} {r : Rr} (a : withN r.nm z.o = true) (b : ¬ ¬ r.cs = 1) (c : ¬ r.ttl < 0) (d : ¬ 2147483647 < r.ttl) (e : ¬ r.ty < 1) (f : ¬ 65535 < r.ty) (g : canS r.ty r.da = true) : baseO z r = true := by
  rw [Decidable.not_not] at b
  rw [baseO, a, g, decide_eq_true b, decide_eq_true (by omega), decide_eq_true (by omega), decide_eq_true (by omega), decide_eq_true (by omega)]; rfl
theorem inZ_base {z : Zo} {r : Rr} (h : baseO z r = true) : inZ z r = (restO z r && (!decide (r.ty = 5) || decide (cntS z r.nm = 1))) := by rw [inZ, recO, h, Bool.true_and]
section
variable {t : Tr} {i : Nat} {m : List (Int × Bool)}
theorem svO_1 (h : (t.ss.getD i default).ad < 0) : svO t i = false := by rw [svO, decide_eq_false (by omega)]; rfl
theorem svO_2 (h : 4294967295 < (t.ss.getD i default).ad) : svO t i = false := by rw [svO, decide_eq_false (p := (t.ss.getD i default).ad ≤ 4294967295) (by omega), Bool.and_false]; rfl
theorem svO_3 (hm : MetA t i m) (h : (mget m (t.ss.getD i default).ad).getD false = true) : svO t i = false := by rw [svO, ← hm, h, Bool.not_true, Bool.and_false]; rfl
theorem svO_4 (h : (t.ss.getD i default).zs.any (badZ t) = true) : svO t i = false := by rw [svO, h, Bool.not_true, Bool.and_false]
theorem svO_yes (hm : MetA t i m) (h1 : ¬ (t.ss.getD i default).ad < 0) (h2 : ¬ 4294967295 < (t.ss.getD i default).ad) (h3 : (mget m (t.ss.getD i default).ad).getD false = false) (h4 : (t.ss.getD i default).zs.any (badZ t) = false) : svO t i = true := by
  rw [svO, ← hm, h3, h4, decide_eq_true (by omega), decide_eq_true (by omega)]; rfl
end
set_option maxRecDepth 20000 in
set_option maxHeartbeats 2000000 in
theorem c_zone_joined (t : Tr) (up : List Int) (k : Int) (lu : Nat) (ht : TrOk t) (hu : up.length = t.zs.length) (hk : 0 ≤ k ∧ k < t.zs.length) : AC Try.prog 38 [.agg (trC t), .fz lu up.length (cl ic up), i64 k] emp (Ret (tf (joinZ t up k))) := by
 have hb1 := ht.1
 have hzk := zo_ok ht hk
 have hkl := hzk.1
 have hkr : (zAt t k).rs.length * 64 ≤ 140737488351232 := hzk.2.1.1
 refine AC.intro te_ok (fn := Try.f38) ⟨Try.func38, rfl, rfl⟩ (Nat.le_of_ble_eq_true rfl) ?_
 refine AWp.seq ?_
 refine AWp.region ?_
 refine aC_ rfl rfl (q_box 100) ?_
 refine aC_ rfl rfl (q_box 101) ?_
 refine aC_ rfl rfl (q_box 102) ?_
 refine aC_ rfl rfl (q_assign) ?_
 refine AOps.nil ?_
 refine AWp.seq ?_
 refine AWp.region ?_
 refine aC_ rfl rfl (q_fa) ?_
 refine aC_ rfl rfl (q_load) ?_
 refine aC_ rfl rfl (q_load) ?_
 refine aC_ rfl rfl (q_ix) ?_
 refine aC_ rfl rfl (q_load) ?_
 refine aC_ rfl rfl (q_alloc 205) ?_
 refine aC_ rfl rfl (q_store) ?_
 refine AOps.nil ?_
 refine AWp.seq ?_
 refine AWp.seq ?_
 refine AWp.region ?_
 refine aC_ rfl rfl (q_fa) ?_
 refine aC_ rfl rfl (q_load) ?_
 refine aC_ rfl rfl (q_len) ?_
 refine aC_ rfl rfl (q_move) ?_
 refine AOps.nil ?_
 refine AWp.block ?_
 refine AWp.loopR (α := Nat) [6, 8, 9, 10, 11, 12, 13, 22, 23, 24, 25, 26, 27, 28, 29, 30, 31, 32, 33, 34, 35, 36, 37, 38, 39, 40, 41, 42, 43, 44, 45, 46, 47, 48, 49, 50, 51, 52, 53, 54, 55, 56, 57, 58, 59, 60, 61, 62, 63, 64, 65, 66, 67, 68, 69, 70, 71, 72, 73] (fun i => [(22, i64 i)]) (fun i => []) (fun i => i ≤ t.zs.length ∧ ∀ j, j < i → kidO t up k j = true) (fun i => t.zs.length - i) 0 ?_ (Back.mk' (HasT.cons HasT.nil) HasH.nil) ?_
 ·
  exact ⟨Nat.zero_le _, fun j hj => absurd hj (Nat.not_lt_zero j)⟩
 ·
  rintro i ⟨hi, hc⟩
  refine AWp.seq ?_
  refine AWp.region ?_
  refine AOps.dec rfl rfl (q_lss) (fun h3_0 => ?_) (fun h3_0 => ?_)
  ·
   refine AOps.nil ?_
   refine AWp.seq ?_
   refine AWp.cond_t rfl ?_
   refine AWp.skip ?_
   refine AWp.seq ?_
   refine AWp.block ?_
   refine AWp.seq ?_
   refine AWp.region ?_
   refine aC_ rfl rfl (q_move) ?_
   refine aC_ rfl rfl (q_ix) ?_
   refine aC_ rfl rfl (q_load) ?_
   refine aC_ rfl rfl (q_alloc 503) ?_
   refine aC_ rfl rfl (q_assign) ?_
   refine aC_ rfl rfl (q_store) ?_
   refine AOps.nil ?_
   refine AWp.seq ?_
   refine AWp.seq ?_
   have hzi := ht.2.1 _ (getD_mem' (l := t.zs) (i := i) (by omega))
   have hzl := hzi.1
   rcases kid3 ((i : Int) = 0) (up.getD i default = k) with h1 | ⟨h1, h2⟩ | ⟨h1, h2⟩
   ·
    refine AWp.draws [⟨0, [8], [], some 27, _, none⟩,
 ⟨1, [27], [], some 28, _, none⟩,
 ⟨2, [28], [], some 29, _, none⟩,
 ⟨3, [29], [], some 30, .v undef, none⟩,
 ⟨4, [29], [], some 31, .v undef, none⟩,
 ⟨5, [29], [], some 32, .v undef, none⟩,
 ⟨6, [29], [], some 33, .v undef, none⟩,
 ⟨7, [29], [], some 34, .v undef, none⟩,
 ⟨8, [29], [], some 35, .v undef, none⟩,
 ⟨9, [29, 35], [], some 36, _, none⟩]
     [kN_ 0 [8] [] 27,
 kN_ 1 [27] [] 28,
 kN_ 2 [28] [] 29,
 kN_ 3 [29] [] 30,
 kN_ 4 [29] [] 31,
 kN_ 5 [29] [] 32,
 kN_ 6 [29] [] 33,
 kN_ 7 [29] [] 34,
 kN_ 8 [29] [] 35,
 kN_ 9 [29, 35] [] 36]
     mixed_ok rfl (by kernel_rfl) ⟨dK_ fun s0 => oG_ rfl rfl (q_move),
 dK_ fun s0 => oG_ rfl rfl ((OpOk.dec_t (q_eql) (h1))),
 dK_ fun s0 => oG_ rfl rfl (q_move),
 dK_ fun s0 => oS_ rfl rfl rfl rfl rfl rfl rfl rfl,
 dK_ fun s0 => oS_ rfl rfl rfl rfl rfl rfl rfl rfl,
 dK_ fun s0 => oS_ rfl rfl rfl rfl rfl rfl rfl rfl,
 dK_ fun s0 => oS_ rfl rfl rfl rfl rfl rfl rfl rfl,
 dK_ fun s0 => oS_ rfl rfl rfl rfl rfl rfl rfl rfl,
 dK_ fun s0 => oS_ rfl rfl rfl rfl rfl rfl rfl rfl,
 dK_ fun s0 => oG_ rfl rfl (q_pick), trivial⟩ ?_
    dsimp only [final, DS.upd, AS.seto]
    refine AWp.cond_t rfl ?_
    refine AWp.exit ?_
    refine AWp.region ?_
    refine aC_ rfl rfl (q_add) ?_
    refine aC_ rfl rfl (q_move) ?_
    refine AOps.nil ?_
    refine ⟨i + 1, ?_, Back.mk' (HasT.cons HasT.nil) HasH.nil, ?_⟩
    ·
     exact ⟨by omega, lt_step hc (by rw [kidO, decide_eq_true (by omega)]; rfl)⟩
    ·
     first | omega | (simp; omega)
   ·
    refine AWp.draws [⟨0, [8], [], some 27, _, none⟩,
 ⟨1, [27], [], some 28, _, none⟩,
 ⟨2, [28], [], some 29, _, none⟩,
 ⟨3, [4, 29], [101], some 30, _, none⟩,
 ⟨4, [8, 29], [], some 31, _, none⟩,
 ⟨5, [29, 30, 31], [], some 32, _, none⟩,
 ⟨6, [29, 32], [], some 33, _, none⟩,
 ⟨7, [5, 29], [102], some 34, _, none⟩,
 ⟨8, [29, 33, 34], [], some 35, _, none⟩,
 ⟨9, [29, 35], [], some 36, _, none⟩]
     [kN_ 0 [8] [] 27,
 kN_ 1 [27] [] 28,
 kN_ 2 [28] [] 29,
 kN_ 3 [4, 29] [101] 30,
 kN_ 4 [8, 29] [] 31,
 kN_ 5 [29, 30, 31] [] 32,
 kN_ 6 [29, 32] [] 33,
 kN_ 7 [5, 29] [102] 34,
 kN_ 8 [29, 33, 34] [] 35,
 kN_ 9 [29, 35] [] 36]
     mixed_ok rfl (by kernel_rfl) ⟨dK_ fun s0 => oG_ rfl rfl (q_move),
 dK_ fun s0 => oG_ rfl rfl ((OpOk.dec_f (q_eql) (h1))),
 dK_ fun s0 => oG_ rfl rfl (q_move),
 dK_ fun s0 => oO_ rfl rfl rfl rfl rfl (q_load),
 dK_ fun s0 => oO_ rfl rfl rfl rfl rfl (q_move),
 dK_ fun s0 => oO_ rfl rfl rfl rfl rfl (q_ix),
 dK_ fun s0 => oO_ rfl rfl rfl rfl rfl (q_load),
 dK_ fun s0 => oO_ rfl rfl rfl rfl rfl (q_load),
 dK_ fun s0 => oO_ rfl rfl rfl rfl rfl ((OpOk.dec_t (q_neq) (h2))),
 dK_ fun s0 => oG_ rfl rfl (q_pick), trivial⟩ ?_
    dsimp only [final, DS.upd, AS.seto]
    refine AWp.cond_t rfl ?_
    refine AWp.exit ?_
    refine AWp.region ?_
    refine aC_ rfl rfl (q_add) ?_
    refine aC_ rfl rfl (q_move) ?_
    refine AOps.nil ?_
    refine ⟨i + 1, ?_, Back.mk' (HasT.cons HasT.nil) HasH.nil, ?_⟩
    ·
     exact ⟨by omega, lt_step hc (by rw [kidO, decide_eq_true h2, Bool.or_true]; rfl)⟩
    ·
     first | omega | (simp; omega)
   ·
    refine AWp.draws [⟨0, [8], [], some 27, _, none⟩,
 ⟨1, [27], [], some 28, _, none⟩,
 ⟨2, [28], [], some 29, _, none⟩,
 ⟨3, [4, 29], [101], some 30, _, none⟩,
 ⟨4, [8, 29], [], some 31, _, none⟩,
 ⟨5, [29, 30, 31], [], some 32, _, none⟩,
 ⟨6, [29, 32], [], some 33, _, none⟩,
 ⟨7, [5, 29], [102], some 34, _, none⟩,
 ⟨8, [29, 33, 34], [], some 35, _, none⟩,
 ⟨9, [29, 35], [], some 36, _, none⟩]
     [kN_ 0 [8] [] 27,
 kN_ 1 [27] [] 28,
 kN_ 2 [28] [] 29,
 kN_ 3 [4, 29] [101] 30,
 kN_ 4 [8, 29] [] 31,
 kN_ 5 [29, 30, 31] [] 32,
 kN_ 6 [29, 32] [] 33,
 kN_ 7 [5, 29] [102] 34,
 kN_ 8 [29, 33, 34] [] 35,
 kN_ 9 [29, 35] [] 36]
     mixed_ok rfl (by kernel_rfl) ⟨dK_ fun s0 => oG_ rfl rfl (q_move),
 dK_ fun s0 => oG_ rfl rfl ((OpOk.dec_f (q_eql) (h1))),
 dK_ fun s0 => oG_ rfl rfl (q_move),
 dK_ fun s0 => oO_ rfl rfl rfl rfl rfl (q_load),
 dK_ fun s0 => oO_ rfl rfl rfl rfl rfl (q_move),
 dK_ fun s0 => oO_ rfl rfl rfl rfl rfl (q_ix),
 dK_ fun s0 => oO_ rfl rfl rfl rfl rfl (q_load),
 dK_ fun s0 => oO_ rfl rfl rfl rfl rfl (q_load),
 dK_ fun s0 => oO_ rfl rfl rfl rfl rfl ((OpOk.dec_f (q_neq) (fun h => h h2))),
 dK_ fun s0 => oG_ rfl rfl (q_pick), trivial⟩ ?_
    dsimp only [final, DS.upd, AS.seto]
    refine AWp.cond_f rfl ?_
    refine AWp.skip ?_
    refine AWp.seq ?_
    refine AWp.region ?_
    have hcl := cutZ_len hzk (t.zs.getD i default).o
    refine aC_ rfl rfl (q_load) ?_
    refine aC_ rfl rfl (q_fa) ?_
    refine aC_ rfl rfl (q_load) ?_
    refine aC_ rfl rfl (q_call (lu) (hc := (c_zone_cut (zAt t k) (t.zs.getD i default).o hzk hzl))) ?_
    refine aC_ rfl rfl (q_move) ?_
    refine aC_ rfl rfl (q_extract) ?_
    refine AOps.bool rfl rfl (q_extract) (fun h6_6 => ?_) (fun h6_6 => ?_)
    ·
     refine aC_ rfl rfl (q_assign) ?_
     refine aC_ rfl rfl (q_assign) ?_
     refine AOps.nil ?_
     refine AWp.seq ?_
     refine AWp.draws [⟨0, [7], [205], some 44, _, none⟩,
 ⟨1, [9], [503], some 45, _, none⟩,
 ⟨2, [45], [503], some 46, _, none⟩,
 ⟨3, [44, 46], [], some 47, _, none⟩,
 ⟨4, [9], [503], some 48, _, none⟩,
 ⟨5, [9], [503], some 49, _, none⟩,
 ⟨6, [49], [503], some 50, _, none⟩,
 ⟨7, [48, 50], [], some 51, _, none⟩,
 ⟨8, [47], [], some 12, _, none⟩,
 ⟨9, [51], [], some 13, _, none⟩]
      [kN_ 0 [7] [205] 44,
 kN_ 1 [9] [503] 45,
 kN_ 2 [45] [503] 46,
 kN_ 3 [44, 46] [] 47,
 kN_ 4 [9] [503] 48,
 kN_ 5 [9] [503] 49,
 kN_ 6 [49] [503] 50,
 kN_ 7 [48, 50] [] 51,
 kN_ 8 [47] [] 12,
 kN_ 9 [51] [] 13]
      mixed_ok rfl (by kernel_rfl) ⟨dK_ fun s0 => oG_ rfl rfl (q_load),
 dK_ fun s0 => oG_ rfl rfl (q_fa),
 dK_ fun s0 => oG_ rfl rfl (q_load),
 dK_ fun s0 => oG_ rfl rfl (q_call (lu) (hc := (c_zone_at (zAt t k) (t.zs.getD i default).o 2 hzk hzl))),
 dK_ fun s0 => oG_ rfl rfl (q_load),
 dK_ fun s0 => oG_ rfl rfl (q_fa),
 dK_ fun s0 => oG_ rfl rfl (q_load),
 dK_ fun s0 => oG_ rfl rfl (q_call (lu) (hc := (c_zone_at (t.zs.getD i default) (t.zs.getD i default).o 2 hzi hzl))),
 dK_ fun s0 => oG_ rfl rfl (q_assign),
 dK_ fun s0 => oG_ rfl rfl (q_assign), trivial⟩ ?_
     dsimp only [final, DS.upd, AS.seto]
     refine AWp.seq ?_
     refine AWp.region ?_
     refine aC_ rfl rfl (q_move) ?_
     refine aC_ rfl rfl (q_not) ?_
     refine aC_ rfl rfl (q_move) ?_
     refine AOps.gcons rfl rfl rfl rfl rfl (q_move) ?_
     refine AOps.gcons rfl rfl rfl rfl rfl (q_fa) ?_
     refine AOps.gcons rfl rfl rfl rfl rfl (q_load) ?_
     refine AOps.gbool rfl rfl rfl rfl rfl (q_call (lu) (hc := (c_name_Same (cutZ (zAt t k) (t.zs.getD i default).o) (t.zs.getD i default).o (by omega) (by omega)))) (fun h8_6 => ?_) (fun h8_6 => ?_)
     ·
      refine AOps.gcons rfl rfl rfl rfl rfl (q_not) ?_
      refine aC_ rfl rfl (q_pick) ?_
      refine aC_ rfl rfl (q_move) ?_
      refine AOps.gcons rfl rfl rfl rfl rfl (q_move) ?_
      refine AOps.gcons rfl rfl rfl rfl rfl (q_move) ?_
      refine AOps.gbool rfl rfl rfl rfl rfl (q_call (lu) (hc := (c_zone_subset (atZ (zAt t k) (t.zs.getD i default).o 2) (atZ (t.zs.getD i default) (t.zs.getD i default).o 2) 0 0 (atZ_ok hzk _ _) (atZ_ok hzi _ _)))) (fun h8_12 => ?_) (fun h8_12 => ?_)
      ·
       refine AOps.gcons rfl rfl rfl rfl rfl (q_not) ?_
       refine aC_ rfl rfl (q_pick) ?_
       refine aC_ rfl rfl (q_move) ?_
       refine AOps.gcons rfl rfl rfl rfl rfl (q_move) ?_
       refine AOps.gcons rfl rfl rfl rfl rfl (q_move) ?_
       refine AOps.gbool rfl rfl rfl rfl rfl (q_call (lu) (hc := (c_zone_subset (atZ (t.zs.getD i default) (t.zs.getD i default).o 2) (atZ (zAt t k) (t.zs.getD i default).o 2) 0 0 (atZ_ok hzi _ _) (atZ_ok hzk _ _)))) (fun h8_18 => ?_) (fun h8_18 => ?_)
       ·
        refine AOps.gcons rfl rfl rfl rfl rfl (q_not) ?_
        refine aC_ rfl rfl (q_pick) ?_
        refine AOps.nil ?_
        refine AWp.cond_f rfl ?_
        refine AWp.skip ?_
        refine AWp.region ?_
        refine aC_ rfl rfl (q_add) ?_
        refine aC_ rfl rfl (q_move) ?_
        refine AOps.nil ?_
        refine ⟨i + 1, ?_, Back.mk' (HasT.cons HasT.nil) HasH.nil, ?_⟩
        ·
         exact ⟨by omega, lt_step hc (kidO_yes h8_6 h8_12 h8_18)⟩
        ·
         first | omega | (simp; omega)
       ·
        refine AOps.gcons rfl rfl rfl rfl rfl (q_not) ?_
        refine aC_ rfl rfl (q_pick) ?_
        refine AOps.nil ?_
        refine AWp.cond_t rfl ?_
        refine AWp.seq ?_
        refine AWp.region ?_
        refine aC_ rfl rfl (q_assign) ?_
        refine AOps.nil ?_
        refine AWp.ret ?_
        show Fin te Try.f38 _ _
        refine q_ret (0) [_] [_] ?_
        exact congrArg tf (joinZ_no (j := i) (by omega) (kidO_no h1 h2 (by rw [h8_18, Bool.and_false]))).symm
      ·
       refine AOps.gcons rfl rfl rfl rfl rfl (q_not) ?_
       refine aC_ rfl rfl (q_pick) ?_
       refine aC_ rfl rfl (q_move) ?_
       refine aG_ rfl rfl rfl rfl rfl rfl rfl rfl ?_
       refine aG_ rfl rfl rfl rfl rfl rfl rfl rfl ?_
       refine aG_ rfl rfl rfl rfl rfl rfl rfl rfl ?_
       refine aG_ rfl rfl rfl rfl rfl rfl rfl rfl ?_
       refine aC_ rfl rfl (q_pick) ?_
       refine AOps.nil ?_
       refine AWp.cond_t rfl ?_
       refine AWp.seq ?_
       refine AWp.region ?_
       refine aC_ rfl rfl (q_assign) ?_
       refine AOps.nil ?_
       refine AWp.ret ?_
       show Fin te Try.f38 _ _
       refine q_ret (0) [_] [_] ?_
       exact congrArg tf (joinZ_no (j := i) (by omega) (kidO_no h1 h2 (by rw [h8_12, Bool.and_false]; rfl))).symm
     ·
      refine AOps.gcons rfl rfl rfl rfl rfl (q_not) ?_
      refine aC_ rfl rfl (q_pick) ?_
      refine aC_ rfl rfl (q_move) ?_
      refine aG_ rfl rfl rfl rfl rfl rfl rfl rfl ?_
      refine aG_ rfl rfl rfl rfl rfl rfl rfl rfl ?_
      refine aG_ rfl rfl rfl rfl rfl rfl rfl rfl ?_
      refine aG_ rfl rfl rfl rfl rfl rfl rfl rfl ?_
      refine aC_ rfl rfl (q_pick) ?_
      refine aC_ rfl rfl (q_move) ?_
      refine aG_ rfl rfl rfl rfl rfl rfl rfl rfl ?_
      refine aG_ rfl rfl rfl rfl rfl rfl rfl rfl ?_
      refine aG_ rfl rfl rfl rfl rfl rfl rfl rfl ?_
      refine aG_ rfl rfl rfl rfl rfl rfl rfl rfl ?_
      refine aC_ rfl rfl (q_pick) ?_
      refine AOps.nil ?_
      refine AWp.cond_t rfl ?_
      refine AWp.seq ?_
      refine AWp.region ?_
      refine aC_ rfl rfl (q_assign) ?_
      refine AOps.nil ?_
      refine AWp.ret ?_
      show Fin te Try.f38 _ _
      refine q_ret (0) [_] [_] ?_
      exact congrArg tf (joinZ_no (j := i) (by omega) (kidO_no h1 h2 (by rw [h8_6]; rfl))).symm
    ·
     refine aC_ rfl rfl (q_assign) ?_
     refine aC_ rfl rfl (q_assign) ?_
     refine AOps.nil ?_
     refine AWp.seq ?_
     refine AWp.draws [⟨0, [7], [205], some 44, _, none⟩,
 ⟨1, [9], [503], some 45, _, none⟩,
 ⟨2, [45], [503], some 46, _, none⟩,
 ⟨3, [44, 46], [], some 47, _, none⟩,
 ⟨4, [9], [503], some 48, _, none⟩,
 ⟨5, [9], [503], some 49, _, none⟩,
 ⟨6, [49], [503], some 50, _, none⟩,
 ⟨7, [48, 50], [], some 51, _, none⟩,
 ⟨8, [47], [], some 12, _, none⟩,
 ⟨9, [51], [], some 13, _, none⟩]
      [kN_ 0 [7] [205] 44,
 kN_ 1 [9] [503] 45,
 kN_ 2 [45] [503] 46,
 kN_ 3 [44, 46] [] 47,
 kN_ 4 [9] [503] 48,
 kN_ 5 [9] [503] 49,
 kN_ 6 [49] [503] 50,
 kN_ 7 [48, 50] [] 51,
 kN_ 8 [47] [] 12,
 kN_ 9 [51] [] 13]
      mixed_ok rfl (by kernel_rfl) ⟨dK_ fun s0 => oG_ rfl rfl (q_load),
 dK_ fun s0 => oG_ rfl rfl (q_fa),
 dK_ fun s0 => oG_ rfl rfl (q_load),
 dK_ fun s0 => oG_ rfl rfl (q_call (lu) (hc := (c_zone_at (zAt t k) (t.zs.getD i default).o 2 hzk hzl))),
 dK_ fun s0 => oG_ rfl rfl (q_load),
 dK_ fun s0 => oG_ rfl rfl (q_fa),
 dK_ fun s0 => oG_ rfl rfl (q_load),
 dK_ fun s0 => oG_ rfl rfl (q_call (lu) (hc := (c_zone_at (t.zs.getD i default) (t.zs.getD i default).o 2 hzi hzl))),
 dK_ fun s0 => oG_ rfl rfl (q_assign),
 dK_ fun s0 => oG_ rfl rfl (q_assign), trivial⟩ ?_
     dsimp only [final, DS.upd, AS.seto]
     refine AWp.seq ?_
     refine AWp.region ?_
     refine aC_ rfl rfl (q_move) ?_
     refine aC_ rfl rfl (q_not) ?_
     refine aC_ rfl rfl (q_move) ?_
     refine aG_ rfl rfl rfl rfl rfl rfl rfl rfl ?_
     refine aG_ rfl rfl rfl rfl rfl rfl rfl rfl ?_
     refine aG_ rfl rfl rfl rfl rfl rfl rfl rfl ?_
     refine aG_ rfl rfl rfl rfl rfl rfl rfl rfl ?_
     refine aG_ rfl rfl rfl rfl rfl rfl rfl rfl ?_
     refine aC_ rfl rfl (q_pick) ?_
     refine aC_ rfl rfl (q_move) ?_
     refine aG_ rfl rfl rfl rfl rfl rfl rfl rfl ?_
     refine aG_ rfl rfl rfl rfl rfl rfl rfl rfl ?_
     refine aG_ rfl rfl rfl rfl rfl rfl rfl rfl ?_
     refine aG_ rfl rfl rfl rfl rfl rfl rfl rfl ?_
     refine aC_ rfl rfl (q_pick) ?_
     refine aC_ rfl rfl (q_move) ?_
     refine aG_ rfl rfl rfl rfl rfl rfl rfl rfl ?_
     refine aG_ rfl rfl rfl rfl rfl rfl rfl rfl ?_
     refine aG_ rfl rfl rfl rfl rfl rfl rfl rfl ?_
     refine aG_ rfl rfl rfl rfl rfl rfl rfl rfl ?_
     refine aC_ rfl rfl (q_pick) ?_
     refine AOps.nil ?_
     refine AWp.cond_t rfl ?_
     refine AWp.seq ?_
     refine AWp.region ?_
     refine aC_ rfl rfl (q_assign) ?_
     refine AOps.nil ?_
     refine AWp.ret ?_
     show Fin te Try.f38 _ _
     refine q_ret (0) [_] [_] ?_
     exact congrArg tf (joinZ_no (j := i) (by omega) (kidO_no h1 h2 (by rw [show cutZ (zAt t k) (t.zs.getD i default).o = [] from Decidable.not_not.1 (of_decide_eq_false h6_6), sameN_nil]; rfl))).symm
  ·
   refine AOps.nil ?_
   refine AWp.seq ?_
   refine AWp.cond_f rfl ?_
   refine AWp.exit ?_
   refine AWp.seq ?_
   refine AWp.region ?_
   refine aC_ rfl rfl (q_fa) ?_
   refine aC_ rfl rfl (q_load) ?_
   refine aC_ rfl rfl (q_makeFunc [] [_, _, _, _]) ?_
   refine aC_ rfl rfl (q_call (lu) (hA := by exact ⟨fv_okb rfl (ble_of (by omega)), fv_fn trivial ⟨fv_ptrb rfl .box rfl rfl rfl, fv_ptrb rfl .box rfl rfl rfl, fv_ptrb rfl .box (by simp [AV.oks, AV.ok, Nat.ble_eq]) rfl rfl, fv_ptrb rfl .box rfl rfl rfl, trivial⟩, trivial⟩) (hc := (c_ContainsFunc_rr (zAt t k).rs 0 0 (lu + 1) [.fp (lu + 1) (zoC (zAt t k)), .fp (lu + 1) (trC t), .fp (lu + 1) [.fz lu up.length (cl ic up)], .fp (lu + 1) [i64 k]] (joinQ t up k (zAt t k)) (by omega) (by simp [AV.oks, AV.ok, Nat.ble_eq] <;> omega) (fun r hr => c_zone_joined_1 t up k (zAt t k) r (lu + 1) lu ht hzk (hzk.2.2 r hr) hu (by omega))))) ?_
   refine aC_ rfl rfl (q_not) ?_
   refine aC_ rfl rfl (q_assign) ?_
   refine AOps.nil ?_
   refine AWp.ret ?_
   show Fin te Try.f38 _ _
   refine q_ret (0) [_] [_] ?_
   obtain rfl : i = t.zs.length := by omega
   exact congrArg tf (by rw [joinZ, range_all_iff.2 hc, Bool.true_and])
set_option maxRecDepth 20000 in
set_option maxHeartbeats 2000000 in
theorem c_zone_served (t : Tr) (ht : TrOk t) : AC Try.prog 31 [.agg (trC t)] emp (Ret (tf (srvT t))) := by
 have hb1 := ht.1
 have hb2 := ht.2.2.1
 refine AC.intro te_ok (fn := Try.f31) ⟨Try.func31, rfl, rfl⟩ (Nat.le_of_ble_eq_true rfl) ?_
 refine AWp.seq ?_
 refine AWp.region ?_
 refine aC_ rfl rfl (q_box 100) ?_
 refine aC_ rfl rfl (q_assign) ?_
 refine AOps.nil ?_
 refine AWp.seq ?_
 refine AWp.region ?_
 refine aC_ rfl rfl (q_makeMap 200 MInt (fun b : Bool => tf b)) ?_
 refine aC_ rfl rfl (q_assign) ?_
 refine AOps.nil ?_
 refine AWp.seq ?_
 refine AWp.seq ?_
 refine AWp.region ?_
 refine aC_ rfl rfl (q_fa) ?_
 refine aC_ rfl rfl (q_load) ?_
 refine aC_ rfl rfl (q_len) ?_
 refine aC_ rfl rfl (q_move) ?_
 refine AOps.nil ?_
 refine AWp.block ?_
 refine AWp.loopR (α := Nat × List (Int × Bool)) [2, 5, 6, 11, 12, 13, 14, 15, 16, 17, 18, 19, 20, 21, 22, 23, 24, 25, 26, 27, 28, 29, 30, 31, 32, 33, 34, 35, 36, 37, 38, 39] (fun x_ => [(11, i64 (x_.1))]) (fun x_ => [(200, .map (me MInt (fun b : Bool => tf b) (x_.2)))]) (fun x_ => (x_.1) ≤ t.ss.length ∧ MetA t (x_.1) (x_.2) ∧ ∀ j, j < (x_.1) → svO t j = true) (fun x_ => t.ss.length - (x_.1)) (0, []) ?_ (Back.mk' (HasT.cons HasT.nil) (HasH.cons HasH.nil (h2 := by exact objIn_me (fun _ => rfl)) )) ?_
 ·
  exact ⟨Nat.zero_le _, MetA.start t, fun j hj => absurd hj (Nat.not_lt_zero j)⟩
 ·
  rintro ⟨i, m⟩ hI3
  change i ≤ t.ss.length ∧ MetA t i m ∧ ∀ j, j < i → svO t j = true at hI3
  obtain ⟨hi, hm, hc⟩ := hI3
  refine AWp.as (s' := AS.over _ [2, 5, 6, 11, 12, 13, 14, 15, 16, 17, 18, 19, 20, 21, 22, 23, 24, 25, 26, 27, 28, 29, 30, 31, 32, 33, 34, 35, 36, 37, 38, 39] [(11, i64 i)] [(200, .map (me MInt (fun b : Bool => tf b) m))]) rfl ?_
  refine AWp.seq ?_
  refine AWp.region ?_
  refine AOps.dec rfl rfl (q_lss) (fun h3_0 => ?_) (fun h3_0 => ?_)
  ·
   refine AOps.nil ?_
   refine AWp.seq ?_
   refine AWp.cond_t rfl ?_
   refine AWp.skip ?_
   refine AWp.seq ?_
   refine AWp.block ?_
   refine AWp.seq ?_
   refine AWp.region ?_
   have hsz := ht.2.2.2 _ (getD_mem' (l := t.ss) (i := i) (by omega))
   refine aC_ rfl rfl (q_ix) ?_
   refine aC_ rfl rfl (q_load) ?_
   refine aC_ rfl rfl (q_alloc 502) ?_
   refine aC_ rfl rfl (q_store) ?_
   refine AOps.nil ?_
   refine AWp.seq ?_
   refine AWp.region ?_
   refine aC_ rfl rfl (q_makeFunc [] [_]) ?_
   refine aC_ rfl rfl (q_assign) ?_
   refine AOps.nil ?_
   refine AWp.seq ?_
   refine AWp.seq ?_
   refine AWp.region ?_
   refine aC_ rfl rfl (q_fa) ?_
   refine aC_ rfl rfl (q_load) ?_
   refine AOps.dec rfl rfl (q_lss) (fun h6_2 => ?_) (fun h6_2 => ?_)
   ·
    refine aC_ rfl rfl (q_move) ?_
    refine aG_ rfl rfl rfl rfl rfl rfl rfl rfl ?_
    refine aG_ rfl rfl rfl rfl rfl rfl rfl rfl ?_
    refine aG_ rfl rfl rfl rfl rfl rfl rfl rfl ?_
    refine aC_ rfl rfl (q_pick) ?_
    refine aC_ rfl rfl (q_move) ?_
    refine aG_ rfl rfl rfl rfl rfl rfl rfl rfl ?_
    refine aG_ rfl rfl rfl rfl rfl rfl rfl rfl ?_
    refine aG_ rfl rfl rfl rfl rfl rfl rfl rfl ?_
    refine aG_ rfl rfl rfl rfl rfl rfl rfl rfl ?_
    refine aC_ rfl rfl (q_pick) ?_
    refine aC_ rfl rfl (q_move) ?_
    refine aG_ rfl rfl rfl rfl rfl rfl rfl rfl ?_
    refine aG_ rfl rfl rfl rfl rfl rfl rfl rfl ?_
    refine aG_ rfl rfl rfl rfl rfl rfl rfl rfl ?_
    refine aG_ rfl rfl rfl rfl rfl rfl rfl rfl ?_
    refine aC_ rfl rfl (q_pick) ?_
    refine AOps.nil ?_
    refine AWp.cond_t rfl ?_
    refine AWp.seq ?_
    refine AWp.region ?_
    refine aC_ rfl rfl (q_assign) ?_
    refine AOps.nil ?_
    refine AWp.ret ?_
    show Fin te Try.f31 _ _
    refine q_ret (0) [_] [_] ?_
    exact congrArg tf (srvT_no (j := i) (by omega) (svO_1 h6_2)).symm
   ·
    refine aC_ rfl rfl (q_move) ?_
    refine AOps.gcons rfl rfl rfl rfl rfl (q_fa) ?_
    refine AOps.gcons rfl rfl rfl rfl rfl (q_load) ?_
    refine AOps.gdec rfl rfl rfl rfl rfl (q_gtr) (fun h6_6 => ?_) (fun h6_6 => ?_)
    ·
     refine aC_ rfl rfl (q_pick) ?_
     refine aC_ rfl rfl (q_move) ?_
     refine aG_ rfl rfl rfl rfl rfl rfl rfl rfl ?_
     refine aG_ rfl rfl rfl rfl rfl rfl rfl rfl ?_
     refine aG_ rfl rfl rfl rfl rfl rfl rfl rfl ?_
     refine aG_ rfl rfl rfl rfl rfl rfl rfl rfl ?_
     refine aC_ rfl rfl (q_pick) ?_
     refine aC_ rfl rfl (q_move) ?_
     refine aG_ rfl rfl rfl rfl rfl rfl rfl rfl ?_
     refine aG_ rfl rfl rfl rfl rfl rfl rfl rfl ?_
     refine aG_ rfl rfl rfl rfl rfl rfl rfl rfl ?_
     refine aG_ rfl rfl rfl rfl rfl rfl rfl rfl ?_
     refine aC_ rfl rfl (q_pick) ?_
     refine AOps.nil ?_
     refine AWp.cond_t rfl ?_
     refine AWp.seq ?_
     refine AWp.region ?_
     refine aC_ rfl rfl (q_assign) ?_
     refine AOps.nil ?_
     refine AWp.ret ?_
     show Fin te Try.f31 _ _
     refine q_ret (0) [_] [_] ?_
     exact congrArg tf (srvT_no (j := i) (by omega) (svO_2 h6_6)).symm
    ·
     refine aC_ rfl rfl (q_pick) ?_
     refine aC_ rfl rfl (q_move) ?_
     refine AOps.gcons rfl rfl rfl rfl rfl (q_move) ?_
     refine AOps.gcons rfl rfl rfl rfl rfl (q_fa) ?_
     refine AOps.gcons rfl rfl rfl rfl rfl (q_load) ?_
     refine AOps.gbool rfl rfl rfl rfl rfl (q_lookup MInt) (fun h6_12 => ?_) (fun h6_12 => ?_)
     ·
      refine aC_ rfl rfl (q_pick) ?_
      refine aC_ rfl rfl (q_move) ?_
      refine aG_ rfl rfl rfl rfl rfl rfl rfl rfl ?_
      refine aG_ rfl rfl rfl rfl rfl rfl rfl rfl ?_
      refine aG_ rfl rfl rfl rfl rfl rfl rfl rfl ?_
      refine aG_ rfl rfl rfl rfl rfl rfl rfl rfl ?_
      refine aC_ rfl rfl (q_pick) ?_
      refine AOps.nil ?_
      refine AWp.cond_t rfl ?_
      refine AWp.seq ?_
      refine AWp.region ?_
      refine aC_ rfl rfl (q_assign) ?_
      refine AOps.nil ?_
      refine AWp.ret ?_
      show Fin te Try.f31 _ _
      refine q_ret (0) [_] [_] ?_
      exact congrArg tf (srvT_no (j := i) (by omega) (svO_3 hm h6_12)).symm
     ·
      refine aC_ rfl rfl (q_pick) ?_
      refine aC_ rfl rfl (q_move) ?_
      refine AOps.gcons rfl rfl rfl rfl rfl (q_fa) ?_
      refine AOps.gcons rfl rfl rfl rfl rfl (q_load) ?_
      refine AOps.gcons rfl rfl rfl rfl rfl (q_move) ?_
      refine AOps.gbool rfl rfl rfl rfl rfl (q_call (0) (hc := (c_ContainsFunc_int (t.ss.getD i default).zs 0 0 1 [.fp 1 (trC t)] (badZ t) (by omega) rfl (fun j hj => c_zone_served_1 j t 1 ht)))) (fun h6_18 => ?_) (fun h6_18 => ?_)
      ·
       refine aC_ rfl rfl (q_pick) ?_
       refine AOps.nil ?_
       refine AWp.cond_t rfl ?_
       refine AWp.seq ?_
       refine AWp.region ?_
       refine aC_ rfl rfl (q_assign) ?_
       refine AOps.nil ?_
       refine AWp.ret ?_
       show Fin te Try.f31 _ _
       refine q_ret (0) [_] [_] ?_
       exact congrArg tf (srvT_no (j := i) (by omega) (svO_4 h6_18)).symm
      ·
       refine aC_ rfl rfl (q_pick) ?_
       refine AOps.nil ?_
       refine AWp.cond_f rfl ?_
       refine AWp.skip ?_
       refine AWp.region ?_
       refine aC_ rfl rfl (q_move) ?_
       refine aC_ rfl rfl (q_fa) ?_
       refine aC_ rfl rfl (q_load) ?_
       refine aC_ rfl rfl (q_mapUpdate MInt true) ?_
       refine AOps.nil ?_
       refine AWp.region ?_
       refine aC_ rfl rfl (q_add) ?_
       refine aC_ rfl rfl (q_move) ?_
       refine AOps.nil ?_
       refine ⟨(i + 1, mput m (t.ss.getD i default).ad true), ?_, Back.mk' (HasT.cons HasT.nil) (HasH.cons HasH.nil (h2 := by exact objIn_me (fun _ => rfl)) ), ?_⟩
       ·
        try dsimp only
        exact ⟨by omega, hm.step (by omega), lt_step hc (svO_yes hm h6_2 h6_6 h6_12 h6_18)⟩
       ·
        try dsimp only
        first | omega | (simp; omega)
  ·
   refine AOps.nil ?_
   refine AWp.seq ?_
   refine AWp.cond_f rfl ?_
   refine AWp.exit ?_
   refine AWp.seq ?_
   refine AWp.region ?_
   refine aC_ rfl rfl (q_fa) ?_
   refine aC_ rfl rfl (q_load) ?_
   refine aC_ rfl rfl (q_len) ?_
   refine aC_ rfl rfl (q_leq) ?_
   refine aC_ rfl rfl (q_assign) ?_
   refine AOps.nil ?_
   refine AWp.ret ?_
   show Fin te Try.f31 _ _
   refine q_ret (0) [_] [_] ?_
   obtain rfl : i = t.ss.length := by omega
   exact congrArg tf (by rw [srvT_yes hc]; exact decide_eq_decide.2 (by omega))
set_option maxRecDepth 20000 in
set_option maxHeartbeats 2000000 in
theorem c_zone_inZone (z : Zo) (r : Rr) (hz : ZoOk z) (hr : r.nm.length ≤ 140737488351232) (hd : r.da.length ≤ 140737488351232) : AC Try.prog 36 [.agg (zoC z), .agg (rrc r)] emp (Ret (tf (inZ z r))) := by
 have hol := hz.1
 have hrl : z.rs.length * 64 ≤ 140737488351232 := hz.2.1.1
 have hcl := cutZ_len hz r.nm
 refine AC.intro te_ok (fn := Try.f36) ⟨Try.func36, rfl, rfl⟩ (Nat.le_of_ble_eq_true rfl) ?_
 refine AWp.seq ?_
 refine AWp.region ?_
 refine aC_ rfl rfl (q_box 100) ?_
 refine aC_ rfl rfl (q_box 101) ?_
 refine aC_ rfl rfl (q_assign) ?_
 refine AOps.nil ?_
 refine AWp.seq ?_
 refine AWp.seq ?_
 refine AWp.region ?_
 refine aC_ rfl rfl (q_fa) ?_
 refine aC_ rfl rfl (q_load) ?_
 refine aC_ rfl rfl (q_fa) ?_
 refine aC_ rfl rfl (q_load) ?_
 refine AOps.bool rfl rfl (q_call (0) (hc := (c_name_Within r.nm z.o (by omega) (by omega)))) (fun h1_4 => ?_) (fun h1_4 => ?_)
 ·
  refine aC_ rfl rfl (q_not) ?_
  refine aC_ rfl rfl (q_move) ?_
  refine AOps.gcons rfl rfl rfl rfl rfl (q_fa) ?_
  refine AOps.gcons rfl rfl rfl rfl rfl (q_load) ?_
  refine AOps.gdec rfl rfl rfl rfl rfl (q_neq) (fun h1_9 => ?_) (fun h1_9 => ?_)
  ·
   refine aC_ rfl rfl (q_pick) ?_
   refine aC_ rfl rfl (q_move) ?_
   refine aG_ rfl rfl rfl rfl rfl rfl rfl rfl ?_
   refine aG_ rfl rfl rfl rfl rfl rfl rfl rfl ?_
   refine aG_ rfl rfl rfl rfl rfl rfl rfl rfl ?_
   refine aC_ rfl rfl (q_pick) ?_
   refine aC_ rfl rfl (q_move) ?_
   refine aG_ rfl rfl rfl rfl rfl rfl rfl rfl ?_
   refine aG_ rfl rfl rfl rfl rfl rfl rfl rfl ?_
   refine aG_ rfl rfl rfl rfl rfl rfl rfl rfl ?_
   refine aC_ rfl rfl (q_pick) ?_
   refine aC_ rfl rfl (q_move) ?_
   refine aG_ rfl rfl rfl rfl rfl rfl rfl rfl ?_
   refine aG_ rfl rfl rfl rfl rfl rfl rfl rfl ?_
   refine aG_ rfl rfl rfl rfl rfl rfl rfl rfl ?_
   refine aC_ rfl rfl (q_pick) ?_
   refine aC_ rfl rfl (q_move) ?_
   refine aG_ rfl rfl rfl rfl rfl rfl rfl rfl ?_
   refine aG_ rfl rfl rfl rfl rfl rfl rfl rfl ?_
   refine aG_ rfl rfl rfl rfl rfl rfl rfl rfl ?_
   refine aC_ rfl rfl (q_pick) ?_
   refine aC_ rfl rfl (q_move) ?_
   refine aG_ rfl rfl rfl rfl rfl rfl rfl rfl ?_
   refine aG_ rfl rfl rfl rfl rfl rfl rfl rfl ?_
   refine aG_ rfl rfl rfl rfl rfl rfl rfl rfl ?_
   refine aG_ rfl rfl rfl rfl rfl rfl rfl rfl ?_
   refine aG_ rfl rfl rfl rfl rfl rfl rfl rfl ?_
   refine aG_ rfl rfl rfl rfl rfl rfl rfl rfl ?_
   refine aC_ rfl rfl (q_pick) ?_
   refine AOps.nil ?_
   refine AWp.cond_t rfl ?_
   refine AWp.seq ?_
   refine AWp.region ?_
   refine aC_ rfl rfl (q_assign) ?_
   refine AOps.nil ?_
   refine AWp.ret ?_
   show Fin te Try.f36 _ _
   refine q_ret (0) [_] [_] ?_
   exact congrArg tf (by simp [inZ, recO, baseO, restO, cntS, *]; try omega)
  ·
   refine aC_ rfl rfl (q_pick) ?_
   refine aC_ rfl rfl (q_move) ?_
   refine AOps.gcons rfl rfl rfl rfl rfl (q_fa) ?_
   refine AOps.gcons rfl rfl rfl rfl rfl (q_load) ?_
   refine AOps.gdec rfl rfl rfl rfl rfl (q_lss) (fun h1_14 => ?_) (fun h1_14 => ?_)
   ·
    refine aC_ rfl rfl (q_pick) ?_
    refine aC_ rfl rfl (q_move) ?_
    refine aG_ rfl rfl rfl rfl rfl rfl rfl rfl ?_
    refine aG_ rfl rfl rfl rfl rfl rfl rfl rfl ?_
    refine aG_ rfl rfl rfl rfl rfl rfl rfl rfl ?_
    refine aC_ rfl rfl (q_pick) ?_
    refine aC_ rfl rfl (q_move) ?_
    refine aG_ rfl rfl rfl rfl rfl rfl rfl rfl ?_
    refine aG_ rfl rfl rfl rfl rfl rfl rfl rfl ?_
    refine aG_ rfl rfl rfl rfl rfl rfl rfl rfl ?_
    refine aC_ rfl rfl (q_pick) ?_
    refine aC_ rfl rfl (q_move) ?_
    refine aG_ rfl rfl rfl rfl rfl rfl rfl rfl ?_
    refine aG_ rfl rfl rfl rfl rfl rfl rfl rfl ?_
    refine aG_ rfl rfl rfl rfl rfl rfl rfl rfl ?_
    refine aC_ rfl rfl (q_pick) ?_
    refine aC_ rfl rfl (q_move) ?_
    refine aG_ rfl rfl rfl rfl rfl rfl rfl rfl ?_
    refine aG_ rfl rfl rfl rfl rfl rfl rfl rfl ?_
    refine aG_ rfl rfl rfl rfl rfl rfl rfl rfl ?_
    refine aG_ rfl rfl rfl rfl rfl rfl rfl rfl ?_
    refine aG_ rfl rfl rfl rfl rfl rfl rfl rfl ?_
    refine aG_ rfl rfl rfl rfl rfl rfl rfl rfl ?_
    refine aC_ rfl rfl (q_pick) ?_
    refine AOps.nil ?_
    refine AWp.cond_t rfl ?_
    refine AWp.seq ?_
    refine AWp.region ?_
    refine aC_ rfl rfl (q_assign) ?_
    refine AOps.nil ?_
    refine AWp.ret ?_
    show Fin te Try.f36 _ _
    refine q_ret (0) [_] [_] ?_
    exact congrArg tf (by simp [inZ, recO, baseO, restO, cntS, *]; try omega)
   ·
    refine aC_ rfl rfl (q_pick) ?_
    refine aC_ rfl rfl (q_move) ?_
    refine AOps.gcons rfl rfl rfl rfl rfl (q_fa) ?_
    refine AOps.gcons rfl rfl rfl rfl rfl (q_load) ?_
    refine AOps.gdec rfl rfl rfl rfl rfl (q_gtr) (fun h1_19 => ?_) (fun h1_19 => ?_)
    ·
     refine aC_ rfl rfl (q_pick) ?_
     refine aC_ rfl rfl (q_move) ?_
     refine aG_ rfl rfl rfl rfl rfl rfl rfl rfl ?_
     refine aG_ rfl rfl rfl rfl rfl rfl rfl rfl ?_
     refine aG_ rfl rfl rfl rfl rfl rfl rfl rfl ?_
     refine aC_ rfl rfl (q_pick) ?_
     refine aC_ rfl rfl (q_move) ?_
     refine aG_ rfl rfl rfl rfl rfl rfl rfl rfl ?_
     refine aG_ rfl rfl rfl rfl rfl rfl rfl rfl ?_
     refine aG_ rfl rfl rfl rfl rfl rfl rfl rfl ?_
     refine aC_ rfl rfl (q_pick) ?_
     refine aC_ rfl rfl (q_move) ?_
     refine aG_ rfl rfl rfl rfl rfl rfl rfl rfl ?_
     refine aG_ rfl rfl rfl rfl rfl rfl rfl rfl ?_
     refine aG_ rfl rfl rfl rfl rfl rfl rfl rfl ?_
     refine aG_ rfl rfl rfl rfl rfl rfl rfl rfl ?_
     refine aG_ rfl rfl rfl rfl rfl rfl rfl rfl ?_
     refine aG_ rfl rfl rfl rfl rfl rfl rfl rfl ?_
     refine aC_ rfl rfl (q_pick) ?_
     refine AOps.nil ?_
     refine AWp.cond_t rfl ?_
     refine AWp.seq ?_
     refine AWp.region ?_
     refine aC_ rfl rfl (q_assign) ?_
     refine AOps.nil ?_
     refine AWp.ret ?_
     show Fin te Try.f36 _ _
     refine q_ret (0) [_] [_] ?_
     exact congrArg tf (by simp [inZ, recO, baseO, restO, cntS, *]; try omega)
    ·
     refine aC_ rfl rfl (q_pick) ?_
     refine aC_ rfl rfl (q_move) ?_
     refine AOps.gcons rfl rfl rfl rfl rfl (q_fa) ?_
     refine AOps.gcons rfl rfl rfl rfl rfl (q_load) ?_
     refine AOps.gdec rfl rfl rfl rfl rfl (q_lss) (fun h1_24 => ?_) (fun h1_24 => ?_)
     ·
      refine aC_ rfl rfl (q_pick) ?_
      refine aC_ rfl rfl (q_move) ?_
      refine aG_ rfl rfl rfl rfl rfl rfl rfl rfl ?_
      refine aG_ rfl rfl rfl rfl rfl rfl rfl rfl ?_
      refine aG_ rfl rfl rfl rfl rfl rfl rfl rfl ?_
      refine aC_ rfl rfl (q_pick) ?_
      refine aC_ rfl rfl (q_move) ?_
      refine aG_ rfl rfl rfl rfl rfl rfl rfl rfl ?_
      refine aG_ rfl rfl rfl rfl rfl rfl rfl rfl ?_
      refine aG_ rfl rfl rfl rfl rfl rfl rfl rfl ?_
      refine aG_ rfl rfl rfl rfl rfl rfl rfl rfl ?_
      refine aG_ rfl rfl rfl rfl rfl rfl rfl rfl ?_
      refine aG_ rfl rfl rfl rfl rfl rfl rfl rfl ?_
      refine aC_ rfl rfl (q_pick) ?_
      refine AOps.nil ?_
      refine AWp.cond_t rfl ?_
      refine AWp.seq ?_
      refine AWp.region ?_
      refine aC_ rfl rfl (q_assign) ?_
      refine AOps.nil ?_
      refine AWp.ret ?_
      show Fin te Try.f36 _ _
      refine q_ret (0) [_] [_] ?_
      exact congrArg tf (by simp [inZ, recO, baseO, restO, cntS, *]; try omega)
     ·
      refine aC_ rfl rfl (q_pick) ?_
      refine aC_ rfl rfl (q_move) ?_
      refine AOps.gcons rfl rfl rfl rfl rfl (q_fa) ?_
      refine AOps.gcons rfl rfl rfl rfl rfl (q_load) ?_
      refine AOps.gdec rfl rfl rfl rfl rfl (q_gtr) (fun h1_29 => ?_) (fun h1_29 => ?_)
      ·
       refine aC_ rfl rfl (q_pick) ?_
       refine aC_ rfl rfl (q_move) ?_
       refine aG_ rfl rfl rfl rfl rfl rfl rfl rfl ?_
       refine aG_ rfl rfl rfl rfl rfl rfl rfl rfl ?_
       refine aG_ rfl rfl rfl rfl rfl rfl rfl rfl ?_
       refine aG_ rfl rfl rfl rfl rfl rfl rfl rfl ?_
       refine aG_ rfl rfl rfl rfl rfl rfl rfl rfl ?_
       refine aG_ rfl rfl rfl rfl rfl rfl rfl rfl ?_
       refine aC_ rfl rfl (q_pick) ?_
       refine AOps.nil ?_
       refine AWp.cond_t rfl ?_
       refine AWp.seq ?_
       refine AWp.region ?_
       refine aC_ rfl rfl (q_assign) ?_
       refine AOps.nil ?_
       refine AWp.ret ?_
       show Fin te Try.f36 _ _
       refine q_ret (0) [_] [_] ?_
       exact congrArg tf (by simp [inZ, recO, baseO, restO, cntS, *]; try omega)
      ·
       refine aC_ rfl rfl (q_pick) ?_
       refine aC_ rfl rfl (q_move) ?_
       refine AOps.gcons rfl rfl rfl rfl rfl (q_fa) ?_
       refine AOps.gcons rfl rfl rfl rfl rfl (q_load) ?_
       refine AOps.gcons rfl rfl rfl rfl rfl (q_fa) ?_
       refine AOps.gcons rfl rfl rfl rfl rfl (q_load) ?_
       refine AOps.gbool rfl rfl rfl rfl rfl (q_call (0) (hc := (c_CanA r.ty r.da 0 hd))) (fun h1_36 => ?_) (fun h1_36 => ?_)
       ·
        refine AOps.gcons rfl rfl rfl rfl rfl (q_not) ?_
        refine aC_ rfl rfl (q_pick) ?_
        refine AOps.nil ?_
        refine AWp.cond_f rfl ?_
        refine AWp.skip ?_
        refine AWp.seq ?_
        refine AWp.region ?_
        have hbase := baseO_yes h1_4 h1_9 h1_14 h1_19 h1_24 h1_29 h1_36
        refine aC_ rfl rfl (q_load) ?_
        refine aC_ rfl rfl (q_fa) ?_
        refine aC_ rfl rfl (q_load) ?_
        refine aC_ rfl rfl (q_call (0) (hc := (c_zone_cut z r.nm hz hr))) ?_
        refine aC_ rfl rfl (q_move) ?_
        refine aC_ rfl rfl (q_extract) ?_
        refine AOps.bool rfl rfl (q_extract) (fun h3_6 => ?_) (fun h3_6 => ?_)
        ·
         refine aC_ rfl rfl (q_assign) ?_
         refine aC_ rfl rfl (q_assign) ?_
         refine AOps.nil ?_
         refine AWp.seq ?_
         refine AWp.seq ?_
         refine AWp.region ?_
         refine aC_ rfl rfl (q_fa) ?_
         refine aC_ rfl rfl (q_load) ?_
         refine AOps.nil ?_
         refine AWp.block ?_
         refine AWp.seq ?_
         refine AWp.region ?_
         refine AOps.dec rfl rfl (q_eql) (fun h5_0 => ?_) (fun h5_0 => ?_)
         ·
          refine aC_ rfl rfl (q_assign) ?_
          refine AOps.nil ?_
          refine AWp.cond_t rfl ?_
          refine AWp.seq ?_
          refine AWp.region ?_
          refine aC_ rfl rfl (q_fa) ?_
          refine aC_ rfl rfl (q_load) ?_
          refine aC_ rfl rfl (q_fa) ?_
          refine aC_ rfl rfl (q_load) ?_
          refine AOps.bool rfl rfl (q_call (0) (hc := (c_name_Same r.nm z.o (by omega) (by omega)))) (fun h6_4 => ?_) (fun h6_4 => ?_)
          ·
           refine aC_ rfl rfl (q_move) ?_
           refine AOps.gcons rfl rfl rfl rfl rfl (q_move) ?_
           refine AOps.gcons rfl rfl rfl rfl rfl (q_not) ?_
           refine aC_ rfl rfl (q_pick) ?_
           refine aC_ rfl rfl (q_assign) ?_
           refine AOps.nil ?_
           refine AWp.ret ?_
           show Fin te Try.f36 _ _
           have hc6 : cutZ z r.nm ≠ [] := of_decide_eq_true h3_6
           clear h3_6
           refine q_ret (0) [_] [_] ?_
           exact congrArg tf (by rw [inZ_base hbase, restO]; simp [cntS, *]; first | done | omega | exact decide_eq_true (by omega) | exact decide_eq_false (by omega))
          ·
           refine aC_ rfl rfl (q_move) ?_
           refine aG_ rfl rfl rfl rfl rfl rfl rfl rfl ?_
           refine aG_ rfl rfl rfl rfl rfl rfl rfl rfl ?_
           refine aC_ rfl rfl (q_pick) ?_
           refine aC_ rfl rfl (q_assign) ?_
           refine AOps.nil ?_
           refine AWp.ret ?_
           show Fin te Try.f36 _ _
           have hc6 : cutZ z r.nm ≠ [] := of_decide_eq_true h3_6
           clear h3_6
           refine q_ret (0) [_] [_] ?_
           exact congrArg tf (by rw [inZ_base hbase, restO]; simp [cntS, *]; first | done | omega | exact decide_eq_true (by omega) | exact decide_eq_false (by omega))
         ·
          refine aC_ rfl rfl (q_assign) ?_
          refine AOps.nil ?_
          refine AWp.cond_f rfl ?_
          refine AWp.seq ?_
          refine AWp.region ?_
          refine AOps.dec rfl rfl (q_eql) (fun h7_0 => ?_) (fun h7_0 => ?_)
          ·
           refine aC_ rfl rfl (q_assign) ?_
           refine AOps.nil ?_
           refine AWp.cond_t rfl ?_
           refine AWp.seq ?_
           refine AWp.region ?_
           refine aC_ rfl rfl (q_move) ?_
           refine aC_ rfl rfl (q_not) ?_
           refine aC_ rfl rfl (q_move) ?_
           refine AOps.gcons rfl rfl rfl rfl rfl (q_move) ?_
           refine AOps.gcons rfl rfl rfl rfl rfl (q_fa) ?_
           refine AOps.gcons rfl rfl rfl rfl rfl (q_load) ?_
           refine AOps.gcons rfl rfl rfl rfl rfl (q_call (0) (hc := (c_name_Same (cutZ z r.nm) r.nm (by omega) (by omega)))) ?_
           refine aC_ rfl rfl (q_pick) ?_
           refine aC_ rfl rfl (q_assign) ?_
           refine AOps.nil ?_
           refine AWp.ret ?_
           show Fin te Try.f36 _ _
           have hc6 : cutZ z r.nm ≠ [] := of_decide_eq_true h3_6
           clear h3_6
           refine q_ret (0) [_] [_] ?_
           exact congrArg tf (by rw [inZ_base hbase, restO]; simp [cntS, *]; first | done | omega | exact decide_eq_true (by omega) | exact decide_eq_false (by omega))
          ·
           refine aC_ rfl rfl (q_assign) ?_
           refine AOps.nil ?_
           refine AWp.cond_f rfl ?_
           refine AWp.seq ?_
           refine AWp.region ?_
           refine AOps.dec rfl rfl (q_eql) (fun h9_0 => ?_) (fun h9_0 => ?_)
           ·
            refine aC_ rfl rfl (q_assign) ?_
            refine AOps.nil ?_
            refine AWp.cond_t rfl ?_
            refine AWp.seq ?_
            refine AWp.region ?_
            refine aC_ rfl rfl (q_assign) ?_
            refine AOps.nil ?_
            refine AWp.ret ?_
            show Fin te Try.f36 _ _
            have hc6 : cutZ z r.nm ≠ [] := of_decide_eq_true h3_6
            clear h3_6
            refine q_ret (0) [_] [_] ?_
            exact congrArg tf (by rw [inZ_base hbase, restO]; simp [cntS, *]; first | done | omega | exact decide_eq_true (by omega) | exact decide_eq_false (by omega))
           ·
            refine aC_ rfl rfl (q_assign) ?_
            refine AOps.nil ?_
            refine AWp.cond_f rfl ?_
            refine AWp.seq ?_
            refine AWp.region ?_
            refine AOps.dec rfl rfl (q_eql) (fun h11_0 => ?_) (fun h11_0 => ?_)
            ·
             refine aC_ rfl rfl (q_assign) ?_
             refine AOps.nil ?_
             refine AWp.cond_t rfl ?_
             refine AWp.seq ?_
             refine AWp.region ?_
             refine aC_ rfl rfl (q_assign) ?_
             refine AOps.nil ?_
             refine AWp.seq ?_
             refine AWp.seq ?_
             refine AWp.region ?_
             refine aC_ rfl rfl (q_fa) ?_
             refine aC_ rfl rfl (q_load) ?_
             refine aC_ rfl rfl (q_len) ?_
             refine aC_ rfl rfl (q_move) ?_
             refine AOps.nil ?_
             refine AWp.block ?_
             refine AWp.loopR (α := Nat) [7, 9, 86, 87, 88, 89, 90, 91, 92, 93, 94, 95, 96, 97] (fun i => [(86, i64 i), (7, i64 ((z.rs.take i).filter fun o => sameN o.nm r.nm).length)]) (fun i => []) (fun i => i ≤ z.rs.length) (fun i => z.rs.length - i) 0 ?_ (Back.mk' (HasT.cons (HasT.cons HasT.nil)) HasH.nil) ?_
             ·
              exact Nat.zero_le _
             ·
              rintro i hi
              have hfl := filter_len_le (fun o : Rr => sameN o.nm r.nm) z.rs i
              refine AWp.seq ?_
              refine AWp.region ?_
              refine AOps.dec rfl rfl (q_lss) (fun h14_0 => ?_) (fun h14_0 => ?_)
              ·
               refine AOps.nil ?_
               refine AWp.seq ?_
               refine AWp.cond_t rfl ?_
               refine AWp.skip ?_
               refine AWp.seq ?_
               refine AWp.block ?_
               refine AWp.seq ?_
               refine AWp.region ?_
               have hri := hz.2.2 _ (getD_mem' (l := z.rs) (i := i) (by omega))
               refine aC_ rfl rfl (q_ix) ?_
               refine aC_ rfl rfl (q_load) ?_
               refine aC_ rfl rfl (q_alloc 1602) ?_
               refine aC_ rfl rfl (q_store) ?_
               refine AOps.nil ?_
               refine AWp.seq ?_
               refine AWp.region ?_
               refine aC_ rfl rfl (q_fa) ?_
               refine aC_ rfl rfl (q_load) ?_
               refine aC_ rfl rfl (q_fa) ?_
               refine aC_ rfl rfl (q_load) ?_
               refine AOps.bool rfl rfl (q_call (0) (hc := (c_name_Same (z.rs.getD i default).nm r.nm (by omega) (by omega)))) (fun h16_4 => ?_) (fun h16_4 => ?_)
               ·
                refine AOps.nil ?_
                refine AWp.cond_t rfl ?_
                refine AWp.region ?_
                refine aC_ rfl rfl (q_move) ?_
                refine aC_ rfl rfl (q_add) ?_
                refine aC_ rfl rfl (q_assign) ?_
                refine AOps.nil ?_
                refine AWp.region ?_
                refine aC_ rfl rfl (q_add) ?_
                refine aC_ rfl rfl (q_move) ?_
                refine AOps.nil ?_
                refine ⟨i + 1, ?_, Back.mk' (HasT.cons (HasT.cons HasT.nil (h1 := by exact i64_eq (by rw [cnt_step (by omega), if_pos h16_4]; omega)) )) HasH.nil, ?_⟩
                ·
                 first | assumption | omega | decide | (simp; omega) | (simp [*]; done)
                ·
                 first | omega | (simp; omega)
               ·
                refine AOps.nil ?_
                refine AWp.cond_f rfl ?_
                refine AWp.skip ?_
                refine AWp.region ?_
                refine aC_ rfl rfl (q_add) ?_
                refine aC_ rfl rfl (q_move) ?_
                refine AOps.nil ?_
                refine ⟨i + 1, ?_, Back.mk' (HasT.cons (HasT.cons HasT.nil (h1 := by exact i64_eq (by rw [cnt_step (by omega), if_neg (by rw [h16_4]; decide)]; omega)) )) HasH.nil, ?_⟩
                ·
                 first | assumption | omega | decide | (simp; omega) | (simp [*]; done)
                ·
                 first | omega | (simp; omega)
              ·
               refine AOps.nil ?_
               refine AWp.seq ?_
               refine AWp.cond_f rfl ?_
               refine AWp.exit ?_
               refine AWp.seq ?_
               refine AWp.region ?_
               obtain rfl : i = z.rs.length := by omega
               rw [List.take_length]
               refine aC_ rfl rfl (q_move) ?_
               refine AOps.dec rfl rfl (q_eql) (fun h19_1 => ?_) (fun h19_1 => ?_)
               ·
                refine aC_ rfl rfl (q_move) ?_
                refine AOps.gcons rfl rfl rfl rfl rfl (q_move) ?_
                refine AOps.gcons rfl rfl rfl rfl rfl (q_not) ?_
                refine aC_ rfl rfl (q_pick) ?_
                refine aC_ rfl rfl (q_assign) ?_
                refine AOps.nil ?_
                refine AWp.ret ?_
                show Fin te Try.f36 _ _
                have hc6 : cutZ z r.nm ≠ [] := of_decide_eq_true h3_6
                clear h3_6
                refine q_ret (0) [_] [_] ?_
                exact congrArg tf (by rw [inZ_base hbase, restO]; simp [cntS, *]; first | done | omega | exact decide_eq_true (by omega) | exact decide_eq_false (by omega))
               ·
                refine aC_ rfl rfl (q_move) ?_
                refine aG_ rfl rfl rfl rfl rfl rfl rfl rfl ?_
                refine aG_ rfl rfl rfl rfl rfl rfl rfl rfl ?_
                refine aC_ rfl rfl (q_pick) ?_
                refine aC_ rfl rfl (q_assign) ?_
                refine AOps.nil ?_
                refine AWp.ret ?_
                show Fin te Try.f36 _ _
                have hc6 : cutZ z r.nm ≠ [] := of_decide_eq_true h3_6
                clear h3_6
                refine q_ret (0) [_] [_] ?_
                exact congrArg tf (by rw [inZ_base hbase, restO]; simp [cntS, *]; first | done | omega | exact decide_eq_true (by omega) | exact decide_eq_false (by omega))
            ·
             refine aC_ rfl rfl (q_assign) ?_
             refine AOps.nil ?_
             refine AWp.cond_f rfl ?_
             refine AWp.skip ?_
             refine AWp.seq ?_
             refine AWp.region ?_
             refine aC_ rfl rfl (q_move) ?_
             refine aC_ rfl rfl (q_not) ?_
             refine aC_ rfl rfl (q_assign) ?_
             refine AOps.nil ?_
             refine AWp.ret ?_
             show Fin te Try.f36 _ _
             have hc6 : cutZ z r.nm ≠ [] := of_decide_eq_true h3_6
             clear h3_6
             refine q_ret (0) [_] [_] ?_
             exact congrArg tf (by rw [inZ_base hbase, restO]; simp [cntS, *]; first | done | omega | exact decide_eq_true (by omega) | exact decide_eq_false (by omega))
        ·
         refine aC_ rfl rfl (q_assign) ?_
         refine aC_ rfl rfl (q_assign) ?_
         refine AOps.nil ?_
         refine AWp.seq ?_
         refine AWp.seq ?_
         refine AWp.region ?_
         refine aC_ rfl rfl (q_fa) ?_
         refine aC_ rfl rfl (q_load) ?_
         refine AOps.nil ?_
         refine AWp.block ?_
         refine AWp.seq ?_
         refine AWp.region ?_
         refine AOps.dec rfl rfl (q_eql) (fun h5_0 => ?_) (fun h5_0 => ?_)
         ·
          refine aC_ rfl rfl (q_assign) ?_
          refine AOps.nil ?_
          refine AWp.cond_t rfl ?_
          refine AWp.seq ?_
          refine AWp.region ?_
          refine aC_ rfl rfl (q_fa) ?_
          refine aC_ rfl rfl (q_load) ?_
          refine aC_ rfl rfl (q_fa) ?_
          refine aC_ rfl rfl (q_load) ?_
          refine AOps.bool rfl rfl (q_call (0) (hc := (c_name_Same r.nm z.o (by omega) (by omega)))) (fun h6_4 => ?_) (fun h6_4 => ?_)
          ·
           refine aC_ rfl rfl (q_move) ?_
           refine AOps.gcons rfl rfl rfl rfl rfl (q_move) ?_
           refine AOps.gcons rfl rfl rfl rfl rfl (q_not) ?_
           refine aC_ rfl rfl (q_pick) ?_
           refine aC_ rfl rfl (q_assign) ?_
           refine AOps.nil ?_
           refine AWp.ret ?_
           show Fin te Try.f36 _ _
           have hc6 : cutZ z r.nm = [] := Decidable.not_not.1 (of_decide_eq_false h3_6)
           clear h3_6
           refine q_ret (0) [_] [_] ?_
           exact congrArg tf (by rw [inZ_base hbase, restO]; simp [cntS, sameN_nil, *]; first | done | omega | exact decide_eq_true (by omega) | exact decide_eq_false (by omega))
          ·
           refine aC_ rfl rfl (q_move) ?_
           refine aG_ rfl rfl rfl rfl rfl rfl rfl rfl ?_
           refine aG_ rfl rfl rfl rfl rfl rfl rfl rfl ?_
           refine aC_ rfl rfl (q_pick) ?_
           refine aC_ rfl rfl (q_assign) ?_
           refine AOps.nil ?_
           refine AWp.ret ?_
           show Fin te Try.f36 _ _
           have hc6 : cutZ z r.nm = [] := Decidable.not_not.1 (of_decide_eq_false h3_6)
           clear h3_6
           refine q_ret (0) [_] [_] ?_
           exact congrArg tf (by rw [inZ_base hbase, restO]; simp [cntS, sameN_nil, *]; first | done | omega | exact decide_eq_true (by omega) | exact decide_eq_false (by omega))
         ·
          refine aC_ rfl rfl (q_assign) ?_
          refine AOps.nil ?_
          refine AWp.cond_f rfl ?_
          refine AWp.seq ?_
          refine AWp.region ?_
          refine AOps.dec rfl rfl (q_eql) (fun h7_0 => ?_) (fun h7_0 => ?_)
          ·
           refine aC_ rfl rfl (q_assign) ?_
           refine AOps.nil ?_
           refine AWp.cond_t rfl ?_
           refine AWp.seq ?_
           refine AWp.region ?_
           refine aC_ rfl rfl (q_move) ?_
           refine aC_ rfl rfl (q_not) ?_
           refine aC_ rfl rfl (q_move) ?_
           refine aG_ rfl rfl rfl rfl rfl rfl rfl rfl ?_
           refine aG_ rfl rfl rfl rfl rfl rfl rfl rfl ?_
           refine aG_ rfl rfl rfl rfl rfl rfl rfl rfl ?_
           refine aG_ rfl rfl rfl rfl rfl rfl rfl rfl ?_
           refine aC_ rfl rfl (q_pick) ?_
           refine aC_ rfl rfl (q_assign) ?_
           refine AOps.nil ?_
           refine AWp.ret ?_
           show Fin te Try.f36 _ _
           have hc6 : cutZ z r.nm = [] := Decidable.not_not.1 (of_decide_eq_false h3_6)
           clear h3_6
           refine q_ret (0) [_] [_] ?_
           exact congrArg tf (by rw [inZ_base hbase, restO]; simp [cntS, sameN_nil, *]; first | done | omega | exact decide_eq_true (by omega) | exact decide_eq_false (by omega))
          ·
           refine aC_ rfl rfl (q_assign) ?_
           refine AOps.nil ?_
           refine AWp.cond_f rfl ?_
           refine AWp.seq ?_
           refine AWp.region ?_
           refine AOps.dec rfl rfl (q_eql) (fun h9_0 => ?_) (fun h9_0 => ?_)
           ·
            refine aC_ rfl rfl (q_assign) ?_
            refine AOps.nil ?_
            refine AWp.cond_t rfl ?_
            refine AWp.seq ?_
            refine AWp.region ?_
            refine aC_ rfl rfl (q_assign) ?_
            refine AOps.nil ?_
            refine AWp.ret ?_
            show Fin te Try.f36 _ _
            have hc6 : cutZ z r.nm = [] := Decidable.not_not.1 (of_decide_eq_false h3_6)
            clear h3_6
            refine q_ret (0) [_] [_] ?_
            exact congrArg tf (by rw [inZ_base hbase, restO]; simp [cntS, sameN_nil, *]; first | done | omega | exact decide_eq_true (by omega) | exact decide_eq_false (by omega))
           ·
            refine aC_ rfl rfl (q_assign) ?_
            refine AOps.nil ?_
            refine AWp.cond_f rfl ?_
            refine AWp.seq ?_
            refine AWp.region ?_
            refine AOps.dec rfl rfl (q_eql) (fun h11_0 => ?_) (fun h11_0 => ?_)
            ·
             refine aC_ rfl rfl (q_assign) ?_
             refine AOps.nil ?_
             refine AWp.cond_t rfl ?_
             refine AWp.seq ?_
             refine AWp.region ?_
             refine aC_ rfl rfl (q_assign) ?_
             refine AOps.nil ?_
             refine AWp.seq ?_
             refine AWp.seq ?_
             refine AWp.region ?_
             refine aC_ rfl rfl (q_fa) ?_
             refine aC_ rfl rfl (q_load) ?_
             refine aC_ rfl rfl (q_len) ?_
             refine aC_ rfl rfl (q_move) ?_
             refine AOps.nil ?_
             refine AWp.block ?_
             refine AWp.loopR (α := Nat) [7, 9, 86, 87, 88, 89, 90, 91, 92, 93, 94, 95, 96, 97] (fun i => [(86, i64 i), (7, i64 ((z.rs.take i).filter fun o => sameN o.nm r.nm).length)]) (fun i => []) (fun i => i ≤ z.rs.length) (fun i => z.rs.length - i) 0 ?_ (Back.mk' (HasT.cons (HasT.cons HasT.nil)) HasH.nil) ?_
             ·
              exact Nat.zero_le _
             ·
              rintro i hi
              have hfl := filter_len_le (fun o : Rr => sameN o.nm r.nm) z.rs i
              refine AWp.seq ?_
              refine AWp.region ?_
              refine AOps.dec rfl rfl (q_lss) (fun h14_0 => ?_) (fun h14_0 => ?_)
              ·
               refine AOps.nil ?_
               refine AWp.seq ?_
               refine AWp.cond_t rfl ?_
               refine AWp.skip ?_
               refine AWp.seq ?_
               refine AWp.block ?_
               refine AWp.seq ?_
               refine AWp.region ?_
               have hri := hz.2.2 _ (getD_mem' (l := z.rs) (i := i) (by omega))
               refine aC_ rfl rfl (q_ix) ?_
               refine aC_ rfl rfl (q_load) ?_
               refine aC_ rfl rfl (q_alloc 1602) ?_
               refine aC_ rfl rfl (q_store) ?_
               refine AOps.nil ?_
               refine AWp.seq ?_
               refine AWp.region ?_
               refine aC_ rfl rfl (q_fa) ?_
               refine aC_ rfl rfl (q_load) ?_
               refine aC_ rfl rfl (q_fa) ?_
               refine aC_ rfl rfl (q_load) ?_
               refine AOps.bool rfl rfl (q_call (0) (hc := (c_name_Same (z.rs.getD i default).nm r.nm (by omega) (by omega)))) (fun h16_4 => ?_) (fun h16_4 => ?_)
               ·
                refine AOps.nil ?_
                refine AWp.cond_t rfl ?_
                refine AWp.region ?_
                refine aC_ rfl rfl (q_move) ?_
                refine aC_ rfl rfl (q_add) ?_
                refine aC_ rfl rfl (q_assign) ?_
                refine AOps.nil ?_
                refine AWp.region ?_
                refine aC_ rfl rfl (q_add) ?_
                refine aC_ rfl rfl (q_move) ?_
                refine AOps.nil ?_
                refine ⟨i + 1, ?_, Back.mk' (HasT.cons (HasT.cons HasT.nil (h1 := by exact i64_eq (by rw [cnt_step (by omega), if_pos h16_4]; omega)) )) HasH.nil, ?_⟩
                ·
                 first | assumption | omega | decide | (simp; omega) | (simp [*]; done)
                ·
                 first | omega | (simp; omega)
               ·
                refine AOps.nil ?_
                refine AWp.cond_f rfl ?_
                refine AWp.skip ?_
                refine AWp.region ?_
                refine aC_ rfl rfl (q_add) ?_
                refine aC_ rfl rfl (q_move) ?_
                refine AOps.nil ?_
                refine ⟨i + 1, ?_, Back.mk' (HasT.cons (HasT.cons HasT.nil (h1 := by exact i64_eq (by rw [cnt_step (by omega), if_neg (by rw [h16_4]; decide)]; omega)) )) HasH.nil, ?_⟩
                ·
                 first | assumption | omega | decide | (simp; omega) | (simp [*]; done)
                ·
                 first | omega | (simp; omega)
              ·
               refine AOps.nil ?_
               refine AWp.seq ?_
               refine AWp.cond_f rfl ?_
               refine AWp.exit ?_
               refine AWp.seq ?_
               refine AWp.region ?_
               obtain rfl : i = z.rs.length := by omega
               rw [List.take_length]
               refine aC_ rfl rfl (q_move) ?_
               refine AOps.dec rfl rfl (q_eql) (fun h19_1 => ?_) (fun h19_1 => ?_)
               ·
                refine aC_ rfl rfl (q_move) ?_
                refine AOps.gcons rfl rfl rfl rfl rfl (q_move) ?_
                refine AOps.gcons rfl rfl rfl rfl rfl (q_not) ?_
                refine aC_ rfl rfl (q_pick) ?_
                refine aC_ rfl rfl (q_assign) ?_
                refine AOps.nil ?_
                refine AWp.ret ?_
                show Fin te Try.f36 _ _
                have hc6 : cutZ z r.nm = [] := Decidable.not_not.1 (of_decide_eq_false h3_6)
                clear h3_6
                refine q_ret (0) [_] [_] ?_
                exact congrArg tf (by rw [inZ_base hbase, restO]; simp [cntS, sameN_nil, *]; first | done | omega | exact decide_eq_true (by omega) | exact decide_eq_false (by omega))
               ·
                refine aC_ rfl rfl (q_move) ?_
                refine aG_ rfl rfl rfl rfl rfl rfl rfl rfl ?_
                refine aG_ rfl rfl rfl rfl rfl rfl rfl rfl ?_
                refine aC_ rfl rfl (q_pick) ?_
                refine aC_ rfl rfl (q_assign) ?_
                refine AOps.nil ?_
                refine AWp.ret ?_
                show Fin te Try.f36 _ _
                have hc6 : cutZ z r.nm = [] := Decidable.not_not.1 (of_decide_eq_false h3_6)
                clear h3_6
                refine q_ret (0) [_] [_] ?_
                exact congrArg tf (by rw [inZ_base hbase, restO]; simp [cntS, sameN_nil, *]; first | done | omega | exact decide_eq_true (by omega) | exact decide_eq_false (by omega))
            ·
             refine aC_ rfl rfl (q_assign) ?_
             refine AOps.nil ?_
             refine AWp.cond_f rfl ?_
             refine AWp.skip ?_
             refine AWp.seq ?_
             refine AWp.region ?_
             refine aC_ rfl rfl (q_move) ?_
             refine aC_ rfl rfl (q_not) ?_
             refine aC_ rfl rfl (q_assign) ?_
             refine AOps.nil ?_
             refine AWp.ret ?_
             show Fin te Try.f36 _ _
             have hc6 : cutZ z r.nm = [] := Decidable.not_not.1 (of_decide_eq_false h3_6)
             clear h3_6
             refine q_ret (0) [_] [_] ?_
             exact congrArg tf (by rw [inZ_base hbase, restO]; simp [cntS, sameN_nil, *]; first | done | omega | exact decide_eq_true (by omega) | exact decide_eq_false (by omega))
       ·
        refine AOps.gcons rfl rfl rfl rfl rfl (q_not) ?_
        refine aC_ rfl rfl (q_pick) ?_
        refine AOps.nil ?_
        refine AWp.cond_t rfl ?_
        refine AWp.seq ?_
        refine AWp.region ?_
        refine aC_ rfl rfl (q_assign) ?_
        refine AOps.nil ?_
        refine AWp.ret ?_
        show Fin te Try.f36 _ _
        refine q_ret (0) [_] [_] ?_
        exact congrArg tf (by simp [inZ, recO, baseO, restO, cntS, *]; try omega)
 ·
  refine aC_ rfl rfl (q_not) ?_
  refine aC_ rfl rfl (q_move) ?_
  refine aG_ rfl rfl rfl rfl rfl rfl rfl rfl ?_
  refine aG_ rfl rfl rfl rfl rfl rfl rfl rfl ?_
  refine aG_ rfl rfl rfl rfl rfl rfl rfl rfl ?_
  refine aC_ rfl rfl (q_pick) ?_
  refine aC_ rfl rfl (q_move) ?_
  refine aG_ rfl rfl rfl rfl rfl rfl rfl rfl ?_
  refine aG_ rfl rfl rfl rfl rfl rfl rfl rfl ?_
  refine aG_ rfl rfl rfl rfl rfl rfl rfl rfl ?_
  refine aC_ rfl rfl (q_pick) ?_
  refine aC_ rfl rfl (q_move) ?_
  refine aG_ rfl rfl rfl rfl rfl rfl rfl rfl ?_
  refine aG_ rfl rfl rfl rfl rfl rfl rfl rfl ?_
  refine aG_ rfl rfl rfl rfl rfl rfl rfl rfl ?_
  refine aC_ rfl rfl (q_pick) ?_
  refine aC_ rfl rfl (q_move) ?_
  refine aG_ rfl rfl rfl rfl rfl rfl rfl rfl ?_
  refine aG_ rfl rfl rfl rfl rfl rfl rfl rfl ?_
  refine aG_ rfl rfl rfl rfl rfl rfl rfl rfl ?_
  refine aC_ rfl rfl (q_pick) ?_
  refine aC_ rfl rfl (q_move) ?_
  refine aG_ rfl rfl rfl rfl rfl rfl rfl rfl ?_
  refine aG_ rfl rfl rfl rfl rfl rfl rfl rfl ?_
  refine aG_ rfl rfl rfl rfl rfl rfl rfl rfl ?_
  refine aC_ rfl rfl (q_pick) ?_
  refine aC_ rfl rfl (q_move) ?_
  refine aG_ rfl rfl rfl rfl rfl rfl rfl rfl ?_
  refine aG_ rfl rfl rfl rfl rfl rfl rfl rfl ?_
  refine aG_ rfl rfl rfl rfl rfl rfl rfl rfl ?_
  refine aG_ rfl rfl rfl rfl rfl rfl rfl rfl ?_
  refine aG_ rfl rfl rfl rfl rfl rfl rfl rfl ?_
  refine aG_ rfl rfl rfl rfl rfl rfl rfl rfl ?_
  refine aC_ rfl rfl (q_pick) ?_
  refine AOps.nil ?_
  refine AWp.cond_t rfl ?_
  refine AWp.seq ?_
  refine AWp.region ?_
  refine aC_ rfl rfl (q_assign) ?_
  refine AOps.nil ?_
  refine AWp.ret ?_
  show Fin te Try.f36 _ _
  refine q_ret (0) [_] [_] ?_
  exact congrArg tf (by simp [inZ, recO, baseO, restO, cntS, *]; try omega)
end Go.Proofs.Ytokccoloholgaaa.Fw


set_option linter.unusedVariables false
set_option linter.unusedSimpArgs false
namespace Go.Proofs.Ytokccoloholgaaa.Fw
open Go.RowKit
theorem lowN_nil {n : List UInt8} : lowN n = [] ↔ canN n = false := by
  unfold lowN
  cases h : canN n with
  | false => simp
  | true => simp [canN_ne h]
def MetL (t : Tr) (i : Nat) (m : List (List UInt8 × Bool)) : Prop := ∀ a, (mget m a).getD false = decide (a ∈ (t.zs.take i).map fun z => lowN z.o)
theorem MetL.start (t : Tr) : MetL t 0 [] := fun a => by simp [mget]
theorem MetL.step {t : Tr} {i : Nat} {m : List (List UInt8 × Bool)} (h : MetL t i m) (hi : i < t.zs.length) : MetL t (i + 1) (mput m (lowN (t.zs.getD i default).o) true) := fun a => by
  rw [mget_put, map_step hi]
  obtain ⟨x, hx⟩ : ∃ x, x = lowN (t.zs.getD i default).o := ⟨_, rfl⟩
  rw [← hx]
  by_cases e : x = a
  · rw [if_pos e]; simp [e]
  · rw [if_neg e, h a]
    have e2 : ¬ a = x := fun k => e k.symm
    simp [e2]
theorem MetL.any {t : Tr} {i : Nat} {m : List (List UInt8 × Bool)} (h : MetL t i m) {n : List UInt8} (hn : canN n = true) : (mget m (lowN n)).getD false = (t.zs.take i).any fun o => sameN o.o n := by
  rw [h, Bool.eq_iff_iff, decide_eq_true_iff, List.any_eq_true, List.mem_map]
  constructor
  · rintro ⟨z, h1, h2⟩
    have hc : canN z.o = true := by
      cases hc : canN z.o with
      | true => rfl
      | false => rw [lowN_nil.2 hc] at h2; rw [lowN_nil.1 h2.symm] at hn; cases hn
    exact ⟨z, h1, by simp [sameN, hc, hn, h2]⟩
  · rintro ⟨z, h1, h2⟩
    unfold sameN at h2
    simp only [Bool.and_eq_true, decide_eq_true_eq] at h2
    exact ⟨z, h1, h2.2⟩
theorem sum_le {l : List Zo} (h : ∀ z ∈ l, ZoOk z) : sumT l ≤ l.length * 2199023255552 := by
  induction l with
  | nil => simp [sumT]
  | cons z l ih =>
    have h1 := (h z (by simp)).2.1.1
    have h2 := ih fun y hy => h y (by simp [hy])
    have h3 : sumT (z :: l) = z.rs.length + sumT l := by simp [sumT]
    rw [h3, List.length_cons, Nat.succ_mul]; omega
theorem sum_take {t : Tr} (ht : TrOk t) (i : Nat) : sumT (t.zs.take i) ≤ i * 2199023255552 := by
  have h1 := sum_le (l := t.zs.take i) fun z hz => ht.2.1 z (List.mem_of_mem_take hz)
  have h2 := List.length_take_le i t.zs
  exact Nat.le_trans h1 (Nat.mul_le_mul_right _ h2)
section
variable {t : Tr}
theorem canT_1 (h : (t.zs.length : Int) < 1) : canT t = false := by rw [canT, decide_eq_false (by omega)]; rfl
theorem canT_2 (h : 20 < (t.zs.length : Int)) : canT t = false := by rw [canT, decide_eq_false (p := t.zs.length ≤ 20) (by omega), Bool.and_false]; rfl
theorem canT_3 (h : ¬ (t.zs.getD 0 default).o = [0]) : canT t = false := by rw [canT, decide_eq_false (p := (t.zs.getD 0 default).o = [0]) h, Bool.and_false]; rfl
theorem canT_4 (h : srvT t = false) : canT t = false := by rw [canT, h, Bool.and_false]; rfl
theorem canT_5 {j : Nat} (hj : j < t.zs.length) (h : orgO t j = false) : canT t = false := by rw [canT, range_all_no hj h, Bool.and_false]; rfl
theorem canT_6 (h : 400 < (sumT t.zs : Int)) : canT t = false := by rw [canT, decide_eq_false (p := sumT t.zs ≤ 400) (by omega), Bool.and_false]; rfl
theorem canT_7 {j : Nat} (hj : j < t.zs.length) (h : zonO t j = false) : canT t = false := by rw [canT, range_all_no hj h, Bool.and_false]
theorem canT_yes (h1 : ¬ (t.zs.length : Int) < 1) (h2 : ¬ 20 < (t.zs.length : Int)) (h3 : ¬ ¬ (t.zs.getD 0 default).o = [0]) (h4 : srvT t = true) (h5 : ∀ j, j < t.zs.length → orgO t j = true) (h6 : ¬ 400 < (sumT t.zs : Int)) (h7 : ∀ j, j < t.zs.length → zonO t j = true) : canT t = true := by
  rw [Decidable.not_not] at h3
  rw [canT, decide_eq_true (p := 1 ≤ t.zs.length) (by omega), decide_eq_true (p := t.zs.length ≤ 20) (by omega), decide_eq_true h3, h4, range_all_iff.2 h5, decide_eq_true (p := sumT t.zs ≤ 400) (by omega), range_all_iff.2 h7]; rfl
theorem any_not {α : Type} {p : α → Bool} {l : List α} : (l.any fun x => !p x) = !l.all p := by
  induction l with
  | nil => rfl
  | cons a l ih => rw [List.any_cons, List.all_cons, ih, Bool.not_and]
end
set_option maxRecDepth 20000 in
set_option maxHeartbeats 2000000 in
theorem c_zone_Can_1 (r : Rr) (z : Zo) (lv : Nat) (hz : ZoOk z) (hr : r.nm.length ≤ 140737488351232) (hd : r.da.length ≤ 140737488351232) : AC Try.prog 35 [.agg (rrc r), .fp lv (zoC z)] emp (Ret (tf (!inZ z r))) := by
 refine AC.intro te_ok (fn := Try.f35) ⟨Try.func35, rfl, rfl⟩ (Nat.le_of_ble_eq_true rfl) ?_
 refine AWp.seq ?_
 refine AWp.region ?_
 refine aC_ rfl rfl (q_box 100) ?_
 refine aC_ rfl rfl (q_assign) ?_
 refine AOps.nil ?_
 refine AWp.seq ?_
 refine AWp.region ?_
 refine aC_ rfl rfl (q_load) ?_
 refine aC_ rfl rfl (q_load) ?_
 refine aC_ rfl rfl (q_call (lv) (hc := (c_zone_inZone z r hz hr hd))) ?_
 refine aC_ rfl rfl (q_not) ?_
 refine aC_ rfl rfl (q_assign) ?_
 refine AOps.nil ?_
 refine AWp.ret ?_
 show Fin te Try.f35 _ _
 refine q_ret (0) [_] [_] ?_
 rfl
set_option maxRecDepth 20000 in
set_option maxHeartbeats 2000000 in
theorem c_zone_Can (t : Tr) (ht : TrOk t) : AC Try.prog 10 [.agg (trC t)] emp (Ret (tf (canT t))) := by
 have hb1 := ht.1
 have hsum := sum_take ht
 refine AC.intro te_ok (fn := Try.f10) ⟨Try.func10, rfl, rfl⟩ (Nat.le_of_ble_eq_true rfl) ?_
 refine AWp.seq ?_
 refine AWp.region ?_
 refine aC_ rfl rfl (q_box 100) ?_
 refine aC_ rfl rfl (q_assign) ?_
 refine AOps.nil ?_
 refine AWp.seq ?_
 refine AWp.seq ?_
 refine AWp.region ?_
 refine aC_ rfl rfl (q_fa) ?_
 refine aC_ rfl rfl (q_load) ?_
 refine aC_ rfl rfl (q_len) ?_
 refine AOps.dec rfl rfl (q_lss) (fun h1_3 => ?_) (fun h1_3 => ?_)
 ·
  refine aC_ rfl rfl (q_move) ?_
  refine aG_ rfl rfl rfl rfl rfl rfl rfl rfl ?_
  refine aG_ rfl rfl rfl rfl rfl rfl rfl rfl ?_
  refine aG_ rfl rfl rfl rfl rfl rfl rfl rfl ?_
  refine aG_ rfl rfl rfl rfl rfl rfl rfl rfl ?_
  refine aC_ rfl rfl (q_pick) ?_
  refine aC_ rfl rfl (q_move) ?_
  refine aG_ rfl rfl rfl rfl rfl rfl rfl rfl ?_
  refine aG_ rfl rfl rfl rfl rfl rfl rfl rfl ?_
  refine aG_ rfl rfl rfl rfl rfl rfl rfl rfl ?_
  refine aG_ rfl rfl rfl rfl rfl rfl rfl rfl ?_
  refine aG_ rfl rfl rfl rfl rfl rfl rfl rfl ?_
  refine aG_ rfl rfl rfl rfl rfl rfl rfl rfl ?_
  refine aC_ rfl rfl (q_pick) ?_
  refine aC_ rfl rfl (q_move) ?_
  refine aG_ rfl rfl rfl rfl rfl rfl rfl rfl ?_
  refine aG_ rfl rfl rfl rfl rfl rfl rfl rfl ?_
  refine aG_ rfl rfl rfl rfl rfl rfl rfl rfl ?_
  refine aC_ rfl rfl (q_pick) ?_
  refine AOps.nil ?_
  refine AWp.cond_t rfl ?_
  refine AWp.seq ?_
  refine AWp.region ?_
  refine aC_ rfl rfl (q_assign) ?_
  refine AOps.nil ?_
  refine AWp.ret ?_
  show Fin te Try.f10 _ _
  refine q_ret (0) [_] [_] ?_
  exact congrArg tf (canT_1 h1_3).symm
 ·
  refine aC_ rfl rfl (q_move) ?_
  refine AOps.gcons rfl rfl rfl rfl rfl (q_fa) ?_
  refine AOps.gcons rfl rfl rfl rfl rfl (q_load) ?_
  refine AOps.gcons rfl rfl rfl rfl rfl (q_len) ?_
  refine AOps.gdec rfl rfl rfl rfl rfl (q_gtr) (fun h1_8 => ?_) (fun h1_8 => ?_)
  ·
   refine aC_ rfl rfl (q_pick) ?_
   refine aC_ rfl rfl (q_move) ?_
   refine aG_ rfl rfl rfl rfl rfl rfl rfl rfl ?_
   refine aG_ rfl rfl rfl rfl rfl rfl rfl rfl ?_
   refine aG_ rfl rfl rfl rfl rfl rfl rfl rfl ?_
   refine aG_ rfl rfl rfl rfl rfl rfl rfl rfl ?_
   refine aG_ rfl rfl rfl rfl rfl rfl rfl rfl ?_
   refine aG_ rfl rfl rfl rfl rfl rfl rfl rfl ?_
   refine aC_ rfl rfl (q_pick) ?_
   refine aC_ rfl rfl (q_move) ?_
   refine aG_ rfl rfl rfl rfl rfl rfl rfl rfl ?_
   refine aG_ rfl rfl rfl rfl rfl rfl rfl rfl ?_
   refine aG_ rfl rfl rfl rfl rfl rfl rfl rfl ?_
   refine aC_ rfl rfl (q_pick) ?_
   refine AOps.nil ?_
   refine AWp.cond_t rfl ?_
   refine AWp.seq ?_
   refine AWp.region ?_
   refine aC_ rfl rfl (q_assign) ?_
   refine AOps.nil ?_
   refine AWp.ret ?_
   show Fin te Try.f10 _ _
   refine q_ret (0) [_] [_] ?_
   exact congrArg tf (canT_2 h1_8).symm
  ·
   refine aC_ rfl rfl (q_pick) ?_
   refine aC_ rfl rfl (q_move) ?_
   refine AOps.gcons rfl rfl rfl rfl rfl (q_fa) ?_
   refine AOps.gcons rfl rfl rfl rfl rfl (q_load) ?_
   refine AOps.gcons rfl rfl rfl rfl rfl (q_ix) ?_
   refine AOps.gcons rfl rfl rfl rfl rfl (q_fa) ?_
   refine AOps.gcons rfl rfl rfl rfl rfl (q_load) ?_
   refine AOps.gdec rfl rfl rfl rfl rfl (q_sneq) (fun h1_16 => ?_) (fun h1_16 => ?_)
   ·
    refine aC_ rfl rfl (q_pick) ?_
    refine aC_ rfl rfl (q_move) ?_
    refine aG_ rfl rfl rfl rfl rfl rfl rfl rfl ?_
    refine aG_ rfl rfl rfl rfl rfl rfl rfl rfl ?_
    refine aG_ rfl rfl rfl rfl rfl rfl rfl rfl ?_
    refine aC_ rfl rfl (q_pick) ?_
    refine AOps.nil ?_
    refine AWp.cond_t rfl ?_
    refine AWp.seq ?_
    refine AWp.region ?_
    refine aC_ rfl rfl (q_assign) ?_
    refine AOps.nil ?_
    refine AWp.ret ?_
    show Fin te Try.f10 _ _
    refine q_ret (0) [_] [_] ?_
    exact congrArg tf (canT_3 h1_16).symm
   ·
    refine aC_ rfl rfl (q_pick) ?_
    refine aC_ rfl rfl (q_move) ?_
    refine AOps.gcons rfl rfl rfl rfl rfl (q_load) ?_
    refine AOps.gbool rfl rfl rfl rfl rfl (q_call (0) (hc := (c_zone_served t ht))) (fun h1_20 => ?_) (fun h1_20 => ?_)
    ·
     refine AOps.gcons rfl rfl rfl rfl rfl (q_not) ?_
     refine aC_ rfl rfl (q_pick) ?_
     refine AOps.nil ?_
     refine AWp.cond_f rfl ?_
     refine AWp.skip ?_
     refine AWp.seq ?_
     refine AWp.region ?_
     refine aC_ rfl rfl (q_makeMap 400 MStr (fun b : Bool => tf b)) ?_
     refine aC_ rfl rfl (q_assign) ?_
     refine AOps.nil ?_
     refine AWp.seq ?_
     refine AWp.region ?_
     refine aC_ rfl rfl (q_assign) ?_
     refine AOps.nil ?_
     refine AWp.seq ?_
     refine AWp.seq ?_
     refine AWp.region ?_
     refine aC_ rfl rfl (q_fa) ?_
     refine aC_ rfl rfl (q_load) ?_
     refine aC_ rfl rfl (q_len) ?_
     refine aC_ rfl rfl (q_move) ?_
     refine AOps.nil ?_
     refine AWp.block ?_
     refine AWp.loopR (α := Nat × List (List UInt8 × Bool)) [2, 4, 6, 7, 38, 39, 40, 41, 42, 43, 44, 45, 46, 47, 48, 49, 50, 51, 52, 53, 54, 55, 56, 57, 58, 59] (fun x_ => [(38, i64 (x_.1)), (4, i64 (sumT (t.zs.take (x_.1))))]) (fun x_ => [(400, .map (me MStr (fun b : Bool => tf b) (x_.2)))]) (fun x_ => (x_.1) ≤ t.zs.length ∧ MetL t (x_.1) (x_.2) ∧ ∀ j, j < (x_.1) → orgO t j = true) (fun x_ => t.zs.length - (x_.1)) (0, []) ?_ (Back.mk' (HasT.cons (HasT.cons HasT.nil)) (HasH.cons HasH.nil (h2 := by exact objIn_me (fun _ => rfl)) )) ?_
     ·
      exact ⟨Nat.zero_le _, MetL.start t, fun j hj => absurd hj (Nat.not_lt_zero j)⟩
     ·
      rintro ⟨i, m⟩ hI6
      change i ≤ t.zs.length ∧ MetL t i m ∧ ∀ j, j < i → orgO t j = true at hI6
      obtain ⟨hi, hm, hc⟩ := hI6
      refine AWp.as (s' := AS.over _ [2, 4, 6, 7, 38, 39, 40, 41, 42, 43, 44, 45, 46, 47, 48, 49, 50, 51, 52, 53, 54, 55, 56, 57, 58, 59] [(38, i64 i), (4, i64 (sumT (t.zs.take i)))] [(400, .map (me MStr (fun b : Bool => tf b) m))]) rfl ?_
      have hsi := hsum i
      refine AWp.seq ?_
      refine AWp.region ?_
      refine AOps.dec rfl rfl (q_lss) (fun h6_0 => ?_) (fun h6_0 => ?_)
      ·
       refine AOps.nil ?_
       refine AWp.seq ?_
       refine AWp.cond_t rfl ?_
       refine AWp.skip ?_
       refine AWp.seq ?_
       refine AWp.block ?_
       refine AWp.seq ?_
       refine AWp.region ?_
       refine aC_ rfl rfl (q_ix) ?_
       refine aC_ rfl rfl (q_load) ?_
       refine aC_ rfl rfl (q_alloc 802) ?_
       refine aC_ rfl rfl (q_store) ?_
       refine AOps.nil ?_
       refine AWp.seq ?_
       refine AWp.region ?_
       have hzi := ht.2.1 _ (getD_mem' (l := t.zs) (i := i) (by omega))
       have hzl := hzi.1
       refine aC_ rfl rfl (q_fa) ?_
       refine aC_ rfl rfl (q_load) ?_
       refine aC_ rfl rfl (q_call (0) (hc := (c_name_Lower (t.zs.getD i default).o (by omega)))) ?_
       refine aC_ rfl rfl (q_assign) ?_
       refine AOps.nil ?_
       refine AWp.seq ?_
       refine AWp.seq ?_
       refine AWp.region ?_
       refine aC_ rfl rfl (q_move) ?_
       refine AOps.dec rfl rfl (q_seql) (fun h9_1 => ?_) (fun h9_1 => ?_)
       ·
        refine aC_ rfl rfl (q_move) ?_
        refine aG_ rfl rfl rfl rfl rfl rfl rfl rfl ?_
        refine aG_ rfl rfl rfl rfl rfl rfl rfl rfl ?_
        refine aG_ rfl rfl rfl rfl rfl rfl rfl rfl ?_
        refine aC_ rfl rfl (q_pick) ?_
        refine AOps.nil ?_
        refine AWp.cond_t rfl ?_
        refine AWp.seq ?_
        refine AWp.region ?_
        refine aC_ rfl rfl (q_assign) ?_
        refine AOps.nil ?_
        refine AWp.ret ?_
        show Fin te Try.f10 _ _
        refine q_ret (0) [_] [_] ?_
        exact congrArg tf (canT_5 (j := i) (by omega) (by rw [orgO, lowN_nil.1 h9_1]; rfl)).symm
       ·
        refine aC_ rfl rfl (q_move) ?_
        refine AOps.gcons rfl rfl rfl rfl rfl (q_move) ?_
        refine AOps.gcons rfl rfl rfl rfl rfl (q_move) ?_
        refine AOps.gbool rfl rfl rfl rfl rfl (q_lookup MStr) (fun h9_5 => ?_) (fun h9_5 => ?_)
        ·
         refine aC_ rfl rfl (q_pick) ?_
         refine AOps.nil ?_
         refine AWp.cond_t rfl ?_
         refine AWp.seq ?_
         refine AWp.region ?_
         refine aC_ rfl rfl (q_assign) ?_
         refine AOps.nil ?_
         refine AWp.ret ?_
         show Fin te Try.f10 _ _
         refine q_ret (0) [_] [_] ?_
         have hcn : canN (t.zs.getD i default).o = true := by
           cases hcn : canN (t.zs.getD i default).o with
           | true => rfl
           | false => exact absurd (lowN_nil.2 hcn) h9_1
         exact congrArg tf (canT_5 (j := i) (by omega) (by rw [orgO, ← hm.any hcn, h9_5, Bool.not_true, Bool.and_false])).symm
        ·
         refine aC_ rfl rfl (q_pick) ?_
         refine AOps.nil ?_
         refine AWp.cond_f rfl ?_
         refine AWp.skip ?_
         refine AWp.seq ?_
         refine AWp.region ?_
         have hcn : canN (t.zs.getD i default).o = true := by
           cases hcn : canN (t.zs.getD i default).o with
           | true => rfl
           | false => exact absurd (lowN_nil.2 hcn) h9_1
         refine aC_ rfl rfl (q_move) ?_
         refine aC_ rfl rfl (q_move) ?_
         refine aC_ rfl rfl (q_mapUpdate MStr true) ?_
         refine AOps.nil ?_
         refine AWp.region ?_
         have hrl : (t.zs.getD i default).rs.length * 64 ≤ 140737488351232 := hzi.2.1.1
         have hrl2 : (t.zs[i]?.getD default).rs.length * 64 ≤ 140737488351232 := by rw [← List.getD_eq_getElem?_getD]; exact hrl
         have hrl3 : (t.zs.getD (i : Int).toNat default).rs.length = (t.zs.getD i default).rs.length := rfl
         refine aC_ rfl rfl (q_move) ?_
         refine aC_ rfl rfl (q_fa) ?_
         refine aC_ rfl rfl (q_load) ?_
         refine aC_ rfl rfl (q_len) ?_
         refine aC_ rfl rfl (q_add) ?_
         refine aC_ rfl rfl (q_assign) ?_
         refine AOps.nil ?_
         refine AWp.region ?_
         refine aC_ rfl rfl (q_add) ?_
         refine aC_ rfl rfl (q_move) ?_
         refine AOps.nil ?_
         refine ⟨(i + 1, mput m (lowN (t.zs.getD i default).o) true), ?_, Back.mk' (HasT.cons (HasT.cons HasT.nil (h1 := by exact i64_eq (by rw [sum_step (by omega)]; omega)) )) (HasH.cons HasH.nil (h2 := by exact objIn_me (fun _ => rfl)) ), ?_⟩
         ·
          try dsimp only
          exact ⟨by omega, hm.step (by omega), lt_step hc (by rw [orgO, hcn, ← hm.any hcn, h9_5]; rfl)⟩
         ·
          try dsimp only
          first | omega | (simp; omega)
      ·
       refine AOps.nil ?_
       refine AWp.seq ?_
       refine AWp.cond_f rfl ?_
       refine AWp.exit ?_
       refine AWp.seq ?_
       refine AWp.seq ?_
       refine AWp.region ?_
       obtain rfl : i = t.zs.length := by omega
       rw [List.take_length]
       refine aC_ rfl rfl (q_move) ?_
       refine AOps.dec rfl rfl (q_gtr) (fun h14_1 => ?_) (fun h14_1 => ?_)
       ·
        refine AOps.nil ?_
        refine AWp.cond_t rfl ?_
        refine AWp.seq ?_
        refine AWp.region ?_
        refine aC_ rfl rfl (q_assign) ?_
        refine AOps.nil ?_
        refine AWp.ret ?_
        show Fin te Try.f10 _ _
        refine q_ret (0) [_] [_] ?_
        exact congrArg tf (canT_6 h14_1).symm
       ·
        refine AOps.nil ?_
        refine AWp.cond_f rfl ?_
        refine AWp.skip ?_
        refine AWp.seq ?_
        refine AWp.region ?_
        refine aC_ rfl rfl (q_load) ?_
        refine aC_ rfl rfl (q_call (0) (hc := (c_zone_parents t ht))) ?_
        refine aC_ rfl rfl (q_assign) ?_
        refine AOps.nil ?_
        refine AWp.seq ?_
        refine AWp.seq ?_
        refine AWp.region ?_
        refine aC_ rfl rfl (q_fa) ?_
        refine aC_ rfl rfl (q_load) ?_
        refine aC_ rfl rfl (q_len) ?_
        refine aC_ rfl rfl (q_move) ?_
        refine AOps.nil ?_
        refine AWp.block ?_
        refine AWp.loopR (α := Nat) [2, 9, 10, 67, 68, 69, 70, 71, 72, 73, 74, 75, 76, 77, 78, 79, 80, 81, 82, 83, 84, 85, 86, 87, 88, 89, 90, 91, 92, 93, 94, 95, 96, 97] (fun i => [(67, i64 i)]) (fun i => []) (fun i => i ≤ t.zs.length ∧ ∀ j, j < i → zonO t j = true) (fun i => t.zs.length - i) 0 ?_ (Back.mk' (HasT.cons HasT.nil) HasH.nil) ?_
        ·
         exact ⟨Nat.zero_le _, fun j hj => absurd hj (Nat.not_lt_zero j)⟩
        ·
         rintro i ⟨hi, hz⟩
         refine AWp.seq ?_
         refine AWp.region ?_
         refine AOps.dec rfl rfl (q_lss) (fun h18_0 => ?_) (fun h18_0 => ?_)
         ·
          refine AOps.nil ?_
          refine AWp.seq ?_
          refine AWp.cond_t rfl ?_
          refine AWp.skip ?_
          refine AWp.seq ?_
          refine AWp.block ?_
          refine AWp.seq ?_
          refine AWp.region ?_
          have hzi := ht.2.1 _ (getD_mem' (l := t.zs) (i := i) (by omega))
          have hzl := hzi.1
          have hrl : (t.zs.getD i default).rs.length * 64 ≤ 140737488351232 := hzi.2.1.1
          refine aC_ rfl rfl (q_move) ?_
          refine aC_ rfl rfl (q_ix) ?_
          refine aC_ rfl rfl (q_load) ?_
          refine aC_ rfl rfl (q_alloc 2003) ?_
          refine aC_ rfl rfl (q_assign) ?_
          refine aC_ rfl rfl (q_store) ?_
          refine AOps.nil ?_
          refine AWp.seq ?_
          refine AWp.seq ?_
          refine AWp.region ?_
          refine aC_ rfl rfl (q_fa) ?_
          refine aC_ rfl rfl (q_load) ?_
          refine aC_ rfl rfl (q_makeFunc [] [_]) ?_
          refine AOps.bool rfl rfl (q_call (0) (hc := (c_ContainsFunc_rr (t.zs.getD i default).rs 0 0 1 [.fp 1 (zoC (t.zs.getD i default))] (fun r => !inZ (t.zs.getD i default) r) (by omega) rfl (fun r hr => c_zone_Can_1 r (t.zs.getD i default) 1 hzi (hzi.2.2 r hr) (hzi.2.1.2 r hr))))) (fun h20_3 => ?_) (fun h20_3 => ?_)
          ·
           refine AOps.nil ?_
           refine AWp.cond_t rfl ?_
           refine AWp.seq ?_
           refine AWp.region ?_
           refine aC_ rfl rfl (q_assign) ?_
           refine AOps.nil ?_
           refine AWp.ret ?_
           show Fin te Try.f10 _ _
           refine q_ret (0) [_] [_] ?_
           have hall : (t.zs.getD i default).rs.all (inZ (t.zs.getD i default)) = false := by rw [any_not] at h20_3; simpa using h20_3
           exact congrArg tf (canT_7 (j := i) (by omega) (by rw [zonO, hall]; rfl)).symm
          ·
           refine AOps.nil ?_
           refine AWp.cond_f rfl ?_
           refine AWp.skip ?_
           refine AWp.seq ?_
           refine AWp.region ?_
           have hall : (t.zs.getD i default).rs.all (inZ (t.zs.getD i default)) = true := by rw [any_not] at h20_3; simpa using h20_3
           refine aC_ rfl rfl (q_load) ?_
           refine aC_ rfl rfl (q_fa) ?_
           refine aC_ rfl rfl (q_load) ?_
           refine aC_ rfl rfl (q_call (0) (hc := (c_zone_at (t.zs.getD i default) (t.zs.getD i default).o 6 hzi hzl))) ?_
           refine aC_ rfl rfl (q_len) ?_
           refine AOps.dec rfl rfl (q_neq) (fun h22_5 => ?_) (fun h22_5 => ?_)
           ·
            refine aC_ rfl rfl (q_move) ?_
            refine aG_ rfl rfl rfl rfl rfl rfl rfl rfl ?_
            refine aG_ rfl rfl rfl rfl rfl rfl rfl rfl ?_
            refine aG_ rfl rfl rfl rfl rfl rfl rfl rfl ?_
            refine aG_ rfl rfl rfl rfl rfl rfl rfl rfl ?_
            refine aG_ rfl rfl rfl rfl rfl rfl rfl rfl ?_
            refine aG_ rfl rfl rfl rfl rfl rfl rfl rfl ?_
            refine aC_ rfl rfl (q_pick) ?_
            refine aC_ rfl rfl (q_move) ?_
            refine aG_ rfl rfl rfl rfl rfl rfl rfl rfl ?_
            refine aG_ rfl rfl rfl rfl rfl rfl rfl rfl ?_
            refine aG_ rfl rfl rfl rfl rfl rfl rfl rfl ?_
            refine aG_ rfl rfl rfl rfl rfl rfl rfl rfl ?_
            refine aG_ rfl rfl rfl rfl rfl rfl rfl rfl ?_
            refine aC_ rfl rfl (q_pick) ?_
            refine AOps.nil ?_
            refine AWp.cond_t rfl ?_
            refine AWp.seq ?_
            refine AWp.region ?_
            refine aC_ rfl rfl (q_assign) ?_
            refine AOps.nil ?_
            refine AWp.ret ?_
            show Fin te Try.f10 _ _
            refine q_ret (0) [_] [_] ?_
            exact congrArg tf (canT_7 (j := i) (by omega) (by rw [zonO, decide_eq_false (p := (atZ (t.zs.getD i default) (t.zs.getD i default).o 6).length = 1) (by omega), Bool.and_false]; rfl)).symm
           ·
            refine aC_ rfl rfl (q_move) ?_
            refine AOps.gcons rfl rfl rfl rfl rfl (q_load) ?_
            refine AOps.gcons rfl rfl rfl rfl rfl (q_fa) ?_
            refine AOps.gcons rfl rfl rfl rfl rfl (q_load) ?_
            refine AOps.gcons rfl rfl rfl rfl rfl (q_call (0) (hc := (c_zone_at (t.zs.getD i default) (t.zs.getD i default).o 2 hzi hzl))) ?_
            refine AOps.gcons rfl rfl rfl rfl rfl (q_len) ?_
            refine AOps.gdec rfl rfl rfl rfl rfl (q_lss) (fun h22_12 => ?_) (fun h22_12 => ?_)
            ·
             refine aC_ rfl rfl (q_pick) ?_
             refine aC_ rfl rfl (q_move) ?_
             refine aG_ rfl rfl rfl rfl rfl rfl rfl rfl ?_
             refine aG_ rfl rfl rfl rfl rfl rfl rfl rfl ?_
             refine aG_ rfl rfl rfl rfl rfl rfl rfl rfl ?_
             refine aG_ rfl rfl rfl rfl rfl rfl rfl rfl ?_
             refine aG_ rfl rfl rfl rfl rfl rfl rfl rfl ?_
             refine aC_ rfl rfl (q_pick) ?_
             refine AOps.nil ?_
             refine AWp.cond_t rfl ?_
             refine AWp.seq ?_
             refine AWp.region ?_
             refine aC_ rfl rfl (q_assign) ?_
             refine AOps.nil ?_
             refine AWp.ret ?_
             show Fin te Try.f10 _ _
             refine q_ret (0) [_] [_] ?_
             exact congrArg tf (canT_7 (j := i) (by omega) (by rw [zonO, decide_eq_false (p := 1 ≤ (atZ (t.zs.getD i default) (t.zs.getD i default).o 2).length) (by omega), Bool.and_false]; rfl)).symm
            ·
             refine aC_ rfl rfl (q_pick) ?_
             refine aC_ rfl rfl (q_move) ?_
             refine AOps.gcons rfl rfl rfl rfl rfl (q_load) ?_
             refine AOps.gcons rfl rfl rfl rfl rfl (q_move) ?_
             refine AOps.gcons rfl rfl rfl rfl rfl (q_move) ?_
             refine AOps.gbool rfl rfl rfl rfl rfl (q_call (0) (hc := (c_zone_joined t (parT t) i 0 ht (parT_len t) ⟨by omega, by omega⟩))) (fun h22_18 => ?_) (fun h22_18 => ?_)
             ·
              refine AOps.gcons rfl rfl rfl rfl rfl (q_not) ?_
              refine aC_ rfl rfl (q_pick) ?_
              refine AOps.nil ?_
              refine AWp.cond_f rfl ?_
              refine AWp.skip ?_
              refine AWp.region ?_
              refine aC_ rfl rfl (q_add) ?_
              refine aC_ rfl rfl (q_move) ?_
              refine AOps.nil ?_
              refine ⟨i + 1, ?_, Back.mk' (HasT.cons HasT.nil) HasH.nil, ?_⟩
              ·
               exact ⟨by omega, lt_step hz (by rw [zonO, hall, decide_eq_true (by omega), decide_eq_true (by omega), h22_18]; rfl)⟩
              ·
               first | omega | (simp; omega)
             ·
              refine AOps.gcons rfl rfl rfl rfl rfl (q_not) ?_
              refine aC_ rfl rfl (q_pick) ?_
              refine AOps.nil ?_
              refine AWp.cond_t rfl ?_
              refine AWp.seq ?_
              refine AWp.region ?_
              refine aC_ rfl rfl (q_assign) ?_
              refine AOps.nil ?_
              refine AWp.ret ?_
              show Fin te Try.f10 _ _
              refine q_ret (0) [_] [_] ?_
              exact congrArg tf (canT_7 (j := i) (by omega) (by rw [zonO, h22_18, Bool.and_false])).symm
         ·
          refine AOps.nil ?_
          refine AWp.seq ?_
          refine AWp.cond_f rfl ?_
          refine AWp.exit ?_
          refine AWp.seq ?_
          refine AWp.region ?_
          refine aC_ rfl rfl (q_assign) ?_
          refine AOps.nil ?_
          refine AWp.ret ?_
          show Fin te Try.f10 _ _
          refine q_ret (0) [_] [_] ?_
          obtain rfl : i = t.zs.length := by omega
          exact congrArg tf (canT_yes h1_3 h1_8 h1_16 h1_20 hc h14_1 hz).symm
    ·
     refine AOps.gcons rfl rfl rfl rfl rfl (q_not) ?_
     refine aC_ rfl rfl (q_pick) ?_
     refine AOps.nil ?_
     refine AWp.cond_t rfl ?_
     refine AWp.seq ?_
     refine AWp.region ?_
     refine aC_ rfl rfl (q_assign) ?_
     refine AOps.nil ?_
     refine AWp.ret ?_
     show Fin te Try.f10 _ _
     refine q_ret (0) [_] [_] ?_
     exact congrArg tf (canT_4 h1_20).symm
end Go.Proofs.Ytokccoloholgaaa.Fw


set_option linter.unusedVariables false
set_option linter.unusedSimpArgs false
namespace Go.Proofs.Ytokccoloholgaaa.Fw
open Go.RowKit
theorem cut_back {b : List UInt8} (h : cutO b = true) : b = cutM b ++ cutR b ∧ canN (cutM b) = true := by
  rw [cutM, cutR, if_pos h, if_pos h, List.take_append_drop]
  simp only [cutO, Bool.and_eq_true] at h
  exact ⟨rfl, h.2⟩
theorem namR_le (t : Int) (d : List UInt8) : (namR t d).length ≤ 1 := by
  unfold namR
  split
  · split
    · simp
    · split <;> simp
  · simp
theorem namS_le (t : Int) (d : List UInt8) : (namS t d).length ≤ 2 := by
  have := namR_le t d
  unfold namS
  split
  · split <;> simp
  · omega
set_option maxRecDepth 20000 in
set_option maxHeartbeats 2000000 in
theorem c_ciceroneref03_Can (t : Int) (b : List UInt8) (lv : Nat) (h : b.length ≤ 140737488351232) : AC Try.prog 85 [i64 t, .fz lv b.length (cl bc b)] emp (Ret (tf (canS t b))) := by
 refine AC.intro te_ok (fn := Try.f85) ⟨Try.func85, rfl, rfl⟩ (Nat.le_of_ble_eq_true rfl) ?_
 refine AWp.seq ?_
 refine AWp.region ?_
 refine aC_ rfl rfl (q_assign) ?_
 refine AOps.nil ?_
 refine AWp.seq ?_
 refine AWp.seq ?_
 refine AWp.region ?_
 refine aC_ rfl rfl (q_move) ?_
 refine AOps.dec rfl rfl (q_lss) (fun h1_1 => ?_) (fun h1_1 => ?_)
 ·
  refine aC_ rfl rfl (q_move) ?_
  refine aG_ rfl rfl rfl rfl rfl rfl rfl rfl ?_
  refine aG_ rfl rfl rfl rfl rfl rfl rfl rfl ?_
  refine aC_ rfl rfl (q_pick) ?_
  refine aC_ rfl rfl (q_move) ?_
  refine aG_ rfl rfl rfl rfl rfl rfl rfl rfl ?_
  refine aG_ rfl rfl rfl rfl rfl rfl rfl rfl ?_
  refine aG_ rfl rfl rfl rfl rfl rfl rfl rfl ?_
  refine aC_ rfl rfl (q_pick) ?_
  refine AOps.nil ?_
  refine AWp.cond_t rfl ?_
  refine AWp.seq ?_
  refine AWp.region ?_
  refine aC_ rfl rfl (q_assign) ?_
  refine AOps.nil ?_
  refine AWp.ret ?_
  show Fin te Try.f85 _ _
  refine q_ret (0) [_] [_] ?_
  rw [canS_ne (by omega), canR, if_pos (by omega)]; rfl
 ·
  refine aC_ rfl rfl (q_move) ?_
  refine AOps.gcons rfl rfl rfl rfl rfl (q_move) ?_
  refine AOps.gdec rfl rfl rfl rfl rfl (q_gtr) (fun h1_4 => ?_) (fun h1_4 => ?_)
  ·
   refine aC_ rfl rfl (q_pick) ?_
   refine aC_ rfl rfl (q_move) ?_
   refine aG_ rfl rfl rfl rfl rfl rfl rfl rfl ?_
   refine aG_ rfl rfl rfl rfl rfl rfl rfl rfl ?_
   refine aG_ rfl rfl rfl rfl rfl rfl rfl rfl ?_
   refine aC_ rfl rfl (q_pick) ?_
   refine AOps.nil ?_
   refine AWp.cond_t rfl ?_
   refine AWp.seq ?_
   refine AWp.region ?_
   refine aC_ rfl rfl (q_assign) ?_
   refine AOps.nil ?_
   refine AWp.ret ?_
   show Fin te Try.f85 _ _
   refine q_ret (0) [_] [_] ?_
   rw [canS_ne (by omega), canR, if_pos (by omega)]; rfl
  ·
   refine aC_ rfl rfl (q_pick) ?_
   refine aC_ rfl rfl (q_move) ?_
   refine AOps.gcons rfl rfl rfl rfl rfl (q_move) ?_
   refine AOps.gcons rfl rfl rfl rfl rfl (q_len) ?_
   refine AOps.gdec rfl rfl rfl rfl rfl (q_gtr) (fun h1_9 => ?_) (fun h1_9 => ?_)
   ·
    refine aC_ rfl rfl (q_pick) ?_
    refine AOps.nil ?_
    refine AWp.cond_t rfl ?_
    refine AWp.seq ?_
    refine AWp.region ?_
    refine aC_ rfl rfl (q_assign) ?_
    refine AOps.nil ?_
    refine AWp.ret ?_
    show Fin te Try.f85 _ _
    refine q_ret (0) [_] [_] ?_
    by_cases h6 : t = 6
    · subst h6; rw [canS_6n (by omega)]; rfl
    · rw [canS_ne h6, canR, if_pos (by omega)]; rfl
   ·
    refine aC_ rfl rfl (q_pick) ?_
    refine AOps.nil ?_
    refine AWp.cond_f rfl ?_
    refine AWp.skip ?_
    refine AWp.seq ?_
    refine AWp.seq ?_
    refine AWp.region ?_
    have hne : t ≠ 6 → canS t b = canR t b := canS_ne
    refine aC_ rfl rfl (q_move) ?_
    refine AOps.nil ?_
    refine AWp.block ?_
    refine AWp.seq ?_
    refine AWp.region ?_
    refine AOps.dec rfl rfl (q_eql) (fun h4_0 => ?_) (fun h4_0 => ?_)
    ·
     refine aC_ rfl rfl (q_assign) ?_
     refine AOps.nil ?_
     refine AWp.cond_t rfl ?_
     refine AWp.seq ?_
     refine AWp.region ?_
     refine aC_ rfl rfl (q_move) ?_
     refine aC_ rfl rfl (q_len) ?_
     refine aC_ rfl rfl (q_eql) ?_
     refine aC_ rfl rfl (q_assign) ?_
     refine AOps.nil ?_
     refine AWp.ret ?_
     show Fin te Try.f85 _ _
     refine q_ret (0) [_] [_] ?_
     rw [canS_ne (by omega), canR, if_neg (by omega), if_pos h4_0]; exact congrArg tf (decide_eq_decide.2 (by omega))
    ·
     refine aC_ rfl rfl (q_assign) ?_
     refine AOps.nil ?_
     refine AWp.cond_f rfl ?_
     refine AWp.seq ?_
     refine AWp.region ?_
     refine AOps.dec rfl rfl (q_eql) (fun h6_0 => ?_) (fun h6_0 => ?_)
     ·
      refine aC_ rfl rfl (q_assign) ?_
      refine AOps.nil ?_
      refine AWp.cond_t rfl ?_
      refine AWp.seq ?_
      refine AWp.region ?_
      refine aC_ rfl rfl (q_move) ?_
      refine aC_ rfl rfl (q_len) ?_
      refine aC_ rfl rfl (q_eql) ?_
      refine aC_ rfl rfl (q_assign) ?_
      refine AOps.nil ?_
      refine AWp.ret ?_
      show Fin te Try.f85 _ _
      refine q_ret (0) [_] [_] ?_
      rw [canS_ne (by omega), canR, if_neg (by omega), if_neg h4_0, if_pos h6_0]; exact congrArg tf (decide_eq_decide.2 (by omega))
     ·
      refine aC_ rfl rfl (q_assign) ?_
      refine AOps.nil ?_
      refine AWp.cond_f rfl ?_
      refine AWp.seq ?_
      refine AWp.seq ?_
      refine AWp.region ?_
      refine AOps.dec rfl rfl (q_eql) (fun h8_0 => ?_) (fun h8_0 => ?_)
      ·
       refine aC_ rfl rfl (q_assign) ?_
       refine AOps.nil ?_
       refine AWp.cond_t rfl ?_
       refine AWp.skip ?_
       refine AWp.cond_t rfl ?_
       refine AWp.seq ?_
       refine AWp.region ?_
       refine aC_ rfl rfl (q_move) ?_
       refine aC_ rfl rfl (by first | exact q_conv_zs | exact q_conv_ls) ?_
       refine aC_ rfl rfl (q_call (lv) (hc := c_ciceroneref01_Can _ (by first | assumption | omega | decide | (simp; omega) | (simp [*]; done)))) ?_
       refine aC_ rfl rfl (q_assign) ?_
       refine AOps.nil ?_
       refine AWp.ret ?_
       show Fin te Try.f85 _ _
       refine q_ret (0) [_] [_] ?_
       rw [canS_ne (by omega), canR, if_neg (by omega), if_neg h4_0, if_neg h6_0, if_pos (by omega)]; rfl
      ·
       refine aC_ rfl rfl (q_assign) ?_
       refine AOps.nil ?_
       refine AWp.cond_f rfl ?_
       refine AWp.seq ?_
       refine AWp.region ?_
       refine AOps.dec rfl rfl (q_eql) (fun h9_0 => ?_) (fun h9_0 => ?_)
       ·
        refine aC_ rfl rfl (q_assign) ?_
        refine AOps.nil ?_
        refine AWp.cond_t rfl ?_
        refine AWp.skip ?_
        refine AWp.cond_t rfl ?_
        refine AWp.seq ?_
        refine AWp.region ?_
        refine aC_ rfl rfl (q_move) ?_
        refine aC_ rfl rfl (by first | exact q_conv_zs | exact q_conv_ls) ?_
        refine aC_ rfl rfl (q_call (lv) (hc := c_ciceroneref01_Can _ (by first | assumption | omega | decide | (simp; omega) | (simp [*]; done)))) ?_
        refine aC_ rfl rfl (q_assign) ?_
        refine AOps.nil ?_
        refine AWp.ret ?_
        show Fin te Try.f85 _ _
        refine q_ret (0) [_] [_] ?_
        rw [canS_ne (by omega), canR, if_neg (by omega), if_neg h4_0, if_neg h6_0, if_pos (by omega)]; rfl
       ·
        refine aC_ rfl rfl (q_assign) ?_
        refine AOps.nil ?_
        refine AWp.cond_f rfl ?_
        refine AWp.region ?_
        refine AOps.dec rfl rfl (q_eql) (fun h10_0 => ?_) (fun h10_0 => ?_)
        ·
         refine aC_ rfl rfl (q_assign) ?_
         refine AOps.nil ?_
         refine AWp.cond_t rfl ?_
         refine AWp.seq ?_
         refine AWp.region ?_
         refine aC_ rfl rfl (q_move) ?_
         refine aC_ rfl rfl (by first | exact q_conv_zs | exact q_conv_ls) ?_
         refine aC_ rfl rfl (q_call (lv) (hc := c_ciceroneref01_Can _ (by first | assumption | omega | decide | (simp; omega) | (simp [*]; done)))) ?_
         refine aC_ rfl rfl (q_assign) ?_
         refine AOps.nil ?_
         refine AWp.ret ?_
         show Fin te Try.f85 _ _
         refine q_ret (0) [_] [_] ?_
         rw [canS_ne (by omega), canR, if_neg (by omega), if_neg h4_0, if_neg h6_0, if_pos (by omega)]; rfl
        ·
         refine aC_ rfl rfl (q_assign) ?_
         refine AOps.nil ?_
         refine AWp.cond_f rfl ?_
         refine AWp.seq ?_
         refine AWp.region ?_
         refine AOps.dec rfl rfl (q_eql) (fun h12_0 => ?_) (fun h12_0 => ?_)
         ·
          refine aC_ rfl rfl (q_assign) ?_
          refine AOps.nil ?_
          refine AWp.cond_t rfl ?_
          refine AWp.seq ?_
          refine AWp.region ?_
          refine aC_ rfl rfl (q_move) ?_
          refine aC_ rfl rfl (q_len) ?_
          refine AOps.dec rfl rfl (q_gtr) (fun h13_2 => ?_) (fun h13_2 => ?_)
          ·
           refine aC_ rfl rfl (q_move) ?_
           refine AOps.gcons rfl rfl rfl rfl rfl (q_move) ?_
           refine AOps.gcons rfl rfl rfl rfl rfl (q_sl) ?_
           refine AOps.gcons rfl rfl rfl rfl rfl (by first | exact q_conv_zs | exact q_conv_ls) ?_
           refine AOps.gcons rfl rfl rfl rfl rfl (q_call (lv) (hc := c_ciceroneref01_Can _ (by first | assumption | omega | decide | (simp; omega) | (simp [*]; done)))) ?_
           refine aC_ rfl rfl (q_pick) ?_
           refine aC_ rfl rfl (q_assign) ?_
           refine AOps.nil ?_
           refine AWp.ret ?_
           show Fin te Try.f85 _ _
           refine q_ret (0) [_] [_] ?_
           rw [canS_ne (by omega), canR, if_neg (by omega), if_neg h4_0, if_neg h6_0, if_neg (by omega), if_pos h12_0, decide_eq_true (by omega)]; rfl
          ·
           refine aC_ rfl rfl (q_move) ?_
           refine aG_ rfl rfl rfl rfl rfl rfl rfl rfl ?_
           refine aG_ rfl rfl rfl rfl rfl rfl rfl rfl ?_
           refine aG_ rfl rfl rfl rfl rfl rfl rfl rfl ?_
           refine aG_ rfl rfl rfl rfl rfl rfl rfl rfl ?_
           refine aC_ rfl rfl (q_pick) ?_
           refine aC_ rfl rfl (q_assign) ?_
           refine AOps.nil ?_
           refine AWp.ret ?_
           show Fin te Try.f85 _ _
           refine q_ret (0) [_] [_] ?_
           rw [canS_ne (by omega), canR, if_neg (by omega), if_neg h4_0, if_neg h6_0, if_neg (by omega), if_pos h12_0, decide_eq_false (by omega)]; rfl
         ·
          refine aC_ rfl rfl (q_assign) ?_
          refine AOps.nil ?_
          refine AWp.cond_f rfl ?_
          refine AWp.seq ?_
          refine AWp.region ?_
          refine AOps.dec rfl rfl (q_eql) (fun h14_0 => ?_) (fun h14_0 => ?_)
          ·
           refine aC_ rfl rfl (q_assign) ?_
           refine AOps.nil ?_
           refine AWp.cond_t rfl ?_
           refine AWp.seq ?_
           refine AWp.region ?_
           refine aC_ rfl rfl (q_move) ?_
           refine aC_ rfl rfl (q_call (lv) (hc := c_ciceroneref03_SOA _ _ (by first | assumption | omega | decide | (simp; omega) | (simp [*]; done)))) ?_
           refine aC_ rfl rfl (q_move) ?_
           refine aC_ rfl rfl (q_extract) ?_
           refine aC_ rfl rfl (q_extract) ?_
           refine aC_ rfl rfl (q_alloc 1605) ?_
           refine aC_ rfl rfl (q_store) ?_
           refine aC_ rfl rfl (q_assign) ?_
           refine AOps.nil ?_
           refine AWp.seq ?_
           refine AWp.region ?_
           refine aC_ rfl rfl (q_move) ?_
           refine aC_ rfl rfl (q_assign) ?_
           refine AOps.nil ?_
           refine AWp.ret ?_
           show Fin te Try.f85 _ _
           refine q_ret (0) [_] [_] ?_
           obtain rfl : t = 6 := h14_0
           rw [canS_6 (by omega)]; rfl
          ·
           refine aC_ rfl rfl (q_assign) ?_
           refine AOps.nil ?_
           refine AWp.cond_f rfl ?_
           refine AWp.seq ?_
           refine AWp.region ?_
           refine AOps.dec rfl rfl (q_eql) (fun h17_0 => ?_) (fun h17_0 => ?_)
           ·
            refine aC_ rfl rfl (q_assign) ?_
            refine AOps.nil ?_
            refine AWp.cond_t rfl ?_
            refine AWp.seq ?_
            refine AWp.region ?_
            refine aC_ rfl rfl (q_move) ?_
            refine aC_ rfl rfl (q_call (lv) (hc := c_ciceroneref03_texts _ _ (by first | assumption | omega | decide | (simp; omega) | (simp [*]; done)))) ?_
            refine aC_ rfl rfl (q_assign) ?_
            refine AOps.nil ?_
            refine AWp.ret ?_
            show Fin te Try.f85 _ _
            refine q_ret (0) [_] [_] ?_
            rw [canS_ne (by omega), canR, if_neg (by omega), if_neg h4_0, if_neg h6_0, if_neg (by omega), if_neg h12_0, if_pos h17_0]; rfl
           ·
            refine aC_ rfl rfl (q_assign) ?_
            refine AOps.nil ?_
            refine AWp.cond_f rfl ?_
            refine AWp.seq ?_
            refine AWp.region ?_
            refine AOps.dec rfl rfl (q_eql) (fun h19_0 => ?_) (fun h19_0 => ?_)
            ·
             refine aC_ rfl rfl (q_assign) ?_
             refine AOps.nil ?_
             refine AWp.cond_t rfl ?_
             refine AWp.seq ?_
             refine AWp.region ?_
             refine aC_ rfl rfl (q_move) ?_
             refine aC_ rfl rfl (q_call (lv) (hc := c_ciceroneref03_options _ _ (by first | assumption | omega | decide | (simp; omega) | (simp [*]; done)))) ?_
             refine aC_ rfl rfl (q_assign) ?_
             refine AOps.nil ?_
             refine AWp.ret ?_
             show Fin te Try.f85 _ _
             refine q_ret (0) [_] [_] ?_
             rw [canS_ne (by omega), canR, if_neg (by omega), if_neg h4_0, if_neg h6_0, if_neg (by omega), if_neg h12_0, if_neg h17_0, if_pos h19_0]; rfl
            ·
             refine aC_ rfl rfl (q_assign) ?_
             refine AOps.nil ?_
             refine AWp.cond_f rfl ?_
             refine AWp.skip ?_
             refine AWp.seq ?_
             refine AWp.region ?_
             refine aC_ rfl rfl (q_assign) ?_
             refine AOps.nil ?_
             refine AWp.ret ?_
             show Fin te Try.f85 _ _
             refine q_ret (0) [_] [_] ?_
             rw [canS_ne (by omega), canR, if_neg (by omega), if_neg h4_0, if_neg h6_0, if_neg (by omega), if_neg h12_0, if_neg h17_0, if_neg h19_0]; rfl
set_option maxRecDepth 20000 in
set_option maxHeartbeats 2000000 in
theorem c_ciceroneref03_Names (t : Int) (b : List UInt8) (lv : Nat) (h : b.length ≤ 140737488351232) : AC Try.prog 117 [i64 t, .fz lv b.length (cl bc b)] emp (Ret (.fz 0 (namS t b).length (cl sc (namS t b)))) := by
 refine AC.intro te_ok (fn := Try.f117) ⟨Try.func117, rfl, rfl⟩ (Nat.le_of_ble_eq_true rfl) ?_
 refine AWp.seq ?_
 refine AWp.region ?_
 refine aC_ rfl rfl (q_nilz (0) sc) ?_
 refine AOps.nil ?_
 refine AWp.seq ?_
 refine AWp.seq ?_
 refine AWp.region ?_
 refine aC_ rfl rfl (q_move) ?_
 refine aC_ rfl rfl (q_move) ?_
 refine AOps.bool rfl rfl (q_call (lv) (hc := c_ciceroneref03_Can _ _ _ (by first | assumption | omega | decide | (simp; omega) | (simp [*]; done)))) (fun h1_2 => ?_) (fun h1_2 => ?_)
 ·
  refine aC_ rfl rfl (q_not) ?_
  refine AOps.nil ?_
  refine AWp.cond_f rfl ?_
  refine AWp.skip ?_
  refine AWp.seq ?_
  refine AWp.seq ?_
  refine AWp.region ?_
  refine aC_ rfl rfl (q_move) ?_
  refine AOps.nil ?_
  refine AWp.block ?_
  refine AWp.seq ?_
  refine AWp.seq ?_
  refine AWp.region ?_
  refine AOps.dec rfl rfl (q_eql) (fun h4_0 => ?_) (fun h4_0 => ?_)
  ·
   refine aC_ rfl rfl (q_assign) ?_
   refine AOps.nil ?_
   refine AWp.cond_t rfl ?_
   refine AWp.skip ?_
   refine AWp.cond_t rfl ?_
   refine AWp.seq ?_
   refine AWp.region ?_
   refine aC_ rfl rfl (q_move) ?_
   refine aC_ rfl rfl (by first | exact q_conv_zs | exact q_conv_ls) ?_
   refine aC_ rfl rfl (q_bs 802 sc [_] [(_, _)]) ?_
   refine aC_ rfl rfl (q_assign) ?_
   refine AOps.nil ?_
   refine AWp.ret ?_
   show Fin te Try.f117 _ _
   refine q_ret (0) [_] [_] ?_
   rw [canS_ne (by omega)] at h1_2
   rw [namS_ne (by omega), namR, if_pos h1_2, if_pos (by omega)]; rfl
  ·
   refine aC_ rfl rfl (q_assign) ?_
   refine AOps.nil ?_
   refine AWp.cond_f rfl ?_
   refine AWp.seq ?_
   refine AWp.region ?_
   refine AOps.dec rfl rfl (q_eql) (fun h5_0 => ?_) (fun h5_0 => ?_)
   ·
    refine aC_ rfl rfl (q_assign) ?_
    refine AOps.nil ?_
    refine AWp.cond_t rfl ?_
    refine AWp.skip ?_
    refine AWp.cond_t rfl ?_
    refine AWp.seq ?_
    refine AWp.region ?_
    refine aC_ rfl rfl (q_move) ?_
    refine aC_ rfl rfl (by first | exact q_conv_zs | exact q_conv_ls) ?_
    refine aC_ rfl rfl (q_bs 802 sc [_] [(_, _)]) ?_
    refine aC_ rfl rfl (q_assign) ?_
    refine AOps.nil ?_
    refine AWp.ret ?_
    show Fin te Try.f117 _ _
    refine q_ret (0) [_] [_] ?_
    rw [canS_ne (by omega)] at h1_2
    rw [namS_ne (by omega), namR, if_pos h1_2, if_pos (by omega)]; rfl
   ·
    refine aC_ rfl rfl (q_assign) ?_
    refine AOps.nil ?_
    refine AWp.cond_f rfl ?_
    refine AWp.region ?_
    refine AOps.dec rfl rfl (q_eql) (fun h6_0 => ?_) (fun h6_0 => ?_)
    ·
     refine aC_ rfl rfl (q_assign) ?_
     refine AOps.nil ?_
     refine AWp.cond_t rfl ?_
     refine AWp.seq ?_
     refine AWp.region ?_
     refine aC_ rfl rfl (q_move) ?_
     refine aC_ rfl rfl (by first | exact q_conv_zs | exact q_conv_ls) ?_
     refine aC_ rfl rfl (q_bs 802 sc [_] [(_, _)]) ?_
     refine aC_ rfl rfl (q_assign) ?_
     refine AOps.nil ?_
     refine AWp.ret ?_
     show Fin te Try.f117 _ _
     refine q_ret (0) [_] [_] ?_
     rw [canS_ne (by omega)] at h1_2
     rw [namS_ne (by omega), namR, if_pos h1_2, if_pos (by omega)]; rfl
    ·
     refine aC_ rfl rfl (q_assign) ?_
     refine AOps.nil ?_
     refine AWp.cond_f rfl ?_
     refine AWp.seq ?_
     refine AWp.region ?_
     refine AOps.dec rfl rfl (q_eql) (fun h8_0 => ?_) (fun h8_0 => ?_)
     ·
      refine aC_ rfl rfl (q_assign) ?_
      refine AOps.nil ?_
      refine AWp.cond_t rfl ?_
      refine AWp.seq ?_
      refine AWp.region ?_
      have hm := h1_2
      rw [canS_ne (by omega)] at hm
      have h2 := canR_15 h8_0 hm
      refine aC_ rfl rfl (q_move) ?_
      refine aC_ rfl rfl (q_sl) ?_
      refine aC_ rfl rfl (by first | exact q_conv_zs | exact q_conv_ls) ?_
      refine aC_ rfl rfl (q_bs 1003 sc [_] [(_, _)]) ?_
      refine aC_ rfl rfl (q_assign) ?_
      refine AOps.nil ?_
      refine AWp.ret ?_
      show Fin te Try.f117 _ _
      refine q_ret (0) [_] [_] ?_
      rw [namS_ne (by omega), namR, if_pos hm, if_neg (by omega), if_pos h8_0]; rfl
     ·
      refine aC_ rfl rfl (q_assign) ?_
      refine AOps.nil ?_
      refine AWp.cond_f rfl ?_
      refine AWp.seq ?_
      refine AWp.region ?_
      refine AOps.dec rfl rfl (q_eql) (fun h10_0 => ?_) (fun h10_0 => ?_)
      ·
       refine aC_ rfl rfl (q_assign) ?_
       refine AOps.nil ?_
       refine AWp.cond_t rfl ?_
       refine AWp.seq ?_
       refine AWp.region ?_
       refine aC_ rfl rfl (q_move) ?_
       refine aC_ rfl rfl (q_call (lv) (hc := c_ciceroneref03_SOA _ _ (by first | assumption | omega | decide | (simp; omega) | (simp [*]; done)))) ?_
       refine aC_ rfl rfl (q_move) ?_
       refine aC_ rfl rfl (q_extract) ?_
       refine aC_ rfl rfl (q_extract) ?_
       refine aC_ rfl rfl (q_alloc 1205) ?_
       refine aC_ rfl rfl (q_store) ?_
       refine aC_ rfl rfl (q_assign) ?_
       refine AOps.nil ?_
       refine AWp.seq ?_
       refine AWp.region ?_
       refine aC_ rfl rfl (q_fa) ?_
       refine aC_ rfl rfl (q_load) ?_
       refine aC_ rfl rfl (q_fa) ?_
       refine aC_ rfl rfl (q_load) ?_
       refine aC_ rfl rfl (q_bs 1304 sc [_, _] [(_, _), (_, _)]) ?_
       refine aC_ rfl rfl (q_assign) ?_
       refine AOps.nil ?_
       refine AWp.ret ?_
       show Fin te Try.f117 _ _
       refine q_ret (0) [_] [_] ?_
       obtain rfl : t = 6 := h10_0
       rw [namS, if_pos rfl, if_pos h1_2]; rfl
      ·
       refine aC_ rfl rfl (q_assign) ?_
       refine AOps.nil ?_
       refine AWp.cond_f rfl ?_
       refine AWp.skip ?_
       refine AWp.seq ?_
       refine AWp.region ?_
       refine aC_ rfl rfl (q_nilz (0) sc) ?_
       refine AOps.nil ?_
       refine AWp.ret ?_
       show Fin te Try.f117 _ _
       refine q_ret (0) [_] [_] ?_
       rw [canS_ne h10_0] at h1_2
       rw [namS_ne h10_0, namR, if_pos h1_2, if_neg (by omega), if_neg h8_0]; rfl
 ·
  refine aC_ rfl rfl (q_not) ?_
  refine AOps.nil ?_
  refine AWp.cond_t rfl ?_
  refine AWp.seq ?_
  refine AWp.region ?_
  refine aC_ rfl rfl (q_nilz (0) sc) ?_
  refine AOps.nil ?_
  refine AWp.ret ?_
  show Fin te Try.f117 _ _
  refine q_ret (0) [_] [_] ?_
  by_cases h6 : t = 6
  · subst h6; rw [namS, if_pos rfl, if_neg (by simp [h1_2])]; rfl
  · rw [canS_ne h6] at h1_2; rw [namS_ne h6, namR, if_neg (by simp [h1_2])]; rfl
end Go.Proofs.Ytokccoloholgaaa.Fw


set_option linter.unusedVariables false
set_option linter.unusedSimpArgs false
namespace Go.Proofs.Ytokccoloholgaaa.Fw
open Go.RowKit
def prC (p : List Rr × List Rr) : List AV := [.fz 0 p.1.length (cl rrc p.1), .fz 0 p.2.length (cl rrc p.2)]
theorem sub_step {b : List Rr} {r : Rr} {j : Nat} (h : j < b.length) : (b.take (j + 1)).any (subP r) = ((b.take j).any (subP r) || subP r (b.getD j default)) := any_step h
theorem subR_all {a b : List Rr} : subR a b = a.all fun r => b.any (subP r) := by
  induction a with
  | nil => rfl
  | cons x a ih =>
    have h : subR (x :: a) b = (b.any (subP x) && subR a b) := by
      simp only [subR, List.any_cons, subQ, Bool.not_or, Bool.not_not]
    rw [h, ih]; rfl
def bothR (p : List Rr × List Rr) : Bool := subR p.1 p.2
theorem two_all {a b : List Rr} : [(a, b), (b, a)].all bothR = (subR a b && subR b a) := by simp [bothR]
theorem pair_at {a b : List Rr} (ha : RrsOk a) (hb : RrsOk b) {p : Nat} (hp : p < 2) : RrsOk ([(a, b), (b, a)].getD p default).1 ∧ RrsOk ([(a, b), (b, a)].getD p default).2 := by
  match p, hp with
  | 0, _ => exact ⟨ha, hb⟩
  | 1, _ => exact ⟨hb, ha⟩
theorem svO_2' {t : Tr} {i : Nat} (h : 4294967296 ≤ (t.ss.getD i default).ad) : svO t i = false := svO_2 (by omega)
theorem svO_3' {t : Tr} {i : Nat} (h : (t.ss.getD i default).ad ∈ (t.ss.take i).map Sv.ad) : svO t i = false := by rw [svO, decide_eq_true (p := _ ∈ _) h, Bool.not_true, Bool.and_false]; rfl
theorem svO_all {t : Tr} {i : Nat} (h1 : ¬ (t.ss.getD i default).ad < 0) (h2 : ¬ 4294967296 ≤ (t.ss.getD i default).ad) (h3 : ¬ (t.ss.getD i default).ad ∈ (t.ss.take i).map Sv.ad) (h4 : (t.ss.getD i default).zs.any (badZ t) = false) : svO t i = true := by
  rw [svO, decide_eq_false (p := _ ∈ _) h3, h4, decide_eq_true (by omega), decide_eq_true (by omega)]; rfl
theorem srvT_big {t : Tr} (h : 40 < (t.ss.length : Int)) : srvT t = false := by rw [srvT, decide_eq_false (by omega)]; rfl
theorem mem_take_map {l : List Sv} {i j : Nat} (hi : i ≤ l.length) (hj : j < i) : (l.getD j default).ad ∈ (l.take i).map Sv.ad := by
  refine List.mem_map.2 ⟨l.getD j default, ?_, rfl⟩
  rw [List.getD_eq_getElem?_getD, List.getElem?_eq_getElem (by omega)]
  exact List.mem_take_iff_getElem.2 ⟨j, by omega, rfl⟩
theorem badZ_neg {t : Tr} {x : Int} (h : x < 0) : badZ t x = true := by rw [badZ, decide_eq_true h]; rfl
theorem badZ_big {t : Tr} {x : Int} (h : (t.zs.length : Int) ≤ x) : badZ t x = true := by rw [badZ, decide_eq_true h, Bool.or_true]
theorem badZ_no {t : Tr} {x : Int} (h : ¬ x < 0) (h2 : ¬ (t.zs.length : Int) ≤ x) : badZ t x = false := by rw [badZ, decide_eq_false h, decide_eq_false h2]; rfl
def recsZ (z : Zo) : Bool := z.rs.all (recO z) && decide ((atZ z z.o 6).length = 1) && decide (1 ≤ (atZ z z.o 2).length)
def aloP (z : Zo) (i k : Nat) : Bool := decide (i ≠ k) && decide ((z.rs.getD i default).ty = 5) && sameN (z.rs.getD i default).nm (z.rs.getD k default).nm
def aloZ (z : Zo) : Bool := (List.range z.rs.length).all fun i => !((List.range z.rs.length).any (aloP z i))
theorem baseO_yes' {z : Zo} {r : Rr} (a : withN r.nm z.o = true) (b : ¬ ¬ r.cs = 1) (c : ¬ r.ttl < 0) (d : ¬ 2147483648 ≤ r.ttl) (e : ¬ r.ty < 1) (f : ¬ 65535 < r.ty) (g : canS r.ty r.da = true) : baseO z r = true := baseO_yes a b c (by omega) e f g
theorem recO_base {z : Zo} {r : Rr} (h : baseO z r = true) : recO z r = restO z r := by rw [recO, h, Bool.true_and]
theorem recO_no {z : Zo} {r : Rr} (h : baseO z r = false) : recO z r = false := by rw [recO, h, Bool.false_and]
section
variable {z : Zo} {r : Rr}
theorem baseO_1 (h : withN r.nm z.o = false) : baseO z r = false := by rw [baseO, h]; rfl
theorem baseO_2 (h : ¬ r.cs = 1) : baseO z r = false := by rw [baseO, decide_eq_false h, Bool.and_false]; rfl
theorem baseO_3 (h : r.ttl < 0) : baseO z r = false := by rw [baseO, decide_eq_false (p := 0 ≤ r.ttl) (by omega), Bool.and_false]; rfl
theorem baseO_4 (h : 2147483648 ≤ r.ttl) : baseO z r = false := by rw [baseO, decide_eq_false (p := r.ttl ≤ 2147483647) (by omega), Bool.and_false]; rfl
theorem baseO_5 (h : r.ty < 1) : baseO z r = false := by rw [baseO, decide_eq_false (p := 1 ≤ r.ty) (by omega), Bool.and_false]; rfl
theorem baseO_6 (h : 65535 < r.ty) : baseO z r = false := by rw [baseO, decide_eq_false (p := r.ty ≤ 65535) (by omega), Bool.and_false]; rfl
theorem baseO_7 (h : canS r.ty r.da = false) : baseO z r = false := by rw [baseO, h, Bool.and_false]
theorem restO_soa (h1 : r.ty = 6) (h2 : sameN r.nm z.o = false) : restO z r = false := by rw [restO, if_pos h1, h2]; rfl
theorem restO_cut (h1 : ¬ cutZ z r.nm = []) (h2 : ¬ r.ty = 1) (h3 : ¬ r.ty = 2) : restO z r = false := by
  rw [restO, if_neg h3, if_neg h2, decide_eq_false h1, Bool.and_false]; split <;> rfl
theorem restO_ns (h1 : ¬ cutZ z r.nm = []) (h3 : r.ty = 2) (h4 : sameN (cutZ z r.nm) r.nm = false) : restO z r = false := by
  rw [restO, if_neg (by omega), if_pos h3, decide_eq_false h1, h4]; rfl
theorem restO_top (h1 : cutZ z r.nm = []) (h2 : r.ty = 6 → sameN r.nm z.o = true) : restO z r = true := by
  rw [restO, decide_eq_true h1, Bool.and_true, Bool.true_or]
  split
  · rename_i h; exact h2 h
  · split
    · rfl
    · split <;> rfl
theorem restO_a (h : r.ty = 1) : restO z r = true := by rw [restO, if_neg (by omega), if_neg (by omega), if_pos h]
theorem restO_sub (h3 : r.ty = 2) (h4 : sameN (cutZ z r.nm) r.nm = true) : restO z r = true := by rw [restO, if_neg (by omega), if_pos h3, h4, Bool.or_true]
end
theorem find5 (f : Bool) (a : Prop) [Decidable a] (s : Bool) (b : Prop) [Decidable b] : f = true ∨ (f = false ∧ ¬ a) ∨ (f = false ∧ a ∧ s = false) ∨ (f = false ∧ a ∧ s = true ∧ ¬ b) ∨ (f = false ∧ a ∧ s = true ∧ b) := by
  cases f
  · by_cases h1 : a
    · cases s
      · exact .inr (.inr (.inl ⟨rfl, h1, rfl⟩))
      · by_cases h2 : b
        · exact .inr (.inr (.inr (.inr ⟨rfl, h1, rfl, h2⟩)))
        · exact .inr (.inr (.inr (.inl ⟨rfl, h1, rfl, h2⟩)))
    · exact .inr (.inl ⟨rfl, h1⟩)
  · exact .inl rfl
theorem range_any_step {p : Nat → Bool} {j : Nat} : (List.range (j + 1)).any p = ((List.range j).any p || p j) := by simp [List.range_succ]
theorem em2b (a b : Bool) : a = false ∨ (a = true ∧ b = false) ∨ (a = true ∧ b = true) := by cases a <;> cases b <;> simp
set_option maxRecDepth 20000 in
set_option maxHeartbeats 2000000 in
theorem c_ciceroneref18_servers (t : Tr) (ht : TrOk t) : AC Try.prog 39 [.agg (trC t)] emp (Ret (tf (srvT t))) := by
 have hb1 := ht.1
 have hb2 := ht.2.2.1
 refine AC.intro te_ok (fn := Try.f39) ⟨Try.func39, rfl, rfl⟩ (Nat.le_of_ble_eq_true rfl) ?_
 refine AWp.seq ?_
 refine AWp.region ?_
 refine aC_ rfl rfl (q_box 100) ?_
 refine aC_ rfl rfl (q_assign) ?_
 refine AOps.nil ?_
 refine AWp.seq ?_
 refine AWp.seq ?_
 refine AWp.region ?_
 refine aC_ rfl rfl (q_fa) ?_
 refine aC_ rfl rfl (q_load) ?_
 refine aC_ rfl rfl (q_len) ?_
 refine AOps.dec rfl rfl (q_gtr) (fun h1_3 => ?_) (fun h1_3 => ?_)
 ·
  refine AOps.nil ?_
  refine AWp.cond_t rfl ?_
  refine AWp.seq ?_
  refine AWp.region ?_
  refine aC_ rfl rfl (q_assign) ?_
  refine AOps.nil ?_
  refine AWp.ret ?_
  show Fin te Try.f39 _ _
  refine q_ret (0) [_] [_] ?_
  exact congrArg tf (srvT_big h1_3).symm
 ·
  refine AOps.nil ?_
  refine AWp.cond_f rfl ?_
  refine AWp.skip ?_
  refine AWp.seq ?_
  refine AWp.seq ?_
  refine AWp.region ?_
  refine aC_ rfl rfl (q_fa) ?_
  refine aC_ rfl rfl (q_load) ?_
  refine aC_ rfl rfl (q_len) ?_
  refine aC_ rfl rfl (q_move) ?_
  refine AOps.nil ?_
  refine AWp.block ?_
  refine AWp.loopR (α := Nat) [2, 3, 4, 6, 8, 16, 17, 18, 19, 20, 21, 22, 23, 24, 25, 26, 27, 28, 29, 30, 31, 32, 33, 34, 35, 36, 37, 38, 39, 40, 41, 42, 43, 44, 45, 46, 47, 48, 49, 50, 51, 52, 53, 54, 55, 56, 57, 58, 59, 60, 61] (fun i => [(16, i64 i)]) (fun i => []) (fun i => i ≤ t.ss.length ∧ ∀ j, j < i → svO t j = true) (fun i => t.ss.length - i) 0 ?_ (Back.mk' (HasT.cons HasT.nil) HasH.nil) ?_
  ·
   exact ⟨Nat.zero_le _, fun j hj => absurd hj (Nat.not_lt_zero j)⟩
  ·
   rintro i ⟨hi, hc⟩
   refine AWp.seq ?_
   refine AWp.region ?_
   refine AOps.dec rfl rfl (q_lss) (fun h4_0 => ?_) (fun h4_0 => ?_)
   ·
    refine AOps.nil ?_
    refine AWp.seq ?_
    refine AWp.cond_t rfl ?_
    refine AWp.skip ?_
    refine AWp.seq ?_
    refine AWp.block ?_
    refine AWp.seq ?_
    refine AWp.region ?_
    have hsz := ht.2.2.2 _ (getD_mem' (l := t.ss) (i := i) (by omega))
    refine aC_ rfl rfl (q_move) ?_
    refine aC_ rfl rfl (q_ix) ?_
    refine aC_ rfl rfl (q_load) ?_
    refine aC_ rfl rfl (q_alloc 603) ?_
    refine aC_ rfl rfl (q_assign) ?_
    refine aC_ rfl rfl (q_store) ?_
    refine AOps.nil ?_
    refine AWp.seq ?_
    refine AWp.seq ?_
    refine AWp.region ?_
    refine aC_ rfl rfl (q_fa) ?_
    refine aC_ rfl rfl (q_load) ?_
    refine AOps.dec rfl rfl (q_lss) (fun h6_2 => ?_) (fun h6_2 => ?_)
    ·
     refine aC_ rfl rfl (q_move) ?_
     refine aG_ rfl rfl rfl rfl rfl rfl rfl rfl ?_
     refine aG_ rfl rfl rfl rfl rfl rfl rfl rfl ?_
     refine aG_ rfl rfl rfl rfl rfl rfl rfl rfl ?_
     refine aC_ rfl rfl (q_pick) ?_
     refine AOps.nil ?_
     refine AWp.cond_t rfl ?_
     refine AWp.seq ?_
     refine AWp.region ?_
     refine aC_ rfl rfl (q_assign) ?_
     refine AOps.nil ?_
     refine AWp.ret ?_
     show Fin te Try.f39 _ _
     refine q_ret (0) [_] [_] ?_
     exact congrArg tf (srvT_no (j := i) (by omega) (svO_1 h6_2)).symm
    ·
     refine aC_ rfl rfl (q_move) ?_
     refine AOps.gcons rfl rfl rfl rfl rfl (q_fa) ?_
     refine AOps.gcons rfl rfl rfl rfl rfl (q_load) ?_
     refine AOps.gdec rfl rfl rfl rfl rfl (q_geq) (fun h6_6 => ?_) (fun h6_6 => ?_)
     ·
      refine aC_ rfl rfl (q_pick) ?_
      refine AOps.nil ?_
      refine AWp.cond_t rfl ?_
      refine AWp.seq ?_
      refine AWp.region ?_
      refine aC_ rfl rfl (q_assign) ?_
      refine AOps.nil ?_
      refine AWp.ret ?_
      show Fin te Try.f39 _ _
      refine q_ret (0) [_] [_] ?_
      exact congrArg tf (srvT_no (j := i) (by omega) (svO_2' h6_6)).symm
     ·
      refine aC_ rfl rfl (q_pick) ?_
      refine AOps.nil ?_
      refine AWp.cond_f rfl ?_
      refine AWp.skip ?_
      refine AWp.seq ?_
      refine AWp.seq ?_
      refine AWp.region ?_
      refine aC_ rfl rfl (q_fa) ?_
      refine aC_ rfl rfl (q_load) ?_
      refine aC_ rfl rfl (q_move) ?_
      refine aC_ rfl rfl (q_sl) ?_
      refine aC_ rfl rfl (q_len) ?_
      refine aC_ rfl rfl (q_move) ?_
      refine AOps.nil ?_
      refine AWp.block ?_
      refine AWp.loopR (α := Nat) [2, 6, 34, 35, 36, 37, 38, 39, 40, 41, 42, 43] (fun j => [(34, i64 j)]) (fun j => []) (fun j => j ≤ i ∧ ¬ (t.ss.getD i default).ad ∈ (t.ss.take j).map Sv.ad) (fun j => i - j) 0 ?_ (Back.mk' (HasT.cons HasT.nil) HasH.nil) ?_
      ·
       exact ⟨Nat.zero_le _, by simp⟩
      ·
       rintro j ⟨hji, hj⟩
       refine AWp.seq ?_
       refine AWp.region ?_
       refine AOps.dec rfl rfl (q_lss) (fun h9_0 => ?_) (fun h9_0 => ?_)
       ·
        refine AOps.nil ?_
        refine AWp.seq ?_
        refine AWp.cond_t rfl ?_
        refine AWp.skip ?_
        refine AWp.seq ?_
        refine AWp.block ?_
        refine AWp.seq ?_
        refine AWp.region ?_
        have hji2 : j < i := by have := h9_0; simp at this; omega
        have hgj : (t.ss.take i).getD j default = t.ss.getD j default := by rw [List.getD_eq_getElem?_getD, List.getD_eq_getElem?_getD, List.getElem?_take_of_lt hji2]
        refine aC_ rfl rfl (q_ix) ?_
        refine aC_ rfl rfl (q_load) ?_
        refine aC_ rfl rfl (q_alloc 1102) ?_
        refine aC_ rfl rfl (q_store) ?_
        refine AOps.nil ?_
        refine AWp.seq ?_
        refine AWp.region ?_
        refine aC_ rfl rfl (q_fa) ?_
        refine aC_ rfl rfl (q_load) ?_
        refine aC_ rfl rfl (q_fa) ?_
        refine aC_ rfl rfl (q_load) ?_
        refine AOps.dec rfl rfl (q_eql) (fun h11_4 => ?_) (fun h11_4 => ?_)
        ·
         refine AOps.nil ?_
         refine AWp.cond_t rfl ?_
         refine AWp.seq ?_
         refine AWp.region ?_
         refine aC_ rfl rfl (q_assign) ?_
         refine AOps.nil ?_
         refine AWp.ret ?_
         show Fin te Try.f39 _ _
         refine q_ret (0) [_] [_] ?_
         exact congrArg tf (srvT_no (j := i) (by omega) (svO_3' (by rw [← show (t.ss.getD j default).ad = (t.ss.getD i default).ad from (congrArg Sv.ad hgj).symm.trans h11_4]; exact mem_take_map (by omega) hji2))).symm
        ·
         refine AOps.nil ?_
         refine AWp.cond_f rfl ?_
         refine AWp.skip ?_
         refine AWp.region ?_
         refine aC_ rfl rfl (q_add) ?_
         refine aC_ rfl rfl (q_move) ?_
         refine AOps.nil ?_
         refine ⟨j + 1, ?_, Back.mk' (HasT.cons HasT.nil) HasH.nil, ?_⟩
         ·
          refine ⟨by omega, fun hm => ?_⟩
          rw [map_step (by omega)] at hm
          rcases List.mem_append.1 hm with hm | hm
          · exact hj hm
          · rw [List.mem_singleton] at hm; exact h11_4 ((congrArg Sv.ad hgj).trans hm.symm)
         ·
          first | omega | (simp; omega)
       ·
        refine AOps.nil ?_
        refine AWp.seq ?_
        refine AWp.cond_f rfl ?_
        refine AWp.exit ?_
        refine AWp.seq ?_
        refine AWp.region ?_
        refine aC_ rfl rfl (q_fa) ?_
        refine aC_ rfl rfl (q_load) ?_
        refine aC_ rfl rfl (q_len) ?_
        refine aC_ rfl rfl (q_move) ?_
        refine AOps.nil ?_
        refine AWp.block ?_
        refine AWp.loopR (α := Nat) [2, 8, 47, 48, 49, 50, 51, 52, 53, 54, 55, 56, 57, 58, 59, 60] (fun k => [(47, i64 k)]) (fun k => []) (fun k => k ≤ (t.ss.getD i default).zs.length ∧ ((t.ss.getD i default).zs.take k).any (badZ t) = false) (fun k => (t.ss.getD i default).zs.length - k) 0 ?_ (Back.mk' (HasT.cons HasT.nil) HasH.nil) ?_
        ·
         exact ⟨Nat.zero_le _, rfl⟩
        ·
         rintro k ⟨hki, hk⟩
         refine AWp.seq ?_
         refine AWp.region ?_
         refine AOps.dec rfl rfl (q_lss) (fun h15_0 => ?_) (fun h15_0 => ?_)
         ·
          refine AOps.nil ?_
          refine AWp.seq ?_
          refine AWp.cond_t rfl ?_
          refine AWp.skip ?_
          refine AWp.seq ?_
          refine AWp.block ?_
          refine AWp.seq ?_
          refine AWp.region ?_
          have hk2 : k < (t.ss.getD i default).zs.length := Int.ofNat_lt.1 h15_0
          refine aC_ rfl rfl (q_ix) ?_
          refine aC_ rfl rfl (q_load) ?_
          refine aC_ rfl rfl (q_assign) ?_
          refine AOps.nil ?_
          refine AWp.seq ?_
          refine AWp.region ?_
          refine aC_ rfl rfl (q_move) ?_
          refine AOps.dec rfl rfl (q_lss) (fun h17_1 => ?_) (fun h17_1 => ?_)
          ·
           refine aC_ rfl rfl (q_move) ?_
           refine aG_ rfl rfl rfl rfl rfl rfl rfl rfl ?_
           refine aG_ rfl rfl rfl rfl rfl rfl rfl rfl ?_
           refine aG_ rfl rfl rfl rfl rfl rfl rfl rfl ?_
           refine aG_ rfl rfl rfl rfl rfl rfl rfl rfl ?_
           refine aG_ rfl rfl rfl rfl rfl rfl rfl rfl ?_
           refine aC_ rfl rfl (q_pick) ?_
           refine AOps.nil ?_
           refine AWp.cond_t rfl ?_
           refine AWp.seq ?_
           refine AWp.region ?_
           refine aC_ rfl rfl (q_assign) ?_
           refine AOps.nil ?_
           refine AWp.ret ?_
           show Fin te Try.f39 _ _
           refine q_ret (0) [_] [_] ?_
           exact congrArg tf (srvT_no (j := i) (by omega) (svO_4 (any_yes (i := k) hk2 (badZ_neg h17_1)))).symm
          ·
           refine aC_ rfl rfl (q_move) ?_
           refine AOps.gcons rfl rfl rfl rfl rfl (q_move) ?_
           refine AOps.gcons rfl rfl rfl rfl rfl (q_fa) ?_
           refine AOps.gcons rfl rfl rfl rfl rfl (q_load) ?_
           refine AOps.gcons rfl rfl rfl rfl rfl (q_len) ?_
           refine AOps.gdec rfl rfl rfl rfl rfl (q_geq) (fun h17_7 => ?_) (fun h17_7 => ?_)
           ·
            refine aC_ rfl rfl (q_pick) ?_
            refine AOps.nil ?_
            refine AWp.cond_t rfl ?_
            refine AWp.seq ?_
            refine AWp.region ?_
            refine aC_ rfl rfl (q_assign) ?_
            refine AOps.nil ?_
            refine AWp.ret ?_
            show Fin te Try.f39 _ _
            refine q_ret (0) [_] [_] ?_
            exact congrArg tf (srvT_no (j := i) (by omega) (svO_4 (any_yes (i := k) hk2 (badZ_big h17_7)))).symm
           ·
            refine aC_ rfl rfl (q_pick) ?_
            refine AOps.nil ?_
            refine AWp.cond_f rfl ?_
            refine AWp.skip ?_
            refine AWp.region ?_
            refine aC_ rfl rfl (q_add) ?_
            refine aC_ rfl rfl (q_move) ?_
            refine AOps.nil ?_
            refine ⟨k + 1, ?_, Back.mk' (HasT.cons HasT.nil) HasH.nil, ?_⟩
            ·
             exact ⟨by omega, any_no (i := k) hk2 hk (badZ_no h17_1 h17_7)⟩
            ·
             first | omega | (simp; omega)
         ·
          refine AOps.nil ?_
          refine AWp.seq ?_
          refine AWp.cond_f rfl ?_
          refine AWp.exit ?_
          refine AWp.region ?_
          refine aC_ rfl rfl (q_add) ?_
          refine aC_ rfl rfl (q_move) ?_
          refine AOps.nil ?_
          obtain rfl : k = (t.ss.getD i default).zs.length := by have h := h15_0; have h2 : ¬ k < (t.ss.getD i default).zs.length := fun q => h (Int.ofNat_lt.2 q); omega
          rw [List.take_length] at hk
          obtain rfl : i = j := by have := h9_0; simp at this; omega
          refine ⟨i + 1, ?_, Back.mk' (HasT.cons HasT.nil) HasH.nil, ?_⟩
          ·
           exact ⟨by omega, lt_step hc (svO_all h6_2 h6_6 hj hk)⟩
          ·
           first | omega | (simp; omega)
   ·
    refine AOps.nil ?_
    refine AWp.seq ?_
    refine AWp.cond_f rfl ?_
    refine AWp.exit ?_
    refine AWp.seq ?_
    refine AWp.region ?_
    refine aC_ rfl rfl (q_assign) ?_
    refine AOps.nil ?_
    refine AWp.ret ?_
    show Fin te Try.f39 _ _
    refine q_ret (0) [_] [_] ?_
    obtain rfl : i = t.ss.length := by omega
    exact congrArg tf (by rw [srvT_yes hc, decide_eq_true (by omega)])
set_option maxRecDepth 20000 in
set_option maxHeartbeats 2000000 in
theorem c_ciceroneref18_records (z : Zo) (hz : ZoOk z) : AC Try.prog 40 [.agg (zoC z)] emp (Ret (tf (recsZ z))) := by
 have hrl : z.rs.length * 64 ≤ 140737488351232 := hz.2.1.1
 have hol := hz.1
 refine AC.intro te_ok (fn := Try.f40) ⟨Try.func40, rfl, rfl⟩ (Nat.le_of_ble_eq_true rfl) ?_
 refine AWp.seq ?_
 refine AWp.region ?_
 refine aC_ rfl rfl (q_box 100) ?_
 refine aC_ rfl rfl (q_assign) ?_
 refine AOps.nil ?_
 refine AWp.seq ?_
 refine AWp.seq ?_
 refine AWp.region ?_
 refine aC_ rfl rfl (q_fa) ?_
 refine aC_ rfl rfl (q_load) ?_
 refine aC_ rfl rfl (q_len) ?_
 refine aC_ rfl rfl (q_move) ?_
 refine AOps.nil ?_
 refine AWp.block ?_
 refine AWp.loopR (α := Nat) [2, 4, 5, 6, 10, 11, 12, 13, 14, 15, 16, 17, 18, 19, 20, 21, 22, 23, 24, 25, 26, 27, 28, 29, 30, 31, 32, 33, 34, 35, 36, 37, 38, 39, 40, 41, 42, 43, 44, 45, 46, 47, 48, 49, 50, 51, 52, 53, 54, 55, 56, 57, 58, 59, 60, 61, 62, 63, 64, 65, 66, 67, 68, 69, 70, 71, 72, 73, 74, 75, 76, 77, 78, 79, 80, 81, 82, 83, 84, 85, 86, 87, 88] (fun i => [(10, i64 i)]) (fun i => []) (fun i => i ≤ z.rs.length ∧ (z.rs.take i).all (recO z) = true) (fun i => z.rs.length - i) 0 ?_ (Back.mk' (HasT.cons HasT.nil) HasH.nil) ?_
 ·
  exact ⟨Nat.zero_le _, rfl⟩
 ·
  rintro i ⟨hi, ha⟩
  refine AWp.seq ?_
  refine AWp.region ?_
  refine AOps.dec rfl rfl (q_lss) (fun h2_0 => ?_) (fun h2_0 => ?_)
  ·
   refine AOps.nil ?_
   refine AWp.seq ?_
   refine AWp.cond_t rfl ?_
   refine AWp.skip ?_
   refine AWp.seq ?_
   refine AWp.block ?_
   refine AWp.seq ?_
   refine AWp.region ?_
   have hr := hz.2.2 _ (getD_mem' (l := z.rs) (i := i) (by omega))
   have hrd := hz.2.1.2 _ (getD_mem' (l := z.rs) (i := i) (by omega))
   refine aC_ rfl rfl (q_ix) ?_
   refine aC_ rfl rfl (q_load) ?_
   refine aC_ rfl rfl (q_alloc 402) ?_
   refine aC_ rfl rfl (q_store) ?_
   refine AOps.nil ?_
   refine AWp.seq ?_
   refine AWp.seq ?_
   refine AWp.region ?_
   refine aC_ rfl rfl (q_fa) ?_
   refine aC_ rfl rfl (q_load) ?_
   refine aC_ rfl rfl (q_fa) ?_
   refine aC_ rfl rfl (q_load) ?_
   refine AOps.bool rfl rfl (q_call (0) (hc := (c_ciceroneref01_Within (z.rs.getD i default).nm z.o (by omega) (by omega)))) (fun h4_4 => ?_) (fun h4_4 => ?_)
   ·
    refine aC_ rfl rfl (q_not) ?_
    refine aC_ rfl rfl (q_move) ?_
    refine AOps.gcons rfl rfl rfl rfl rfl (q_fa) ?_
    refine AOps.gcons rfl rfl rfl rfl rfl (q_load) ?_
    refine AOps.gdec rfl rfl rfl rfl rfl (q_neq) (fun h4_9 => ?_) (fun h4_9 => ?_)
    ·
     refine aC_ rfl rfl (q_pick) ?_
     refine aC_ rfl rfl (q_move) ?_
     refine aG_ rfl rfl rfl rfl rfl rfl rfl rfl ?_
     refine aG_ rfl rfl rfl rfl rfl rfl rfl rfl ?_
     refine aG_ rfl rfl rfl rfl rfl rfl rfl rfl ?_
     refine aC_ rfl rfl (q_pick) ?_
     refine aC_ rfl rfl (q_move) ?_
     refine aG_ rfl rfl rfl rfl rfl rfl rfl rfl ?_
     refine aG_ rfl rfl rfl rfl rfl rfl rfl rfl ?_
     refine aG_ rfl rfl rfl rfl rfl rfl rfl rfl ?_
     refine aC_ rfl rfl (q_pick) ?_
     refine aC_ rfl rfl (q_move) ?_
     refine aG_ rfl rfl rfl rfl rfl rfl rfl rfl ?_
     refine aG_ rfl rfl rfl rfl rfl rfl rfl rfl ?_
     refine aG_ rfl rfl rfl rfl rfl rfl rfl rfl ?_
     refine aC_ rfl rfl (q_pick) ?_
     refine aC_ rfl rfl (q_move) ?_
     refine aG_ rfl rfl rfl rfl rfl rfl rfl rfl ?_
     refine aG_ rfl rfl rfl rfl rfl rfl rfl rfl ?_
     refine aG_ rfl rfl rfl rfl rfl rfl rfl rfl ?_
     refine aC_ rfl rfl (q_pick) ?_
     refine aC_ rfl rfl (q_move) ?_
     refine aG_ rfl rfl rfl rfl rfl rfl rfl rfl ?_
     refine aG_ rfl rfl rfl rfl rfl rfl rfl rfl ?_
     refine aG_ rfl rfl rfl rfl rfl rfl rfl rfl ?_
     refine aG_ rfl rfl rfl rfl rfl rfl rfl rfl ?_
     refine aG_ rfl rfl rfl rfl rfl rfl rfl rfl ?_
     refine aG_ rfl rfl rfl rfl rfl rfl rfl rfl ?_
     refine aC_ rfl rfl (q_pick) ?_
     refine AOps.nil ?_
     refine AWp.cond_t rfl ?_
     refine AWp.seq ?_
     refine AWp.region ?_
     refine aC_ rfl rfl (q_assign) ?_
     refine AOps.nil ?_
     refine AWp.ret ?_
     show Fin te Try.f40 _ _
     refine q_ret (0) [_] [_] ?_
     exact congrArg tf (by rw [recsZ, all_no (i := i) (by omega) (recO_no (baseO_2 h4_9))]; rfl)
    ·
     refine aC_ rfl rfl (q_pick) ?_
     refine aC_ rfl rfl (q_move) ?_
     refine AOps.gcons rfl rfl rfl rfl rfl (q_fa) ?_
     refine AOps.gcons rfl rfl rfl rfl rfl (q_load) ?_
     refine AOps.gdec rfl rfl rfl rfl rfl (q_lss) (fun h4_14 => ?_) (fun h4_14 => ?_)
     ·
      refine aC_ rfl rfl (q_pick) ?_
      refine aC_ rfl rfl (q_move) ?_
      refine aG_ rfl rfl rfl rfl rfl rfl rfl rfl ?_
      refine aG_ rfl rfl rfl rfl rfl rfl rfl rfl ?_
      refine aG_ rfl rfl rfl rfl rfl rfl rfl rfl ?_
      refine aC_ rfl rfl (q_pick) ?_
      refine aC_ rfl rfl (q_move) ?_
      refine aG_ rfl rfl rfl rfl rfl rfl rfl rfl ?_
      refine aG_ rfl rfl rfl rfl rfl rfl rfl rfl ?_
      refine aG_ rfl rfl rfl rfl rfl rfl rfl rfl ?_
      refine aC_ rfl rfl (q_pick) ?_
      refine aC_ rfl rfl (q_move) ?_
      refine aG_ rfl rfl rfl rfl rfl rfl rfl rfl ?_
      refine aG_ rfl rfl rfl rfl rfl rfl rfl rfl ?_
      refine aG_ rfl rfl rfl rfl rfl rfl rfl rfl ?_
      refine aC_ rfl rfl (q_pick) ?_
      refine aC_ rfl rfl (q_move) ?_
      refine aG_ rfl rfl rfl rfl rfl rfl rfl rfl ?_
      refine aG_ rfl rfl rfl rfl rfl rfl rfl rfl ?_
      refine aG_ rfl rfl rfl rfl rfl rfl rfl rfl ?_
      refine aG_ rfl rfl rfl rfl rfl rfl rfl rfl ?_
      refine aG_ rfl rfl rfl rfl rfl rfl rfl rfl ?_
      refine aG_ rfl rfl rfl rfl rfl rfl rfl rfl ?_
      refine aC_ rfl rfl (q_pick) ?_
      refine AOps.nil ?_
      refine AWp.cond_t rfl ?_
      refine AWp.seq ?_
      refine AWp.region ?_
      refine aC_ rfl rfl (q_assign) ?_
      refine AOps.nil ?_
      refine AWp.ret ?_
      show Fin te Try.f40 _ _
      refine q_ret (0) [_] [_] ?_
      exact congrArg tf (by rw [recsZ, all_no (i := i) (by omega) (recO_no (baseO_3 h4_14))]; rfl)
     ·
      refine aC_ rfl rfl (q_pick) ?_
      refine aC_ rfl rfl (q_move) ?_
      refine AOps.gcons rfl rfl rfl rfl rfl (q_fa) ?_
      refine AOps.gcons rfl rfl rfl rfl rfl (q_load) ?_
      refine AOps.gdec rfl rfl rfl rfl rfl (q_geq) (fun h4_19 => ?_) (fun h4_19 => ?_)
      ·
       refine aC_ rfl rfl (q_pick) ?_
       refine aC_ rfl rfl (q_move) ?_
       refine aG_ rfl rfl rfl rfl rfl rfl rfl rfl ?_
       refine aG_ rfl rfl rfl rfl rfl rfl rfl rfl ?_
       refine aG_ rfl rfl rfl rfl rfl rfl rfl rfl ?_
       refine aC_ rfl rfl (q_pick) ?_
       refine aC_ rfl rfl (q_move) ?_
       refine aG_ rfl rfl rfl rfl rfl rfl rfl rfl ?_
       refine aG_ rfl rfl rfl rfl rfl rfl rfl rfl ?_
       refine aG_ rfl rfl rfl rfl rfl rfl rfl rfl ?_
       refine aC_ rfl rfl (q_pick) ?_
       refine aC_ rfl rfl (q_move) ?_
       refine aG_ rfl rfl rfl rfl rfl rfl rfl rfl ?_
       refine aG_ rfl rfl rfl rfl rfl rfl rfl rfl ?_
       refine aG_ rfl rfl rfl rfl rfl rfl rfl rfl ?_
       refine aG_ rfl rfl rfl rfl rfl rfl rfl rfl ?_
       refine aG_ rfl rfl rfl rfl rfl rfl rfl rfl ?_
       refine aG_ rfl rfl rfl rfl rfl rfl rfl rfl ?_
       refine aC_ rfl rfl (q_pick) ?_
       refine AOps.nil ?_
       refine AWp.cond_t rfl ?_
       refine AWp.seq ?_
       refine AWp.region ?_
       refine aC_ rfl rfl (q_assign) ?_
       refine AOps.nil ?_
       refine AWp.ret ?_
       show Fin te Try.f40 _ _
       refine q_ret (0) [_] [_] ?_
       exact congrArg tf (by rw [recsZ, all_no (i := i) (by omega) (recO_no (baseO_4 h4_19))]; rfl)
      ·
       refine aC_ rfl rfl (q_pick) ?_
       refine aC_ rfl rfl (q_move) ?_
       refine AOps.gcons rfl rfl rfl rfl rfl (q_fa) ?_
       refine AOps.gcons rfl rfl rfl rfl rfl (q_load) ?_
       refine AOps.gdec rfl rfl rfl rfl rfl (q_lss) (fun h4_24 => ?_) (fun h4_24 => ?_)
       ·
        refine aC_ rfl rfl (q_pick) ?_
        refine aC_ rfl rfl (q_move) ?_
        refine aG_ rfl rfl rfl rfl rfl rfl rfl rfl ?_
        refine aG_ rfl rfl rfl rfl rfl rfl rfl rfl ?_
        refine aG_ rfl rfl rfl rfl rfl rfl rfl rfl ?_
        refine aC_ rfl rfl (q_pick) ?_
        refine aC_ rfl rfl (q_move) ?_
        refine aG_ rfl rfl rfl rfl rfl rfl rfl rfl ?_
        refine aG_ rfl rfl rfl rfl rfl rfl rfl rfl ?_
        refine aG_ rfl rfl rfl rfl rfl rfl rfl rfl ?_
        refine aG_ rfl rfl rfl rfl rfl rfl rfl rfl ?_
        refine aG_ rfl rfl rfl rfl rfl rfl rfl rfl ?_
        refine aG_ rfl rfl rfl rfl rfl rfl rfl rfl ?_
        refine aC_ rfl rfl (q_pick) ?_
        refine AOps.nil ?_
        refine AWp.cond_t rfl ?_
        refine AWp.seq ?_
        refine AWp.region ?_
        refine aC_ rfl rfl (q_assign) ?_
        refine AOps.nil ?_
        refine AWp.ret ?_
        show Fin te Try.f40 _ _
        refine q_ret (0) [_] [_] ?_
        exact congrArg tf (by rw [recsZ, all_no (i := i) (by omega) (recO_no (baseO_5 h4_24))]; rfl)
       ·
        refine aC_ rfl rfl (q_pick) ?_
        refine aC_ rfl rfl (q_move) ?_
        refine AOps.gcons rfl rfl rfl rfl rfl (q_fa) ?_
        refine AOps.gcons rfl rfl rfl rfl rfl (q_load) ?_
        refine AOps.gdec rfl rfl rfl rfl rfl (q_gtr) (fun h4_29 => ?_) (fun h4_29 => ?_)
        ·
         refine aC_ rfl rfl (q_pick) ?_
         refine aC_ rfl rfl (q_move) ?_
         refine aG_ rfl rfl rfl rfl rfl rfl rfl rfl ?_
         refine aG_ rfl rfl rfl rfl rfl rfl rfl rfl ?_
         refine aG_ rfl rfl rfl rfl rfl rfl rfl rfl ?_
         refine aG_ rfl rfl rfl rfl rfl rfl rfl rfl ?_
         refine aG_ rfl rfl rfl rfl rfl rfl rfl rfl ?_
         refine aG_ rfl rfl rfl rfl rfl rfl rfl rfl ?_
         refine aC_ rfl rfl (q_pick) ?_
         refine AOps.nil ?_
         refine AWp.cond_t rfl ?_
         refine AWp.seq ?_
         refine AWp.region ?_
         refine aC_ rfl rfl (q_assign) ?_
         refine AOps.nil ?_
         refine AWp.ret ?_
         show Fin te Try.f40 _ _
         refine q_ret (0) [_] [_] ?_
         exact congrArg tf (by rw [recsZ, all_no (i := i) (by omega) (recO_no (baseO_6 h4_29))]; rfl)
        ·
         refine aC_ rfl rfl (q_pick) ?_
         refine aC_ rfl rfl (q_move) ?_
         refine AOps.gcons rfl rfl rfl rfl rfl (q_fa) ?_
         refine AOps.gcons rfl rfl rfl rfl rfl (q_load) ?_
         refine AOps.gcons rfl rfl rfl rfl rfl (q_fa) ?_
         refine AOps.gcons rfl rfl rfl rfl rfl (q_load) ?_
         refine AOps.gbool rfl rfl rfl rfl rfl (q_call (0) (hc := (c_ciceroneref03_Can (z.rs.getD i default).ty (z.rs.getD i default).da 0 (by omega)))) (fun h4_36 => ?_) (fun h4_36 => ?_)
         ·
          refine AOps.gcons rfl rfl rfl rfl rfl (q_not) ?_
          refine aC_ rfl rfl (q_pick) ?_
          refine AOps.nil ?_
          refine AWp.cond_f rfl ?_
          refine AWp.skip ?_
          refine AWp.seq ?_
          refine AWp.region ?_
          have hbase := baseO_yes' h4_4 h4_9 h4_14 h4_19 h4_24 h4_29 h4_36
          have hcl := cutZ_len hz (z.rs.getD i default).nm
          refine aC_ rfl rfl (q_fa) ?_
          refine aC_ rfl rfl (q_load) ?_
          refine aC_ rfl rfl (q_fa) ?_
          refine aC_ rfl rfl (q_load) ?_
          refine AOps.bool rfl rfl (q_call (0) (hc := (c_ciceroneref01_Same (z.rs.getD i default).nm z.o (by omega) (by omega)))) (fun h6_4 => ?_) (fun h6_4 => ?_)
          ·
           refine aC_ rfl rfl (q_assign) ?_
           refine AOps.nil ?_
           refine AWp.seq ?_
           refine AWp.seq ?_
           refine AWp.region ?_
           refine aC_ rfl rfl (q_fa) ?_
           refine aC_ rfl rfl (q_load) ?_
           refine AOps.dec rfl rfl (q_eql) (fun h7_2 => ?_) (fun h7_2 => ?_)
           ·
            refine aC_ rfl rfl (q_move) ?_
            refine AOps.gcons rfl rfl rfl rfl rfl (q_move) ?_
            refine AOps.gcons rfl rfl rfl rfl rfl (q_not) ?_
            refine aC_ rfl rfl (q_pick) ?_
            refine AOps.nil ?_
            refine AWp.cond_f rfl ?_
            refine AWp.skip ?_
            refine AWp.seq ?_
            refine AWp.region ?_
            refine aC_ rfl rfl (q_load) ?_
            refine aC_ rfl rfl (q_fa) ?_
            refine aC_ rfl rfl (q_load) ?_
            refine aC_ rfl rfl (q_call (0) (hc := (c_rcut z (z.rs.getD i default).nm hz hr))) ?_
            refine aC_ rfl rfl (q_assign) ?_
            refine AOps.nil ?_
            refine AWp.seq ?_
            refine AWp.region ?_
            refine aC_ rfl rfl (q_move) ?_
            refine AOps.dec rfl rfl (q_sneq) (fun h10_1 => ?_) (fun h10_1 => ?_)
            ·
             refine aC_ rfl rfl (q_move) ?_
             refine AOps.gcons rfl rfl rfl rfl rfl (q_fa) ?_
             refine AOps.gcons rfl rfl rfl rfl rfl (q_load) ?_
             refine AOps.gdec rfl rfl rfl rfl rfl (q_neq) (fun h10_5 => ?_) (fun h10_5 => ?_)
             ·
              refine aC_ rfl rfl (q_pick) ?_
              refine aC_ rfl rfl (q_move) ?_
              refine AOps.gcons rfl rfl rfl rfl rfl (q_fa) ?_
              refine AOps.gcons rfl rfl rfl rfl rfl (q_load) ?_
              refine AOps.gdec rfl rfl rfl rfl rfl (q_neq) (fun h10_10 => ?_) (fun h10_10 => ?_)
              ·
               refine AOps.gcons rfl rfl rfl rfl rfl (q_move) ?_
               refine aG_ rfl rfl rfl rfl rfl rfl rfl rfl ?_
               refine aG_ rfl rfl rfl rfl rfl rfl rfl rfl ?_
               refine aG_ rfl rfl rfl rfl rfl rfl rfl rfl ?_
               refine aG_ rfl rfl rfl rfl rfl rfl rfl rfl ?_
               refine aG_ rfl rfl rfl rfl rfl rfl rfl rfl ?_
               refine AOps.gcons rfl rfl rfl rfl rfl (q_pick) ?_
               refine aC_ rfl rfl (q_pick) ?_
               refine AOps.nil ?_
               refine AWp.cond_t rfl ?_
               refine AWp.seq ?_
               refine AWp.region ?_
               refine aC_ rfl rfl (q_assign) ?_
               refine AOps.nil ?_
               refine AWp.ret ?_
               show Fin te Try.f40 _ _
               refine q_ret (0) [_] [_] ?_
               exact congrArg tf (by rw [recsZ, all_no (i := i) (by omega) ((recO_base hbase).trans (restO_cut h10_1 h10_5 h10_10))]; rfl)
              ·
               refine AOps.gcons rfl rfl rfl rfl rfl (q_move) ?_
               refine AOps.gcons rfl rfl rfl rfl rfl (q_move) ?_
               refine AOps.gcons rfl rfl rfl rfl rfl (q_fa) ?_
               refine AOps.gcons rfl rfl rfl rfl rfl (q_load) ?_
               refine AOps.gbool rfl rfl rfl rfl rfl (q_call (0) (hc := (c_ciceroneref01_Same (cutZ z (z.rs.getD i default).nm) (z.rs.getD i default).nm (by omega) (by omega)))) (fun h10_15 => ?_) (fun h10_15 => ?_)
               ·
                refine AOps.gcons rfl rfl rfl rfl rfl (q_not) ?_
                refine AOps.gcons rfl rfl rfl rfl rfl (q_pick) ?_
                refine aC_ rfl rfl (q_pick) ?_
                refine AOps.nil ?_
                refine AWp.cond_f rfl ?_
                refine AWp.skip ?_
                refine AWp.region ?_
                refine aC_ rfl rfl (q_add) ?_
                refine aC_ rfl rfl (q_move) ?_
                refine AOps.nil ?_
                refine ⟨i + 1, ?_, Back.mk' (HasT.cons HasT.nil) HasH.nil, ?_⟩
                ·
                 exact ⟨by omega, all_step (i := i) (by omega) ha ((recO_base hbase).trans (restO_sub (Decidable.not_not.1 h10_10) h10_15))⟩
                ·
                 first | omega | (simp; omega)
               ·
                refine AOps.gcons rfl rfl rfl rfl rfl (q_not) ?_
                refine AOps.gcons rfl rfl rfl rfl rfl (q_pick) ?_
                refine aC_ rfl rfl (q_pick) ?_
                refine AOps.nil ?_
                refine AWp.cond_t rfl ?_
                refine AWp.seq ?_
                refine AWp.region ?_
                refine aC_ rfl rfl (q_assign) ?_
                refine AOps.nil ?_
                refine AWp.ret ?_
                show Fin te Try.f40 _ _
                refine q_ret (0) [_] [_] ?_
                exact congrArg tf (by rw [recsZ, all_no (i := i) (by omega) ((recO_base hbase).trans (restO_ns h10_1 (Decidable.not_not.1 h10_10) h10_15))]; rfl)
             ·
              refine aC_ rfl rfl (q_pick) ?_
              refine aC_ rfl rfl (q_move) ?_
              refine aG_ rfl rfl rfl rfl rfl rfl rfl rfl ?_
              refine aG_ rfl rfl rfl rfl rfl rfl rfl rfl ?_
              refine aG_ rfl rfl rfl rfl rfl rfl rfl rfl ?_
              refine aG_ rfl rfl rfl rfl rfl rfl rfl rfl ?_
              refine AOps.gskipu rfl rfl rfl rfl rfl rfl rfl ?_
              refine AOps.gskipu rfl rfl rfl rfl rfl rfl rfl ?_
              refine AOps.gskipu rfl rfl rfl rfl rfl rfl rfl ?_
              refine AOps.gskipu rfl rfl rfl rfl rfl rfl rfl ?_
              refine AOps.gskipu rfl rfl rfl rfl rfl rfl rfl ?_
              refine aG_ rfl rfl rfl rfl rfl rfl rfl rfl ?_
              refine aC_ rfl rfl (q_pick) ?_
              refine AOps.nil ?_
              refine AWp.cond_f rfl ?_
              refine AWp.skip ?_
              refine AWp.region ?_
              refine aC_ rfl rfl (q_add) ?_
              refine aC_ rfl rfl (q_move) ?_
              refine AOps.nil ?_
              refine ⟨i + 1, ?_, Back.mk' (HasT.cons HasT.nil) HasH.nil, ?_⟩
              ·
               exact ⟨by omega, all_step (i := i) (by omega) ha ((recO_base hbase).trans (restO_a (Decidable.not_not.1 h10_5)))⟩
              ·
               first | omega | (simp; omega)
            ·
             refine aC_ rfl rfl (q_move) ?_
             refine aG_ rfl rfl rfl rfl rfl rfl rfl rfl ?_
             refine aG_ rfl rfl rfl rfl rfl rfl rfl rfl ?_
             refine aG_ rfl rfl rfl rfl rfl rfl rfl rfl ?_
             refine aC_ rfl rfl (q_pick) ?_
             refine aC_ rfl rfl (q_move) ?_
             refine aG_ rfl rfl rfl rfl rfl rfl rfl rfl ?_
             refine aG_ rfl rfl rfl rfl rfl rfl rfl rfl ?_
             refine aG_ rfl rfl rfl rfl rfl rfl rfl rfl ?_
             refine aG_ rfl rfl rfl rfl rfl rfl rfl rfl ?_
             refine AOps.gskipu rfl rfl rfl rfl rfl rfl rfl ?_
             refine AOps.gskipu rfl rfl rfl rfl rfl rfl rfl ?_
             refine AOps.gskipu rfl rfl rfl rfl rfl rfl rfl ?_
             refine AOps.gskipu rfl rfl rfl rfl rfl rfl rfl ?_
             refine AOps.gskipu rfl rfl rfl rfl rfl rfl rfl ?_
             refine aG_ rfl rfl rfl rfl rfl rfl rfl rfl ?_
             refine aC_ rfl rfl (q_pick) ?_
             refine AOps.nil ?_
             refine AWp.cond_f rfl ?_
             refine AWp.skip ?_
             refine AWp.region ?_
             refine aC_ rfl rfl (q_add) ?_
             refine aC_ rfl rfl (q_move) ?_
             refine AOps.nil ?_
             refine ⟨i + 1, ?_, Back.mk' (HasT.cons HasT.nil) HasH.nil, ?_⟩
             ·
              exact ⟨by omega, all_step (i := i) (by omega) ha ((recO_base hbase).trans (restO_top (Decidable.not_not.1 h10_1) (fun e => h6_4)))⟩
             ·
              first | omega | (simp; omega)
           ·
            refine aC_ rfl rfl (q_move) ?_
            refine aG_ rfl rfl rfl rfl rfl rfl rfl rfl ?_
            refine aG_ rfl rfl rfl rfl rfl rfl rfl rfl ?_
            refine aC_ rfl rfl (q_pick) ?_
            refine AOps.nil ?_
            refine AWp.cond_f rfl ?_
            refine AWp.skip ?_
            refine AWp.seq ?_
            refine AWp.region ?_
            refine aC_ rfl rfl (q_load) ?_
            refine aC_ rfl rfl (q_fa) ?_
            refine aC_ rfl rfl (q_load) ?_
            refine aC_ rfl rfl (q_call (0) (hc := (c_rcut z (z.rs.getD i default).nm hz hr))) ?_
            refine aC_ rfl rfl (q_assign) ?_
            refine AOps.nil ?_
            refine AWp.seq ?_
            refine AWp.region ?_
            refine aC_ rfl rfl (q_move) ?_
            refine AOps.dec rfl rfl (q_sneq) (fun h10_1 => ?_) (fun h10_1 => ?_)
            ·
             refine aC_ rfl rfl (q_move) ?_
             refine AOps.gcons rfl rfl rfl rfl rfl (q_fa) ?_
             refine AOps.gcons rfl rfl rfl rfl rfl (q_load) ?_
             refine AOps.gdec rfl rfl rfl rfl rfl (q_neq) (fun h10_5 => ?_) (fun h10_5 => ?_)
             ·
              refine aC_ rfl rfl (q_pick) ?_
              refine aC_ rfl rfl (q_move) ?_
              refine AOps.gcons rfl rfl rfl rfl rfl (q_fa) ?_
              refine AOps.gcons rfl rfl rfl rfl rfl (q_load) ?_
              refine AOps.gdec rfl rfl rfl rfl rfl (q_neq) (fun h10_10 => ?_) (fun h10_10 => ?_)
              ·
               refine AOps.gcons rfl rfl rfl rfl rfl (q_move) ?_
               refine aG_ rfl rfl rfl rfl rfl rfl rfl rfl ?_
               refine aG_ rfl rfl rfl rfl rfl rfl rfl rfl ?_
               refine aG_ rfl rfl rfl rfl rfl rfl rfl rfl ?_
               refine aG_ rfl rfl rfl rfl rfl rfl rfl rfl ?_
               refine aG_ rfl rfl rfl rfl rfl rfl rfl rfl ?_
               refine AOps.gcons rfl rfl rfl rfl rfl (q_pick) ?_
               refine aC_ rfl rfl (q_pick) ?_
               refine AOps.nil ?_
               refine AWp.cond_t rfl ?_
               refine AWp.seq ?_
               refine AWp.region ?_
               refine aC_ rfl rfl (q_assign) ?_
               refine AOps.nil ?_
               refine AWp.ret ?_
               show Fin te Try.f40 _ _
               refine q_ret (0) [_] [_] ?_
               exact congrArg tf (by rw [recsZ, all_no (i := i) (by omega) ((recO_base hbase).trans (restO_cut h10_1 h10_5 h10_10))]; rfl)
              ·
               refine AOps.gcons rfl rfl rfl rfl rfl (q_move) ?_
               refine AOps.gcons rfl rfl rfl rfl rfl (q_move) ?_
               refine AOps.gcons rfl rfl rfl rfl rfl (q_fa) ?_
               refine AOps.gcons rfl rfl rfl rfl rfl (q_load) ?_
               refine AOps.gbool rfl rfl rfl rfl rfl (q_call (0) (hc := (c_ciceroneref01_Same (cutZ z (z.rs.getD i default).nm) (z.rs.getD i default).nm (by omega) (by omega)))) (fun h10_15 => ?_) (fun h10_15 => ?_)
               ·
                refine AOps.gcons rfl rfl rfl rfl rfl (q_not) ?_
                refine AOps.gcons rfl rfl rfl rfl rfl (q_pick) ?_
                refine aC_ rfl rfl (q_pick) ?_
                refine AOps.nil ?_
                refine AWp.cond_f rfl ?_
                refine AWp.skip ?_
                refine AWp.region ?_
                refine aC_ rfl rfl (q_add) ?_
                refine aC_ rfl rfl (q_move) ?_
                refine AOps.nil ?_
                refine ⟨i + 1, ?_, Back.mk' (HasT.cons HasT.nil) HasH.nil, ?_⟩
                ·
                 exact ⟨by omega, all_step (i := i) (by omega) ha ((recO_base hbase).trans (restO_sub (Decidable.not_not.1 h10_10) h10_15))⟩
                ·
                 first | omega | (simp; omega)
               ·
                refine AOps.gcons rfl rfl rfl rfl rfl (q_not) ?_
                refine AOps.gcons rfl rfl rfl rfl rfl (q_pick) ?_
                refine aC_ rfl rfl (q_pick) ?_
                refine AOps.nil ?_
                refine AWp.cond_t rfl ?_
                refine AWp.seq ?_
                refine AWp.region ?_
                refine aC_ rfl rfl (q_assign) ?_
                refine AOps.nil ?_
                refine AWp.ret ?_
                show Fin te Try.f40 _ _
                refine q_ret (0) [_] [_] ?_
                exact congrArg tf (by rw [recsZ, all_no (i := i) (by omega) ((recO_base hbase).trans (restO_ns h10_1 (Decidable.not_not.1 h10_10) h10_15))]; rfl)
             ·
              refine aC_ rfl rfl (q_pick) ?_
              refine aC_ rfl rfl (q_move) ?_
              refine aG_ rfl rfl rfl rfl rfl rfl rfl rfl ?_
              refine aG_ rfl rfl rfl rfl rfl rfl rfl rfl ?_
              refine aG_ rfl rfl rfl rfl rfl rfl rfl rfl ?_
              refine aG_ rfl rfl rfl rfl rfl rfl rfl rfl ?_
              refine AOps.gskipu rfl rfl rfl rfl rfl rfl rfl ?_
              refine AOps.gskipu rfl rfl rfl rfl rfl rfl rfl ?_
              refine AOps.gskipu rfl rfl rfl rfl rfl rfl rfl ?_
              refine AOps.gskipu rfl rfl rfl rfl rfl rfl rfl ?_
              refine AOps.gskipu rfl rfl rfl rfl rfl rfl rfl ?_
              refine aG_ rfl rfl rfl rfl rfl rfl rfl rfl ?_
              refine aC_ rfl rfl (q_pick) ?_
              refine AOps.nil ?_
              refine AWp.cond_f rfl ?_
              refine AWp.skip ?_
              refine AWp.region ?_
              refine aC_ rfl rfl (q_add) ?_
              refine aC_ rfl rfl (q_move) ?_
              refine AOps.nil ?_
              refine ⟨i + 1, ?_, Back.mk' (HasT.cons HasT.nil) HasH.nil, ?_⟩
              ·
               exact ⟨by omega, all_step (i := i) (by omega) ha ((recO_base hbase).trans (restO_a (Decidable.not_not.1 h10_5)))⟩
              ·
               first | omega | (simp; omega)
            ·
             refine aC_ rfl rfl (q_move) ?_
             refine aG_ rfl rfl rfl rfl rfl rfl rfl rfl ?_
             refine aG_ rfl rfl rfl rfl rfl rfl rfl rfl ?_
             refine aG_ rfl rfl rfl rfl rfl rfl rfl rfl ?_
             refine aC_ rfl rfl (q_pick) ?_
             refine aC_ rfl rfl (q_move) ?_
             refine aG_ rfl rfl rfl rfl rfl rfl rfl rfl ?_
             refine aG_ rfl rfl rfl rfl rfl rfl rfl rfl ?_
             refine aG_ rfl rfl rfl rfl rfl rfl rfl rfl ?_
             refine aG_ rfl rfl rfl rfl rfl rfl rfl rfl ?_
             refine AOps.gskipu rfl rfl rfl rfl rfl rfl rfl ?_
             refine AOps.gskipu rfl rfl rfl rfl rfl rfl rfl ?_
             refine AOps.gskipu rfl rfl rfl rfl rfl rfl rfl ?_
             refine AOps.gskipu rfl rfl rfl rfl rfl rfl rfl ?_
             refine AOps.gskipu rfl rfl rfl rfl rfl rfl rfl ?_
             refine aG_ rfl rfl rfl rfl rfl rfl rfl rfl ?_
             refine aC_ rfl rfl (q_pick) ?_
             refine AOps.nil ?_
             refine AWp.cond_f rfl ?_
             refine AWp.skip ?_
             refine AWp.region ?_
             refine aC_ rfl rfl (q_add) ?_
             refine aC_ rfl rfl (q_move) ?_
             refine AOps.nil ?_
             refine ⟨i + 1, ?_, Back.mk' (HasT.cons HasT.nil) HasH.nil, ?_⟩
             ·
              exact ⟨by omega, all_step (i := i) (by omega) ha ((recO_base hbase).trans (restO_top (Decidable.not_not.1 h10_1) (fun e => absurd e h7_2)))⟩
             ·
              first | omega | (simp; omega)
          ·
           refine aC_ rfl rfl (q_assign) ?_
           refine AOps.nil ?_
           refine AWp.seq ?_
           refine AWp.seq ?_
           refine AWp.region ?_
           refine aC_ rfl rfl (q_fa) ?_
           refine aC_ rfl rfl (q_load) ?_
           refine AOps.dec rfl rfl (q_eql) (fun h7_2 => ?_) (fun h7_2 => ?_)
           ·
            refine aC_ rfl rfl (q_move) ?_
            refine AOps.gcons rfl rfl rfl rfl rfl (q_move) ?_
            refine AOps.gcons rfl rfl rfl rfl rfl (q_not) ?_
            refine aC_ rfl rfl (q_pick) ?_
            refine AOps.nil ?_
            refine AWp.cond_t rfl ?_
            refine AWp.seq ?_
            refine AWp.region ?_
            refine aC_ rfl rfl (q_assign) ?_
            refine AOps.nil ?_
            refine AWp.ret ?_
            show Fin te Try.f40 _ _
            refine q_ret (0) [_] [_] ?_
            exact congrArg tf (by rw [recsZ, all_no (i := i) (by omega) ((recO_base hbase).trans (restO_soa h7_2 h6_4))]; rfl)
           ·
            refine aC_ rfl rfl (q_move) ?_
            refine aG_ rfl rfl rfl rfl rfl rfl rfl rfl ?_
            refine aG_ rfl rfl rfl rfl rfl rfl rfl rfl ?_
            refine aC_ rfl rfl (q_pick) ?_
            refine AOps.nil ?_
            refine AWp.cond_f rfl ?_
            refine AWp.skip ?_
            refine AWp.seq ?_
            refine AWp.region ?_
            refine aC_ rfl rfl (q_load) ?_
            refine aC_ rfl rfl (q_fa) ?_
            refine aC_ rfl rfl (q_load) ?_
            refine aC_ rfl rfl (q_call (0) (hc := (c_rcut z (z.rs.getD i default).nm hz hr))) ?_
            refine aC_ rfl rfl (q_assign) ?_
            refine AOps.nil ?_
            refine AWp.seq ?_
            refine AWp.region ?_
            refine aC_ rfl rfl (q_move) ?_
            refine AOps.dec rfl rfl (q_sneq) (fun h10_1 => ?_) (fun h10_1 => ?_)
            ·
             refine aC_ rfl rfl (q_move) ?_
             refine AOps.gcons rfl rfl rfl rfl rfl (q_fa) ?_
             refine AOps.gcons rfl rfl rfl rfl rfl (q_load) ?_
             refine AOps.gdec rfl rfl rfl rfl rfl (q_neq) (fun h10_5 => ?_) (fun h10_5 => ?_)
             ·
              refine aC_ rfl rfl (q_pick) ?_
              refine aC_ rfl rfl (q_move) ?_
              refine AOps.gcons rfl rfl rfl rfl rfl (q_fa) ?_
              refine AOps.gcons rfl rfl rfl rfl rfl (q_load) ?_
              refine AOps.gdec rfl rfl rfl rfl rfl (q_neq) (fun h10_10 => ?_) (fun h10_10 => ?_)
              ·
               refine AOps.gcons rfl rfl rfl rfl rfl (q_move) ?_
               refine aG_ rfl rfl rfl rfl rfl rfl rfl rfl ?_
               refine aG_ rfl rfl rfl rfl rfl rfl rfl rfl ?_
               refine aG_ rfl rfl rfl rfl rfl rfl rfl rfl ?_
               refine aG_ rfl rfl rfl rfl rfl rfl rfl rfl ?_
               refine aG_ rfl rfl rfl rfl rfl rfl rfl rfl ?_
               refine AOps.gcons rfl rfl rfl rfl rfl (q_pick) ?_
               refine aC_ rfl rfl (q_pick) ?_
               refine AOps.nil ?_
               refine AWp.cond_t rfl ?_
               refine AWp.seq ?_
               refine AWp.region ?_
               refine aC_ rfl rfl (q_assign) ?_
               refine AOps.nil ?_
               refine AWp.ret ?_
               show Fin te Try.f40 _ _
               refine q_ret (0) [_] [_] ?_
               exact congrArg tf (by rw [recsZ, all_no (i := i) (by omega) ((recO_base hbase).trans (restO_cut h10_1 h10_5 h10_10))]; rfl)
              ·
               refine AOps.gcons rfl rfl rfl rfl rfl (q_move) ?_
               refine AOps.gcons rfl rfl rfl rfl rfl (q_move) ?_
               refine AOps.gcons rfl rfl rfl rfl rfl (q_fa) ?_
               refine AOps.gcons rfl rfl rfl rfl rfl (q_load) ?_
               refine AOps.gbool rfl rfl rfl rfl rfl (q_call (0) (hc := (c_ciceroneref01_Same (cutZ z (z.rs.getD i default).nm) (z.rs.getD i default).nm (by omega) (by omega)))) (fun h10_15 => ?_) (fun h10_15 => ?_)
               ·
                refine AOps.gcons rfl rfl rfl rfl rfl (q_not) ?_
                refine AOps.gcons rfl rfl rfl rfl rfl (q_pick) ?_
                refine aC_ rfl rfl (q_pick) ?_
                refine AOps.nil ?_
                refine AWp.cond_f rfl ?_
                refine AWp.skip ?_
                refine AWp.region ?_
                refine aC_ rfl rfl (q_add) ?_
                refine aC_ rfl rfl (q_move) ?_
                refine AOps.nil ?_
                refine ⟨i + 1, ?_, Back.mk' (HasT.cons HasT.nil) HasH.nil, ?_⟩
                ·
                 exact ⟨by omega, all_step (i := i) (by omega) ha ((recO_base hbase).trans (restO_sub (Decidable.not_not.1 h10_10) h10_15))⟩
                ·
                 first | omega | (simp; omega)
               ·
                refine AOps.gcons rfl rfl rfl rfl rfl (q_not) ?_
                refine AOps.gcons rfl rfl rfl rfl rfl (q_pick) ?_
                refine aC_ rfl rfl (q_pick) ?_
                refine AOps.nil ?_
                refine AWp.cond_t rfl ?_
                refine AWp.seq ?_
                refine AWp.region ?_
                refine aC_ rfl rfl (q_assign) ?_
                refine AOps.nil ?_
                refine AWp.ret ?_
                show Fin te Try.f40 _ _
                refine q_ret (0) [_] [_] ?_
                exact congrArg tf (by rw [recsZ, all_no (i := i) (by omega) ((recO_base hbase).trans (restO_ns h10_1 (Decidable.not_not.1 h10_10) h10_15))]; rfl)
             ·
              refine aC_ rfl rfl (q_pick) ?_
              refine aC_ rfl rfl (q_move) ?_
              refine aG_ rfl rfl rfl rfl rfl rfl rfl rfl ?_
              refine aG_ rfl rfl rfl rfl rfl rfl rfl rfl ?_
              refine aG_ rfl rfl rfl rfl rfl rfl rfl rfl ?_
              refine aG_ rfl rfl rfl rfl rfl rfl rfl rfl ?_
              refine AOps.gskipu rfl rfl rfl rfl rfl rfl rfl ?_
              refine AOps.gskipu rfl rfl rfl rfl rfl rfl rfl ?_
              refine AOps.gskipu rfl rfl rfl rfl rfl rfl rfl ?_
              refine AOps.gskipu rfl rfl rfl rfl rfl rfl rfl ?_
              refine AOps.gskipu rfl rfl rfl rfl rfl rfl rfl ?_
              refine aG_ rfl rfl rfl rfl rfl rfl rfl rfl ?_
              refine aC_ rfl rfl (q_pick) ?_
              refine AOps.nil ?_
              refine AWp.cond_f rfl ?_
              refine AWp.skip ?_
              refine AWp.region ?_
              refine aC_ rfl rfl (q_add) ?_
              refine aC_ rfl rfl (q_move) ?_
              refine AOps.nil ?_
              refine ⟨i + 1, ?_, Back.mk' (HasT.cons HasT.nil) HasH.nil, ?_⟩
              ·
               exact ⟨by omega, all_step (i := i) (by omega) ha ((recO_base hbase).trans (restO_a (Decidable.not_not.1 h10_5)))⟩
              ·
               first | omega | (simp; omega)
            ·
             refine aC_ rfl rfl (q_move) ?_
             refine aG_ rfl rfl rfl rfl rfl rfl rfl rfl ?_
             refine aG_ rfl rfl rfl rfl rfl rfl rfl rfl ?_
             refine aG_ rfl rfl rfl rfl rfl rfl rfl rfl ?_
             refine aC_ rfl rfl (q_pick) ?_
             refine aC_ rfl rfl (q_move) ?_
             refine aG_ rfl rfl rfl rfl rfl rfl rfl rfl ?_
             refine aG_ rfl rfl rfl rfl rfl rfl rfl rfl ?_
             refine aG_ rfl rfl rfl rfl rfl rfl rfl rfl ?_
             refine aG_ rfl rfl rfl rfl rfl rfl rfl rfl ?_
             refine AOps.gskipu rfl rfl rfl rfl rfl rfl rfl ?_
             refine AOps.gskipu rfl rfl rfl rfl rfl rfl rfl ?_
             refine AOps.gskipu rfl rfl rfl rfl rfl rfl rfl ?_
             refine AOps.gskipu rfl rfl rfl rfl rfl rfl rfl ?_
             refine AOps.gskipu rfl rfl rfl rfl rfl rfl rfl ?_
             refine aG_ rfl rfl rfl rfl rfl rfl rfl rfl ?_
             refine aC_ rfl rfl (q_pick) ?_
             refine AOps.nil ?_
             refine AWp.cond_f rfl ?_
             refine AWp.skip ?_
             refine AWp.region ?_
             refine aC_ rfl rfl (q_add) ?_
             refine aC_ rfl rfl (q_move) ?_
             refine AOps.nil ?_
             refine ⟨i + 1, ?_, Back.mk' (HasT.cons HasT.nil) HasH.nil, ?_⟩
             ·
              exact ⟨by omega, all_step (i := i) (by omega) ha ((recO_base hbase).trans (restO_top (Decidable.not_not.1 h10_1) (fun e => absurd e h7_2)))⟩
             ·
              first | omega | (simp; omega)
         ·
          refine AOps.gcons rfl rfl rfl rfl rfl (q_not) ?_
          refine aC_ rfl rfl (q_pick) ?_
          refine AOps.nil ?_
          refine AWp.cond_t rfl ?_
          refine AWp.seq ?_
          refine AWp.region ?_
          refine aC_ rfl rfl (q_assign) ?_
          refine AOps.nil ?_
          refine AWp.ret ?_
          show Fin te Try.f40 _ _
          refine q_ret (0) [_] [_] ?_
          exact congrArg tf (by rw [recsZ, all_no (i := i) (by omega) (recO_no (baseO_7 h4_36))]; rfl)
   ·
    refine aC_ rfl rfl (q_not) ?_
    refine aC_ rfl rfl (q_move) ?_
    refine aG_ rfl rfl rfl rfl rfl rfl rfl rfl ?_
    refine aG_ rfl rfl rfl rfl rfl rfl rfl rfl ?_
    refine aG_ rfl rfl rfl rfl rfl rfl rfl rfl ?_
    refine aC_ rfl rfl (q_pick) ?_
    refine aC_ rfl rfl (q_move) ?_
    refine aG_ rfl rfl rfl rfl rfl rfl rfl rfl ?_
    refine aG_ rfl rfl rfl rfl rfl rfl rfl rfl ?_
    refine aG_ rfl rfl rfl rfl rfl rfl rfl rfl ?_
    refine aC_ rfl rfl (q_pick) ?_
    refine aC_ rfl rfl (q_move) ?_
    refine aG_ rfl rfl rfl rfl rfl rfl rfl rfl ?_
    refine aG_ rfl rfl rfl rfl rfl rfl rfl rfl ?_
    refine aG_ rfl rfl rfl rfl rfl rfl rfl rfl ?_
    refine aC_ rfl rfl (q_pick) ?_
    refine aC_ rfl rfl (q_move) ?_
    refine aG_ rfl rfl rfl rfl rfl rfl rfl rfl ?_
    refine aG_ rfl rfl rfl rfl rfl rfl rfl rfl ?_
    refine aG_ rfl rfl rfl rfl rfl rfl rfl rfl ?_
    refine aC_ rfl rfl (q_pick) ?_
    refine aC_ rfl rfl (q_move) ?_
    refine aG_ rfl rfl rfl rfl rfl rfl rfl rfl ?_
    refine aG_ rfl rfl rfl rfl rfl rfl rfl rfl ?_
    refine aG_ rfl rfl rfl rfl rfl rfl rfl rfl ?_
    refine aC_ rfl rfl (q_pick) ?_
    refine aC_ rfl rfl (q_move) ?_
    refine aG_ rfl rfl rfl rfl rfl rfl rfl rfl ?_
    refine aG_ rfl rfl rfl rfl rfl rfl rfl rfl ?_
    refine aG_ rfl rfl rfl rfl rfl rfl rfl rfl ?_
    refine aG_ rfl rfl rfl rfl rfl rfl rfl rfl ?_
    refine aG_ rfl rfl rfl rfl rfl rfl rfl rfl ?_
    refine aG_ rfl rfl rfl rfl rfl rfl rfl rfl ?_
    refine aC_ rfl rfl (q_pick) ?_
    refine AOps.nil ?_
    refine AWp.cond_t rfl ?_
    refine AWp.seq ?_
    refine AWp.region ?_
    refine aC_ rfl rfl (q_assign) ?_
    refine AOps.nil ?_
    refine AWp.ret ?_
    show Fin te Try.f40 _ _
    refine q_ret (0) [_] [_] ?_
    exact congrArg tf (by rw [recsZ, all_no (i := i) (by omega) (recO_no (baseO_1 h4_4))]; rfl)
  ·
   refine AOps.nil ?_
   refine AWp.seq ?_
   refine AWp.cond_f rfl ?_
   refine AWp.exit ?_
   refine AWp.seq ?_
   refine AWp.region ?_
   obtain rfl : i = z.rs.length := by omega
   rw [List.take_length] at ha
   refine aC_ rfl rfl (q_load) ?_
   refine aC_ rfl rfl (q_fa) ?_
   refine aC_ rfl rfl (q_load) ?_
   refine aC_ rfl rfl (q_call (0) (hc := (c_rat z z.o 6 hz hol))) ?_
   refine aC_ rfl rfl (q_len) ?_
   refine AOps.dec rfl rfl (q_eql) (fun h13_5 => ?_) (fun h13_5 => ?_)
   ·
    refine aC_ rfl rfl (q_move) ?_
    refine AOps.gcons rfl rfl rfl rfl rfl (q_load) ?_
    refine AOps.gcons rfl rfl rfl rfl rfl (q_fa) ?_
    refine AOps.gcons rfl rfl rfl rfl rfl (q_load) ?_
    refine AOps.gcons rfl rfl rfl rfl rfl (q_call (0) (hc := (c_rat z z.o 2 hz hol))) ?_
    refine AOps.gcons rfl rfl rfl rfl rfl (q_len) ?_
    refine AOps.gcons rfl rfl rfl rfl rfl (q_geq) ?_
    refine aC_ rfl rfl (q_pick) ?_
    refine aC_ rfl rfl (q_assign) ?_
    refine AOps.nil ?_
    refine AWp.ret ?_
    show Fin te Try.f40 _ _
    refine q_ret (0) [_] [_] ?_
    exact congrArg tf (by rw [recsZ, ha, decide_eq_true (p := (atZ z z.o 6).length = 1) (by omega)]; exact decide_eq_decide.2 (by omega))
   ·
    refine aC_ rfl rfl (q_move) ?_
    refine aG_ rfl rfl rfl rfl rfl rfl rfl rfl ?_
    refine aG_ rfl rfl rfl rfl rfl rfl rfl rfl ?_
    refine aG_ rfl rfl rfl rfl rfl rfl rfl rfl ?_
    refine aG_ rfl rfl rfl rfl rfl rfl rfl rfl ?_
    refine aG_ rfl rfl rfl rfl rfl rfl rfl rfl ?_
    refine aG_ rfl rfl rfl rfl rfl rfl rfl rfl ?_
    refine aC_ rfl rfl (q_pick) ?_
    refine aC_ rfl rfl (q_assign) ?_
    refine AOps.nil ?_
    refine AWp.ret ?_
    show Fin te Try.f40 _ _
    refine q_ret (0) [_] [_] ?_
    exact congrArg tf (by rw [recsZ, decide_eq_false (p := (atZ z z.o 6).length = 1) (by omega), Bool.and_false]; rfl)
end Go.Proofs.Ytokccoloholgaaa.Fw


set_option linter.unusedVariables false
set_option linter.unusedSimpArgs false
namespace Go.Proofs.Ytokccoloholgaaa.Fw
open Go.RowKit
theorem aloP_1 {z : Zo} {i k : Nat} (h : ¬ ¬ (i : Int) = k) : aloP z i k = false := by rw [aloP, decide_eq_false (p := i ≠ k) (by omega)]; rfl
theorem aloP_2 {z : Zo} {i k : Nat} (h : ¬ (z.rs.getD i default).ty = 5) : aloP z i k = false := by rw [aloP, decide_eq_false h, Bool.and_false]; rfl
theorem aloP_3 {z : Zo} {i k : Nat} (h : sameN (z.rs.getD i default).nm (z.rs.getD k default).nm = false) : aloP z i k = false := by rw [aloP, h, Bool.and_false]
theorem aloP_yes {z : Zo} {i k : Nat} (h : ¬ (i : Int) = k) (h2 : (z.rs.getD i default).ty = 5) (h3 : sameN (z.rs.getD i default).nm (z.rs.getD k default).nm = true) : aloP z i k = true := by
  rw [aloP, decide_eq_true (p := i ≠ k) (by omega), decide_eq_true h2, h3]; rfl
theorem range_no_step {p : Nat → Bool} {j : Nat} (h : (List.range j).any p = false) (h2 : p j = false) : (List.range (j + 1)).any p = false := by rw [range_any_step, h, h2]; rfl
theorem aloZ_no {z : Zo} {i : Nat} (hi : i < z.rs.length) (h : (List.range z.rs.length).any (aloP z i) = true) : aloZ z = false := by
  rw [aloZ, range_all_no hi (by rw [h]; rfl)]
theorem aloZ_yes {z : Zo} (h : ∀ j, j < z.rs.length → (List.range z.rs.length).any (aloP z j) = false) : aloZ z = true := by
  rw [aloZ, range_all_iff.2 fun j hj => by rw [h j hj]; rfl]
set_option maxRecDepth 20000 in
set_option maxHeartbeats 2000000 in
theorem c_ciceroneref18_alone (z : Zo) (hz : ZoOk z) : AC Try.prog 41 [.agg (zoC z)] emp (Ret (tf (aloZ z))) := by
 have hrl : z.rs.length * 64 ≤ 140737488351232 := hz.2.1.1
 have hol := hz.1
 refine AC.intro te_ok (fn := Try.f41) ⟨Try.func41, rfl, rfl⟩ (Nat.le_of_ble_eq_true rfl) ?_
 refine AWp.seq ?_
 refine AWp.region ?_
 refine aC_ rfl rfl (q_box 100) ?_
 refine aC_ rfl rfl (q_assign) ?_
 refine AOps.nil ?_
 refine AWp.seq ?_
 refine AWp.seq ?_
 refine AWp.region ?_
 refine aC_ rfl rfl (q_fa) ?_
 refine aC_ rfl rfl (q_load) ?_
 refine aC_ rfl rfl (q_len) ?_
 refine aC_ rfl rfl (q_move) ?_
 refine AOps.nil ?_
 refine AWp.block ?_
 refine AWp.loopR (α := Nat) [2, 3, 4, 5, 6, 10, 11, 12, 13, 14, 15, 16, 17, 18, 19, 20, 21, 22, 23, 24, 25, 26, 27, 28, 29, 30, 31, 32, 33, 34, 35, 36, 37, 38, 39] (fun i => [(10, i64 i)]) (fun i => []) (fun i => i ≤ z.rs.length ∧ ∀ j, j < i → (List.range z.rs.length).any (aloP z j) = false) (fun i => z.rs.length - i) 0 ?_ (Back.mk' (HasT.cons HasT.nil) HasH.nil) ?_
 ·
  exact ⟨Nat.zero_le _, fun j hj => absurd hj (Nat.not_lt_zero j)⟩
 ·
  rintro i ⟨hi, hc⟩
  refine AWp.seq ?_
  refine AWp.region ?_
  refine AOps.dec rfl rfl (q_lss) (fun h2_0 => ?_) (fun h2_0 => ?_)
  ·
   refine AOps.nil ?_
   refine AWp.seq ?_
   refine AWp.cond_t rfl ?_
   refine AWp.skip ?_
   refine AWp.seq ?_
   refine AWp.block ?_
   refine AWp.seq ?_
   refine AWp.region ?_
   refine aC_ rfl rfl (q_move) ?_
   refine aC_ rfl rfl (q_ix) ?_
   refine aC_ rfl rfl (q_load) ?_
   refine aC_ rfl rfl (q_alloc 403) ?_
   refine aC_ rfl rfl (q_assign) ?_
   refine aC_ rfl rfl (q_store) ?_
   refine AOps.nil ?_
   refine AWp.seq ?_
   refine AWp.region ?_
   have hr := hz.2.2 _ (getD_mem' (l := z.rs) (i := i) (by omega))
   have hrd := hz.2.1.2 _ (getD_mem' (l := z.rs) (i := i) (by omega))
   refine aC_ rfl rfl (q_fa) ?_
   refine aC_ rfl rfl (q_load) ?_
   refine aC_ rfl rfl (q_len) ?_
   refine aC_ rfl rfl (q_move) ?_
   refine AOps.nil ?_
   refine AWp.block ?_
   refine AWp.loopR (α := Nat) [2, 5, 6, 18, 19, 20, 21, 22, 23, 24, 25, 26, 27, 28, 29, 30, 31, 32, 33, 34, 35, 36, 37, 38] (fun k => [(18, i64 k)]) (fun k => []) (fun k => k ≤ z.rs.length ∧ (List.range k).any (aloP z i) = false) (fun k => z.rs.length - k) 0 ?_ (Back.mk' (HasT.cons HasT.nil) HasH.nil) ?_
   ·
    exact ⟨Nat.zero_le _, rfl⟩
   ·
    rintro k ⟨hki, hk⟩
    refine AWp.seq ?_
    refine AWp.region ?_
    refine AOps.dec rfl rfl (q_lss) (fun h5_0 => ?_) (fun h5_0 => ?_)
    ·
     refine AOps.nil ?_
     refine AWp.seq ?_
     refine AWp.cond_t rfl ?_
     refine AWp.skip ?_
     refine AWp.seq ?_
     refine AWp.block ?_
     refine AWp.seq ?_
     refine AWp.region ?_
     refine aC_ rfl rfl (q_move) ?_
     refine aC_ rfl rfl (q_ix) ?_
     refine aC_ rfl rfl (q_load) ?_
     refine aC_ rfl rfl (q_alloc 703) ?_
     refine aC_ rfl rfl (q_assign) ?_
     refine aC_ rfl rfl (q_store) ?_
     refine AOps.nil ?_
     refine AWp.seq ?_
     refine AWp.region ?_
     have hrk := hz.2.2 _ (getD_mem' (l := z.rs) (i := k) (by omega))
     refine aC_ rfl rfl (q_move) ?_
     refine aC_ rfl rfl (q_move) ?_
     refine AOps.dec rfl rfl (q_neq) (fun h7_2 => ?_) (fun h7_2 => ?_)
     ·
      refine aC_ rfl rfl (q_move) ?_
      refine AOps.gcons rfl rfl rfl rfl rfl (q_fa) ?_
      refine AOps.gcons rfl rfl rfl rfl rfl (q_load) ?_
      refine AOps.gdec rfl rfl rfl rfl rfl (q_eql) (fun h7_6 => ?_) (fun h7_6 => ?_)
      ·
       refine aC_ rfl rfl (q_pick) ?_
       refine aC_ rfl rfl (q_move) ?_
       refine AOps.gcons rfl rfl rfl rfl rfl (q_fa) ?_
       refine AOps.gcons rfl rfl rfl rfl rfl (q_load) ?_
       refine AOps.gcons rfl rfl rfl rfl rfl (q_fa) ?_
       refine AOps.gcons rfl rfl rfl rfl rfl (q_load) ?_
       refine AOps.gbool rfl rfl rfl rfl rfl (q_call (0) (hc := (c_ciceroneref01_Same (z.rs.getD i default).nm (z.rs.getD k default).nm (by omega) (by omega)))) (fun h7_13 => ?_) (fun h7_13 => ?_)
       ·
        refine aC_ rfl rfl (q_pick) ?_
        refine AOps.nil ?_
        refine AWp.cond_t rfl ?_
        refine AWp.seq ?_
        refine AWp.region ?_
        refine aC_ rfl rfl (q_assign) ?_
        refine AOps.nil ?_
        refine AWp.ret ?_
        show Fin te Try.f41 _ _
        refine q_ret (0) [_] [_] ?_
        exact congrArg tf (aloZ_no (i := i) (by omega) (range_any_yes (j := k) (by omega) (aloP_yes h7_2 h7_6 h7_13))).symm
       ·
        refine aC_ rfl rfl (q_pick) ?_
        refine AOps.nil ?_
        refine AWp.cond_f rfl ?_
        refine AWp.skip ?_
        refine AWp.region ?_
        refine aC_ rfl rfl (q_add) ?_
        refine aC_ rfl rfl (q_move) ?_
        refine AOps.nil ?_
        refine ⟨k + 1, ?_, Back.mk' (HasT.cons HasT.nil) HasH.nil, ?_⟩
        ·
         exact ⟨by omega, range_no_step hk (aloP_3 h7_13)⟩
        ·
         first | omega | (simp; omega)
      ·
       refine aC_ rfl rfl (q_pick) ?_
       refine aC_ rfl rfl (q_move) ?_
       refine aG_ rfl rfl rfl rfl rfl rfl rfl rfl ?_
       refine aG_ rfl rfl rfl rfl rfl rfl rfl rfl ?_
       refine aG_ rfl rfl rfl rfl rfl rfl rfl rfl ?_
       refine aG_ rfl rfl rfl rfl rfl rfl rfl rfl ?_
       refine aG_ rfl rfl rfl rfl rfl rfl rfl rfl ?_
       refine aC_ rfl rfl (q_pick) ?_
       refine AOps.nil ?_
       refine AWp.cond_f rfl ?_
       refine AWp.skip ?_
       refine AWp.region ?_
       refine aC_ rfl rfl (q_add) ?_
       refine aC_ rfl rfl (q_move) ?_
       refine AOps.nil ?_
       refine ⟨k + 1, ?_, Back.mk' (HasT.cons HasT.nil) HasH.nil, ?_⟩
       ·
        exact ⟨by omega, range_no_step hk (aloP_2 h7_6)⟩
       ·
        first | omega | (simp; omega)
     ·
      refine aC_ rfl rfl (q_move) ?_
      refine aG_ rfl rfl rfl rfl rfl rfl rfl rfl ?_
      refine aG_ rfl rfl rfl rfl rfl rfl rfl rfl ?_
      refine aG_ rfl rfl rfl rfl rfl rfl rfl rfl ?_
      refine aC_ rfl rfl (q_pick) ?_
      refine aC_ rfl rfl (q_move) ?_
      refine aG_ rfl rfl rfl rfl rfl rfl rfl rfl ?_
      refine aG_ rfl rfl rfl rfl rfl rfl rfl rfl ?_
      refine aG_ rfl rfl rfl rfl rfl rfl rfl rfl ?_
      refine aG_ rfl rfl rfl rfl rfl rfl rfl rfl ?_
      refine aG_ rfl rfl rfl rfl rfl rfl rfl rfl ?_
      refine aC_ rfl rfl (q_pick) ?_
      refine AOps.nil ?_
      refine AWp.cond_f rfl ?_
      refine AWp.skip ?_
      refine AWp.region ?_
      refine aC_ rfl rfl (q_add) ?_
      refine aC_ rfl rfl (q_move) ?_
      refine AOps.nil ?_
      refine ⟨k + 1, ?_, Back.mk' (HasT.cons HasT.nil) HasH.nil, ?_⟩
      ·
       exact ⟨by omega, range_no_step hk (aloP_1 h7_2)⟩
      ·
       first | omega | (simp; omega)
    ·
     refine AOps.nil ?_
     refine AWp.seq ?_
     refine AWp.cond_f rfl ?_
     refine AWp.exit ?_
     refine AWp.region ?_
     refine aC_ rfl rfl (q_add) ?_
     refine aC_ rfl rfl (q_move) ?_
     refine AOps.nil ?_
     refine ⟨i + 1, ?_, Back.mk' (HasT.cons HasT.nil) HasH.nil, ?_⟩
     ·
      obtain rfl : k = z.rs.length := by omega
      exact ⟨by omega, lt_step hc hk⟩
     ·
      first | omega | (simp; omega)
  ·
   refine AOps.nil ?_
   refine AWp.seq ?_
   refine AWp.cond_f rfl ?_
   refine AWp.exit ?_
   refine AWp.seq ?_
   refine AWp.region ?_
   refine aC_ rfl rfl (q_assign) ?_
   refine AOps.nil ?_
   refine AWp.ret ?_
   show Fin te Try.f41 _ _
   refine q_ret (0) [_] [_] ?_
   obtain rfl : i = z.rs.length := by omega
   exact congrArg tf (aloZ_yes hc).symm
set_option maxRecDepth 20000 in
set_option maxHeartbeats 2000000 in
theorem c_ciceroneref18_sameNames (a b : List Rr) (ha : RrsOk a) (hb : RrsOk b) : AC Try.prog 88 [.fz 0 a.length (cl rrc a), .fz 0 b.length (cl rrc b)] emp (Ret (tf (subR a b && subR b a))) := by
 have hal := ha.1
 have hbl := hb.1
 have hL2 : [(a, b), (b, a)].length = 2 := rfl
 refine AC.intro te_ok (fn := Try.f88) ⟨Try.func88, rfl, rfl⟩ (Nat.le_of_ble_eq_true rfl) ?_
 refine AWp.seq ?_
 refine AWp.region ?_
 refine aC_ rfl rfl (q_assign) ?_
 refine AOps.nil ?_
 refine AWp.seq ?_
 refine AWp.seq ?_
 refine AWp.region ?_
 refine aC_ rfl rfl (q_move) ?_
 refine aC_ rfl rfl (q_move) ?_
 refine aC_ rfl rfl (q_buildA (lc 0 rrc) [a, b] [(_, _), (_, _)]) ?_
 refine aC_ rfl rfl (q_move) ?_
 refine aC_ rfl rfl (q_move) ?_
 refine aC_ rfl rfl (q_buildA (lc 0 rrc) [b, a] [(_, _), (_, _)]) ?_
 refine aC_ rfl rfl (q_bs 206 prC [(a, b), (b, a)] [(_, _), (_, _)]) ?_
 refine AOps.weak (Weak.full 0 [] (t := [(18, .fz 0 [(a, b), (b, a)].length (cl prC [(a, b), (b, a)]))]) (hl := [])) ?_
 refine aC_ rfl rfl (q_len) ?_
 refine aC_ rfl rfl (q_move) ?_
 refine AOps.nil ?_
 refine AWp.block ?_
 refine AWp.loopR (α := Nat) [4, 6, 8, 9, 11, 20, 21, 22, 23, 24, 25, 26, 27, 28, 29, 30, 31, 32, 33, 34, 35, 36, 37, 38, 39, 40, 41, 42, 43, 44, 45, 46, 47, 48, 49, 50, 51, 52] (fun p => [(20, i64 p)]) (fun p => []) (fun p => p ≤ 2 ∧ ([(a, b), (b, a)].take p).all bothR = true) (fun p => 2 - p) 0 ?_ (Back.mk' (HasT.cons HasT.nil) HasH.nil) ?_
 ·
  exact ⟨Nat.zero_le _, rfl⟩
 ·
  rintro p ⟨hp, hA⟩
  refine AWp.seq ?_
  refine AWp.region ?_
  refine AOps.dec rfl rfl (q_lss) (fun h2_0 => ?_) (fun h2_0 => ?_)
  ·
   refine AOps.nil ?_
   refine AWp.seq ?_
   refine AWp.cond_t rfl ?_
   refine AWp.skip ?_
   refine AWp.seq ?_
   refine AWp.block ?_
   refine AWp.seq ?_
   refine AWp.region ?_
   refine aC_ rfl rfl (q_ix) ?_
   refine aC_ rfl rfl (q_load) ?_
   refine aC_ rfl rfl (q_alloc 402) ?_
   refine aC_ rfl rfl (q_store) ?_
   refine AOps.nil ?_
   refine AWp.seq ?_
   refine AWp.region ?_
   obtain ⟨hx1, hx2⟩ := pair_at ha hb (p := p) (by omega)
   have hx1l := hx1.1
   have hx2l := hx2.1
   have hn1 : ([(a, b), (b, a)].getD (p : Int).toNat default).1.length = ([(a, b), (b, a)].getD p default).1.length := rfl
   have hn2 : ([(a, b), (b, a)].getD (p : Int).toNat default).2.length = ([(a, b), (b, a)].getD p default).2.length := rfl
   refine aC_ rfl rfl (q_ixa) ?_
   refine aC_ rfl rfl (q_load) ?_
   refine aC_ rfl rfl (q_len) ?_
   refine aC_ rfl rfl (q_move) ?_
   refine AOps.nil ?_
   refine AWp.block ?_
   refine AWp.loopR (α := Nat) [4, 8, 9, 11, 27, 28, 29, 30, 31, 32, 33, 34, 35, 36, 37, 38, 39, 40, 41, 42, 43, 44, 45, 46, 47, 48, 49, 50, 51] (fun i => [(27, i64 i)]) (fun i => []) (fun i => i ≤ ([(a, b), (b, a)].getD p default).1.length ∧ (([(a, b), (b, a)].getD p default).1.take i).all (fun r => ([(a, b), (b, a)].getD p default).2.any (subP r)) = true) (fun i => ([(a, b), (b, a)].getD p default).1.length - i) 0 ?_ (Back.mk' (HasT.cons HasT.nil) HasH.nil) ?_
   ·
    exact ⟨Nat.zero_le _, rfl⟩
   ·
    rintro i ⟨hi, hB⟩
    refine AWp.seq ?_
    refine AWp.region ?_
    refine AOps.dec rfl rfl (q_lss) (fun h5_0 => ?_) (fun h5_0 => ?_)
    ·
     refine AOps.nil ?_
     refine AWp.seq ?_
     refine AWp.cond_t rfl ?_
     refine AWp.skip ?_
     refine AWp.seq ?_
     refine AWp.block ?_
     refine AWp.seq ?_
     refine AWp.region ?_
     have hri := hx1.2 _ (getD_mem' (l := ([(a, b), (b, a)].getD p default).1) (i := i) (by omega))
     refine aC_ rfl rfl (q_ix) ?_
     refine aC_ rfl rfl (q_load) ?_
     refine aC_ rfl rfl (q_alloc 702) ?_
     refine aC_ rfl rfl (q_store) ?_
     refine AOps.nil ?_
     refine AWp.seq ?_
     refine AWp.region ?_
     refine aC_ rfl rfl (q_assign) ?_
     refine AOps.nil ?_
     refine AWp.seq ?_
     refine AWp.seq ?_
     refine AWp.region ?_
     refine aC_ rfl rfl (q_ixa) ?_
     refine aC_ rfl rfl (q_load) ?_
     refine aC_ rfl rfl (q_len) ?_
     refine aC_ rfl rfl (q_move) ?_
     refine AOps.nil ?_
     refine AWp.block ?_
     refine AWp.loopR (α := Nat) [9, 11, 34, 35, 36, 37, 38, 39, 40, 41, 42, 43, 44, 45, 46, 47, 48] (fun j => [(34, i64 j), (9, tf ((([(a, b), (b, a)].getD p default).2.take j).any (subP (([(a, b), (b, a)].getD p default).1.getD i default))))]) (fun j => []) (fun j => j ≤ ([(a, b), (b, a)].getD p default).2.length) (fun j => ([(a, b), (b, a)].getD p default).2.length - j) 0 ?_ (Back.mk' (HasT.cons (HasT.cons HasT.nil)) HasH.nil) ?_
     ·
      exact Nat.zero_le _
     ·
      rintro j hj
      refine AWp.seq ?_
      refine AWp.region ?_
      refine AOps.dec rfl rfl (q_lss) (fun h9_0 => ?_) (fun h9_0 => ?_)
      ·
       refine AOps.nil ?_
       refine AWp.seq ?_
       refine AWp.cond_t rfl ?_
       refine AWp.skip ?_
       refine AWp.seq ?_
       refine AWp.block ?_
       refine AWp.seq ?_
       refine AWp.region ?_
       have hrj := hx2.2 _ (getD_mem' (l := ([(a, b), (b, a)].getD p default).2) (i := j) (by omega))
       refine aC_ rfl rfl (q_ix) ?_
       refine aC_ rfl rfl (q_load) ?_
       refine aC_ rfl rfl (q_alloc 1102) ?_
       refine aC_ rfl rfl (q_store) ?_
       refine AOps.nil ?_
       refine AWp.region ?_
       refine AOps.bool rfl rfl (q_move) (fun h11_0 => ?_) (fun h11_0 => ?_)
       ·
        refine aC_ rfl rfl (q_move) ?_
        refine aG_ rfl rfl rfl rfl rfl rfl rfl rfl ?_
        refine aG_ rfl rfl rfl rfl rfl rfl rfl rfl ?_
        refine aG_ rfl rfl rfl rfl rfl rfl rfl rfl ?_
        refine aG_ rfl rfl rfl rfl rfl rfl rfl rfl ?_
        refine aG_ rfl rfl rfl rfl rfl rfl rfl rfl ?_
        refine aG_ rfl rfl rfl rfl rfl rfl rfl rfl ?_
        refine aG_ rfl rfl rfl rfl rfl rfl rfl rfl ?_
        refine aC_ rfl rfl (q_pick) ?_
        refine aC_ rfl rfl (q_assign) ?_
        refine AOps.nil ?_
        refine AWp.region ?_
        refine aC_ rfl rfl (q_add) ?_
        refine aC_ rfl rfl (q_move) ?_
        refine AOps.nil ?_
        refine ⟨j + 1, ?_, Back.mk' (HasT.cons (HasT.cons HasT.nil (h1 := by exact congrArg tf (by rw [sub_step (by omega), h11_0]; rfl)) )) HasH.nil, ?_⟩
        ·
         first | assumption | omega | decide | (simp; omega) | (simp [*]; done)
        ·
         first | omega | (simp; omega)
       ·
        refine aC_ rfl rfl (q_move) ?_
        refine AOps.gcons rfl rfl rfl rfl rfl (q_fa) ?_
        refine AOps.gcons rfl rfl rfl rfl rfl (q_load) ?_
        refine AOps.gcons rfl rfl rfl rfl rfl (by first | exact q_conv_zs | exact q_conv_ls) ?_
        refine AOps.gcons rfl rfl rfl rfl rfl (q_fa) ?_
        refine AOps.gcons rfl rfl rfl rfl rfl (q_load) ?_
        refine AOps.gcons rfl rfl rfl rfl rfl (by first | exact q_conv_zs | exact q_conv_ls) ?_
        refine AOps.gbool rfl rfl rfl rfl rfl (q_call (0) (hc := (c_ciceroneref01_Same (([(a, b), (b, a)].getD p default).1.getD i default).da (([(a, b), (b, a)].getD p default).2.getD j default).da (by omega) (by omega)))) (fun h11_8 => ?_) (fun h11_8 => ?_)
        ·
         refine aC_ rfl rfl (q_pick) ?_
         refine aC_ rfl rfl (q_assign) ?_
         refine AOps.nil ?_
         refine AWp.region ?_
         refine aC_ rfl rfl (q_add) ?_
         refine aC_ rfl rfl (q_move) ?_
         refine AOps.nil ?_
         refine ⟨j + 1, ?_, Back.mk' (HasT.cons (HasT.cons HasT.nil (h1 := by exact congrArg tf (by rw [sub_step (by omega), h11_0, Bool.false_or]; exact h11_8.symm)) )) HasH.nil, ?_⟩
         ·
          first | assumption | omega | decide | (simp; omega) | (simp [*]; done)
         ·
          first | omega | (simp; omega)
        ·
         refine aC_ rfl rfl (q_pick) ?_
         refine aC_ rfl rfl (q_assign) ?_
         refine AOps.nil ?_
         refine AWp.region ?_
         refine aC_ rfl rfl (q_add) ?_
         refine aC_ rfl rfl (q_move) ?_
         refine AOps.nil ?_
         refine ⟨j + 1, ?_, Back.mk' (HasT.cons (HasT.cons HasT.nil (h1 := by exact congrArg tf (by rw [sub_step (by omega), h11_0, Bool.false_or]; exact h11_8.symm)) )) HasH.nil, ?_⟩
         ·
          first | assumption | omega | decide | (simp; omega) | (simp [*]; done)
         ·
          first | omega | (simp; omega)
      ·
       refine AOps.nil ?_
       refine AWp.seq ?_
       refine AWp.cond_f rfl ?_
       refine AWp.exit ?_
       refine AWp.seq ?_
       refine AWp.region ?_
       refine AOps.bool rfl rfl (q_move) (fun h13_0 => ?_) (fun h13_0 => ?_)
       ·
        refine aC_ rfl rfl (q_not) ?_
        refine AOps.nil ?_
        refine AWp.cond_f rfl ?_
        refine AWp.skip ?_
        refine AWp.region ?_
        refine aC_ rfl rfl (q_add) ?_
        refine aC_ rfl rfl (q_move) ?_
        refine AOps.nil ?_
        refine ⟨i + 1, ?_, Back.mk' (HasT.cons HasT.nil) HasH.nil, ?_⟩
        ·
         have hj2 : j = (([(a, b), (b, a)].getD p default).2).length := by omega
         rw [hj2, List.take_length] at h13_0
         exact ⟨by omega, all_step (i := i) (by omega) hB h13_0⟩
        ·
         first | omega | (simp; omega)
       ·
        refine aC_ rfl rfl (q_not) ?_
        refine AOps.nil ?_
        refine AWp.cond_t rfl ?_
        refine AWp.seq ?_
        refine AWp.region ?_
        refine aC_ rfl rfl (q_assign) ?_
        refine AOps.nil ?_
        refine AWp.ret ?_
        show Fin te Try.f88 _ _
        refine q_ret (0) [_] [_] ?_
        have hj2 : j = (([(a, b), (b, a)].getD p default).2).length := by omega
        rw [hj2, List.take_length] at h13_0
        exact congrArg tf ((two_all (a := a) (b := b)).symm.trans (all_no (i := p) (by omega) (by rw [bothR, subR_all]; exact all_no (i := i) (by omega) h13_0))).symm
    ·
     refine AOps.nil ?_
     refine AWp.seq ?_
     refine AWp.cond_f rfl ?_
     refine AWp.exit ?_
     refine AWp.region ?_
     refine aC_ rfl rfl (q_add) ?_
     refine aC_ rfl rfl (q_move) ?_
     refine AOps.nil ?_
     refine ⟨p + 1, ?_, Back.mk' (HasT.cons HasT.nil) HasH.nil, ?_⟩
     ·
      obtain rfl : i = ([(a, b), (b, a)].getD p default).1.length := by omega
      rw [List.take_length] at hB
      exact ⟨by omega, all_step (i := p) (by simp; omega) hA (by rw [bothR, subR_all]; exact hB)⟩
     ·
      first | omega | (simp; omega)
  ·
   refine AOps.nil ?_
   refine AWp.seq ?_
   refine AWp.cond_f rfl ?_
   refine AWp.exit ?_
   refine AWp.seq ?_
   refine AWp.region ?_
   refine aC_ rfl rfl (q_assign) ?_
   refine AOps.nil ?_
   refine AWp.ret ?_
   show Fin te Try.f88 _ _
   refine q_ret (0) [_] [_] ?_
   obtain rfl : p = 2 := by omega
   exact congrArg tf ((two_all (a := a) (b := b)).symm.trans hA).symm
end Go.Proofs.Ytokccoloholgaaa.Fw


