/- The texts A24d, A24e, A24f, W24, L24t, one behind the other: what the walks and plain laws need; conditions stand with each theorem. -/
import Derived.Test.YtokccoloholgaaaCat5
set_option linter.unusedVariables false
set_option linter.unusedSimpArgs false
namespace Go.Proofs.Ytokccoloholgaaa.Fw
open Go.RowKit
def covP (r o : Rr) : Bool := decide (r.cs = o.cs) && decide (plN r = plN o)
def covQ (b : List Rr) (r : Rr) : Bool := !b.any (covP r)
def covB (a b : List Rr) : Bool := !a.any (covQ b)
theorem rn_from : ∀ (l : List Rr) (p : List (List Rr) × List Rr), (∀ r ∈ p.1, r ≠ []) → (l.foldl rnA p).1.flatten ++ (l.foldl rnA p).2 = p.1.flatten ++ p.2 ++ l ∧ ∀ r ∈ (l.foldl rnA p).1, r ≠ []
  | [], p, h => ⟨by simp, h⟩
  | r :: l, (D, run), h => by
    have hh : (rnA (D, run) r).1.flatten ++ (rnA (D, run) r).2 = D.flatten ++ run ++ [r] ∧ ∀ x ∈ (rnA (D, run) r).1, x ≠ [] := by
      cases run with
      | nil => exact ⟨by simp [rnA], h⟩
      | cons a t =>
        cases hk : keyE a r with
        | true => rw [rnA_yes hk]; exact ⟨by simp, h⟩
        | false =>
          rw [rnA_no hk]
          refine ⟨by simp, fun x hx => ?_⟩
          rcases List.mem_append.1 hx with hx | hx
          · exact h x hx
          · rw [List.mem_singleton.1 hx]; simp
    obtain ⟨k1, k2⟩ := rn_from l (rnA (D, run) r) hh.2
    exact ⟨by rw [List.foldl_cons, k1, hh.1]; simp, k2⟩
theorem rnD_flat (l : List Rr) : (rnD (rnF l)).flatten = l ∧ ∀ r ∈ rnD (rnF l), r ≠ [] := by
  obtain ⟨h1, h2⟩ := rn_from l ([], []) (fun r hr => by cases hr)
  have e : l.foldl rnA ([], []) = rnF l := rfl
  rw [e] at h1 h2
  rcases hp : rnF l with ⟨D, run⟩
  rw [hp] at h1 h2
  cases run with
  | nil => exact ⟨by simpa [rnD] using h1, h2⟩
  | cons a t =>
    refine ⟨by simpa [rnD] using h1, fun r hr => ?_⟩
    rcases List.mem_append.1 hr with hr | hr
    · exact h2 r hr
    · rw [List.mem_singleton.1 hr]; simp
theorem rnV_run {l : List Rr} {r : List Rr} (h : r ∈ rnV l) : 0 < r.length ∧ (∀ x ∈ r, x ∈ l) ∧ r.length ≤ l.length := by
  cases ho : rnO l with
  | false => rw [rnV_no ho] at h; cases h
  | true =>
    rw [rnV_yes ho] at h
    obtain ⟨h1, h2⟩ := rnD_flat l
    refine ⟨List.length_pos_iff.2 (h2 r h), fun x hx => ?_, ?_⟩
    · rw [← h1]; exact List.mem_flatten.2 ⟨r, h, hx⟩
    · have := (List.sublist_flatten_of_mem h).length_le
      rw [h1] at this; exact this
theorem run_ok {l : List Rr} (hl : RrsOk l) {i : Nat} (h : i < (rnV l).length) : 0 < ((rnV l).getD i default).length ∧ RrsOk ((rnV l).getD i default) ∧ ((rnV l).getD i default).getD 0 default ∈ l := by
  obtain ⟨h1, h2, h3⟩ := rnV_run (getD_mem' (l := rnV l) h)
  refine ⟨h1, ⟨?_, fun x hx => hl.2 x (h2 x hx)⟩, h2 _ (getD_mem' h1)⟩
  have := hl.1
  omega
theorem rnV_len {l : List Rr} : (rnV l).length ≤ l.length := by
  cases ho : rnO l with
  | false => rw [rnV_no ho]; simp
  | true =>
    rw [rnV_yes ho]
    have h := rnF_inv l
    rcases hp : rnF l with ⟨D, run⟩
    rw [hp] at h
    cases run with
    | nil => simp [rnD] at h ⊢; omega
    | cons a t => simp [rnD] at h ⊢; omega
def prO (a b : List Rr) : Bool := sameN (a.getD 0 default).nm (b.getD 0 default).nm && (decide ((a.getD 0 default).ty = (b.getD 0 default).ty) && (decide (a.length = b.length) && (covB a b && covB b a)))
def prA (A B : List (List Rr)) : Bool := decide (A.length = B.length) && (List.range A.length).all fun i => prO (A.getD i default) (B.getD i default)
def auT (t : Tr) (m : Msg) : Bool := decide (m.qs.length = 1) && ((truO t (m.qs.getD 0 default)).isSome && (rnO m.an && (decide (m.h.code = (truV t (m.qs.getD 0 default)).1) && (decide (m.an.length = (truV t (m.qs.getD 0 default)).2.length) && prA (rnV m.an) (rnV (truV t (m.qs.getD 0 default)).2)))))
section
variable {t : Tr} {m : Msg}
theorem au_1 (h : ¬ m.qs.length = 1) : auT t m = false := by rw [auT, decide_eq_false h]; rfl
theorem au_2 (h : (truO t (m.qs.getD 0 default)).isSome = false) : auT t m = false := by rw [auT, h]; simp
theorem au_3 (h : rnO m.an = false) : auT t m = false := by rw [auT, h]; simp
theorem au_4 (h : ¬ m.h.code = (truV t (m.qs.getD 0 default)).1) : auT t m = false := by rw [auT, decide_eq_false h]; simp
theorem au_5 (h : ¬ m.an.length = (truV t (m.qs.getD 0 default)).2.length) : auT t m = false := by rw [auT, decide_eq_false h]; simp
theorem au_6 (h : ¬ (rnV m.an).length = (rnV (truV t (m.qs.getD 0 default)).2).length) : auT t m = false := by rw [auT, prA, decide_eq_false h]; simp
theorem au_7 {i : Nat} (hi : i < (rnV m.an).length) (h : prO ((rnV m.an).getD i default) ((rnV (truV t (m.qs.getD 0 default)).2).getD i default) = false) : auT t m = false := by
  have e : ((List.range (rnV m.an).length).all fun i => prO ((rnV m.an).getD i default) ((rnV (truV t (m.qs.getD 0 default)).2).getD i default)) = false := range_all_no (j := i) hi h
  rw [auT, prA, e]; simp
theorem au_yes (h1 : m.qs.length = 1) (h2 : (truO t (m.qs.getD 0 default)).isSome = true) (h3 : rnO m.an = true) (h4 : m.h.code = (truV t (m.qs.getD 0 default)).1) (h5 : m.an.length = (truV t (m.qs.getD 0 default)).2.length) (h6 : (rnV m.an).length = (rnV (truV t (m.qs.getD 0 default)).2).length)
    (h7 : ∀ j, j < (rnV m.an).length → prO ((rnV m.an).getD j default) ((rnV (truV t (m.qs.getD 0 default)).2).getD j default) = true) : auT t m = true := by
  rw [auT, prA, decide_eq_true h1, h2, h3, decide_eq_true h4, decide_eq_true h5, decide_eq_true h6, range_all_iff.2 h7]; rfl
end
theorem six (b1 : Bool) (p q : Prop) [Decidable p] [Decidable q] (b2 b3 : Bool) : b1 = false ∨ (b1 = true ∧ ¬ p) ∨ (b1 = true ∧ p ∧ ¬ q) ∨ (b1 = true ∧ p ∧ q ∧ b2 = false) ∨ (b1 = true ∧ p ∧ q ∧ b2 = true ∧ b3 = false) ∨ (b1 = true ∧ p ∧ q ∧ b2 = true ∧ b3 = true) := by
  by_cases h1 : p <;> by_cases h2 : q <;> cases b1 <;> cases b2 <;> cases b3 <;> simp [h1, h2]
theorem truF_mem {t : Tr} (h : canT t = true) {ty : Int} : ∀ {k : Nat} {acc : List Rr} {n : List UInt8} {x : Int × List Rr}, canN n = true → (∀ r ∈ acc, ∃ z ∈ t.zs, r ∈ z.rs) → truF t ty k acc n = some x → ∀ r ∈ x.2, ∃ z ∈ t.zs, r ∈ z.rs
  | 0, _, _, _, _, _, hx => by cases hx
  | k + 1, acc, n, x, hn, ha, hx => by
    have hzm := zAt_mem (home_ok h hn)
    have hat : ∀ (ty2 : Int), ∀ r ∈ atZ (hZ t n) n ty2, ∃ z ∈ t.zs, r ∈ z.rs := fun ty2 r hr => ⟨hZ t n, hzm, (List.mem_filter.1 hr).1⟩
    by_cases hend : (atZ (hZ t n) n 5).length = 0 ∨ ty = 5
    · rw [truF_end hend] at hx; cases hx
      intro r hr
      rcases List.mem_append.1 hr with hr | hr
      · exact ha r hr
      · exact hat _ r hr
    · by_cases h8 : acc.length = 8
      · rw [truF_full hend h8] at hx; cases hx
      · rw [truF_on hend h8] at hx
        have hm := getD_mem' (l := atZ (hZ t n) n 5) (i := 0) (by omega)
        refine truF_mem h (at_can h hzm (.inr rfl) hm) (fun r hr => ?_) hx
        rcases List.mem_append.1 hr with hr | hr
        · exact ha r hr
        · rw [List.mem_singleton] at hr; rw [hr]; exact hat _ _ hm
theorem truV_ok {t : Tr} {q : Qu} (ht : TrOk t) : RrsOk (truV t q).2 ∧ ∀ x ∈ (truV t q).2, x.nm.length ≤ 140737488351232 := by
  have hl := tru_len (t := t) (q := q)
  have hm : ∀ r ∈ (truV t q).2, ∃ z ∈ t.zs, r ∈ z.rs := by
    cases hx : truO t q with
    | none => rw [(tru_none hx).1]; intro r hr; cases hr
    | some x =>
      rw [(tru_some hx).1]
      obtain ⟨h1, h2, _, _, _, hF⟩ := tru_parts hx
      exact truF_mem h1 h2 (fun r hr => by cases hr) hF
  refine ⟨⟨by omega, fun r hr => ?_⟩, fun r hr => ?_⟩
  · obtain ⟨z, hz, hzr⟩ := hm r hr
    exact (ht.2.1 z hz).2.1.2 r hzr
  · obtain ⟨z, hz, hzr⟩ := hm r hr
    exact (ht.2.1 z hz).2.2 r hzr
set_option maxRecDepth 20000 in
set_option maxHeartbeats 2000000 in
theorem c_audit_covers_1_1 (r o : Rr) (lv : Nat) (hr : r.da.length ≤ 140737488351232) (ho : o.da.length ≤ 140737488351232) : AC Try.prog 100 [.agg (rrc o), .fp lv (rrc r)] emp (Ret (tf (covP r o))) := by
 refine AC.intro te_ok (fn := Try.f100) ⟨Try.func100, rfl, rfl⟩ (Nat.le_of_ble_eq_true rfl) ?_
 refine AWp.seq ?_
 refine AWp.region ?_
 refine aC_ rfl rfl (q_box 100) ?_
 refine aC_ rfl rfl (q_assign) ?_
 refine AOps.nil ?_
 refine AWp.seq ?_
 by_cases h1 : r.cs = o.cs
 ·
  refine AWp.draws [⟨0, [1], [], some 4, _, none⟩,
 ⟨1, [4], [], some 5, _, none⟩,
 ⟨2, [2], [100], some 6, _, none⟩,
 ⟨3, [6], [100], some 7, _, none⟩,
 ⟨4, [5, 7], [], some 8, _, none⟩,
 ⟨5, [8], [], some 9, _, none⟩,
 ⟨6, [1, 9], [], some 10, _, none⟩,
 ⟨7, [9, 10], [], some 11, _, none⟩,
 ⟨8, [2, 9], [100], some 12, _, none⟩,
 ⟨9, [9, 12], [], some 13, _, none⟩,
 ⟨10, [9, 11, 13], [], some 14, _, none⟩,
 ⟨11, [9, 14], [], some 15, _, none⟩,
 ⟨12, [15], [], some 3, _, none⟩]
   [kN_ 0 [1] [] 4,
 kN_ 1 [4] [] 5,
 kN_ 2 [2] [100] 6,
 kN_ 3 [6] [100] 7,
 kN_ 4 [5, 7] [] 8,
 kN_ 5 [8] [] 9,
 kN_ 6 [1, 9] [] 10,
 kN_ 7 [9, 10] [] 11,
 kN_ 8 [2, 9] [100] 12,
 kN_ 9 [9, 12] [] 13,
 kN_ 10 [9, 11, 13] [] 14,
 kN_ 11 [9, 14] [] 15,
 kN_ 12 [15] [] 3]
   mixed_ok rfl (by kernel_rfl) ⟨dK_ fun s0 => oG_ rfl rfl (q_fa),
 dK_ fun s0 => oG_ rfl rfl (q_load),
 dK_ fun s0 => oG_ rfl rfl (q_fa),
 dK_ fun s0 => oG_ rfl rfl (q_load),
 dK_ fun s0 => oG_ rfl rfl ((OpOk.dec_t (q_eql) (h1))),
 dK_ fun s0 => oG_ rfl rfl (q_move),
 dK_ fun s0 => oO_ rfl rfl rfl rfl rfl (q_load),
 dK_ fun s0 => oO_ rfl rfl rfl rfl rfl (q_call (lv) (hc := (c_audit_plain r hr))),
 dK_ fun s0 => oO_ rfl rfl rfl rfl rfl (q_load),
 dK_ fun s0 => oO_ rfl rfl rfl rfl rfl (q_call (lv) (hc := (c_audit_plain o ho))),
 dK_ fun s0 => oO_ rfl rfl rfl rfl rfl (q_seql),
 dK_ fun s0 => oG_ rfl rfl (q_pick),
 dK_ fun s0 => oG_ rfl rfl (q_assign), trivial⟩ ?_
  dsimp only [final, DS.upd, AS.seto]
  refine AWp.ret ?_
  show Fin te Try.f100 _ _
  refine q_ret (0) [_] [_] ?_
  exact congrArg tf (by rw [covP, decide_eq_true h1, Bool.true_and])
 ·
  refine AWp.draws [⟨0, [1], [], some 4, _, none⟩,
 ⟨1, [4], [], some 5, _, none⟩,
 ⟨2, [2], [100], some 6, _, none⟩,
 ⟨3, [6], [100], some 7, _, none⟩,
 ⟨4, [5, 7], [], some 8, _, none⟩,
 ⟨5, [8], [], some 9, _, none⟩,
 ⟨6, [9], [], some 10, .v undef, none⟩,
 ⟨7, [9], [], some 11, .v undef, none⟩,
 ⟨8, [9], [], some 12, .v undef, none⟩,
 ⟨9, [9], [], some 13, .v undef, none⟩,
 ⟨10, [9], [], some 14, .v undef, none⟩,
 ⟨11, [9, 14], [], some 15, _, none⟩,
 ⟨12, [15], [], some 3, _, none⟩]
   [kN_ 0 [1] [] 4,
 kN_ 1 [4] [] 5,
 kN_ 2 [2] [100] 6,
 kN_ 3 [6] [100] 7,
 kN_ 4 [5, 7] [] 8,
 kN_ 5 [8] [] 9,
 kN_ 6 [9] [] 10,
 kN_ 7 [9] [] 11,
 kN_ 8 [9] [] 12,
 kN_ 9 [9] [] 13,
 kN_ 10 [9] [] 14,
 kN_ 11 [9, 14] [] 15,
 kN_ 12 [15] [] 3]
   mixed_ok rfl (by kernel_rfl) ⟨dK_ fun s0 => oG_ rfl rfl (q_fa),
 dK_ fun s0 => oG_ rfl rfl (q_load),
 dK_ fun s0 => oG_ rfl rfl (q_fa),
 dK_ fun s0 => oG_ rfl rfl (q_load),
 dK_ fun s0 => oG_ rfl rfl ((OpOk.dec_f (q_eql) (h1))),
 dK_ fun s0 => oG_ rfl rfl (q_move),
 dK_ fun s0 => oS_ rfl rfl rfl rfl rfl rfl rfl rfl,
 dK_ fun s0 => oS_ rfl rfl rfl rfl rfl rfl rfl rfl,
 dK_ fun s0 => oS_ rfl rfl rfl rfl rfl rfl rfl rfl,
 dK_ fun s0 => oS_ rfl rfl rfl rfl rfl rfl rfl rfl,
 dK_ fun s0 => oS_ rfl rfl rfl rfl rfl rfl rfl rfl,
 dK_ fun s0 => oG_ rfl rfl (q_pick),
 dK_ fun s0 => oG_ rfl rfl (q_assign), trivial⟩ ?_
  dsimp only [final, DS.upd, AS.seto]
  refine AWp.ret ?_
  show Fin te Try.f100 _ _
  refine q_ret (0) [_] [_] ?_
  exact congrArg tf (by rw [covP, decide_eq_false h1, Bool.false_and])
set_option maxRecDepth 20000 in
set_option maxHeartbeats 2000000 in
theorem c_audit_covers_1 (b : List Rr) (r : Rr) (lv lb : Nat) (hb : RrsOk b) (hr : r.da.length ≤ 140737488351232) (hl : lb ≤ lv) : AC Try.prog 99 [.agg (rrc r), .fp lv [.fz lb b.length (cl rrc b)]] emp (Ret (tf (covQ b r))) := by
 have hbl := hb.1
 refine AC.intro te_ok (fn := Try.f99) ⟨Try.func99, rfl, rfl⟩ (Nat.le_of_ble_eq_true rfl) ?_
 refine AWp.seq ?_
 refine AWp.region ?_
 refine aC_ rfl rfl (q_box 100) ?_
 refine aC_ rfl rfl (q_assign) ?_
 refine AOps.nil ?_
 refine AWp.seq ?_
 refine AWp.region ?_
 refine aC_ rfl rfl (q_load) ?_
 refine aC_ rfl rfl (q_makeFunc [] [_]) ?_
 refine aC_ rfl rfl (q_call (lv) (hc := (c_ContainsFunc_rr b lb 0 (lv + 1) [.fp (lv + 1) (rrc r)] (covP r) (by omega) (by simp [AV.oks, AV.ok, Nat.ble_eq] <;> omega) (fun o ho => c_audit_covers_1_1 r o (lv + 1) hr (hb.2 o ho))))) ?_
 refine aC_ rfl rfl (q_not) ?_
 refine aC_ rfl rfl (q_assign) ?_
 refine AOps.nil ?_
 refine AWp.ret ?_
 show Fin te Try.f99 _ _
 refine q_ret (0) [_] [_] ?_
 rfl
set_option maxRecDepth 20000 in
set_option maxHeartbeats 2000000 in
theorem c_audit_covers (a b : List Rr) (la lb : Nat) (ha : RrsOk a) (hb : RrsOk b) : AC Try.prog 69 [.fz la a.length (cl rrc a), .fz lb b.length (cl rrc b)] emp (Ret (tf (covB a b))) := by
 have hal := ha.1
 refine AC.intro te_ok (fn := Try.f69) ⟨Try.func69, rfl, rfl⟩ (Nat.le_of_ble_eq_true rfl) ?_
 refine AWp.seq ?_
 refine AWp.region ?_
 refine aC_ rfl rfl (q_box 100) ?_
 refine aC_ rfl rfl (q_assign) ?_
 refine AOps.nil ?_
 refine AWp.seq ?_
 refine AWp.region ?_
 refine aC_ rfl rfl (q_move) ?_
 refine aC_ rfl rfl (q_makeFunc [] [_]) ?_
 refine aC_ rfl rfl (q_call (la + lb) (hA := by exact ⟨fv_okb rfl (ble_of (by omega)), fv_fn trivial ⟨fv_ptrb rfl .box (by simp [AV.oks, AV.ok, Nat.ble_eq]) rfl rfl, trivial⟩, trivial⟩) (hc := (c_ContainsFunc_rr a la 0 (la + lb + 1) [.fp (la + lb + 1) [.fz lb b.length (cl rrc b)]] (covQ b) (by omega) (by simp [AV.oks, AV.ok, Nat.ble_eq] <;> omega) (fun r hr => c_audit_covers_1 b r (la + lb + 1) lb hb (ha.2 r hr) (by omega))))) ?_
 refine aC_ rfl rfl (q_not) ?_
 refine aC_ rfl rfl (q_assign) ?_
 refine AOps.nil ?_
 refine AWp.ret ?_
 show Fin te Try.f69 _ _
 refine q_ret (0) [_] [_] ?_
 rfl
set_option maxRecDepth 20000 in
set_option maxHeartbeats 2000000 in
theorem c_audit_True (t : Tr) (m : Msg) (ht : TrOk t) (hm : MsgOk m) (hnm : NmOk m) : AC Try.prog 28 [.agg (trC t), .agg (msgC m)] emp (Ret (tf (auT t m))) := by
 have hvo := truV_ok (q := (m.qs.getD 0 default)) ht
 have han := hm.2.1
 have hvl := tru_len (t := t) (q := (m.qs.getD 0 default))
 have hal := han.1
 have hr1 := rnV_len (l := m.an)
 have hr2 := rnV_len (l := (truV t (m.qs.getD 0 default)).2)
 refine AC.intro te_ok (fn := Try.f28) ⟨Try.func28, rfl, rfl⟩ (Nat.le_of_ble_eq_true rfl) ?_
 refine AWp.seq ?_
 refine AWp.region ?_
 refine aC_ rfl rfl (q_box 100) ?_
 refine aC_ rfl rfl (q_box 101) ?_
 refine aC_ rfl rfl (q_assign) ?_
 refine AOps.nil ?_
 refine AWp.seq ?_
 refine AWp.seq ?_
 refine AWp.region ?_
 refine aC_ rfl rfl (q_fa) ?_
 refine aC_ rfl rfl (q_load) ?_
 refine aC_ rfl rfl (q_len) ?_
 refine AOps.dec rfl rfl (q_neq) (fun h1_3 => ?_) (fun h1_3 => ?_)
 ·
  refine AOps.nil ?_
  refine AWp.cond_t rfl ?_
  refine AWp.seq ?_
  refine AWp.region ?_
  refine aC_ rfl rfl (q_assign) ?_
  refine AOps.nil ?_
  refine AWp.ret ?_
  show Fin te Try.f28 _ _
  refine q_ret (0) [_] [_] ?_
  rw [au_1 (by omega)]; rfl
 ·
  refine AOps.nil ?_
  refine AWp.cond_f rfl ?_
  refine AWp.skip ?_
  refine AWp.seq ?_
  have hq := hnm.1 _ (getD_mem' (l := m.qs) (i := 0) (by omega))
  refine AWp.draws [⟨0, [2], [100], some 19, _, none⟩,
 ⟨1, [3], [101], some 20, _, none⟩,
 ⟨2, [20], [101], some 21, _, none⟩,
 ⟨3, [21], [], some 22, _, none⟩,
 ⟨4, [22], [], some 23, _, none⟩,
 ⟨5, [19, 23], [], some 24, _, none⟩,
 ⟨6, [24], [], some 18, _, none⟩,
 ⟨7, [18], [], some 25, _, none⟩,
 ⟨8, [18], [], some 26, _, none⟩,
 ⟨9, [], [409], some 5, _, some (409, _)⟩,
 ⟨10, [5, 25], [409], none, _, some (409, _)⟩,
 ⟨11, [26], [], some 6, _, none⟩]
   [kN_ 0 [2] [100] 19,
 kN_ 1 [3] [101] 20,
 kN_ 2 [20] [101] 21,
 kN_ 3 [21] [] 22,
 kN_ 4 [22] [] 23,
 kN_ 5 [19, 23] [] 24,
 kN_ 6 [24] [] 18,
 kN_ 7 [18] [] 25,
 kN_ 8 [18] [] 26,
 ⟨9, [], [409], some 5, .any, some (409, .box [])⟩,
 ⟨10, [5, 25], [409], none, .any, some (409, .box [])⟩,
 kN_ 11 [26] [] 6]
   mixed_ok rfl (by kernel_rfl) ⟨dK_ fun s0 => oG_ rfl rfl (q_load),
 dK_ fun s0 => oG_ rfl rfl (q_fa),
 dK_ fun s0 => oG_ rfl rfl (q_load),
 dK_ fun s0 => oG_ rfl rfl (q_ix),
 dK_ fun s0 => oG_ rfl rfl (q_load),
 dK_ fun s0 => oG_ rfl rfl (q_call (0) (hc := (c_zone_Truth t (m.qs.getD 0 default) ht hq))),
 dK_ fun s0 => oG_ rfl rfl (q_move),
 dK_ fun s0 => oG_ rfl rfl (q_extract),
 dK_ fun s0 => oG_ rfl rfl (q_extract),
 dK_ fun s0 => oG_ rfl rfl (q_alloc 409),
 dK_ fun s0 => oG_ rfl rfl (q_store),
 dK_ fun s0 => oG_ rfl rfl (q_assign), trivial⟩ ?_
  dsimp only [final, DS.upd, AS.seto]
  refine AWp.seq ?_
  refine AWp.region ?_
  refine aC_ rfl rfl (q_fa) ?_
  refine aC_ rfl rfl (q_load) ?_
  refine aC_ rfl rfl (q_call (0) (hc := (c_audit_runs m.an han (fun x hx => hnm.2 x (by simp only [Msg.rrs, List.mem_append]; exact .inl (.inl hx)))))) ?_
  refine aC_ rfl rfl (q_move) ?_
  refine aC_ rfl rfl (q_extract) ?_
  refine AOps.bool rfl rfl (q_extract) (fun h4_5 => ?_) (fun h4_5 => ?_)
  ·
   refine aC_ rfl rfl (q_assign) ?_
   refine aC_ rfl rfl (q_assign) ?_
   refine AOps.nil ?_
   refine AWp.seq ?_
   refine AWp.region ?_
   refine aC_ rfl rfl (q_fa) ?_
   refine aC_ rfl rfl (q_load) ?_
   refine aC_ rfl rfl (q_call (0) (hc := (c_audit_runs (truV t (m.qs.getD 0 default)).2 hvo.1 hvo.2))) ?_
   refine aC_ rfl rfl (q_move) ?_
   refine aC_ rfl rfl (q_extract) ?_
   refine aC_ rfl rfl (q_extract) ?_
   refine aC_ rfl rfl (q_assign) ?_
   refine aC_ rfl rfl (q_assign) ?_
   refine AOps.nil ?_
   refine AWp.seq ?_
   refine AWp.seq ?_
   refine AWp.region ?_
   refine AOps.bool rfl rfl (q_move) (fun h6_0 => ?_) (fun h6_0 => ?_)
   ·
    refine aC_ rfl rfl (q_not) ?_
    refine aC_ rfl rfl (q_move) ?_
    refine AOps.gcons rfl rfl rfl rfl rfl (q_move) ?_
    refine AOps.gcons rfl rfl rfl rfl rfl (q_not) ?_
    refine aC_ rfl rfl (q_pick) ?_
    refine aC_ rfl rfl (q_move) ?_
    refine AOps.gcons rfl rfl rfl rfl rfl (q_fa) ?_
    refine AOps.gcons rfl rfl rfl rfl rfl (q_fa) ?_
    refine AOps.gcons rfl rfl rfl rfl rfl (q_load) ?_
    refine AOps.gcons rfl rfl rfl rfl rfl (q_fa) ?_
    refine AOps.gcons rfl rfl rfl rfl rfl (q_load) ?_
    refine AOps.gdec rfl rfl rfl rfl rfl (q_neq) (fun h6_12 => ?_) (fun h6_12 => ?_)
    ·
     refine aC_ rfl rfl (q_pick) ?_
     refine aC_ rfl rfl (q_move) ?_
     refine aG_ rfl rfl rfl rfl rfl rfl rfl rfl ?_
     refine aG_ rfl rfl rfl rfl rfl rfl rfl rfl ?_
     refine aG_ rfl rfl rfl rfl rfl rfl rfl rfl ?_
     refine aG_ rfl rfl rfl rfl rfl rfl rfl rfl ?_
     refine aG_ rfl rfl rfl rfl rfl rfl rfl rfl ?_
     refine aG_ rfl rfl rfl rfl rfl rfl rfl rfl ?_
     refine aG_ rfl rfl rfl rfl rfl rfl rfl rfl ?_
     refine aC_ rfl rfl (q_pick) ?_
     refine aC_ rfl rfl (q_move) ?_
     refine aG_ rfl rfl rfl rfl rfl rfl rfl rfl ?_
     refine aG_ rfl rfl rfl rfl rfl rfl rfl rfl ?_
     refine aG_ rfl rfl rfl rfl rfl rfl rfl rfl ?_
     refine aG_ rfl rfl rfl rfl rfl rfl rfl rfl ?_
     refine aG_ rfl rfl rfl rfl rfl rfl rfl rfl ?_
     refine aC_ rfl rfl (q_pick) ?_
     refine AOps.nil ?_
     refine AWp.cond_t rfl ?_
     refine AWp.seq ?_
     refine AWp.region ?_
     refine aC_ rfl rfl (q_assign) ?_
     refine AOps.nil ?_
     refine AWp.ret ?_
     show Fin te Try.f28 _ _
     refine q_ret (0) [_] [_] ?_
     rw [au_4 h6_12]; rfl
    ·
     refine aC_ rfl rfl (q_pick) ?_
     refine aC_ rfl rfl (q_move) ?_
     refine AOps.gcons rfl rfl rfl rfl rfl (q_fa) ?_
     refine AOps.gcons rfl rfl rfl rfl rfl (q_load) ?_
     refine AOps.gcons rfl rfl rfl rfl rfl (q_len) ?_
     refine AOps.gcons rfl rfl rfl rfl rfl (q_fa) ?_
     refine AOps.gcons rfl rfl rfl rfl rfl (q_load) ?_
     refine AOps.gcons rfl rfl rfl rfl rfl (q_len) ?_
     refine AOps.gdec rfl rfl rfl rfl rfl (q_neq) (fun h6_21 => ?_) (fun h6_21 => ?_)
     ·
      refine aC_ rfl rfl (q_pick) ?_
      refine aC_ rfl rfl (q_move) ?_
      refine aG_ rfl rfl rfl rfl rfl rfl rfl rfl ?_
      refine aG_ rfl rfl rfl rfl rfl rfl rfl rfl ?_
      refine aG_ rfl rfl rfl rfl rfl rfl rfl rfl ?_
      refine aG_ rfl rfl rfl rfl rfl rfl rfl rfl ?_
      refine aG_ rfl rfl rfl rfl rfl rfl rfl rfl ?_
      refine aC_ rfl rfl (q_pick) ?_
      refine AOps.nil ?_
      refine AWp.cond_t rfl ?_
      refine AWp.seq ?_
      refine AWp.region ?_
      refine aC_ rfl rfl (q_assign) ?_
      refine AOps.nil ?_
      refine AWp.ret ?_
      show Fin te Try.f28 _ _
      refine q_ret (0) [_] [_] ?_
      rw [au_5 (by omega)]; rfl
     ·
      refine aC_ rfl rfl (q_pick) ?_
      refine aC_ rfl rfl (q_move) ?_
      refine AOps.gcons rfl rfl rfl rfl rfl (q_move) ?_
      refine AOps.gcons rfl rfl rfl rfl rfl (q_len) ?_
      refine AOps.gcons rfl rfl rfl rfl rfl (q_move) ?_
      refine AOps.gcons rfl rfl rfl rfl rfl (q_len) ?_
      refine AOps.gdec rfl rfl rfl rfl rfl (q_neq) (fun h6_28 => ?_) (fun h6_28 => ?_)
      ·
       refine aC_ rfl rfl (q_pick) ?_
       refine AOps.nil ?_
       refine AWp.cond_t rfl ?_
       refine AWp.seq ?_
       refine AWp.region ?_
       refine aC_ rfl rfl (q_assign) ?_
       refine AOps.nil ?_
       refine AWp.ret ?_
       show Fin te Try.f28 _ _
       refine q_ret (0) [_] [_] ?_
       rw [au_6 (by omega)]; rfl
      ·
       refine aC_ rfl rfl (q_pick) ?_
       refine AOps.nil ?_
       refine AWp.cond_f rfl ?_
       refine AWp.skip ?_
       refine AWp.seq ?_
       refine AWp.seq ?_
       refine AWp.region ?_
       refine aC_ rfl rfl (q_move) ?_
       refine aC_ rfl rfl (q_len) ?_
       refine aC_ rfl rfl (q_move) ?_
       refine AOps.nil ?_
       refine AWp.block ?_
       refine AWp.loopR (α := Nat) [4, 11, 12, 13, 71, 72, 73, 74, 75, 76, 77, 78, 79, 80, 81, 82, 83, 84, 85, 86, 87, 88, 89, 90, 91, 92, 93, 94, 95, 96, 97, 98, 99, 100, 101, 102, 103, 104, 105, 106, 107, 108, 109, 110, 111, 112, 113, 114, 115, 116, 117, 118, 119, 120, 121, 122, 123, 124, 125, 126, 127, 128, 129, 130, 131, 132, 133, 134, 135, 136] (fun i => [(71, i64 i)]) (fun i => []) (fun i => i ≤ (rnV m.an).length ∧ ∀ j, j < i → prO ((rnV m.an).getD j default) ((rnV (truV t (m.qs.getD 0 default)).2).getD j default) = true) (fun i => (rnV m.an).length - i) 0 ?_ (Back.mk' (HasT.cons HasT.nil) HasH.nil) ?_
       ·
        exact ⟨Nat.zero_le _, fun j hj => absurd hj (Nat.not_lt_zero j)⟩
       ·
        rintro i ⟨hi, hj⟩
        refine AWp.seq ?_
        refine AWp.region ?_
        refine AOps.dec rfl rfl (q_lss) (fun h9_0 => ?_) (fun h9_0 => ?_)
        ·
         refine AOps.nil ?_
         refine AWp.seq ?_
         refine AWp.cond_t rfl ?_
         refine AWp.skip ?_
         refine AWp.seq ?_
         refine AWp.block ?_
         refine AWp.seq ?_
         refine AWp.region ?_
         refine aC_ rfl rfl (q_move) ?_
         refine aC_ rfl rfl (q_assign) ?_
         refine AOps.nil ?_
         refine AWp.seq ?_
         obtain ⟨a1, a2, a3⟩ := run_ok han (i := i) (by omega)
         obtain ⟨b1, b2, b3⟩ := run_ok hvo.1 (i := i) (by omega)
         have a4 := hnm.2 _ (show (((rnV m.an).getD i default).getD 0 default) ∈ m.rrs by simp only [Msg.rrs, List.mem_append]; exact .inl (.inl a3))
         have b4 := hvo.2 _ b3
         refine AWp.draws [⟨0, [7], [], some 74, _, none⟩,
 ⟨1, [11], [], some 75, _, none⟩,
 ⟨2, [74, 75], [], some 76, _, none⟩,
 ⟨3, [76], [], some 77, _, none⟩,
 ⟨4, [77], [], some 78, _, none⟩,
 ⟨5, [78], [], some 79, _, none⟩,
 ⟨6, [9], [], some 80, _, none⟩,
 ⟨7, [11], [], some 81, _, none⟩,
 ⟨8, [80, 81], [], some 82, _, none⟩,
 ⟨9, [82], [], some 83, _, none⟩,
 ⟨10, [83], [], some 84, _, none⟩,
 ⟨11, [84], [], some 85, _, none⟩,
 ⟨12, [], [1212], some 12, _, some (1212, _)⟩,
 ⟨13, [], [1213], some 13, _, some (1213, _)⟩,
 ⟨14, [12, 79], [1212], none, _, some (1212, _)⟩,
 ⟨15, [13, 85], [1213], none, _, some (1213, _)⟩]
          [kN_ 0 [7] [] 74,
 kN_ 1 [11] [] 75,
 kN_ 2 [74, 75] [] 76,
 kN_ 3 [76] [] 77,
 kN_ 4 [77] [] 78,
 kN_ 5 [78] [] 79,
 kN_ 6 [9] [] 80,
 kN_ 7 [11] [] 81,
 kN_ 8 [80, 81] [] 82,
 kN_ 9 [82] [] 83,
 kN_ 10 [83] [] 84,
 kN_ 11 [84] [] 85,
 ⟨12, [], [1212], some 12, .any, some (1212, .box [])⟩,
 ⟨13, [], [1213], some 13, .any, some (1213, .box [])⟩,
 ⟨14, [12, 79], [1212], none, .any, some (1212, .box [])⟩,
 ⟨15, [13, 85], [1213], none, .any, some (1213, .box [])⟩]
          mixed_ok rfl (by kernel_rfl) ⟨dK_ fun s0 => oG_ rfl rfl (q_move),
 dK_ fun s0 => oG_ rfl rfl (q_move),
 dK_ fun s0 => oG_ rfl rfl (q_ix),
 dK_ fun s0 => oG_ rfl rfl (q_load),
 dK_ fun s0 => oG_ rfl rfl (q_ix (h1 := by show ((0 : Int)) < (((rnV m.an).getD i default).length : Int); omega)),
 dK_ fun s0 => oG_ rfl rfl (q_load),
 dK_ fun s0 => oG_ rfl rfl (q_move),
 dK_ fun s0 => oG_ rfl rfl (q_move),
 dK_ fun s0 => oG_ rfl rfl (q_ix),
 dK_ fun s0 => oG_ rfl rfl (q_load),
 dK_ fun s0 => oG_ rfl rfl (q_ix (h1 := by show ((0 : Int)) < (((rnV (truV t (m.qs.getD 0 default)).2).getD i default).length : Int); omega)),
 dK_ fun s0 => oG_ rfl rfl (q_load),
 dK_ fun s0 => oG_ rfl rfl (q_alloc 1212),
 dK_ fun s0 => oG_ rfl rfl (q_alloc 1213),
 dK_ fun s0 => oG_ rfl rfl (q_store),
 dK_ fun s0 => oG_ rfl rfl (q_store), trivial⟩ ?_
         dsimp only [final, DS.upd, AS.seto]
         refine AWp.seq ?_
         rcases six (sameN (((rnV m.an).getD i default).getD 0 default).nm (((rnV (truV t (m.qs.getD 0 default)).2).getD i default).getD 0 default).nm) ((((rnV m.an).getD i default).getD 0 default).ty = (((rnV (truV t (m.qs.getD 0 default)).2).getD i default).getD 0 default).ty) (((rnV m.an).getD i default).length = ((rnV (truV t (m.qs.getD 0 default)).2).getD i default).length) (covB ((rnV m.an).getD i default) ((rnV (truV t (m.qs.getD 0 default)).2).getD i default)) (covB ((rnV (truV t (m.qs.getD 0 default)).2).getD i default) ((rnV m.an).getD i default)) with h1 | ⟨h1, h2⟩ | ⟨h1, h2, h3⟩ | ⟨h1, h2, h3, h4⟩ | ⟨h1, h2, h3, h4, h5⟩ | ⟨h1, h2, h3, h4, h5⟩
         ·
          refine AWp.draws (⟨0, [12], [1212], some 86, _, none⟩ ::
 ⟨1, [86], [1212], some 87, _, none⟩ ::
 ⟨2, [13], [1213], some 88, _, none⟩ ::
 ⟨3, [88], [1213], some 89, _, none⟩ ::
 ⟨4, [87, 89], [], some 90, _, none⟩ ::
 ⟨5, [90], [], some 91, _, none⟩ ::
 ⟨6, [91], [], some 92, _, none⟩ ::
 ⟨7, [92], [], some 93, .v undef, none⟩ ::
 ⟨8, [92], [], some 94, .v undef, none⟩ ::
 ⟨9, [92], [], some 95, .v undef, none⟩ ::
 ⟨10, [92], [], some 96, .v undef, none⟩ ::
 ⟨11, [92], [], some 97, .v undef, none⟩ ::
 ⟨12, [92, 97], [], some 98, _, none⟩ ::
 ⟨13, [98], [], some 99, _, none⟩ ::
 ⟨14, [99], [], some 100, .v undef, none⟩ ::
 ⟨15, [99], [], some 101, .v undef, none⟩ ::
 ⟨16, [99], [], some 102, .v undef, none⟩ ::
 ⟨17, [99], [], some 103, .v undef, none⟩ ::
 ⟨18, [99], [], some 104, .v undef, none⟩ ::
 ⟨19, [99], [], some 105, .v undef, none⟩ ::
 ⟨20, [99], [], some 106, .v undef, none⟩ ::
 ⟨21, [99], [], some 107, .v undef, none⟩ ::
 ⟨22, [99], [], some 108, .v undef, none⟩ ::
 ⟨23, [99], [], some 109, .v undef, none⟩ ::
 ⟨24, [99], [], some 110, .v undef, none⟩ ::
 ⟨25, [99, 110], [], some 111, _, none⟩ ::
 ⟨26, [111], [], some 112, _, none⟩ ::
 ⟨27, [112], [], some 113, .v undef, none⟩ ::
 ⟨28, [112], [], some 114, .v undef, none⟩ ::
 ⟨29, [112], [], some 115, .v undef, none⟩ ::
 ⟨30, [112], [], some 116, .v undef, none⟩ ::
 ⟨31, [112], [], some 117, .v undef, none⟩ ::
 ⟨32, [112], [], some 118, .v undef, none⟩ ::
 ⟨33, [112], [], some 119, .v undef, none⟩ ::
 ⟨34, [112], [], some 120, .v undef, none⟩ ::
 ⟨35, [112], [], some 121, .v undef, none⟩ ::
 ⟨36, [112], [], some 122, .v undef, none⟩ ::
 ⟨37, [112, 122], [], some 123, _, none⟩ ::
 ⟨38, [123], [], some 124, _, none⟩ ::
 ⟨39, [124], [], some 125, .v undef, none⟩ ::
 ⟨40, [124], [], some 126, .v undef, none⟩ ::
 ⟨41, [124], [], some 127, .v undef, none⟩ ::
 ⟨42, [124], [], some 128, .v undef, none⟩ ::
 ⟨43, [124], [], some 129, .v undef, none⟩ ::
 ⟨44, [124], [], some 130, .v undef, none⟩ ::
 ⟨45, [124], [], some 131, .v undef, none⟩ ::
 ⟨46, [124], [], some 132, .v undef, none⟩ ::
 ⟨47, [124], [], some 133, .v undef, none⟩ ::
 ⟨48, [124], [], some 134, .v undef, none⟩ ::
 ⟨49, [124, 134], [], some 135, _, none⟩ ::
              [])
           (kN_ 0 [12] [1212] 86 ::
 kN_ 1 [86] [1212] 87 ::
 kN_ 2 [13] [1213] 88 ::
 kN_ 3 [88] [1213] 89 ::
 kN_ 4 [87, 89] [] 90 ::
 kN_ 5 [90] [] 91 ::
 kN_ 6 [91] [] 92 ::
 kN_ 7 [92] [] 93 ::
 kN_ 8 [92] [] 94 ::
 kN_ 9 [92] [] 95 ::
 kN_ 10 [92] [] 96 ::
 kN_ 11 [92] [] 97 ::
 kN_ 12 [92, 97] [] 98 ::
 kN_ 13 [98] [] 99 ::
 kN_ 14 [99] [] 100 ::
 kN_ 15 [99] [] 101 ::
 kN_ 16 [99] [] 102 ::
 kN_ 17 [99] [] 103 ::
 kN_ 18 [99] [] 104 ::
 kN_ 19 [99] [] 105 ::
 kN_ 20 [99] [] 106 ::
 kN_ 21 [99] [] 107 ::
 kN_ 22 [99] [] 108 ::
 kN_ 23 [99] [] 109 ::
 kN_ 24 [99] [] 110 ::
 kN_ 25 [99, 110] [] 111 ::
 kN_ 26 [111] [] 112 ::
 kN_ 27 [112] [] 113 ::
 kN_ 28 [112] [] 114 ::
 kN_ 29 [112] [] 115 ::
 kN_ 30 [112] [] 116 ::
 kN_ 31 [112] [] 117 ::
 kN_ 32 [112] [] 118 ::
 kN_ 33 [112] [] 119 ::
 kN_ 34 [112] [] 120 ::
 kN_ 35 [112] [] 121 ::
 kN_ 36 [112] [] 122 ::
 kN_ 37 [112, 122] [] 123 ::
 kN_ 38 [123] [] 124 ::
 kN_ 39 [124] [] 125 ::
 kN_ 40 [124] [] 126 ::
 kN_ 41 [124] [] 127 ::
 kN_ 42 [124] [] 128 ::
 kN_ 43 [124] [] 129 ::
 kN_ 44 [124] [] 130 ::
 kN_ 45 [124] [] 131 ::
 kN_ 46 [124] [] 132 ::
 kN_ 47 [124] [] 133 ::
 kN_ 48 [124] [] 134 ::
 kN_ 49 [124, 134] [] 135 ::
               [])
           mixed_ok rfl (by kernel_rfl) ⟨dK_ fun s0 => oG_ rfl rfl (q_fa),
 dK_ fun s0 => oG_ rfl rfl (q_load),
 dK_ fun s0 => oG_ rfl rfl (q_fa),
 dK_ fun s0 => oG_ rfl rfl (q_load),
 dK_ fun s0 => oG_ rfl rfl ((OpOk.bool_is (c := false) (q_call (0) (hc := (c_name_Same (((rnV m.an).getD i default).getD 0 default).nm (((rnV (truV t (m.qs.getD 0 default)).2).getD i default).getD 0 default).nm (by omega) (by omega)))) (h1))),
 dK_ fun s0 => oG_ rfl rfl (q_not),
 dK_ fun s0 => oG_ rfl rfl (q_move (hy := by exact rfl)),
 dK_ fun s0 => oS_ rfl rfl rfl rfl rfl rfl rfl rfl,
 dK_ fun s0 => oS_ rfl rfl rfl rfl rfl rfl rfl rfl,
 dK_ fun s0 => oS_ rfl rfl rfl rfl rfl rfl rfl rfl,
 dK_ fun s0 => oS_ rfl rfl rfl rfl rfl rfl rfl rfl,
 dK_ fun s0 => oS_ rfl rfl rfl rfl rfl rfl rfl rfl,
 dK_ fun s0 => oG_ rfl rfl (q_pick),
 dK_ fun s0 => oG_ rfl rfl (q_move (hy := by exact rfl)),
 dK_ fun s0 => oS_ rfl rfl rfl rfl rfl rfl rfl rfl,
 dK_ fun s0 => oS_ rfl rfl rfl rfl rfl rfl rfl rfl,
 dK_ fun s0 => oS_ rfl rfl rfl rfl rfl rfl rfl rfl,
 dK_ fun s0 => oS_ rfl rfl rfl rfl rfl rfl rfl rfl,
 dK_ fun s0 => oS_ rfl rfl rfl rfl rfl rfl rfl rfl,
 dK_ fun s0 => oS_ rfl rfl rfl rfl rfl rfl rfl rfl,
 dK_ fun s0 => oS_ rfl rfl rfl rfl rfl rfl rfl rfl,
 dK_ fun s0 => oS_ rfl rfl rfl rfl rfl rfl rfl rfl,
 dK_ fun s0 => oS_ rfl rfl rfl rfl rfl rfl rfl rfl,
 dK_ fun s0 => oS_ rfl rfl rfl rfl rfl rfl rfl rfl,
 dK_ fun s0 => oS_ rfl rfl rfl rfl rfl rfl rfl rfl,
 dK_ fun s0 => oG_ rfl rfl (q_pick),
 dK_ fun s0 => oG_ rfl rfl (q_move (hy := by exact rfl)),
 dK_ fun s0 => oS_ rfl rfl rfl rfl rfl rfl rfl rfl,
 dK_ fun s0 => oS_ rfl rfl rfl rfl rfl rfl rfl rfl,
 dK_ fun s0 => oS_ rfl rfl rfl rfl rfl rfl rfl rfl,
 dK_ fun s0 => oS_ rfl rfl rfl rfl rfl rfl rfl rfl,
 dK_ fun s0 => oS_ rfl rfl rfl rfl rfl rfl rfl rfl,
 dK_ fun s0 => oS_ rfl rfl rfl rfl rfl rfl rfl rfl,
 dK_ fun s0 => oS_ rfl rfl rfl rfl rfl rfl rfl rfl,
 dK_ fun s0 => oS_ rfl rfl rfl rfl rfl rfl rfl rfl,
 dK_ fun s0 => oS_ rfl rfl rfl rfl rfl rfl rfl rfl,
 dK_ fun s0 => oS_ rfl rfl rfl rfl rfl rfl rfl rfl,
 dK_ fun s0 => oG_ rfl rfl (q_pick (hz := by exact rfl)),
 dK_ fun s0 => oG_ rfl rfl (q_move (hy := by exact rfl)),
 dK_ fun s0 => oS_ rfl rfl rfl rfl rfl rfl rfl rfl,
 dK_ fun s0 => oS_ rfl rfl rfl rfl rfl rfl rfl rfl,
 dK_ fun s0 => oS_ rfl rfl rfl rfl rfl rfl rfl rfl,
 dK_ fun s0 => oS_ rfl rfl rfl rfl rfl rfl rfl rfl,
 dK_ fun s0 => oS_ rfl rfl rfl rfl rfl rfl rfl rfl,
 dK_ fun s0 => oS_ rfl rfl rfl rfl rfl rfl rfl rfl,
 dK_ fun s0 => oS_ rfl rfl rfl rfl rfl rfl rfl rfl,
 dK_ fun s0 => oS_ rfl rfl rfl rfl rfl rfl rfl rfl,
 dK_ fun s0 => oS_ rfl rfl rfl rfl rfl rfl rfl rfl,
 dK_ fun s0 => oS_ rfl rfl rfl rfl rfl rfl rfl rfl,
 dK_ fun s0 => oG_ rfl rfl (q_pick), trivial⟩ ?_
          dsimp only [final, DS.upd, AS.seto]
          refine AWp.cond_t rfl ?_
          refine AWp.seq ?_
          refine AWp.region ?_
          refine aC_ rfl rfl (q_assign) ?_
          refine AOps.nil ?_
          refine AWp.ret ?_
          show Fin te Try.f28 _ _
          refine q_ret (0) [_] [_] ?_
          rw [au_7 (i := i) (by omega) (by rw [prO, h1]; simp)]; rfl
         ·
          refine AWp.draws (⟨0, [12], [1212], some 86, _, none⟩ ::
 ⟨1, [86], [1212], some 87, _, none⟩ ::
 ⟨2, [13], [1213], some 88, _, none⟩ ::
 ⟨3, [88], [1213], some 89, _, none⟩ ::
 ⟨4, [87, 89], [], some 90, _, none⟩ ::
 ⟨5, [90], [], some 91, _, none⟩ ::
 ⟨6, [91], [], some 92, _, none⟩ ::
 ⟨7, [12, 92], [1212], some 93, _, none⟩ ::
 ⟨8, [92, 93], [1212], some 94, _, none⟩ ::
 ⟨9, [13, 92], [1213], some 95, _, none⟩ ::
 ⟨10, [92, 95], [1213], some 96, _, none⟩ ::
 ⟨11, [92, 94, 96], [], some 97, _, none⟩ ::
 ⟨12, [92, 97], [], some 98, _, none⟩ ::
 ⟨13, [98], [], some 99, _, none⟩ ::
 ⟨14, [99], [], some 100, .v undef, none⟩ ::
 ⟨15, [99], [], some 101, .v undef, none⟩ ::
 ⟨16, [99], [], some 102, .v undef, none⟩ ::
 ⟨17, [99], [], some 103, .v undef, none⟩ ::
 ⟨18, [99], [], some 104, .v undef, none⟩ ::
 ⟨19, [99], [], some 105, .v undef, none⟩ ::
 ⟨20, [99], [], some 106, .v undef, none⟩ ::
 ⟨21, [99], [], some 107, .v undef, none⟩ ::
 ⟨22, [99], [], some 108, .v undef, none⟩ ::
 ⟨23, [99], [], some 109, .v undef, none⟩ ::
 ⟨24, [99], [], some 110, .v undef, none⟩ ::
 ⟨25, [99, 110], [], some 111, _, none⟩ ::
 ⟨26, [111], [], some 112, _, none⟩ ::
 ⟨27, [112], [], some 113, .v undef, none⟩ ::
 ⟨28, [112], [], some 114, .v undef, none⟩ ::
 ⟨29, [112], [], some 115, .v undef, none⟩ ::
 ⟨30, [112], [], some 116, .v undef, none⟩ ::
 ⟨31, [112], [], some 117, .v undef, none⟩ ::
 ⟨32, [112], [], some 118, .v undef, none⟩ ::
 ⟨33, [112], [], some 119, .v undef, none⟩ ::
 ⟨34, [112], [], some 120, .v undef, none⟩ ::
 ⟨35, [112], [], some 121, .v undef, none⟩ ::
 ⟨36, [112], [], some 122, .v undef, none⟩ ::
 ⟨37, [112, 122], [], some 123, _, none⟩ ::
 ⟨38, [123], [], some 124, _, none⟩ ::
 ⟨39, [124], [], some 125, .v undef, none⟩ ::
 ⟨40, [124], [], some 126, .v undef, none⟩ ::
 ⟨41, [124], [], some 127, .v undef, none⟩ ::
 ⟨42, [124], [], some 128, .v undef, none⟩ ::
 ⟨43, [124], [], some 129, .v undef, none⟩ ::
 ⟨44, [124], [], some 130, .v undef, none⟩ ::
 ⟨45, [124], [], some 131, .v undef, none⟩ ::
 ⟨46, [124], [], some 132, .v undef, none⟩ ::
 ⟨47, [124], [], some 133, .v undef, none⟩ ::
 ⟨48, [124], [], some 134, .v undef, none⟩ ::
 ⟨49, [124, 134], [], some 135, _, none⟩ ::
              [])
           (kN_ 0 [12] [1212] 86 ::
 kN_ 1 [86] [1212] 87 ::
 kN_ 2 [13] [1213] 88 ::
 kN_ 3 [88] [1213] 89 ::
 kN_ 4 [87, 89] [] 90 ::
 kN_ 5 [90] [] 91 ::
 kN_ 6 [91] [] 92 ::
 kN_ 7 [12, 92] [1212] 93 ::
 kN_ 8 [92, 93] [1212] 94 ::
 kN_ 9 [13, 92] [1213] 95 ::
 kN_ 10 [92, 95] [1213] 96 ::
 kN_ 11 [92, 94, 96] [] 97 ::
 kN_ 12 [92, 97] [] 98 ::
 kN_ 13 [98] [] 99 ::
 kN_ 14 [99] [] 100 ::
 kN_ 15 [99] [] 101 ::
 kN_ 16 [99] [] 102 ::
 kN_ 17 [99] [] 103 ::
 kN_ 18 [99] [] 104 ::
 kN_ 19 [99] [] 105 ::
 kN_ 20 [99] [] 106 ::
 kN_ 21 [99] [] 107 ::
 kN_ 22 [99] [] 108 ::
 kN_ 23 [99] [] 109 ::
 kN_ 24 [99] [] 110 ::
 kN_ 25 [99, 110] [] 111 ::
 kN_ 26 [111] [] 112 ::
 kN_ 27 [112] [] 113 ::
 kN_ 28 [112] [] 114 ::
 kN_ 29 [112] [] 115 ::
 kN_ 30 [112] [] 116 ::
 kN_ 31 [112] [] 117 ::
 kN_ 32 [112] [] 118 ::
 kN_ 33 [112] [] 119 ::
 kN_ 34 [112] [] 120 ::
 kN_ 35 [112] [] 121 ::
 kN_ 36 [112] [] 122 ::
 kN_ 37 [112, 122] [] 123 ::
 kN_ 38 [123] [] 124 ::
 kN_ 39 [124] [] 125 ::
 kN_ 40 [124] [] 126 ::
 kN_ 41 [124] [] 127 ::
 kN_ 42 [124] [] 128 ::
 kN_ 43 [124] [] 129 ::
 kN_ 44 [124] [] 130 ::
 kN_ 45 [124] [] 131 ::
 kN_ 46 [124] [] 132 ::
 kN_ 47 [124] [] 133 ::
 kN_ 48 [124] [] 134 ::
 kN_ 49 [124, 134] [] 135 ::
               [])
           mixed_ok rfl (by kernel_rfl) ⟨dK_ fun s0 => oG_ rfl rfl (q_fa),
 dK_ fun s0 => oG_ rfl rfl (q_load),
 dK_ fun s0 => oG_ rfl rfl (q_fa),
 dK_ fun s0 => oG_ rfl rfl (q_load),
 dK_ fun s0 => oG_ rfl rfl ((OpOk.bool_is (c := true) (q_call (0) (hc := (c_name_Same (((rnV m.an).getD i default).getD 0 default).nm (((rnV (truV t (m.qs.getD 0 default)).2).getD i default).getD 0 default).nm (by omega) (by omega)))) (h1))),
 dK_ fun s0 => oG_ rfl rfl (q_not),
 dK_ fun s0 => oG_ rfl rfl (q_move (hy := by exact rfl)),
 dK_ fun s0 => oO_ rfl rfl rfl rfl rfl (q_fa),
 dK_ fun s0 => oO_ rfl rfl rfl rfl rfl (q_load),
 dK_ fun s0 => oO_ rfl rfl rfl rfl rfl (q_fa),
 dK_ fun s0 => oO_ rfl rfl rfl rfl rfl (q_load),
 dK_ fun s0 => oO_ rfl rfl rfl rfl rfl ((OpOk.dec_t (q_neq) (h2))),
 dK_ fun s0 => oG_ rfl rfl (q_pick),
 dK_ fun s0 => oG_ rfl rfl (q_move (hy := by exact rfl)),
 dK_ fun s0 => oS_ rfl rfl rfl rfl rfl rfl rfl rfl,
 dK_ fun s0 => oS_ rfl rfl rfl rfl rfl rfl rfl rfl,
 dK_ fun s0 => oS_ rfl rfl rfl rfl rfl rfl rfl rfl,
 dK_ fun s0 => oS_ rfl rfl rfl rfl rfl rfl rfl rfl,
 dK_ fun s0 => oS_ rfl rfl rfl rfl rfl rfl rfl rfl,
 dK_ fun s0 => oS_ rfl rfl rfl rfl rfl rfl rfl rfl,
 dK_ fun s0 => oS_ rfl rfl rfl rfl rfl rfl rfl rfl,
 dK_ fun s0 => oS_ rfl rfl rfl rfl rfl rfl rfl rfl,
 dK_ fun s0 => oS_ rfl rfl rfl rfl rfl rfl rfl rfl,
 dK_ fun s0 => oS_ rfl rfl rfl rfl rfl rfl rfl rfl,
 dK_ fun s0 => oS_ rfl rfl rfl rfl rfl rfl rfl rfl,
 dK_ fun s0 => oG_ rfl rfl (q_pick),
 dK_ fun s0 => oG_ rfl rfl (q_move (hy := by exact rfl)),
 dK_ fun s0 => oS_ rfl rfl rfl rfl rfl rfl rfl rfl,
 dK_ fun s0 => oS_ rfl rfl rfl rfl rfl rfl rfl rfl,
 dK_ fun s0 => oS_ rfl rfl rfl rfl rfl rfl rfl rfl,
 dK_ fun s0 => oS_ rfl rfl rfl rfl rfl rfl rfl rfl,
 dK_ fun s0 => oS_ rfl rfl rfl rfl rfl rfl rfl rfl,
 dK_ fun s0 => oS_ rfl rfl rfl rfl rfl rfl rfl rfl,
 dK_ fun s0 => oS_ rfl rfl rfl rfl rfl rfl rfl rfl,
 dK_ fun s0 => oS_ rfl rfl rfl rfl rfl rfl rfl rfl,
 dK_ fun s0 => oS_ rfl rfl rfl rfl rfl rfl rfl rfl,
 dK_ fun s0 => oS_ rfl rfl rfl rfl rfl rfl rfl rfl,
 dK_ fun s0 => oG_ rfl rfl (q_pick (hz := by exact rfl)),
 dK_ fun s0 => oG_ rfl rfl (q_move (hy := by exact rfl)),
 dK_ fun s0 => oS_ rfl rfl rfl rfl rfl rfl rfl rfl,
 dK_ fun s0 => oS_ rfl rfl rfl rfl rfl rfl rfl rfl,
 dK_ fun s0 => oS_ rfl rfl rfl rfl rfl rfl rfl rfl,
 dK_ fun s0 => oS_ rfl rfl rfl rfl rfl rfl rfl rfl,
 dK_ fun s0 => oS_ rfl rfl rfl rfl rfl rfl rfl rfl,
 dK_ fun s0 => oS_ rfl rfl rfl rfl rfl rfl rfl rfl,
 dK_ fun s0 => oS_ rfl rfl rfl rfl rfl rfl rfl rfl,
 dK_ fun s0 => oS_ rfl rfl rfl rfl rfl rfl rfl rfl,
 dK_ fun s0 => oS_ rfl rfl rfl rfl rfl rfl rfl rfl,
 dK_ fun s0 => oS_ rfl rfl rfl rfl rfl rfl rfl rfl,
 dK_ fun s0 => oG_ rfl rfl (q_pick), trivial⟩ ?_
          dsimp only [final, DS.upd, AS.seto]
          refine AWp.cond_t rfl ?_
          refine AWp.seq ?_
          refine AWp.region ?_
          refine aC_ rfl rfl (q_assign) ?_
          refine AOps.nil ?_
          refine AWp.ret ?_
          show Fin te Try.f28 _ _
          refine q_ret (0) [_] [_] ?_
          rw [au_7 (i := i) (by omega) (by rw [prO, decide_eq_false h2]; simp)]; rfl
         ·
          refine AWp.draws (⟨0, [12], [1212], some 86, _, none⟩ ::
 ⟨1, [86], [1212], some 87, _, none⟩ ::
 ⟨2, [13], [1213], some 88, _, none⟩ ::
 ⟨3, [88], [1213], some 89, _, none⟩ ::
 ⟨4, [87, 89], [], some 90, _, none⟩ ::
 ⟨5, [90], [], some 91, _, none⟩ ::
 ⟨6, [91], [], some 92, _, none⟩ ::
 ⟨7, [12, 92], [1212], some 93, _, none⟩ ::
 ⟨8, [92, 93], [1212], some 94, _, none⟩ ::
 ⟨9, [13, 92], [1213], some 95, _, none⟩ ::
 ⟨10, [92, 95], [1213], some 96, _, none⟩ ::
 ⟨11, [92, 94, 96], [], some 97, _, none⟩ ::
 ⟨12, [92, 97], [], some 98, _, none⟩ ::
 ⟨13, [98], [], some 99, _, none⟩ ::
 ⟨14, [7, 99], [], some 100, _, none⟩ ::
 ⟨15, [11, 99], [], some 101, _, none⟩ ::
 ⟨16, [99, 100, 101], [], some 102, _, none⟩ ::
 ⟨17, [99, 102], [], some 103, _, none⟩ ::
 ⟨18, [99, 103], [], some 104, _, none⟩ ::
 ⟨19, [9, 99], [], some 105, _, none⟩ ::
 ⟨20, [11, 99], [], some 106, _, none⟩ ::
 ⟨21, [99, 105, 106], [], some 107, _, none⟩ ::
 ⟨22, [99, 107], [], some 108, _, none⟩ ::
 ⟨23, [99, 108], [], some 109, _, none⟩ ::
 ⟨24, [99, 104, 109], [], some 110, _, none⟩ ::
 ⟨25, [99, 110], [], some 111, _, none⟩ ::
 ⟨26, [111], [], some 112, _, none⟩ ::
 ⟨27, [112], [], some 113, .v undef, none⟩ ::
 ⟨28, [112], [], some 114, .v undef, none⟩ ::
 ⟨29, [112], [], some 115, .v undef, none⟩ ::
 ⟨30, [112], [], some 116, .v undef, none⟩ ::
 ⟨31, [112], [], some 117, .v undef, none⟩ ::
 ⟨32, [112], [], some 118, .v undef, none⟩ ::
 ⟨33, [112], [], some 119, .v undef, none⟩ ::
 ⟨34, [112], [], some 120, .v undef, none⟩ ::
 ⟨35, [112], [], some 121, .v undef, none⟩ ::
 ⟨36, [112], [], some 122, .v undef, none⟩ ::
 ⟨37, [112, 122], [], some 123, _, none⟩ ::
 ⟨38, [123], [], some 124, _, none⟩ ::
 ⟨39, [124], [], some 125, .v undef, none⟩ ::
 ⟨40, [124], [], some 126, .v undef, none⟩ ::
 ⟨41, [124], [], some 127, .v undef, none⟩ ::
 ⟨42, [124], [], some 128, .v undef, none⟩ ::
 ⟨43, [124], [], some 129, .v undef, none⟩ ::
 ⟨44, [124], [], some 130, .v undef, none⟩ ::
 ⟨45, [124], [], some 131, .v undef, none⟩ ::
 ⟨46, [124], [], some 132, .v undef, none⟩ ::
 ⟨47, [124], [], some 133, .v undef, none⟩ ::
 ⟨48, [124], [], some 134, .v undef, none⟩ ::
 ⟨49, [124, 134], [], some 135, _, none⟩ ::
              [])
           (kN_ 0 [12] [1212] 86 ::
 kN_ 1 [86] [1212] 87 ::
 kN_ 2 [13] [1213] 88 ::
 kN_ 3 [88] [1213] 89 ::
 kN_ 4 [87, 89] [] 90 ::
 kN_ 5 [90] [] 91 ::
 kN_ 6 [91] [] 92 ::
 kN_ 7 [12, 92] [1212] 93 ::
 kN_ 8 [92, 93] [1212] 94 ::
 kN_ 9 [13, 92] [1213] 95 ::
 kN_ 10 [92, 95] [1213] 96 ::
 kN_ 11 [92, 94, 96] [] 97 ::
 kN_ 12 [92, 97] [] 98 ::
 kN_ 13 [98] [] 99 ::
 kN_ 14 [7, 99] [] 100 ::
 kN_ 15 [11, 99] [] 101 ::
 kN_ 16 [99, 100, 101] [] 102 ::
 kN_ 17 [99, 102] [] 103 ::
 kN_ 18 [99, 103] [] 104 ::
 kN_ 19 [9, 99] [] 105 ::
 kN_ 20 [11, 99] [] 106 ::
 kN_ 21 [99, 105, 106] [] 107 ::
 kN_ 22 [99, 107] [] 108 ::
 kN_ 23 [99, 108] [] 109 ::
 kN_ 24 [99, 104, 109] [] 110 ::
 kN_ 25 [99, 110] [] 111 ::
 kN_ 26 [111] [] 112 ::
 kN_ 27 [112] [] 113 ::
 kN_ 28 [112] [] 114 ::
 kN_ 29 [112] [] 115 ::
 kN_ 30 [112] [] 116 ::
 kN_ 31 [112] [] 117 ::
 kN_ 32 [112] [] 118 ::
 kN_ 33 [112] [] 119 ::
 kN_ 34 [112] [] 120 ::
 kN_ 35 [112] [] 121 ::
 kN_ 36 [112] [] 122 ::
 kN_ 37 [112, 122] [] 123 ::
 kN_ 38 [123] [] 124 ::
 kN_ 39 [124] [] 125 ::
 kN_ 40 [124] [] 126 ::
 kN_ 41 [124] [] 127 ::
 kN_ 42 [124] [] 128 ::
 kN_ 43 [124] [] 129 ::
 kN_ 44 [124] [] 130 ::
 kN_ 45 [124] [] 131 ::
 kN_ 46 [124] [] 132 ::
 kN_ 47 [124] [] 133 ::
 kN_ 48 [124] [] 134 ::
 kN_ 49 [124, 134] [] 135 ::
               [])
           mixed_ok rfl (by kernel_rfl) ⟨dK_ fun s0 => oG_ rfl rfl (q_fa),
 dK_ fun s0 => oG_ rfl rfl (q_load),
 dK_ fun s0 => oG_ rfl rfl (q_fa),
 dK_ fun s0 => oG_ rfl rfl (q_load),
 dK_ fun s0 => oG_ rfl rfl ((OpOk.bool_is (c := true) (q_call (0) (hc := (c_name_Same (((rnV m.an).getD i default).getD 0 default).nm (((rnV (truV t (m.qs.getD 0 default)).2).getD i default).getD 0 default).nm (by omega) (by omega)))) (h1))),
 dK_ fun s0 => oG_ rfl rfl (q_not),
 dK_ fun s0 => oG_ rfl rfl (q_move (hy := by exact rfl)),
 dK_ fun s0 => oO_ rfl rfl rfl rfl rfl (q_fa),
 dK_ fun s0 => oO_ rfl rfl rfl rfl rfl (q_load),
 dK_ fun s0 => oO_ rfl rfl rfl rfl rfl (q_fa),
 dK_ fun s0 => oO_ rfl rfl rfl rfl rfl (q_load),
 dK_ fun s0 => oO_ rfl rfl rfl rfl rfl ((OpOk.dec_f (q_neq) (fun k => k h2))),
 dK_ fun s0 => oG_ rfl rfl (q_pick),
 dK_ fun s0 => oG_ rfl rfl (q_move (hy := by exact rfl)),
 dK_ fun s0 => oO_ rfl rfl rfl rfl rfl (q_move),
 dK_ fun s0 => oO_ rfl rfl rfl rfl rfl (q_move),
 dK_ fun s0 => oO_ rfl rfl rfl rfl rfl (q_ix),
 dK_ fun s0 => oO_ rfl rfl rfl rfl rfl (q_load),
 dK_ fun s0 => oO_ rfl rfl rfl rfl rfl (q_len),
 dK_ fun s0 => oO_ rfl rfl rfl rfl rfl (q_move),
 dK_ fun s0 => oO_ rfl rfl rfl rfl rfl (q_move),
 dK_ fun s0 => oO_ rfl rfl rfl rfl rfl (q_ix),
 dK_ fun s0 => oO_ rfl rfl rfl rfl rfl (q_load),
 dK_ fun s0 => oO_ rfl rfl rfl rfl rfl (q_len),
 dK_ fun s0 => oO_ rfl rfl rfl rfl rfl ((OpOk.dec_t (q_neq) (fun k => h3 (Int.ofNat_inj.1 k)))),
 dK_ fun s0 => oG_ rfl rfl (q_pick),
 dK_ fun s0 => oG_ rfl rfl (q_move (hy := by exact rfl)),
 dK_ fun s0 => oS_ rfl rfl rfl rfl rfl rfl rfl rfl,
 dK_ fun s0 => oS_ rfl rfl rfl rfl rfl rfl rfl rfl,
 dK_ fun s0 => oS_ rfl rfl rfl rfl rfl rfl rfl rfl,
 dK_ fun s0 => oS_ rfl rfl rfl rfl rfl rfl rfl rfl,
 dK_ fun s0 => oS_ rfl rfl rfl rfl rfl rfl rfl rfl,
 dK_ fun s0 => oS_ rfl rfl rfl rfl rfl rfl rfl rfl,
 dK_ fun s0 => oS_ rfl rfl rfl rfl rfl rfl rfl rfl,
 dK_ fun s0 => oS_ rfl rfl rfl rfl rfl rfl rfl rfl,
 dK_ fun s0 => oS_ rfl rfl rfl rfl rfl rfl rfl rfl,
 dK_ fun s0 => oS_ rfl rfl rfl rfl rfl rfl rfl rfl,
 dK_ fun s0 => oG_ rfl rfl (q_pick (hz := by exact rfl)),
 dK_ fun s0 => oG_ rfl rfl (q_move (hy := by exact rfl)),
 dK_ fun s0 => oS_ rfl rfl rfl rfl rfl rfl rfl rfl,
 dK_ fun s0 => oS_ rfl rfl rfl rfl rfl rfl rfl rfl,
 dK_ fun s0 => oS_ rfl rfl rfl rfl rfl rfl rfl rfl,
 dK_ fun s0 => oS_ rfl rfl rfl rfl rfl rfl rfl rfl,
 dK_ fun s0 => oS_ rfl rfl rfl rfl rfl rfl rfl rfl,
 dK_ fun s0 => oS_ rfl rfl rfl rfl rfl rfl rfl rfl,
 dK_ fun s0 => oS_ rfl rfl rfl rfl rfl rfl rfl rfl,
 dK_ fun s0 => oS_ rfl rfl rfl rfl rfl rfl rfl rfl,
 dK_ fun s0 => oS_ rfl rfl rfl rfl rfl rfl rfl rfl,
 dK_ fun s0 => oS_ rfl rfl rfl rfl rfl rfl rfl rfl,
 dK_ fun s0 => oG_ rfl rfl (q_pick), trivial⟩ ?_
          dsimp only [final, DS.upd, AS.seto]
          refine AWp.cond_t rfl ?_
          refine AWp.seq ?_
          refine AWp.region ?_
          refine aC_ rfl rfl (q_assign) ?_
          refine AOps.nil ?_
          refine AWp.ret ?_
          show Fin te Try.f28 _ _
          refine q_ret (0) [_] [_] ?_
          rw [au_7 (i := i) (by omega) (by rw [prO, decide_eq_false h3]; simp)]; rfl
         ·
          refine AWp.draws (⟨0, [12], [1212], some 86, _, none⟩ ::
 ⟨1, [86], [1212], some 87, _, none⟩ ::
 ⟨2, [13], [1213], some 88, _, none⟩ ::
 ⟨3, [88], [1213], some 89, _, none⟩ ::
 ⟨4, [87, 89], [], some 90, _, none⟩ ::
 ⟨5, [90], [], some 91, _, none⟩ ::
 ⟨6, [91], [], some 92, _, none⟩ ::
 ⟨7, [12, 92], [1212], some 93, _, none⟩ ::
 ⟨8, [92, 93], [1212], some 94, _, none⟩ ::
 ⟨9, [13, 92], [1213], some 95, _, none⟩ ::
 ⟨10, [92, 95], [1213], some 96, _, none⟩ ::
 ⟨11, [92, 94, 96], [], some 97, _, none⟩ ::
 ⟨12, [92, 97], [], some 98, _, none⟩ ::
 ⟨13, [98], [], some 99, _, none⟩ ::
 ⟨14, [7, 99], [], some 100, _, none⟩ ::
 ⟨15, [11, 99], [], some 101, _, none⟩ ::
 ⟨16, [99, 100, 101], [], some 102, _, none⟩ ::
 ⟨17, [99, 102], [], some 103, _, none⟩ ::
 ⟨18, [99, 103], [], some 104, _, none⟩ ::
 ⟨19, [9, 99], [], some 105, _, none⟩ ::
 ⟨20, [11, 99], [], some 106, _, none⟩ ::
 ⟨21, [99, 105, 106], [], some 107, _, none⟩ ::
 ⟨22, [99, 107], [], some 108, _, none⟩ ::
 ⟨23, [99, 108], [], some 109, _, none⟩ ::
 ⟨24, [99, 104, 109], [], some 110, _, none⟩ ::
 ⟨25, [99, 110], [], some 111, _, none⟩ ::
 ⟨26, [111], [], some 112, _, none⟩ ::
 ⟨27, [7, 112], [], some 113, _, none⟩ ::
 ⟨28, [11, 112], [], some 114, _, none⟩ ::
 ⟨29, [112, 113, 114], [], some 115, _, none⟩ ::
 ⟨30, [112, 115], [], some 116, _, none⟩ ::
 ⟨31, [9, 112], [], some 117, _, none⟩ ::
 ⟨32, [11, 112], [], some 118, _, none⟩ ::
 ⟨33, [112, 117, 118], [], some 119, _, none⟩ ::
 ⟨34, [112, 119], [], some 120, _, none⟩ ::
 ⟨35, [112, 116, 120], [], some 121, _, none⟩ ::
 ⟨36, [112, 121], [], some 122, _, none⟩ ::
 ⟨37, [112, 122], [], some 123, _, none⟩ ::
 ⟨38, [123], [], some 124, _, none⟩ ::
 ⟨39, [124], [], some 125, .v undef, none⟩ ::
 ⟨40, [124], [], some 126, .v undef, none⟩ ::
 ⟨41, [124], [], some 127, .v undef, none⟩ ::
 ⟨42, [124], [], some 128, .v undef, none⟩ ::
 ⟨43, [124], [], some 129, .v undef, none⟩ ::
 ⟨44, [124], [], some 130, .v undef, none⟩ ::
 ⟨45, [124], [], some 131, .v undef, none⟩ ::
 ⟨46, [124], [], some 132, .v undef, none⟩ ::
 ⟨47, [124], [], some 133, .v undef, none⟩ ::
 ⟨48, [124], [], some 134, .v undef, none⟩ ::
 ⟨49, [124, 134], [], some 135, _, none⟩ ::
              [])
           (kN_ 0 [12] [1212] 86 ::
 kN_ 1 [86] [1212] 87 ::
 kN_ 2 [13] [1213] 88 ::
 kN_ 3 [88] [1213] 89 ::
 kN_ 4 [87, 89] [] 90 ::
 kN_ 5 [90] [] 91 ::
 kN_ 6 [91] [] 92 ::
 kN_ 7 [12, 92] [1212] 93 ::
 kN_ 8 [92, 93] [1212] 94 ::
 kN_ 9 [13, 92] [1213] 95 ::
 kN_ 10 [92, 95] [1213] 96 ::
 kN_ 11 [92, 94, 96] [] 97 ::
 kN_ 12 [92, 97] [] 98 ::
 kN_ 13 [98] [] 99 ::
 kN_ 14 [7, 99] [] 100 ::
 kN_ 15 [11, 99] [] 101 ::
 kN_ 16 [99, 100, 101] [] 102 ::
 kN_ 17 [99, 102] [] 103 ::
 kN_ 18 [99, 103] [] 104 ::
 kN_ 19 [9, 99] [] 105 ::
 kN_ 20 [11, 99] [] 106 ::
 kN_ 21 [99, 105, 106] [] 107 ::
 kN_ 22 [99, 107] [] 108 ::
 kN_ 23 [99, 108] [] 109 ::
 kN_ 24 [99, 104, 109] [] 110 ::
 kN_ 25 [99, 110] [] 111 ::
 kN_ 26 [111] [] 112 ::
 kN_ 27 [7, 112] [] 113 ::
 kN_ 28 [11, 112] [] 114 ::
 kN_ 29 [112, 113, 114] [] 115 ::
 kN_ 30 [112, 115] [] 116 ::
 kN_ 31 [9, 112] [] 117 ::
 kN_ 32 [11, 112] [] 118 ::
 kN_ 33 [112, 117, 118] [] 119 ::
 kN_ 34 [112, 119] [] 120 ::
 kN_ 35 [112, 116, 120] [] 121 ::
 kN_ 36 [112, 121] [] 122 ::
 kN_ 37 [112, 122] [] 123 ::
 kN_ 38 [123] [] 124 ::
 kN_ 39 [124] [] 125 ::
 kN_ 40 [124] [] 126 ::
 kN_ 41 [124] [] 127 ::
 kN_ 42 [124] [] 128 ::
 kN_ 43 [124] [] 129 ::
 kN_ 44 [124] [] 130 ::
 kN_ 45 [124] [] 131 ::
 kN_ 46 [124] [] 132 ::
 kN_ 47 [124] [] 133 ::
 kN_ 48 [124] [] 134 ::
 kN_ 49 [124, 134] [] 135 ::
               [])
           mixed_ok rfl (by kernel_rfl) ⟨dK_ fun s0 => oG_ rfl rfl (q_fa),
 dK_ fun s0 => oG_ rfl rfl (q_load),
 dK_ fun s0 => oG_ rfl rfl (q_fa),
 dK_ fun s0 => oG_ rfl rfl (q_load),
 dK_ fun s0 => oG_ rfl rfl ((OpOk.bool_is (c := true) (q_call (0) (hc := (c_name_Same (((rnV m.an).getD i default).getD 0 default).nm (((rnV (truV t (m.qs.getD 0 default)).2).getD i default).getD 0 default).nm (by omega) (by omega)))) (h1))),
 dK_ fun s0 => oG_ rfl rfl (q_not),
 dK_ fun s0 => oG_ rfl rfl (q_move (hy := by exact rfl)),
 dK_ fun s0 => oO_ rfl rfl rfl rfl rfl (q_fa),
 dK_ fun s0 => oO_ rfl rfl rfl rfl rfl (q_load),
 dK_ fun s0 => oO_ rfl rfl rfl rfl rfl (q_fa),
 dK_ fun s0 => oO_ rfl rfl rfl rfl rfl (q_load),
 dK_ fun s0 => oO_ rfl rfl rfl rfl rfl ((OpOk.dec_f (q_neq) (fun k => k h2))),
 dK_ fun s0 => oG_ rfl rfl (q_pick),
 dK_ fun s0 => oG_ rfl rfl (q_move (hy := by exact rfl)),
 dK_ fun s0 => oO_ rfl rfl rfl rfl rfl (q_move),
 dK_ fun s0 => oO_ rfl rfl rfl rfl rfl (q_move),
 dK_ fun s0 => oO_ rfl rfl rfl rfl rfl (q_ix),
 dK_ fun s0 => oO_ rfl rfl rfl rfl rfl (q_load),
 dK_ fun s0 => oO_ rfl rfl rfl rfl rfl (q_len),
 dK_ fun s0 => oO_ rfl rfl rfl rfl rfl (q_move),
 dK_ fun s0 => oO_ rfl rfl rfl rfl rfl (q_move),
 dK_ fun s0 => oO_ rfl rfl rfl rfl rfl (q_ix),
 dK_ fun s0 => oO_ rfl rfl rfl rfl rfl (q_load),
 dK_ fun s0 => oO_ rfl rfl rfl rfl rfl (q_len),
 dK_ fun s0 => oO_ rfl rfl rfl rfl rfl ((OpOk.dec_f (q_neq) (fun k => k (congrArg (fun x : Nat => (x : Int)) h3)))),
 dK_ fun s0 => oG_ rfl rfl (q_pick),
 dK_ fun s0 => oG_ rfl rfl (q_move (hy := by exact rfl)),
 dK_ fun s0 => oO_ rfl rfl rfl rfl rfl (q_move),
 dK_ fun s0 => oO_ rfl rfl rfl rfl rfl (q_move),
 dK_ fun s0 => oO_ rfl rfl rfl rfl rfl (q_ix),
 dK_ fun s0 => oO_ rfl rfl rfl rfl rfl (q_load),
 dK_ fun s0 => oO_ rfl rfl rfl rfl rfl (q_move),
 dK_ fun s0 => oO_ rfl rfl rfl rfl rfl (q_move),
 dK_ fun s0 => oO_ rfl rfl rfl rfl rfl (q_ix),
 dK_ fun s0 => oO_ rfl rfl rfl rfl rfl (q_load),
 dK_ fun s0 => oO_ rfl rfl rfl rfl rfl ((OpOk.bool_is (c := false) (q_call (0) (hc := (c_audit_covers ((rnV m.an).getD i default) ((rnV (truV t (m.qs.getD 0 default)).2).getD i default) 0 0 a2 b2))) (h4))),
 dK_ fun s0 => oO_ rfl rfl rfl rfl rfl (q_not),
 dK_ fun s0 => oG_ rfl rfl (q_pick (hz := by exact rfl)),
 dK_ fun s0 => oG_ rfl rfl (q_move (hy := by exact rfl)),
 dK_ fun s0 => oS_ rfl rfl rfl rfl rfl rfl rfl rfl,
 dK_ fun s0 => oS_ rfl rfl rfl rfl rfl rfl rfl rfl,
 dK_ fun s0 => oS_ rfl rfl rfl rfl rfl rfl rfl rfl,
 dK_ fun s0 => oS_ rfl rfl rfl rfl rfl rfl rfl rfl,
 dK_ fun s0 => oS_ rfl rfl rfl rfl rfl rfl rfl rfl,
 dK_ fun s0 => oS_ rfl rfl rfl rfl rfl rfl rfl rfl,
 dK_ fun s0 => oS_ rfl rfl rfl rfl rfl rfl rfl rfl,
 dK_ fun s0 => oS_ rfl rfl rfl rfl rfl rfl rfl rfl,
 dK_ fun s0 => oS_ rfl rfl rfl rfl rfl rfl rfl rfl,
 dK_ fun s0 => oS_ rfl rfl rfl rfl rfl rfl rfl rfl,
 dK_ fun s0 => oG_ rfl rfl (q_pick), trivial⟩ ?_
          dsimp only [final, DS.upd, AS.seto]
          refine AWp.cond_t rfl ?_
          refine AWp.seq ?_
          refine AWp.region ?_
          refine aC_ rfl rfl (q_assign) ?_
          refine AOps.nil ?_
          refine AWp.ret ?_
          show Fin te Try.f28 _ _
          refine q_ret (0) [_] [_] ?_
          rw [au_7 (i := i) (by omega) (by rw [prO, h4]; simp)]; rfl
         ·
          refine AWp.draws (⟨0, [12], [1212], some 86, _, none⟩ ::
 ⟨1, [86], [1212], some 87, _, none⟩ ::
 ⟨2, [13], [1213], some 88, _, none⟩ ::
 ⟨3, [88], [1213], some 89, _, none⟩ ::
 ⟨4, [87, 89], [], some 90, _, none⟩ ::
 ⟨5, [90], [], some 91, _, none⟩ ::
 ⟨6, [91], [], some 92, _, none⟩ ::
 ⟨7, [12, 92], [1212], some 93, _, none⟩ ::
 ⟨8, [92, 93], [1212], some 94, _, none⟩ ::
 ⟨9, [13, 92], [1213], some 95, _, none⟩ ::
 ⟨10, [92, 95], [1213], some 96, _, none⟩ ::
 ⟨11, [92, 94, 96], [], some 97, _, none⟩ ::
 ⟨12, [92, 97], [], some 98, _, none⟩ ::
 ⟨13, [98], [], some 99, _, none⟩ ::
 ⟨14, [7, 99], [], some 100, _, none⟩ ::
 ⟨15, [11, 99], [], some 101, _, none⟩ ::
 ⟨16, [99, 100, 101], [], some 102, _, none⟩ ::
 ⟨17, [99, 102], [], some 103, _, none⟩ ::
 ⟨18, [99, 103], [], some 104, _, none⟩ ::
 ⟨19, [9, 99], [], some 105, _, none⟩ ::
 ⟨20, [11, 99], [], some 106, _, none⟩ ::
 ⟨21, [99, 105, 106], [], some 107, _, none⟩ ::
 ⟨22, [99, 107], [], some 108, _, none⟩ ::
 ⟨23, [99, 108], [], some 109, _, none⟩ ::
 ⟨24, [99, 104, 109], [], some 110, _, none⟩ ::
 ⟨25, [99, 110], [], some 111, _, none⟩ ::
 ⟨26, [111], [], some 112, _, none⟩ ::
 ⟨27, [7, 112], [], some 113, _, none⟩ ::
 ⟨28, [11, 112], [], some 114, _, none⟩ ::
 ⟨29, [112, 113, 114], [], some 115, _, none⟩ ::
 ⟨30, [112, 115], [], some 116, _, none⟩ ::
 ⟨31, [9, 112], [], some 117, _, none⟩ ::
 ⟨32, [11, 112], [], some 118, _, none⟩ ::
 ⟨33, [112, 117, 118], [], some 119, _, none⟩ ::
 ⟨34, [112, 119], [], some 120, _, none⟩ ::
 ⟨35, [112, 116, 120], [], some 121, _, none⟩ ::
 ⟨36, [112, 121], [], some 122, _, none⟩ ::
 ⟨37, [112, 122], [], some 123, _, none⟩ ::
 ⟨38, [123], [], some 124, _, none⟩ ::
 ⟨39, [9, 124], [], some 125, _, none⟩ ::
 ⟨40, [11, 124], [], some 126, _, none⟩ ::
 ⟨41, [124, 125, 126], [], some 127, _, none⟩ ::
 ⟨42, [124, 127], [], some 128, _, none⟩ ::
 ⟨43, [7, 124], [], some 129, _, none⟩ ::
 ⟨44, [11, 124], [], some 130, _, none⟩ ::
 ⟨45, [124, 129, 130], [], some 131, _, none⟩ ::
 ⟨46, [124, 131], [], some 132, _, none⟩ ::
 ⟨47, [124, 128, 132], [], some 133, _, none⟩ ::
 ⟨48, [124, 133], [], some 134, _, none⟩ ::
 ⟨49, [124, 134], [], some 135, _, none⟩ ::
              [])
           (kN_ 0 [12] [1212] 86 ::
 kN_ 1 [86] [1212] 87 ::
 kN_ 2 [13] [1213] 88 ::
 kN_ 3 [88] [1213] 89 ::
 kN_ 4 [87, 89] [] 90 ::
 kN_ 5 [90] [] 91 ::
 kN_ 6 [91] [] 92 ::
 kN_ 7 [12, 92] [1212] 93 ::
 kN_ 8 [92, 93] [1212] 94 ::
 kN_ 9 [13, 92] [1213] 95 ::
 kN_ 10 [92, 95] [1213] 96 ::
 kN_ 11 [92, 94, 96] [] 97 ::
 kN_ 12 [92, 97] [] 98 ::
 kN_ 13 [98] [] 99 ::
 kN_ 14 [7, 99] [] 100 ::
 kN_ 15 [11, 99] [] 101 ::
 kN_ 16 [99, 100, 101] [] 102 ::
 kN_ 17 [99, 102] [] 103 ::
 kN_ 18 [99, 103] [] 104 ::
 kN_ 19 [9, 99] [] 105 ::
 kN_ 20 [11, 99] [] 106 ::
 kN_ 21 [99, 105, 106] [] 107 ::
 kN_ 22 [99, 107] [] 108 ::
 kN_ 23 [99, 108] [] 109 ::
 kN_ 24 [99, 104, 109] [] 110 ::
 kN_ 25 [99, 110] [] 111 ::
 kN_ 26 [111] [] 112 ::
 kN_ 27 [7, 112] [] 113 ::
 kN_ 28 [11, 112] [] 114 ::
 kN_ 29 [112, 113, 114] [] 115 ::
 kN_ 30 [112, 115] [] 116 ::
 kN_ 31 [9, 112] [] 117 ::
 kN_ 32 [11, 112] [] 118 ::
 kN_ 33 [112, 117, 118] [] 119 ::
 kN_ 34 [112, 119] [] 120 ::
 kN_ 35 [112, 116, 120] [] 121 ::
 kN_ 36 [112, 121] [] 122 ::
 kN_ 37 [112, 122] [] 123 ::
 kN_ 38 [123] [] 124 ::
 kN_ 39 [9, 124] [] 125 ::
 kN_ 40 [11, 124] [] 126 ::
 kN_ 41 [124, 125, 126] [] 127 ::
 kN_ 42 [124, 127] [] 128 ::
 kN_ 43 [7, 124] [] 129 ::
 kN_ 44 [11, 124] [] 130 ::
 kN_ 45 [124, 129, 130] [] 131 ::
 kN_ 46 [124, 131] [] 132 ::
 kN_ 47 [124, 128, 132] [] 133 ::
 kN_ 48 [124, 133] [] 134 ::
 kN_ 49 [124, 134] [] 135 ::
               [])
           mixed_ok rfl (by kernel_rfl) ⟨dK_ fun s0 => oG_ rfl rfl (q_fa),
 dK_ fun s0 => oG_ rfl rfl (q_load),
 dK_ fun s0 => oG_ rfl rfl (q_fa),
 dK_ fun s0 => oG_ rfl rfl (q_load),
 dK_ fun s0 => oG_ rfl rfl ((OpOk.bool_is (c := true) (q_call (0) (hc := (c_name_Same (((rnV m.an).getD i default).getD 0 default).nm (((rnV (truV t (m.qs.getD 0 default)).2).getD i default).getD 0 default).nm (by omega) (by omega)))) (h1))),
 dK_ fun s0 => oG_ rfl rfl (q_not),
 dK_ fun s0 => oG_ rfl rfl (q_move (hy := by exact rfl)),
 dK_ fun s0 => oO_ rfl rfl rfl rfl rfl (q_fa),
 dK_ fun s0 => oO_ rfl rfl rfl rfl rfl (q_load),
 dK_ fun s0 => oO_ rfl rfl rfl rfl rfl (q_fa),
 dK_ fun s0 => oO_ rfl rfl rfl rfl rfl (q_load),
 dK_ fun s0 => oO_ rfl rfl rfl rfl rfl ((OpOk.dec_f (q_neq) (fun k => k h2))),
 dK_ fun s0 => oG_ rfl rfl (q_pick),
 dK_ fun s0 => oG_ rfl rfl (q_move (hy := by exact rfl)),
 dK_ fun s0 => oO_ rfl rfl rfl rfl rfl (q_move),
 dK_ fun s0 => oO_ rfl rfl rfl rfl rfl (q_move),
 dK_ fun s0 => oO_ rfl rfl rfl rfl rfl (q_ix),
 dK_ fun s0 => oO_ rfl rfl rfl rfl rfl (q_load),
 dK_ fun s0 => oO_ rfl rfl rfl rfl rfl (q_len),
 dK_ fun s0 => oO_ rfl rfl rfl rfl rfl (q_move),
 dK_ fun s0 => oO_ rfl rfl rfl rfl rfl (q_move),
 dK_ fun s0 => oO_ rfl rfl rfl rfl rfl (q_ix),
 dK_ fun s0 => oO_ rfl rfl rfl rfl rfl (q_load),
 dK_ fun s0 => oO_ rfl rfl rfl rfl rfl (q_len),
 dK_ fun s0 => oO_ rfl rfl rfl rfl rfl ((OpOk.dec_f (q_neq) (fun k => k (congrArg (fun x : Nat => (x : Int)) h3)))),
 dK_ fun s0 => oG_ rfl rfl (q_pick),
 dK_ fun s0 => oG_ rfl rfl (q_move (hy := by exact rfl)),
 dK_ fun s0 => oO_ rfl rfl rfl rfl rfl (q_move),
 dK_ fun s0 => oO_ rfl rfl rfl rfl rfl (q_move),
 dK_ fun s0 => oO_ rfl rfl rfl rfl rfl (q_ix),
 dK_ fun s0 => oO_ rfl rfl rfl rfl rfl (q_load),
 dK_ fun s0 => oO_ rfl rfl rfl rfl rfl (q_move),
 dK_ fun s0 => oO_ rfl rfl rfl rfl rfl (q_move),
 dK_ fun s0 => oO_ rfl rfl rfl rfl rfl (q_ix),
 dK_ fun s0 => oO_ rfl rfl rfl rfl rfl (q_load),
 dK_ fun s0 => oO_ rfl rfl rfl rfl rfl ((OpOk.bool_is (c := true) (q_call (0) (hc := (c_audit_covers ((rnV m.an).getD i default) ((rnV (truV t (m.qs.getD 0 default)).2).getD i default) 0 0 a2 b2))) (h4))),
 dK_ fun s0 => oO_ rfl rfl rfl rfl rfl (q_not),
 dK_ fun s0 => oG_ rfl rfl (q_pick (hz := by exact rfl)),
 dK_ fun s0 => oG_ rfl rfl (q_move (hy := by exact rfl)),
 dK_ fun s0 => oO_ rfl rfl rfl rfl rfl (q_move),
 dK_ fun s0 => oO_ rfl rfl rfl rfl rfl (q_move),
 dK_ fun s0 => oO_ rfl rfl rfl rfl rfl (q_ix),
 dK_ fun s0 => oO_ rfl rfl rfl rfl rfl (q_load),
 dK_ fun s0 => oO_ rfl rfl rfl rfl rfl (q_move),
 dK_ fun s0 => oO_ rfl rfl rfl rfl rfl (q_move),
 dK_ fun s0 => oO_ rfl rfl rfl rfl rfl (q_ix),
 dK_ fun s0 => oO_ rfl rfl rfl rfl rfl (q_load),
 dK_ fun s0 => oO_ rfl rfl rfl rfl rfl ((OpOk.bool_is (c := false) (q_call (0) (hc := (c_audit_covers ((rnV (truV t (m.qs.getD 0 default)).2).getD i default) ((rnV m.an).getD i default) 0 0 b2 a2))) (h5))),
 dK_ fun s0 => oO_ rfl rfl rfl rfl rfl (q_not),
 dK_ fun s0 => oG_ rfl rfl (q_pick), trivial⟩ ?_
          dsimp only [final, DS.upd, AS.seto]
          refine AWp.cond_t rfl ?_
          refine AWp.seq ?_
          refine AWp.region ?_
          refine aC_ rfl rfl (q_assign) ?_
          refine AOps.nil ?_
          refine AWp.ret ?_
          show Fin te Try.f28 _ _
          refine q_ret (0) [_] [_] ?_
          rw [au_7 (i := i) (by omega) (by rw [prO, h5]; simp)]; rfl
         ·
          refine AWp.draws (⟨0, [12], [1212], some 86, _, none⟩ ::
 ⟨1, [86], [1212], some 87, _, none⟩ ::
 ⟨2, [13], [1213], some 88, _, none⟩ ::
 ⟨3, [88], [1213], some 89, _, none⟩ ::
 ⟨4, [87, 89], [], some 90, _, none⟩ ::
 ⟨5, [90], [], some 91, _, none⟩ ::
 ⟨6, [91], [], some 92, _, none⟩ ::
 ⟨7, [12, 92], [1212], some 93, _, none⟩ ::
 ⟨8, [92, 93], [1212], some 94, _, none⟩ ::
 ⟨9, [13, 92], [1213], some 95, _, none⟩ ::
 ⟨10, [92, 95], [1213], some 96, _, none⟩ ::
 ⟨11, [92, 94, 96], [], some 97, _, none⟩ ::
 ⟨12, [92, 97], [], some 98, _, none⟩ ::
 ⟨13, [98], [], some 99, _, none⟩ ::
 ⟨14, [7, 99], [], some 100, _, none⟩ ::
 ⟨15, [11, 99], [], some 101, _, none⟩ ::
 ⟨16, [99, 100, 101], [], some 102, _, none⟩ ::
 ⟨17, [99, 102], [], some 103, _, none⟩ ::
 ⟨18, [99, 103], [], some 104, _, none⟩ ::
 ⟨19, [9, 99], [], some 105, _, none⟩ ::
 ⟨20, [11, 99], [], some 106, _, none⟩ ::
 ⟨21, [99, 105, 106], [], some 107, _, none⟩ ::
 ⟨22, [99, 107], [], some 108, _, none⟩ ::
 ⟨23, [99, 108], [], some 109, _, none⟩ ::
 ⟨24, [99, 104, 109], [], some 110, _, none⟩ ::
 ⟨25, [99, 110], [], some 111, _, none⟩ ::
 ⟨26, [111], [], some 112, _, none⟩ ::
 ⟨27, [7, 112], [], some 113, _, none⟩ ::
 ⟨28, [11, 112], [], some 114, _, none⟩ ::
 ⟨29, [112, 113, 114], [], some 115, _, none⟩ ::
 ⟨30, [112, 115], [], some 116, _, none⟩ ::
 ⟨31, [9, 112], [], some 117, _, none⟩ ::
 ⟨32, [11, 112], [], some 118, _, none⟩ ::
 ⟨33, [112, 117, 118], [], some 119, _, none⟩ ::
 ⟨34, [112, 119], [], some 120, _, none⟩ ::
 ⟨35, [112, 116, 120], [], some 121, _, none⟩ ::
 ⟨36, [112, 121], [], some 122, _, none⟩ ::
 ⟨37, [112, 122], [], some 123, _, none⟩ ::
 ⟨38, [123], [], some 124, _, none⟩ ::
 ⟨39, [9, 124], [], some 125, _, none⟩ ::
 ⟨40, [11, 124], [], some 126, _, none⟩ ::
 ⟨41, [124, 125, 126], [], some 127, _, none⟩ ::
 ⟨42, [124, 127], [], some 128, _, none⟩ ::
 ⟨43, [7, 124], [], some 129, _, none⟩ ::
 ⟨44, [11, 124], [], some 130, _, none⟩ ::
 ⟨45, [124, 129, 130], [], some 131, _, none⟩ ::
 ⟨46, [124, 131], [], some 132, _, none⟩ ::
 ⟨47, [124, 128, 132], [], some 133, _, none⟩ ::
 ⟨48, [124, 133], [], some 134, _, none⟩ ::
 ⟨49, [124, 134], [], some 135, _, none⟩ ::
              [])
           (kN_ 0 [12] [1212] 86 ::
 kN_ 1 [86] [1212] 87 ::
 kN_ 2 [13] [1213] 88 ::
 kN_ 3 [88] [1213] 89 ::
 kN_ 4 [87, 89] [] 90 ::
 kN_ 5 [90] [] 91 ::
 kN_ 6 [91] [] 92 ::
 kN_ 7 [12, 92] [1212] 93 ::
 kN_ 8 [92, 93] [1212] 94 ::
 kN_ 9 [13, 92] [1213] 95 ::
 kN_ 10 [92, 95] [1213] 96 ::
 kN_ 11 [92, 94, 96] [] 97 ::
 kN_ 12 [92, 97] [] 98 ::
 kN_ 13 [98] [] 99 ::
 kN_ 14 [7, 99] [] 100 ::
 kN_ 15 [11, 99] [] 101 ::
 kN_ 16 [99, 100, 101] [] 102 ::
 kN_ 17 [99, 102] [] 103 ::
 kN_ 18 [99, 103] [] 104 ::
 kN_ 19 [9, 99] [] 105 ::
 kN_ 20 [11, 99] [] 106 ::
 kN_ 21 [99, 105, 106] [] 107 ::
 kN_ 22 [99, 107] [] 108 ::
 kN_ 23 [99, 108] [] 109 ::
 kN_ 24 [99, 104, 109] [] 110 ::
 kN_ 25 [99, 110] [] 111 ::
 kN_ 26 [111] [] 112 ::
 kN_ 27 [7, 112] [] 113 ::
 kN_ 28 [11, 112] [] 114 ::
 kN_ 29 [112, 113, 114] [] 115 ::
 kN_ 30 [112, 115] [] 116 ::
 kN_ 31 [9, 112] [] 117 ::
 kN_ 32 [11, 112] [] 118 ::
 kN_ 33 [112, 117, 118] [] 119 ::
 kN_ 34 [112, 119] [] 120 ::
 kN_ 35 [112, 116, 120] [] 121 ::
 kN_ 36 [112, 121] [] 122 ::
 kN_ 37 [112, 122] [] 123 ::
 kN_ 38 [123] [] 124 ::
 kN_ 39 [9, 124] [] 125 ::
 kN_ 40 [11, 124] [] 126 ::
 kN_ 41 [124, 125, 126] [] 127 ::
 kN_ 42 [124, 127] [] 128 ::
 kN_ 43 [7, 124] [] 129 ::
 kN_ 44 [11, 124] [] 130 ::
 kN_ 45 [124, 129, 130] [] 131 ::
 kN_ 46 [124, 131] [] 132 ::
 kN_ 47 [124, 128, 132] [] 133 ::
 kN_ 48 [124, 133] [] 134 ::
 kN_ 49 [124, 134] [] 135 ::
               [])
           mixed_ok rfl (by kernel_rfl) ⟨dK_ fun s0 => oG_ rfl rfl (q_fa),
 dK_ fun s0 => oG_ rfl rfl (q_load),
 dK_ fun s0 => oG_ rfl rfl (q_fa),
 dK_ fun s0 => oG_ rfl rfl (q_load),
 dK_ fun s0 => oG_ rfl rfl ((OpOk.bool_is (c := true) (q_call (0) (hc := (c_name_Same (((rnV m.an).getD i default).getD 0 default).nm (((rnV (truV t (m.qs.getD 0 default)).2).getD i default).getD 0 default).nm (by omega) (by omega)))) (h1))),
 dK_ fun s0 => oG_ rfl rfl (q_not),
 dK_ fun s0 => oG_ rfl rfl (q_move (hy := by exact rfl)),
 dK_ fun s0 => oO_ rfl rfl rfl rfl rfl (q_fa),
 dK_ fun s0 => oO_ rfl rfl rfl rfl rfl (q_load),
 dK_ fun s0 => oO_ rfl rfl rfl rfl rfl (q_fa),
 dK_ fun s0 => oO_ rfl rfl rfl rfl rfl (q_load),
 dK_ fun s0 => oO_ rfl rfl rfl rfl rfl ((OpOk.dec_f (q_neq) (fun k => k h2))),
 dK_ fun s0 => oG_ rfl rfl (q_pick),
 dK_ fun s0 => oG_ rfl rfl (q_move (hy := by exact rfl)),
 dK_ fun s0 => oO_ rfl rfl rfl rfl rfl (q_move),
 dK_ fun s0 => oO_ rfl rfl rfl rfl rfl (q_move),
 dK_ fun s0 => oO_ rfl rfl rfl rfl rfl (q_ix),
 dK_ fun s0 => oO_ rfl rfl rfl rfl rfl (q_load),
 dK_ fun s0 => oO_ rfl rfl rfl rfl rfl (q_len),
 dK_ fun s0 => oO_ rfl rfl rfl rfl rfl (q_move),
 dK_ fun s0 => oO_ rfl rfl rfl rfl rfl (q_move),
 dK_ fun s0 => oO_ rfl rfl rfl rfl rfl (q_ix),
 dK_ fun s0 => oO_ rfl rfl rfl rfl rfl (q_load),
 dK_ fun s0 => oO_ rfl rfl rfl rfl rfl (q_len),
 dK_ fun s0 => oO_ rfl rfl rfl rfl rfl ((OpOk.dec_f (q_neq) (fun k => k (congrArg (fun x : Nat => (x : Int)) h3)))),
 dK_ fun s0 => oG_ rfl rfl (q_pick),
 dK_ fun s0 => oG_ rfl rfl (q_move (hy := by exact rfl)),
 dK_ fun s0 => oO_ rfl rfl rfl rfl rfl (q_move),
 dK_ fun s0 => oO_ rfl rfl rfl rfl rfl (q_move),
 dK_ fun s0 => oO_ rfl rfl rfl rfl rfl (q_ix),
 dK_ fun s0 => oO_ rfl rfl rfl rfl rfl (q_load),
 dK_ fun s0 => oO_ rfl rfl rfl rfl rfl (q_move),
 dK_ fun s0 => oO_ rfl rfl rfl rfl rfl (q_move),
 dK_ fun s0 => oO_ rfl rfl rfl rfl rfl (q_ix),
 dK_ fun s0 => oO_ rfl rfl rfl rfl rfl (q_load),
 dK_ fun s0 => oO_ rfl rfl rfl rfl rfl ((OpOk.bool_is (c := true) (q_call (0) (hc := (c_audit_covers ((rnV m.an).getD i default) ((rnV (truV t (m.qs.getD 0 default)).2).getD i default) 0 0 a2 b2))) (h4))),
 dK_ fun s0 => oO_ rfl rfl rfl rfl rfl (q_not),
 dK_ fun s0 => oG_ rfl rfl (q_pick (hz := by exact rfl)),
 dK_ fun s0 => oG_ rfl rfl (q_move (hy := by exact rfl)),
 dK_ fun s0 => oO_ rfl rfl rfl rfl rfl (q_move),
 dK_ fun s0 => oO_ rfl rfl rfl rfl rfl (q_move),
 dK_ fun s0 => oO_ rfl rfl rfl rfl rfl (q_ix),
 dK_ fun s0 => oO_ rfl rfl rfl rfl rfl (q_load),
 dK_ fun s0 => oO_ rfl rfl rfl rfl rfl (q_move),
 dK_ fun s0 => oO_ rfl rfl rfl rfl rfl (q_move),
 dK_ fun s0 => oO_ rfl rfl rfl rfl rfl (q_ix),
 dK_ fun s0 => oO_ rfl rfl rfl rfl rfl (q_load),
 dK_ fun s0 => oO_ rfl rfl rfl rfl rfl ((OpOk.bool_is (c := true) (q_call (0) (hc := (c_audit_covers ((rnV (truV t (m.qs.getD 0 default)).2).getD i default) ((rnV m.an).getD i default) 0 0 b2 a2))) (h5))),
 dK_ fun s0 => oO_ rfl rfl rfl rfl rfl (q_not),
 dK_ fun s0 => oG_ rfl rfl (q_pick), trivial⟩ ?_
          dsimp only [final, DS.upd, AS.seto]
          refine AWp.cond_f rfl ?_
          refine AWp.skip ?_
          refine AWp.region ?_
          refine aC_ rfl rfl (q_add) ?_
          refine aC_ rfl rfl (q_move) ?_
          refine AOps.nil ?_
          refine ⟨i + 1, ?_, Back.mk' (HasT.cons HasT.nil) HasH.nil, ?_⟩
          ·
           exact ⟨by omega, lt_step hj (by rw [prO, h1, decide_eq_true h2, decide_eq_true h3, h4, h5]; rfl)⟩
          ·
           first | omega | (simp; omega)
        ·
         refine AOps.nil ?_
         refine AWp.seq ?_
         refine AWp.cond_f rfl ?_
         refine AWp.exit ?_
         refine AWp.seq ?_
         refine AWp.region ?_
         refine aC_ rfl rfl (q_assign) ?_
         refine AOps.nil ?_
         refine AWp.ret ?_
         show Fin te Try.f28 _ _
         refine q_ret (0) [_] [_] ?_
         rw [au_yes (by omega) h6_0 h4_5 (Decidable.not_not.1 h6_12) (by omega) (by omega) (fun j hjl => hj j (by omega))]; rfl
   ·
    refine aC_ rfl rfl (q_not) ?_
    refine aC_ rfl rfl (q_move) ?_
    refine aG_ rfl rfl rfl rfl rfl rfl rfl rfl ?_
    refine aG_ rfl rfl rfl rfl rfl rfl rfl rfl ?_
    refine aC_ rfl rfl (q_pick) ?_
    refine aC_ rfl rfl (q_move) ?_
    refine aG_ rfl rfl rfl rfl rfl rfl rfl rfl ?_
    refine aG_ rfl rfl rfl rfl rfl rfl rfl rfl ?_
    refine aG_ rfl rfl rfl rfl rfl rfl rfl rfl ?_
    refine aG_ rfl rfl rfl rfl rfl rfl rfl rfl ?_
    refine aG_ rfl rfl rfl rfl rfl rfl rfl rfl ?_
    refine aG_ rfl rfl rfl rfl rfl rfl rfl rfl ?_
    refine aC_ rfl rfl (q_pick) ?_
    refine aC_ rfl rfl (q_move) ?_
    refine aG_ rfl rfl rfl rfl rfl rfl rfl rfl ?_
    refine aG_ rfl rfl rfl rfl rfl rfl rfl rfl ?_
    refine aG_ rfl rfl rfl rfl rfl rfl rfl rfl ?_
    refine aG_ rfl rfl rfl rfl rfl rfl rfl rfl ?_
    refine aG_ rfl rfl rfl rfl rfl rfl rfl rfl ?_
    refine aG_ rfl rfl rfl rfl rfl rfl rfl rfl ?_
    refine aG_ rfl rfl rfl rfl rfl rfl rfl rfl ?_
    refine aC_ rfl rfl (q_pick) ?_
    refine aC_ rfl rfl (q_move) ?_
    refine aG_ rfl rfl rfl rfl rfl rfl rfl rfl ?_
    refine aG_ rfl rfl rfl rfl rfl rfl rfl rfl ?_
    refine aG_ rfl rfl rfl rfl rfl rfl rfl rfl ?_
    refine aG_ rfl rfl rfl rfl rfl rfl rfl rfl ?_
    refine aG_ rfl rfl rfl rfl rfl rfl rfl rfl ?_
    refine aC_ rfl rfl (q_pick) ?_
    refine AOps.nil ?_
    refine AWp.cond_t rfl ?_
    refine AWp.seq ?_
    refine AWp.region ?_
    refine aC_ rfl rfl (q_assign) ?_
    refine AOps.nil ?_
    refine AWp.ret ?_
    show Fin te Try.f28 _ _
    refine q_ret (0) [_] [_] ?_
    rw [au_2 h6_0]; rfl
  ·
   refine aC_ rfl rfl (q_assign) ?_
   refine aC_ rfl rfl (q_assign) ?_
   refine AOps.nil ?_
   refine AWp.seq ?_
   refine AWp.region ?_
   refine aC_ rfl rfl (q_fa) ?_
   refine aC_ rfl rfl (q_load) ?_
   refine aC_ rfl rfl (q_call (0) (hc := (c_audit_runs (truV t (m.qs.getD 0 default)).2 hvo.1 hvo.2))) ?_
   refine aC_ rfl rfl (q_move) ?_
   refine aC_ rfl rfl (q_extract) ?_
   refine aC_ rfl rfl (q_extract) ?_
   refine aC_ rfl rfl (q_assign) ?_
   refine aC_ rfl rfl (q_assign) ?_
   refine AOps.nil ?_
   refine AWp.seq ?_
   refine AWp.seq ?_
   refine AWp.region ?_
   refine AOps.bool rfl rfl (q_move) (fun h6_0 => ?_) (fun h6_0 => ?_)
   ·
    refine aC_ rfl rfl (q_not) ?_
    refine aC_ rfl rfl (q_move) ?_
    refine AOps.gcons rfl rfl rfl rfl rfl (q_move) ?_
    refine AOps.gcons rfl rfl rfl rfl rfl (q_not) ?_
    refine aC_ rfl rfl (q_pick) ?_
    refine aC_ rfl rfl (q_move) ?_
    refine aG_ rfl rfl rfl rfl rfl rfl rfl rfl ?_
    refine aG_ rfl rfl rfl rfl rfl rfl rfl rfl ?_
    refine aG_ rfl rfl rfl rfl rfl rfl rfl rfl ?_
    refine aG_ rfl rfl rfl rfl rfl rfl rfl rfl ?_
    refine aG_ rfl rfl rfl rfl rfl rfl rfl rfl ?_
    refine aG_ rfl rfl rfl rfl rfl rfl rfl rfl ?_
    refine aC_ rfl rfl (q_pick) ?_
    refine aC_ rfl rfl (q_move) ?_
    refine aG_ rfl rfl rfl rfl rfl rfl rfl rfl ?_
    refine aG_ rfl rfl rfl rfl rfl rfl rfl rfl ?_
    refine aG_ rfl rfl rfl rfl rfl rfl rfl rfl ?_
    refine aG_ rfl rfl rfl rfl rfl rfl rfl rfl ?_
    refine aG_ rfl rfl rfl rfl rfl rfl rfl rfl ?_
    refine aG_ rfl rfl rfl rfl rfl rfl rfl rfl ?_
    refine aG_ rfl rfl rfl rfl rfl rfl rfl rfl ?_
    refine aC_ rfl rfl (q_pick) ?_
    refine aC_ rfl rfl (q_move) ?_
    refine aG_ rfl rfl rfl rfl rfl rfl rfl rfl ?_
    refine aG_ rfl rfl rfl rfl rfl rfl rfl rfl ?_
    refine aG_ rfl rfl rfl rfl rfl rfl rfl rfl ?_
    refine aG_ rfl rfl rfl rfl rfl rfl rfl rfl ?_
    refine aG_ rfl rfl rfl rfl rfl rfl rfl rfl ?_
    refine aC_ rfl rfl (q_pick) ?_
    refine AOps.nil ?_
    refine AWp.cond_t rfl ?_
    refine AWp.seq ?_
    refine AWp.region ?_
    refine aC_ rfl rfl (q_assign) ?_
    refine AOps.nil ?_
    refine AWp.ret ?_
    show Fin te Try.f28 _ _
    refine q_ret (0) [_] [_] ?_
    rw [au_3 h4_5]; rfl
   ·
    refine aC_ rfl rfl (q_not) ?_
    refine aC_ rfl rfl (q_move) ?_
    refine aG_ rfl rfl rfl rfl rfl rfl rfl rfl ?_
    refine aG_ rfl rfl rfl rfl rfl rfl rfl rfl ?_
    refine aC_ rfl rfl (q_pick) ?_
    refine aC_ rfl rfl (q_move) ?_
    refine aG_ rfl rfl rfl rfl rfl rfl rfl rfl ?_
    refine aG_ rfl rfl rfl rfl rfl rfl rfl rfl ?_
    refine aG_ rfl rfl rfl rfl rfl rfl rfl rfl ?_
    refine aG_ rfl rfl rfl rfl rfl rfl rfl rfl ?_
    refine aG_ rfl rfl rfl rfl rfl rfl rfl rfl ?_
    refine aG_ rfl rfl rfl rfl rfl rfl rfl rfl ?_
    refine aC_ rfl rfl (q_pick) ?_
    refine aC_ rfl rfl (q_move) ?_
    refine aG_ rfl rfl rfl rfl rfl rfl rfl rfl ?_
    refine aG_ rfl rfl rfl rfl rfl rfl rfl rfl ?_
    refine aG_ rfl rfl rfl rfl rfl rfl rfl rfl ?_
    refine aG_ rfl rfl rfl rfl rfl rfl rfl rfl ?_
    refine aG_ rfl rfl rfl rfl rfl rfl rfl rfl ?_
    refine aG_ rfl rfl rfl rfl rfl rfl rfl rfl ?_
    refine aG_ rfl rfl rfl rfl rfl rfl rfl rfl ?_
    refine aC_ rfl rfl (q_pick) ?_
    refine aC_ rfl rfl (q_move) ?_
    refine aG_ rfl rfl rfl rfl rfl rfl rfl rfl ?_
    refine aG_ rfl rfl rfl rfl rfl rfl rfl rfl ?_
    refine aG_ rfl rfl rfl rfl rfl rfl rfl rfl ?_
    refine aG_ rfl rfl rfl rfl rfl rfl rfl rfl ?_
    refine aG_ rfl rfl rfl rfl rfl rfl rfl rfl ?_
    refine aC_ rfl rfl (q_pick) ?_
    refine AOps.nil ?_
    refine AWp.cond_t rfl ?_
    refine AWp.seq ?_
    refine AWp.region ?_
    refine aC_ rfl rfl (q_assign) ?_
    refine AOps.nil ?_
    refine AWp.ret ?_
    show Fin te Try.f28 _ _
    refine q_ret (0) [_] [_] ?_
    rw [au_2 h6_0]; rfl
end Go.Proofs.Ytokccoloholgaaa.Fw


set_option linter.unusedVariables false
set_option linter.unusedSimpArgs false
namespace Go.Proofs.Ytokccoloholgaaa.Fw
open Go.RowKit
def grpN (h : Rr) : List Rr → Nat
  | [] => 0
  | r :: t => if sameN r.nm h.nm && decide (r.ty = h.ty) then grpN h t + 1 else 0
def grp (l : List Rr) : Nat := grpN (l.getD 0 default) l
theorem grpN_le (h : Rr) : ∀ l, grpN h l ≤ l.length
  | [] => Nat.le_refl _
  | r :: t => by
    have := grpN_le h t
    rw [grpN]
    split
    · simp; omega
    · simp
theorem grp_le (l : List Rr) : grp l ≤ l.length := grpN_le _ l
theorem drop_cons' {α : Type} [Inhabited α] {l : List α} {i : Nat} (h : i < l.length) : l.drop i = l.getD i default :: l.drop (i + 1) := by
  rw [List.drop_eq_getElem_cons h, List.getD_eq_getElem?_getD, List.getElem?_eq_getElem h]; rfl
theorem grpN_go {h : Rr} {l : List Rr} {i : Nat} (hi : i < l.length) (h1 : sameN (l.getD i default).nm h.nm = true) (h2 : (l.getD i default).ty = h.ty) : grpN h (l.drop i) = grpN h (l.drop (i + 1)) + 1 := by
  rw [drop_cons' hi, grpN, h1, decide_eq_true h2]; rfl
theorem grpN_no {h : Rr} {l : List Rr} {i : Nat} (hi : i < l.length) (h1 : sameN (l.getD i default).nm h.nm = false ∨ ¬ (l.getD i default).ty = h.ty) : grpN h (l.drop i) = 0 := by
  rw [drop_cons' hi, grpN]
  rcases h1 with h1 | h1
  · rw [h1]; rfl
  · rw [decide_eq_false h1, Bool.and_false]; rfl
def setP (r o : Rr) : Bool := decide (lowR r = lowR o) && decide (r.cs = o.cs)
def setH (a b : List Rr) : Bool := a.all fun r => b.any (setP r)
def setB (a b : List Rr) : Bool := setH a b && setH b a
def prC2 (p : List Rr × List Rr) : List AV := [.fz 0 p.1.length (cl rrc p.1), .fz 0 p.2.length (cl rrc p.2)]
theorem pair_mem {a b : List Rr} {i : Nat} (h : i < 2) : ([(a, b), (b, a)] : List (List Rr × List Rr)).getD i default = (a, b) ∨ ([(a, b), (b, a)] : List (List Rr × List Rr)).getD i default = (b, a) := by
  have : i = 0 ∨ i = 1 := by omega
  rcases this with rfl | rfl
  · exact .inl rfl
  · exact .inr rfl
theorem set_no {a b : List Rr} {i : Nat} (h : i < 2) (hx : setH (([(a, b), (b, a)] : List (List Rr × List Rr)).getD i default).1 (([(a, b), (b, a)] : List (List Rr × List Rr)).getD i default).2 = false) : setB a b = false := by
  rcases pair_mem (a := a) (b := b) h with e | e
  · rw [e] at hx; rw [setB, show setH a b = false from hx]; rfl
  · rw [e] at hx; rw [setB, show setH b a = false from hx, Bool.and_false]
theorem set_yes {a b : List Rr} (h : ∀ j, j < 2 → setH (([(a, b), (b, a)] : List (List Rr × List Rr)).getD j default).1 (([(a, b), (b, a)] : List (List Rr × List Rr)).getD j default).2 = true) : setB a b = true := by
  rw [setB, show setH a b = true from h 0 (by omega), show setH b a = true from h 1 (by omega)]; rfl
def okG (a b : List Rr) : Bool := decide (grp a = grp b) && (sameN (a.getD 0 default).nm (b.getD 0 default).nm && (decide ((a.getD 0 default).ty = (b.getD 0 default).ty) && setB (a.take (grp a)) (b.take (grp a))))
def refT (a b : List Rr) : Bool := if h : 0 < grp a then okG a b && refT (a.drop (grp a)) (b.drop (grp a)) else decide (a.length = 0)
termination_by a.length
decreasing_by have := grp_le a; simp; omega
theorem refT_end {a b : List Rr} (h : a.length = 0) : refT a b = true := by
  have := grp_le a
  rw [refT, dif_neg (by omega), decide_eq_true h]
theorem refT_0 {a b : List Rr} (h : 0 < a.length) (h2 : grp a = 0) : refT a b = false := by rw [refT, dif_neg (by omega), decide_eq_false (by omega)]
theorem refT_no {a b : List Rr} (h2 : ¬ grp a = 0) (h : okG a b = false) : refT a b = false := by rw [refT, dif_pos (by omega), h]; rfl
theorem refT_go {a b : List Rr} (h2 : ¬ grp a = 0) (h : okG a b = true) : refT a b = refT (a.drop (grp a)) (b.drop (grp a)) := by rw [refT, dif_pos (by omega), h]; rfl
def NmB (l : List Rr) : Prop := ∀ x ∈ l, x.nm.length ≤ 140737488351232
theorem RrsOk.take {l : List Rr} (h : RrsOk l) (n : Nat) : RrsOk (l.take n) := ⟨by have := h.1; rw [List.length_take]; omega, fun x hx => h.2 x (List.mem_of_mem_take hx)⟩
theorem RrsOk.drop {l : List Rr} (h : RrsOk l) (n : Nat) : RrsOk (l.drop n) := ⟨by have := h.1; rw [List.length_drop]; omega, fun x hx => h.2 x (List.mem_of_mem_drop hx)⟩
theorem NmB.drop {l : List Rr} (h : NmB l) (n : Nat) : NmB (l.drop n) := fun x hx => h x (List.mem_of_mem_drop hx)
def refV (t : Tr) (m : Msg) : Bool := decide (m.qs.length = 1) && ((truO t (m.qs.getD 0 default)).isSome && (decide (m.h.code = (truV t (m.qs.getD 0 default)).1) && (decide (m.an.length = (truV t (m.qs.getD 0 default)).2.length) && refT m.an (truV t (m.qs.getD 0 default)).2)))
section
variable {t : Tr} {m : Msg}
theorem rv_1 (h : ¬ m.qs.length = 1) : refV t m = false := by rw [refV, decide_eq_false h]; rfl
theorem rv_2 (h : (truO t (m.qs.getD 0 default)).isSome = false) : refV t m = false := by rw [refV, h]; simp
theorem rv_4 (h : ¬ m.h.code = (truV t (m.qs.getD 0 default)).1) : refV t m = false := by rw [refV, decide_eq_false h]; simp
theorem rv_5 (h : ¬ m.an.length = (truV t (m.qs.getD 0 default)).2.length) : refV t m = false := by rw [refV, decide_eq_false h]; simp
theorem rv_go (h1 : m.qs.length = 1) (h2 : (truO t (m.qs.getD 0 default)).isSome = true) (h4 : m.h.code = (truV t (m.qs.getD 0 default)).1) (h5 : m.an.length = (truV t (m.qs.getD 0 default)).2.length) : refV t m = refT m.an (truV t (m.qs.getD 0 default)).2 := by
  rw [refV, decide_eq_true h1, h2, decide_eq_true h4, decide_eq_true h5]; rfl
end
theorem four4 (p : Prop) [Decidable p] (b : Bool) (q : Prop) [Decidable q] : ¬ p ∨ (p ∧ b = false) ∨ (p ∧ b = true ∧ ¬ q) ∨ (p ∧ b = true ∧ q) := by
  by_cases h1 : p <;> by_cases h2 : q <;> cases b <;> simp [h1, h2]
theorem six6 (p q : Prop) [Decidable p] [Decidable q] (b1 : Bool) (r : Prop) [Decidable r] (b2 : Bool) : p ∨ (¬ p ∧ ¬ q) ∨ (¬ p ∧ q ∧ b1 = false) ∨ (¬ p ∧ q ∧ b1 = true ∧ ¬ r) ∨ (¬ p ∧ q ∧ b1 = true ∧ r ∧ b2 = false) ∨ (¬ p ∧ q ∧ b1 = true ∧ r ∧ b2 = true) := by
  by_cases h1 : p <;> by_cases h2 : q <;> by_cases h3 : r <;> cases b1 <;> cases b2 <;> simp [h1, h2, h3]
theorem found4 (f l c : Bool) : f = true ∨ (f = false ∧ l = false) ∨ (f = false ∧ l = true ∧ c = false) ∨ (f = false ∧ l = true ∧ c = true) := by cases f <;> cases l <;> cases c <;> simp
set_option maxRecDepth 20000 in
set_option maxHeartbeats 2000000 in
theorem c_ciceroneref24_group (l : List Rr) (hl : RrsOk l) (hn : NmB l) : AC Try.prog 70 [.fz 0 l.length (cl rrc l)] emp (Ret (i64 (grp l))) := by
 have hb1 := hl.1
 refine AC.intro te_ok (fn := Try.f70) ⟨Try.func70, rfl, rfl⟩ (Nat.le_of_ble_eq_true rfl) ?_
 refine AWp.seq ?_
 refine AWp.region ?_
 refine aC_ rfl rfl (q_assign) ?_
 refine AOps.nil ?_
 refine AWp.seq ?_
 refine AWp.region ?_
 refine aC_ rfl rfl (q_assign) ?_
 refine AOps.nil ?_
 refine AWp.seq ?_
 refine AWp.block ?_
 refine AWp.loopR (α := Nat) [3, 4, 5, 6, 7, 8, 9, 10, 11, 12, 13, 14, 15, 16, 17, 18, 19, 20, 21, 22, 23, 24, 25, 26, 27, 28, 29, 30, 31, 32, 33] (fun n => [(3, i64 n)]) (fun n => []) (fun n => n ≤ l.length ∧ grpN (l.getD 0 default) (l.drop n) + n = grp l) (fun n => l.length - n) 0 ?_ (Back.mk' (HasT.cons HasT.nil) HasH.nil) ?_
 ·
  exact ⟨Nat.zero_le _, rfl⟩
 ·
  rintro n ⟨hi, hE⟩
  refine AWp.seq ?_
  refine AWp.seq ?_
  rcases four4 (n < l.length) (sameN (l.getD n default).nm (l.getD 0 default).nm) ((l.getD n default).ty = (l.getD 0 default).ty) with h1 | ⟨h1, h2⟩ | ⟨h1, h2, h3⟩ | ⟨h1, h2, h3⟩
  ·
   refine AWp.draws [⟨0, [3], [], some 4, _, none⟩,
 ⟨1, [0], [], some 5, _, none⟩,
 ⟨2, [5], [], some 6, _, none⟩,
 ⟨3, [4, 6], [], some 7, _, none⟩,
 ⟨4, [7], [], some 8, _, none⟩,
 ⟨5, [8], [], some 9, .v undef, none⟩,
 ⟨6, [8], [], some 10, .v undef, none⟩,
 ⟨7, [8], [], some 11, .v undef, none⟩,
 ⟨8, [8], [], some 12, .v undef, none⟩,
 ⟨9, [8], [], some 13, .v undef, none⟩,
 ⟨10, [8], [], some 14, .v undef, none⟩,
 ⟨11, [8], [], some 15, .v undef, none⟩,
 ⟨12, [8], [], some 16, .v undef, none⟩,
 ⟨13, [8], [], some 17, .v undef, none⟩,
 ⟨14, [8], [], some 18, .v undef, none⟩,
 ⟨15, [8, 18], [], some 19, _, none⟩,
 ⟨16, [19], [], some 20, _, none⟩,
 ⟨17, [20], [], some 21, .v undef, none⟩,
 ⟨18, [20], [], some 22, .v undef, none⟩,
 ⟨19, [20], [], some 23, .v undef, none⟩,
 ⟨20, [20], [], some 24, .v undef, none⟩,
 ⟨21, [20], [], some 25, .v undef, none⟩,
 ⟨22, [20], [], some 26, .v undef, none⟩,
 ⟨23, [20], [], some 27, .v undef, none⟩,
 ⟨24, [20], [], some 28, .v undef, none⟩,
 ⟨25, [20], [], some 29, .v undef, none⟩,
 ⟨26, [20], [], some 30, .v undef, none⟩,
 ⟨27, [20, 30], [], some 31, _, none⟩]
    [kN_ 0 [3] [] 4,
 kN_ 1 [0] [] 5,
 kN_ 2 [5] [] 6,
 kN_ 3 [4, 6] [] 7,
 kN_ 4 [7] [] 8,
 kN_ 5 [8] [] 9,
 kN_ 6 [8] [] 10,
 kN_ 7 [8] [] 11,
 kN_ 8 [8] [] 12,
 kN_ 9 [8] [] 13,
 kN_ 10 [8] [] 14,
 kN_ 11 [8] [] 15,
 kN_ 12 [8] [] 16,
 kN_ 13 [8] [] 17,
 kN_ 14 [8] [] 18,
 kN_ 15 [8, 18] [] 19,
 kN_ 16 [19] [] 20,
 kN_ 17 [20] [] 21,
 kN_ 18 [20] [] 22,
 kN_ 19 [20] [] 23,
 kN_ 20 [20] [] 24,
 kN_ 21 [20] [] 25,
 kN_ 22 [20] [] 26,
 kN_ 23 [20] [] 27,
 kN_ 24 [20] [] 28,
 kN_ 25 [20] [] 29,
 kN_ 26 [20] [] 30,
 kN_ 27 [20, 30] [] 31]
    mixed_ok rfl (by kernel_rfl) ⟨dK_ fun s0 => oG_ rfl rfl (q_move),
 dK_ fun s0 => oG_ rfl rfl (q_move),
 dK_ fun s0 => oG_ rfl rfl (q_len),
 dK_ fun s0 => oG_ rfl rfl ((OpOk.dec_f (q_lss) (by omega))),
 dK_ fun s0 => oG_ rfl rfl (q_move),
 dK_ fun s0 => oS_ rfl rfl rfl rfl rfl rfl rfl rfl,
 dK_ fun s0 => oS_ rfl rfl rfl rfl rfl rfl rfl rfl,
 dK_ fun s0 => oS_ rfl rfl rfl rfl rfl rfl rfl rfl,
 dK_ fun s0 => oS_ rfl rfl rfl rfl rfl rfl rfl rfl,
 dK_ fun s0 => oS_ rfl rfl rfl rfl rfl rfl rfl rfl,
 dK_ fun s0 => oS_ rfl rfl rfl rfl rfl rfl rfl rfl,
 dK_ fun s0 => oS_ rfl rfl rfl rfl rfl rfl rfl rfl,
 dK_ fun s0 => oS_ rfl rfl rfl rfl rfl rfl rfl rfl,
 dK_ fun s0 => oS_ rfl rfl rfl rfl rfl rfl rfl rfl,
 dK_ fun s0 => oS_ rfl rfl rfl rfl rfl rfl rfl rfl,
 dK_ fun s0 => oG_ rfl rfl (q_pick),
 dK_ fun s0 => oG_ rfl rfl (q_move),
 dK_ fun s0 => oS_ rfl rfl rfl rfl rfl rfl rfl rfl,
 dK_ fun s0 => oS_ rfl rfl rfl rfl rfl rfl rfl rfl,
 dK_ fun s0 => oS_ rfl rfl rfl rfl rfl rfl rfl rfl,
 dK_ fun s0 => oS_ rfl rfl rfl rfl rfl rfl rfl rfl,
 dK_ fun s0 => oS_ rfl rfl rfl rfl rfl rfl rfl rfl,
 dK_ fun s0 => oS_ rfl rfl rfl rfl rfl rfl rfl rfl,
 dK_ fun s0 => oS_ rfl rfl rfl rfl rfl rfl rfl rfl,
 dK_ fun s0 => oS_ rfl rfl rfl rfl rfl rfl rfl rfl,
 dK_ fun s0 => oS_ rfl rfl rfl rfl rfl rfl rfl rfl,
 dK_ fun s0 => oS_ rfl rfl rfl rfl rfl rfl rfl rfl,
 dK_ fun s0 => oG_ rfl rfl (q_pick), trivial⟩ ?_
   dsimp only [final, DS.upd, AS.seto]
   refine AWp.cond_f rfl ?_
   refine AWp.exit ?_
   refine AWp.seq ?_
   refine AWp.region ?_
   refine aC_ rfl rfl (q_move) ?_
   refine aC_ rfl rfl (q_assign) ?_
   refine AOps.nil ?_
   refine AWp.ret ?_
   show Fin te Try.f70 _ _
   obtain rfl : n = l.length := by omega
   rw [List.drop_length] at hE
   refine q_ret (0) [_] [_] ?_
   rw [← hE]; exact i64_eq (by simp [grpN])
  ·
   skip
   refine AWp.draws [⟨0, [3], [], some 4, _, none⟩,
 ⟨1, [0], [], some 5, _, none⟩,
 ⟨2, [5], [], some 6, _, none⟩,
 ⟨3, [4, 6], [], some 7, _, none⟩,
 ⟨4, [7], [], some 8, _, none⟩,
 ⟨5, [0, 8], [], some 9, _, none⟩,
 ⟨6, [3, 8], [], some 10, _, none⟩,
 ⟨7, [8, 9, 10], [], some 11, _, none⟩,
 ⟨8, [8, 11], [], some 12, _, none⟩,
 ⟨9, [8, 12], [], some 13, _, none⟩,
 ⟨10, [0, 8], [], some 14, _, none⟩,
 ⟨11, [8, 14], [], some 15, _, none⟩,
 ⟨12, [8, 15], [], some 16, _, none⟩,
 ⟨13, [8, 16], [], some 17, _, none⟩,
 ⟨14, [8, 13, 17], [], some 18, _, none⟩,
 ⟨15, [8, 18], [], some 19, _, none⟩,
 ⟨16, [19], [], some 20, _, none⟩,
 ⟨17, [20], [], some 21, .v undef, none⟩,
 ⟨18, [20], [], some 22, .v undef, none⟩,
 ⟨19, [20], [], some 23, .v undef, none⟩,
 ⟨20, [20], [], some 24, .v undef, none⟩,
 ⟨21, [20], [], some 25, .v undef, none⟩,
 ⟨22, [20], [], some 26, .v undef, none⟩,
 ⟨23, [20], [], some 27, .v undef, none⟩,
 ⟨24, [20], [], some 28, .v undef, none⟩,
 ⟨25, [20], [], some 29, .v undef, none⟩,
 ⟨26, [20], [], some 30, .v undef, none⟩,
 ⟨27, [20, 30], [], some 31, _, none⟩]
    [kN_ 0 [3] [] 4,
 kN_ 1 [0] [] 5,
 kN_ 2 [5] [] 6,
 kN_ 3 [4, 6] [] 7,
 kN_ 4 [7] [] 8,
 kN_ 5 [0, 8] [] 9,
 kN_ 6 [3, 8] [] 10,
 kN_ 7 [8, 9, 10] [] 11,
 kN_ 8 [8, 11] [] 12,
 kN_ 9 [8, 12] [] 13,
 kN_ 10 [0, 8] [] 14,
 kN_ 11 [8, 14] [] 15,
 kN_ 12 [8, 15] [] 16,
 kN_ 13 [8, 16] [] 17,
 kN_ 14 [8, 13, 17] [] 18,
 kN_ 15 [8, 18] [] 19,
 kN_ 16 [19] [] 20,
 kN_ 17 [20] [] 21,
 kN_ 18 [20] [] 22,
 kN_ 19 [20] [] 23,
 kN_ 20 [20] [] 24,
 kN_ 21 [20] [] 25,
 kN_ 22 [20] [] 26,
 kN_ 23 [20] [] 27,
 kN_ 24 [20] [] 28,
 kN_ 25 [20] [] 29,
 kN_ 26 [20] [] 30,
 kN_ 27 [20, 30] [] 31]
    mixed_ok rfl (by kernel_rfl) ⟨dK_ fun s0 => oG_ rfl rfl (q_move),
 dK_ fun s0 => oG_ rfl rfl (q_move),
 dK_ fun s0 => oG_ rfl rfl (q_len),
 dK_ fun s0 => oG_ rfl rfl ((OpOk.dec_t (q_lss) (by omega))),
 dK_ fun s0 => oG_ rfl rfl (q_move),
 dK_ fun s0 => oO_ rfl rfl rfl rfl rfl (q_move),
 dK_ fun s0 => oO_ rfl rfl rfl rfl rfl (q_move),
 dK_ fun s0 => oO_ rfl rfl rfl rfl rfl (q_ix),
 dK_ fun s0 => oO_ rfl rfl rfl rfl rfl (q_fa),
 dK_ fun s0 => oO_ rfl rfl rfl rfl rfl (q_load),
 dK_ fun s0 => oO_ rfl rfl rfl rfl rfl (q_move),
 dK_ fun s0 => oO_ rfl rfl rfl rfl rfl (q_ix),
 dK_ fun s0 => oO_ rfl rfl rfl rfl rfl (q_fa),
 dK_ fun s0 => oO_ rfl rfl rfl rfl rfl (q_load),
 dK_ fun s0 => oO_ rfl rfl rfl rfl rfl ((OpOk.bool_is (c := false) (q_call (0) (hc := (c_ciceroneref01_Same (l.getD n default).nm (l.getD 0 default).nm (by have := hn _ (getD_mem' (l := l) (i := n) h1); omega) (by have := hn _ (getD_mem' (l := l) (i := 0) (by omega)); omega)))) (h2))),
 dK_ fun s0 => oG_ rfl rfl (q_pick),
 dK_ fun s0 => oG_ rfl rfl (q_move),
 dK_ fun s0 => oS_ rfl rfl rfl rfl rfl rfl rfl rfl,
 dK_ fun s0 => oS_ rfl rfl rfl rfl rfl rfl rfl rfl,
 dK_ fun s0 => oS_ rfl rfl rfl rfl rfl rfl rfl rfl,
 dK_ fun s0 => oS_ rfl rfl rfl rfl rfl rfl rfl rfl,
 dK_ fun s0 => oS_ rfl rfl rfl rfl rfl rfl rfl rfl,
 dK_ fun s0 => oS_ rfl rfl rfl rfl rfl rfl rfl rfl,
 dK_ fun s0 => oS_ rfl rfl rfl rfl rfl rfl rfl rfl,
 dK_ fun s0 => oS_ rfl rfl rfl rfl rfl rfl rfl rfl,
 dK_ fun s0 => oS_ rfl rfl rfl rfl rfl rfl rfl rfl,
 dK_ fun s0 => oS_ rfl rfl rfl rfl rfl rfl rfl rfl,
 dK_ fun s0 => oG_ rfl rfl (q_pick), trivial⟩ ?_
   dsimp only [final, DS.upd, AS.seto]
   refine AWp.cond_f rfl ?_
   refine AWp.exit ?_
   refine AWp.seq ?_
   refine AWp.region ?_
   refine aC_ rfl rfl (q_move) ?_
   refine aC_ rfl rfl (q_assign) ?_
   refine AOps.nil ?_
   refine AWp.ret ?_
   show Fin te Try.f70 _ _
   rw [grpN_no h1 (.inl h2)] at hE
   refine q_ret (0) [_] [_] ?_
   rw [← hE]; exact i64_eq (by simp [grpN])
  ·
   refine AWp.draws [⟨0, [3], [], some 4, _, none⟩,
 ⟨1, [0], [], some 5, _, none⟩,
 ⟨2, [5], [], some 6, _, none⟩,
 ⟨3, [4, 6], [], some 7, _, none⟩,
 ⟨4, [7], [], some 8, _, none⟩,
 ⟨5, [0, 8], [], some 9, _, none⟩,
 ⟨6, [3, 8], [], some 10, _, none⟩,
 ⟨7, [8, 9, 10], [], some 11, _, none⟩,
 ⟨8, [8, 11], [], some 12, _, none⟩,
 ⟨9, [8, 12], [], some 13, _, none⟩,
 ⟨10, [0, 8], [], some 14, _, none⟩,
 ⟨11, [8, 14], [], some 15, _, none⟩,
 ⟨12, [8, 15], [], some 16, _, none⟩,
 ⟨13, [8, 16], [], some 17, _, none⟩,
 ⟨14, [8, 13, 17], [], some 18, _, none⟩,
 ⟨15, [8, 18], [], some 19, _, none⟩,
 ⟨16, [19], [], some 20, _, none⟩,
 ⟨17, [0, 20], [], some 21, _, none⟩,
 ⟨18, [3, 20], [], some 22, _, none⟩,
 ⟨19, [20, 21, 22], [], some 23, _, none⟩,
 ⟨20, [20, 23], [], some 24, _, none⟩,
 ⟨21, [20, 24], [], some 25, _, none⟩,
 ⟨22, [0, 20], [], some 26, _, none⟩,
 ⟨23, [20, 26], [], some 27, _, none⟩,
 ⟨24, [20, 27], [], some 28, _, none⟩,
 ⟨25, [20, 28], [], some 29, _, none⟩,
 ⟨26, [20, 25, 29], [], some 30, _, none⟩,
 ⟨27, [20, 30], [], some 31, _, none⟩]
    [kN_ 0 [3] [] 4,
 kN_ 1 [0] [] 5,
 kN_ 2 [5] [] 6,
 kN_ 3 [4, 6] [] 7,
 kN_ 4 [7] [] 8,
 kN_ 5 [0, 8] [] 9,
 kN_ 6 [3, 8] [] 10,
 kN_ 7 [8, 9, 10] [] 11,
 kN_ 8 [8, 11] [] 12,
 kN_ 9 [8, 12] [] 13,
 kN_ 10 [0, 8] [] 14,
 kN_ 11 [8, 14] [] 15,
 kN_ 12 [8, 15] [] 16,
 kN_ 13 [8, 16] [] 17,
 kN_ 14 [8, 13, 17] [] 18,
 kN_ 15 [8, 18] [] 19,
 kN_ 16 [19] [] 20,
 kN_ 17 [0, 20] [] 21,
 kN_ 18 [3, 20] [] 22,
 kN_ 19 [20, 21, 22] [] 23,
 kN_ 20 [20, 23] [] 24,
 kN_ 21 [20, 24] [] 25,
 kN_ 22 [0, 20] [] 26,
 kN_ 23 [20, 26] [] 27,
 kN_ 24 [20, 27] [] 28,
 kN_ 25 [20, 28] [] 29,
 kN_ 26 [20, 25, 29] [] 30,
 kN_ 27 [20, 30] [] 31]
    mixed_ok rfl (by kernel_rfl) ⟨dK_ fun s0 => oG_ rfl rfl (q_move),
 dK_ fun s0 => oG_ rfl rfl (q_move),
 dK_ fun s0 => oG_ rfl rfl (q_len),
 dK_ fun s0 => oG_ rfl rfl ((OpOk.dec_t (q_lss) (by omega))),
 dK_ fun s0 => oG_ rfl rfl (q_move),
 dK_ fun s0 => oO_ rfl rfl rfl rfl rfl (q_move),
 dK_ fun s0 => oO_ rfl rfl rfl rfl rfl (q_move),
 dK_ fun s0 => oO_ rfl rfl rfl rfl rfl (q_ix),
 dK_ fun s0 => oO_ rfl rfl rfl rfl rfl (q_fa),
 dK_ fun s0 => oO_ rfl rfl rfl rfl rfl (q_load),
 dK_ fun s0 => oO_ rfl rfl rfl rfl rfl (q_move),
 dK_ fun s0 => oO_ rfl rfl rfl rfl rfl (q_ix),
 dK_ fun s0 => oO_ rfl rfl rfl rfl rfl (q_fa),
 dK_ fun s0 => oO_ rfl rfl rfl rfl rfl (q_load),
 dK_ fun s0 => oO_ rfl rfl rfl rfl rfl ((OpOk.bool_is (c := true) (q_call (0) (hc := (c_ciceroneref01_Same (l.getD n default).nm (l.getD 0 default).nm (by have := hn _ (getD_mem' (l := l) (i := n) h1); omega) (by have := hn _ (getD_mem' (l := l) (i := 0) (by omega)); omega)))) (h2))),
 dK_ fun s0 => oG_ rfl rfl (q_pick),
 dK_ fun s0 => oG_ rfl rfl (q_move),
 dK_ fun s0 => oO_ rfl rfl rfl rfl rfl (q_move),
 dK_ fun s0 => oO_ rfl rfl rfl rfl rfl (q_move),
 dK_ fun s0 => oO_ rfl rfl rfl rfl rfl (q_ix),
 dK_ fun s0 => oO_ rfl rfl rfl rfl rfl (q_fa),
 dK_ fun s0 => oO_ rfl rfl rfl rfl rfl (q_load),
 dK_ fun s0 => oO_ rfl rfl rfl rfl rfl (q_move),
 dK_ fun s0 => oO_ rfl rfl rfl rfl rfl (q_ix),
 dK_ fun s0 => oO_ rfl rfl rfl rfl rfl (q_fa),
 dK_ fun s0 => oO_ rfl rfl rfl rfl rfl (q_load),
 dK_ fun s0 => oO_ rfl rfl rfl rfl rfl ((OpOk.dec_f (q_eql) (h3))),
 dK_ fun s0 => oG_ rfl rfl (q_pick), trivial⟩ ?_
   dsimp only [final, DS.upd, AS.seto]
   refine AWp.cond_f rfl ?_
   refine AWp.exit ?_
   refine AWp.seq ?_
   refine AWp.region ?_
   refine aC_ rfl rfl (q_move) ?_
   refine aC_ rfl rfl (q_assign) ?_
   refine AOps.nil ?_
   refine AWp.ret ?_
   show Fin te Try.f70 _ _
   rw [grpN_no h1 (.inr h3)] at hE
   refine q_ret (0) [_] [_] ?_
   rw [← hE]; exact i64_eq (by simp [grpN])
  ·
   refine AWp.draws [⟨0, [3], [], some 4, _, none⟩,
 ⟨1, [0], [], some 5, _, none⟩,
 ⟨2, [5], [], some 6, _, none⟩,
 ⟨3, [4, 6], [], some 7, _, none⟩,
 ⟨4, [7], [], some 8, _, none⟩,
 ⟨5, [0, 8], [], some 9, _, none⟩,
 ⟨6, [3, 8], [], some 10, _, none⟩,
 ⟨7, [8, 9, 10], [], some 11, _, none⟩,
 ⟨8, [8, 11], [], some 12, _, none⟩,
 ⟨9, [8, 12], [], some 13, _, none⟩,
 ⟨10, [0, 8], [], some 14, _, none⟩,
 ⟨11, [8, 14], [], some 15, _, none⟩,
 ⟨12, [8, 15], [], some 16, _, none⟩,
 ⟨13, [8, 16], [], some 17, _, none⟩,
 ⟨14, [8, 13, 17], [], some 18, _, none⟩,
 ⟨15, [8, 18], [], some 19, _, none⟩,
 ⟨16, [19], [], some 20, _, none⟩,
 ⟨17, [0, 20], [], some 21, _, none⟩,
 ⟨18, [3, 20], [], some 22, _, none⟩,
 ⟨19, [20, 21, 22], [], some 23, _, none⟩,
 ⟨20, [20, 23], [], some 24, _, none⟩,
 ⟨21, [20, 24], [], some 25, _, none⟩,
 ⟨22, [0, 20], [], some 26, _, none⟩,
 ⟨23, [20, 26], [], some 27, _, none⟩,
 ⟨24, [20, 27], [], some 28, _, none⟩,
 ⟨25, [20, 28], [], some 29, _, none⟩,
 ⟨26, [20, 25, 29], [], some 30, _, none⟩,
 ⟨27, [20, 30], [], some 31, _, none⟩]
    [kN_ 0 [3] [] 4,
 kN_ 1 [0] [] 5,
 kN_ 2 [5] [] 6,
 kN_ 3 [4, 6] [] 7,
 kN_ 4 [7] [] 8,
 kN_ 5 [0, 8] [] 9,
 kN_ 6 [3, 8] [] 10,
 kN_ 7 [8, 9, 10] [] 11,
 kN_ 8 [8, 11] [] 12,
 kN_ 9 [8, 12] [] 13,
 kN_ 10 [0, 8] [] 14,
 kN_ 11 [8, 14] [] 15,
 kN_ 12 [8, 15] [] 16,
 kN_ 13 [8, 16] [] 17,
 kN_ 14 [8, 13, 17] [] 18,
 kN_ 15 [8, 18] [] 19,
 kN_ 16 [19] [] 20,
 kN_ 17 [0, 20] [] 21,
 kN_ 18 [3, 20] [] 22,
 kN_ 19 [20, 21, 22] [] 23,
 kN_ 20 [20, 23] [] 24,
 kN_ 21 [20, 24] [] 25,
 kN_ 22 [0, 20] [] 26,
 kN_ 23 [20, 26] [] 27,
 kN_ 24 [20, 27] [] 28,
 kN_ 25 [20, 28] [] 29,
 kN_ 26 [20, 25, 29] [] 30,
 kN_ 27 [20, 30] [] 31]
    mixed_ok rfl (by kernel_rfl) ⟨dK_ fun s0 => oG_ rfl rfl (q_move),
 dK_ fun s0 => oG_ rfl rfl (q_move),
 dK_ fun s0 => oG_ rfl rfl (q_len),
 dK_ fun s0 => oG_ rfl rfl ((OpOk.dec_t (q_lss) (by omega))),
 dK_ fun s0 => oG_ rfl rfl (q_move),
 dK_ fun s0 => oO_ rfl rfl rfl rfl rfl (q_move),
 dK_ fun s0 => oO_ rfl rfl rfl rfl rfl (q_move),
 dK_ fun s0 => oO_ rfl rfl rfl rfl rfl (q_ix),
 dK_ fun s0 => oO_ rfl rfl rfl rfl rfl (q_fa),
 dK_ fun s0 => oO_ rfl rfl rfl rfl rfl (q_load),
 dK_ fun s0 => oO_ rfl rfl rfl rfl rfl (q_move),
 dK_ fun s0 => oO_ rfl rfl rfl rfl rfl (q_ix),
 dK_ fun s0 => oO_ rfl rfl rfl rfl rfl (q_fa),
 dK_ fun s0 => oO_ rfl rfl rfl rfl rfl (q_load),
 dK_ fun s0 => oO_ rfl rfl rfl rfl rfl ((OpOk.bool_is (c := true) (q_call (0) (hc := (c_ciceroneref01_Same (l.getD n default).nm (l.getD 0 default).nm (by have := hn _ (getD_mem' (l := l) (i := n) h1); omega) (by have := hn _ (getD_mem' (l := l) (i := 0) (by omega)); omega)))) (h2))),
 dK_ fun s0 => oG_ rfl rfl (q_pick),
 dK_ fun s0 => oG_ rfl rfl (q_move),
 dK_ fun s0 => oO_ rfl rfl rfl rfl rfl (q_move),
 dK_ fun s0 => oO_ rfl rfl rfl rfl rfl (q_move),
 dK_ fun s0 => oO_ rfl rfl rfl rfl rfl (q_ix),
 dK_ fun s0 => oO_ rfl rfl rfl rfl rfl (q_fa),
 dK_ fun s0 => oO_ rfl rfl rfl rfl rfl (q_load),
 dK_ fun s0 => oO_ rfl rfl rfl rfl rfl (q_move),
 dK_ fun s0 => oO_ rfl rfl rfl rfl rfl (q_ix),
 dK_ fun s0 => oO_ rfl rfl rfl rfl rfl (q_fa),
 dK_ fun s0 => oO_ rfl rfl rfl rfl rfl (q_load),
 dK_ fun s0 => oO_ rfl rfl rfl rfl rfl ((OpOk.dec_t (q_eql) (h3))),
 dK_ fun s0 => oG_ rfl rfl (q_pick), trivial⟩ ?_
   dsimp only [final, DS.upd, AS.seto]
   refine AWp.cond_t rfl ?_
   refine AWp.skip ?_
   refine AWp.block ?_
   refine AWp.region ?_
   refine aC_ rfl rfl (q_move) ?_
   refine aC_ rfl rfl (q_add) ?_
   refine aC_ rfl rfl (q_assign) ?_
   refine AOps.nil ?_
   refine ⟨n + 1, ?_, Back.mk' (HasT.cons HasT.nil) HasH.nil, ?_⟩
   ·
    exact ⟨by omega, by rw [← hE, grpN_go h1 h2 h3]; omega⟩
   ·
    first | omega | (simp; omega)
set_option maxRecDepth 20000 in
set_option maxHeartbeats 2000000 in
theorem c_ciceroneref24_sets (a b : List Rr) (ha : RrsOk a) (hb : RrsOk b) : AC Try.prog 71 [.fz 0 a.length (cl rrc a), .fz 0 b.length (cl rrc b)] emp (Ret (tf (setB a b))) := by
 have hal := ha.1
 have hbl := hb.1
 have hp0 : [(a, b), (b, a)].length = 2 := rfl
 refine AC.intro te_ok (fn := Try.f71) ⟨Try.func71, rfl, rfl⟩ (Nat.le_of_ble_eq_true rfl) ?_
 refine AWp.seq ?_
 refine AWp.region ?_
 refine aC_ rfl rfl (q_assign) ?_
 refine AOps.nil ?_
 refine AWp.seq ?_
 refine AWp.seq ?_
 refine AWp.region ?_
 refine aC_ rfl rfl (q_move) ?_
 refine aC_ rfl rfl (q_move) ?_
 refine aC_ rfl rfl (q_buildA (lc 0 rrc) [_, _] [(_, _), (_, _)]) ?_
 refine aC_ rfl rfl (q_move) ?_
 refine aC_ rfl rfl (q_move) ?_
 refine aC_ rfl rfl (q_buildA (lc 0 rrc) [_, _] [(_, _), (_, _)]) ?_
 refine aC_ rfl rfl (q_bs 206 prC2 [(a, b), (b, a)] [(_, _), (_, _)]) ?_
 refine aC_ rfl rfl (q_len) ?_
 refine aC_ rfl rfl (q_move) ?_
 refine AOps.nil ?_
 refine AWp.block ?_
 refine AWp.loopR (α := Nat) [4, 6, 8, 9, 11, 20, 21, 22, 23, 24, 25, 26, 27, 28, 29, 30, 31, 32, 33, 34, 35, 36, 37, 38, 39, 40, 41, 42, 43, 44, 45, 46, 47, 48, 49, 50, 51, 52, 53, 54, 55, 56, 57] (fun i => [(20, i64 i)]) (fun i => []) (fun i => i ≤ 2 ∧ ∀ j, j < i → setH (([(a, b), (b, a)] : List (List Rr × List Rr)).getD j default).1 (([(a, b), (b, a)] : List (List Rr × List Rr)).getD j default).2 = true) (fun i => 2 - i) 0 ?_ (Back.mk' (HasT.cons HasT.nil) HasH.nil) ?_
 ·
  exact ⟨Nat.zero_le _, fun j hj => absurd hj (Nat.not_lt_zero j)⟩
 ·
  rintro i ⟨hi, hI⟩
  refine AWp.seq ?_
  refine AWp.region ?_
  refine AOps.dec rfl rfl (q_lss) (fun h2_0 => ?_) (fun h2_0 => ?_)
  ·
   refine AOps.nil ?_
   refine AWp.seq ?_
   refine AWp.cond_t rfl ?_
   refine AWp.skip ?_
   refine AWp.seq ?_
   refine AWp.block ?_
   refine AWp.seq ?_
   refine AWp.region ?_
   have hP : RrsOk (([(a, b), (b, a)] : List (List Rr × List Rr)).getD (i : Int).toNat default).1 ∧ RrsOk (([(a, b), (b, a)] : List (List Rr × List Rr)).getD (i : Int).toNat default).2 := by
     rcases pair_mem (a := a) (b := b) (i := (i : Int).toNat) (by omega) with e | e
     · rw [e]; exact ⟨ha, hb⟩
     · rw [e]; exact ⟨hb, ha⟩
   have hp1 := hP.1.1
   have hp2 := hP.2.1
   refine aC_ rfl rfl (q_ix) ?_
   refine aC_ rfl rfl (q_load) ?_
   refine aC_ rfl rfl (q_alloc 402) ?_
   refine aC_ rfl rfl (q_store) ?_
   refine AOps.nil ?_
   refine AWp.seq ?_
   refine AWp.region ?_
   refine aC_ rfl rfl (q_ixa) ?_
   refine aC_ rfl rfl (q_load) ?_
   refine aC_ rfl rfl (q_len) ?_
   refine aC_ rfl rfl (q_move) ?_
   refine AOps.nil ?_
   refine AWp.block ?_
   refine AWp.loopR (α := Nat) [4, 8, 9, 11, 27, 28, 29, 30, 31, 32, 33, 34, 35, 36, 37, 38, 39, 40, 41, 42, 43, 44, 45, 46, 47, 48, 49, 50, 51, 52, 53, 54, 55, 56] (fun j => [(27, i64 j)]) (fun j => []) (fun j => j ≤ (([(a, b), (b, a)] : List (List Rr × List Rr)).getD (i : Int).toNat default).1.length ∧ ((([(a, b), (b, a)] : List (List Rr × List Rr)).getD (i : Int).toNat default).1.take j).all (fun r => (([(a, b), (b, a)] : List (List Rr × List Rr)).getD (i : Int).toNat default).2.any (setP r)) = true) (fun j => (([(a, b), (b, a)] : List (List Rr × List Rr)).getD (i : Int).toNat default).1.length - j) 0 ?_ (Back.mk' (HasT.cons HasT.nil) HasH.nil) ?_
   ·
    exact ⟨Nat.zero_le _, rfl⟩
   ·
    rintro j ⟨hj, hJ⟩
    refine AWp.seq ?_
    refine AWp.region ?_
    refine AOps.dec rfl rfl (q_lss) (fun h5_0 => ?_) (fun h5_0 => ?_)
    ·
     refine AOps.nil ?_
     refine AWp.seq ?_
     refine AWp.cond_t rfl ?_
     refine AWp.skip ?_
     refine AWp.seq ?_
     refine AWp.block ?_
     refine AWp.seq ?_
     refine AWp.region ?_
     have hrj := hP.1.2 _ (getD_mem' (l := (([(a, b), (b, a)] : List (List Rr × List Rr)).getD (i : Int).toNat default).1) (i := j) (by omega))
     refine aC_ rfl rfl (q_ix) ?_
     refine aC_ rfl rfl (q_load) ?_
     refine aC_ rfl rfl (q_alloc 702) ?_
     refine aC_ rfl rfl (q_store) ?_
     refine AOps.nil ?_
     refine AWp.seq ?_
     refine AWp.region ?_
     refine aC_ rfl rfl (q_assign) ?_
     refine AOps.nil ?_
     refine AWp.seq ?_
     refine AWp.seq ?_
     refine AWp.region ?_
     refine aC_ rfl rfl (q_ixa) ?_
     refine aC_ rfl rfl (q_load) ?_
     refine aC_ rfl rfl (q_len) ?_
     refine aC_ rfl rfl (q_move) ?_
     refine AOps.nil ?_
     refine AWp.block ?_
     refine AWp.loopR (α := Nat) [9, 11, 34, 35, 36, 37, 38, 39, 40, 41, 42, 43, 44, 45, 46, 47, 48, 49, 50, 51, 52, 53] (fun k => [(34, i64 k), (9, tf (((([(a, b), (b, a)] : List (List Rr × List Rr)).getD (i : Int).toNat default).2.take k).any (setP ((([(a, b), (b, a)] : List (List Rr × List Rr)).getD (i : Int).toNat default).1.getD j default))))]) (fun k => []) (fun k => k ≤ (([(a, b), (b, a)] : List (List Rr × List Rr)).getD (i : Int).toNat default).2.length) (fun k => (([(a, b), (b, a)] : List (List Rr × List Rr)).getD (i : Int).toNat default).2.length - k) 0 ?_ (Back.mk' (HasT.cons (HasT.cons HasT.nil)) HasH.nil) ?_
     ·
      exact Nat.zero_le _
     ·
      rintro k hk
      refine AWp.seq ?_
      refine AWp.region ?_
      refine AOps.dec rfl rfl (q_lss) (fun h9_0 => ?_) (fun h9_0 => ?_)
      ·
       refine AOps.nil ?_
       refine AWp.seq ?_
       refine AWp.cond_t rfl ?_
       refine AWp.skip ?_
       refine AWp.seq ?_
       refine AWp.block ?_
       refine AWp.seq ?_
       refine AWp.region ?_
       have hok := hP.2.2 _ (getD_mem' (l := (([(a, b), (b, a)] : List (List Rr × List Rr)).getD (i : Int).toNat default).2) (i := k) (by omega))
       refine aC_ rfl rfl (q_ix) ?_
       refine aC_ rfl rfl (q_load) ?_
       refine aC_ rfl rfl (q_alloc 1102) ?_
       refine aC_ rfl rfl (q_store) ?_
       refine AOps.nil ?_
       rcases found4 (((([(a, b), (b, a)] : List (List Rr × List Rr)).getD (i : Int).toNat default).2.take k).any (setP ((([(a, b), (b, a)] : List (List Rr × List Rr)).getD (i : Int).toNat default).1.getD j default))) (decide (lowR ((([(a, b), (b, a)] : List (List Rr × List Rr)).getD (i : Int).toNat default).1.getD j default) = lowR ((([(a, b), (b, a)] : List (List Rr × List Rr)).getD (i : Int).toNat default).2.getD k default))) (decide (((([(a, b), (b, a)] : List (List Rr × List Rr)).getD (i : Int).toNat default).1.getD j default).cs = ((([(a, b), (b, a)] : List (List Rr × List Rr)).getD (i : Int).toNat default).2.getD k default).cs)) with h1 | ⟨h1, h2⟩ | ⟨h1, h2, h3⟩ | ⟨h1, h2, h3⟩
       ·
        refine AWp.draws [⟨0, [9], [], some 38, _, none⟩,
 ⟨1, [38], [], some 39, _, none⟩,
 ⟨2, [39], [], some 40, .v undef, none⟩,
 ⟨3, [39], [], some 41, .v undef, none⟩,
 ⟨4, [39], [], some 42, .v undef, none⟩,
 ⟨5, [39], [], some 43, .v undef, none⟩,
 ⟨6, [39], [], some 44, .v undef, none⟩,
 ⟨7, [39], [], some 45, .v undef, none⟩,
 ⟨8, [45], [], some 46, .v undef, none⟩,
 ⟨9, [45], [], some 47, .v undef, none⟩,
 ⟨10, [45], [], some 48, .v undef, none⟩,
 ⟨11, [45], [], some 49, .v undef, none⟩,
 ⟨12, [45], [], some 50, .v undef, none⟩,
 ⟨13, [39], [], some 51, .v undef, none⟩,
 ⟨14, [39, 51], [], some 52, _, none⟩,
 ⟨15, [52], [], some 9, _, none⟩]
         [kN_ 0 [9] [] 38,
 kN_ 1 [38] [] 39,
 kN_ 2 [39] [] 40,
 kN_ 3 [39] [] 41,
 kN_ 4 [39] [] 42,
 kN_ 5 [39] [] 43,
 kN_ 6 [39] [] 44,
 kN_ 7 [39] [] 45,
 kN_ 8 [45] [] 46,
 kN_ 9 [45] [] 47,
 kN_ 10 [45] [] 48,
 kN_ 11 [45] [] 49,
 kN_ 12 [45] [] 50,
 kN_ 13 [39] [] 51,
 kN_ 14 [39, 51] [] 52,
 kN_ 15 [52] [] 9]
         mixed_ok rfl (by kernel_rfl) ⟨dK_ fun s0 => oG_ rfl rfl (q_move),
 dK_ fun s0 => oG_ rfl rfl ((OpOk.bool_is (c := true) (q_move) (h1))),
 dK_ fun s0 => oS_ rfl rfl rfl rfl rfl rfl rfl rfl,
 dK_ fun s0 => oS_ rfl rfl rfl rfl rfl rfl rfl rfl,
 dK_ fun s0 => oS_ rfl rfl rfl rfl rfl rfl rfl rfl,
 dK_ fun s0 => oS_ rfl rfl rfl rfl rfl rfl rfl rfl,
 dK_ fun s0 => oS_ rfl rfl rfl rfl rfl rfl rfl rfl,
 dK_ fun s0 => oS_ rfl rfl rfl rfl rfl rfl rfl rfl,
 DS.ok_over fun s0 => OpAt.gskipu rfl rfl rfl rfl rfl rfl rfl,
 DS.ok_over fun s0 => OpAt.gskipu rfl rfl rfl rfl rfl rfl rfl,
 DS.ok_over fun s0 => OpAt.gskipu rfl rfl rfl rfl rfl rfl rfl,
 DS.ok_over fun s0 => OpAt.gskipu rfl rfl rfl rfl rfl rfl rfl,
 DS.ok_over fun s0 => OpAt.gskipu rfl rfl rfl rfl rfl rfl rfl,
 dK_ fun s0 => oS_ rfl rfl rfl rfl rfl rfl rfl rfl,
 dK_ fun s0 => oG_ rfl rfl (q_pick),
 dK_ fun s0 => oG_ rfl rfl (q_assign), trivial⟩ ?_
        dsimp only [final, DS.upd, AS.seto]
        refine AWp.region ?_
        refine aC_ rfl rfl (q_add) ?_
        refine aC_ rfl rfl (q_move) ?_
        refine AOps.nil ?_
        refine ⟨k + 1, ?_, Back.mk' (HasT.cons (HasT.cons HasT.nil (h1 := by exact congrArg tf (by rw [any_step (by omega), h1]; rfl)) )) HasH.nil, ?_⟩
        ·
         first | assumption | omega | decide | (simp; omega) | (simp [*]; done)
        ·
         first | omega | (simp; omega)
       ·
        refine AWp.draws [⟨0, [9], [], some 38, _, none⟩,
 ⟨1, [38], [], some 39, _, none⟩,
 ⟨2, [8, 39], [702], some 40, _, none⟩,
 ⟨3, [39, 40], [], some 41, _, none⟩,
 ⟨4, [11, 39], [1102], some 42, _, none⟩,
 ⟨5, [39, 42], [], some 43, _, none⟩,
 ⟨6, [39, 41, 43], [], some 44, _, none⟩,
 ⟨7, [39, 44], [], some 45, _, none⟩,
 ⟨8, [45], [], some 46, .v undef, none⟩,
 ⟨9, [45], [], some 47, .v undef, none⟩,
 ⟨10, [45], [], some 48, .v undef, none⟩,
 ⟨11, [45], [], some 49, .v undef, none⟩,
 ⟨12, [45], [], some 50, .v undef, none⟩,
 ⟨13, [39, 45, 50], [], some 51, _, none⟩,
 ⟨14, [39, 51], [], some 52, _, none⟩,
 ⟨15, [52], [], some 9, _, none⟩]
         [kN_ 0 [9] [] 38,
 kN_ 1 [38] [] 39,
 kN_ 2 [8, 39] [702] 40,
 kN_ 3 [39, 40] [] 41,
 kN_ 4 [11, 39] [1102] 42,
 kN_ 5 [39, 42] [] 43,
 kN_ 6 [39, 41, 43] [] 44,
 kN_ 7 [39, 44] [] 45,
 kN_ 8 [45] [] 46,
 kN_ 9 [45] [] 47,
 kN_ 10 [45] [] 48,
 kN_ 11 [45] [] 49,
 kN_ 12 [45] [] 50,
 kN_ 13 [39, 45, 50] [] 51,
 kN_ 14 [39, 51] [] 52,
 kN_ 15 [52] [] 9]
         mixed_ok rfl (by kernel_rfl) ⟨dK_ fun s0 => oG_ rfl rfl (q_move),
 dK_ fun s0 => oG_ rfl rfl ((OpOk.bool_is (c := false) (q_move) (h1))),
 dK_ fun s0 => oO_ rfl rfl rfl rfl rfl (q_load),
 dK_ fun s0 => oO_ rfl rfl rfl rfl rfl (q_call (0) (hc := (c_ciceroneref24_low ((([(a, b), (b, a)] : List (List Rr × List Rr)).getD (i : Int).toNat default).1.getD j default) hrj))),
 dK_ fun s0 => oO_ rfl rfl rfl rfl rfl (q_load),
 dK_ fun s0 => oO_ rfl rfl rfl rfl rfl (q_call (0) (hc := (c_ciceroneref24_low ((([(a, b), (b, a)] : List (List Rr × List Rr)).getD (i : Int).toNat default).2.getD k default) hok))),
 dK_ fun s0 => oO_ rfl rfl rfl rfl rfl ((OpOk.dec_f (q_seql) (of_decide_eq_false h2))),
 dK_ fun s0 => oO_ rfl rfl rfl rfl rfl (q_move),
 dK_ fun s0 => oS_ rfl rfl rfl rfl rfl rfl rfl rfl,
 dK_ fun s0 => oS_ rfl rfl rfl rfl rfl rfl rfl rfl,
 dK_ fun s0 => oS_ rfl rfl rfl rfl rfl rfl rfl rfl,
 dK_ fun s0 => oS_ rfl rfl rfl rfl rfl rfl rfl rfl,
 dK_ fun s0 => oS_ rfl rfl rfl rfl rfl rfl rfl rfl,
 dK_ fun s0 => oO_ rfl rfl rfl rfl rfl (q_pick),
 dK_ fun s0 => oG_ rfl rfl (q_pick),
 dK_ fun s0 => oG_ rfl rfl (q_assign), trivial⟩ ?_
        dsimp only [final, DS.upd, AS.seto]
        refine AWp.region ?_
        refine aC_ rfl rfl (q_add) ?_
        refine aC_ rfl rfl (q_move) ?_
        refine AOps.nil ?_
        refine ⟨k + 1, ?_, Back.mk' (HasT.cons (HasT.cons HasT.nil (h1 := by exact congrArg tf (by rw [any_step (by omega), h1, setP, h2]; rfl)) )) HasH.nil, ?_⟩
        ·
         first | assumption | omega | decide | (simp; omega) | (simp [*]; done)
        ·
         first | omega | (simp; omega)
       ·
        refine AWp.draws [⟨0, [9], [], some 38, _, none⟩,
 ⟨1, [38], [], some 39, _, none⟩,
 ⟨2, [8, 39], [702], some 40, _, none⟩,
 ⟨3, [39, 40], [], some 41, _, none⟩,
 ⟨4, [11, 39], [1102], some 42, _, none⟩,
 ⟨5, [39, 42], [], some 43, _, none⟩,
 ⟨6, [39, 41, 43], [], some 44, _, none⟩,
 ⟨7, [39, 44], [], some 45, _, none⟩,
 ⟨8, [8, 45], [702], some 46, _, none⟩,
 ⟨9, [45, 46], [702], some 47, _, none⟩,
 ⟨10, [11, 45], [1102], some 48, _, none⟩,
 ⟨11, [45, 48], [1102], some 49, _, none⟩,
 ⟨12, [45, 47, 49], [], some 50, _, none⟩,
 ⟨13, [39, 45, 50], [], some 51, _, none⟩,
 ⟨14, [39, 51], [], some 52, _, none⟩,
 ⟨15, [52], [], some 9, _, none⟩]
         [kN_ 0 [9] [] 38,
 kN_ 1 [38] [] 39,
 kN_ 2 [8, 39] [702] 40,
 kN_ 3 [39, 40] [] 41,
 kN_ 4 [11, 39] [1102] 42,
 kN_ 5 [39, 42] [] 43,
 kN_ 6 [39, 41, 43] [] 44,
 kN_ 7 [39, 44] [] 45,
 kN_ 8 [8, 45] [702] 46,
 kN_ 9 [45, 46] [702] 47,
 kN_ 10 [11, 45] [1102] 48,
 kN_ 11 [45, 48] [1102] 49,
 kN_ 12 [45, 47, 49] [] 50,
 kN_ 13 [39, 45, 50] [] 51,
 kN_ 14 [39, 51] [] 52,
 kN_ 15 [52] [] 9]
         mixed_ok rfl (by kernel_rfl) ⟨dK_ fun s0 => oG_ rfl rfl (q_move),
 dK_ fun s0 => oG_ rfl rfl ((OpOk.bool_is (c := false) (q_move) (h1))),
 dK_ fun s0 => oO_ rfl rfl rfl rfl rfl (q_load),
 dK_ fun s0 => oO_ rfl rfl rfl rfl rfl (q_call (0) (hc := (c_ciceroneref24_low ((([(a, b), (b, a)] : List (List Rr × List Rr)).getD (i : Int).toNat default).1.getD j default) hrj))),
 dK_ fun s0 => oO_ rfl rfl rfl rfl rfl (q_load),
 dK_ fun s0 => oO_ rfl rfl rfl rfl rfl (q_call (0) (hc := (c_ciceroneref24_low ((([(a, b), (b, a)] : List (List Rr × List Rr)).getD (i : Int).toNat default).2.getD k default) hok))),
 dK_ fun s0 => oO_ rfl rfl rfl rfl rfl ((OpOk.dec_t (q_seql) (of_decide_eq_true h2))),
 dK_ fun s0 => oO_ rfl rfl rfl rfl rfl (q_move),
 dK_ fun s0 => oO_ rfl rfl rfl rfl rfl (q_fa),
 dK_ fun s0 => oO_ rfl rfl rfl rfl rfl (q_load),
 dK_ fun s0 => oO_ rfl rfl rfl rfl rfl (q_fa),
 dK_ fun s0 => oO_ rfl rfl rfl rfl rfl (q_load),
 dK_ fun s0 => oO_ rfl rfl rfl rfl rfl ((OpOk.dec_f (q_eql) (of_decide_eq_false h3))),
 dK_ fun s0 => oO_ rfl rfl rfl rfl rfl (q_pick),
 dK_ fun s0 => oG_ rfl rfl (q_pick),
 dK_ fun s0 => oG_ rfl rfl (q_assign), trivial⟩ ?_
        dsimp only [final, DS.upd, AS.seto]
        refine AWp.region ?_
        refine aC_ rfl rfl (q_add) ?_
        refine aC_ rfl rfl (q_move) ?_
        refine AOps.nil ?_
        refine ⟨k + 1, ?_, Back.mk' (HasT.cons (HasT.cons HasT.nil (h1 := by exact congrArg tf (by rw [any_step (by omega), h1, setP, h3, Bool.and_false]; rfl)) )) HasH.nil, ?_⟩
        ·
         first | assumption | omega | decide | (simp; omega) | (simp [*]; done)
        ·
         first | omega | (simp; omega)
       ·
        refine AWp.draws [⟨0, [9], [], some 38, _, none⟩,
 ⟨1, [38], [], some 39, _, none⟩,
 ⟨2, [8, 39], [702], some 40, _, none⟩,
 ⟨3, [39, 40], [], some 41, _, none⟩,
 ⟨4, [11, 39], [1102], some 42, _, none⟩,
 ⟨5, [39, 42], [], some 43, _, none⟩,
 ⟨6, [39, 41, 43], [], some 44, _, none⟩,
 ⟨7, [39, 44], [], some 45, _, none⟩,
 ⟨8, [8, 45], [702], some 46, _, none⟩,
 ⟨9, [45, 46], [702], some 47, _, none⟩,
 ⟨10, [11, 45], [1102], some 48, _, none⟩,
 ⟨11, [45, 48], [1102], some 49, _, none⟩,
 ⟨12, [45, 47, 49], [], some 50, _, none⟩,
 ⟨13, [39, 45, 50], [], some 51, _, none⟩,
 ⟨14, [39, 51], [], some 52, _, none⟩,
 ⟨15, [52], [], some 9, _, none⟩]
         [kN_ 0 [9] [] 38,
 kN_ 1 [38] [] 39,
 kN_ 2 [8, 39] [702] 40,
 kN_ 3 [39, 40] [] 41,
 kN_ 4 [11, 39] [1102] 42,
 kN_ 5 [39, 42] [] 43,
 kN_ 6 [39, 41, 43] [] 44,
 kN_ 7 [39, 44] [] 45,
 kN_ 8 [8, 45] [702] 46,
 kN_ 9 [45, 46] [702] 47,
 kN_ 10 [11, 45] [1102] 48,
 kN_ 11 [45, 48] [1102] 49,
 kN_ 12 [45, 47, 49] [] 50,
 kN_ 13 [39, 45, 50] [] 51,
 kN_ 14 [39, 51] [] 52,
 kN_ 15 [52] [] 9]
         mixed_ok rfl (by kernel_rfl) ⟨dK_ fun s0 => oG_ rfl rfl (q_move),
 dK_ fun s0 => oG_ rfl rfl ((OpOk.bool_is (c := false) (q_move) (h1))),
 dK_ fun s0 => oO_ rfl rfl rfl rfl rfl (q_load),
 dK_ fun s0 => oO_ rfl rfl rfl rfl rfl (q_call (0) (hc := (c_ciceroneref24_low ((([(a, b), (b, a)] : List (List Rr × List Rr)).getD (i : Int).toNat default).1.getD j default) hrj))),
 dK_ fun s0 => oO_ rfl rfl rfl rfl rfl (q_load),
 dK_ fun s0 => oO_ rfl rfl rfl rfl rfl (q_call (0) (hc := (c_ciceroneref24_low ((([(a, b), (b, a)] : List (List Rr × List Rr)).getD (i : Int).toNat default).2.getD k default) hok))),
 dK_ fun s0 => oO_ rfl rfl rfl rfl rfl ((OpOk.dec_t (q_seql) (of_decide_eq_true h2))),
 dK_ fun s0 => oO_ rfl rfl rfl rfl rfl (q_move),
 dK_ fun s0 => oO_ rfl rfl rfl rfl rfl (q_fa),
 dK_ fun s0 => oO_ rfl rfl rfl rfl rfl (q_load),
 dK_ fun s0 => oO_ rfl rfl rfl rfl rfl (q_fa),
 dK_ fun s0 => oO_ rfl rfl rfl rfl rfl (q_load),
 dK_ fun s0 => oO_ rfl rfl rfl rfl rfl ((OpOk.dec_t (q_eql) (of_decide_eq_true h3))),
 dK_ fun s0 => oO_ rfl rfl rfl rfl rfl (q_pick),
 dK_ fun s0 => oG_ rfl rfl (q_pick),
 dK_ fun s0 => oG_ rfl rfl (q_assign), trivial⟩ ?_
        dsimp only [final, DS.upd, AS.seto]
        refine AWp.region ?_
        refine aC_ rfl rfl (q_add) ?_
        refine aC_ rfl rfl (q_move) ?_
        refine AOps.nil ?_
        refine ⟨k + 1, ?_, Back.mk' (HasT.cons (HasT.cons HasT.nil (h1 := by exact congrArg tf (by rw [any_step (by omega), h1, setP, h2, h3]; rfl)) )) HasH.nil, ?_⟩
        ·
         first | assumption | omega | decide | (simp; omega) | (simp [*]; done)
        ·
         first | omega | (simp; omega)
      ·
       refine AOps.nil ?_
       refine AWp.seq ?_
       refine AWp.cond_f rfl ?_
       refine AWp.exit ?_
       refine AWp.seq ?_
       refine AWp.region ?_
       obtain rfl : k = (([(a, b), (b, a)] : List (List Rr × List Rr)).getD (i : Int).toNat default).2.length := by omega
       rw [List.take_length]
       refine AOps.bool rfl rfl (q_move) (fun h13_0 => ?_) (fun h13_0 => ?_)
       ·
        refine aC_ rfl rfl (q_not) ?_
        refine AOps.nil ?_
        refine AWp.cond_f rfl ?_
        refine AWp.skip ?_
        refine AWp.region ?_
        refine aC_ rfl rfl (q_add) ?_
        refine aC_ rfl rfl (q_move) ?_
        refine AOps.nil ?_
        refine ⟨j + 1, ?_, Back.mk' (HasT.cons HasT.nil) HasH.nil, ?_⟩
        ·
         exact ⟨by omega, all_step (by omega) hJ h13_0⟩
        ·
         first | omega | (simp; omega)
       ·
        refine aC_ rfl rfl (q_not) ?_
        refine AOps.nil ?_
        refine AWp.cond_t rfl ?_
        refine AWp.seq ?_
        refine AWp.region ?_
        refine aC_ rfl rfl (q_assign) ?_
        refine AOps.nil ?_
        refine AWp.ret ?_
        show Fin te Try.f71 _ _
        refine q_ret (0) [_] [_] ?_
        rw [set_no (i := (i : Int).toNat) (by omega) (all_no (by omega) h13_0)]; rfl
    ·
     refine AOps.nil ?_
     refine AWp.seq ?_
     refine AWp.cond_f rfl ?_
     refine AWp.exit ?_
     refine AWp.region ?_
     refine aC_ rfl rfl (q_add) ?_
     refine aC_ rfl rfl (q_move) ?_
     refine AOps.nil ?_
     obtain rfl : j = (([(a, b), (b, a)] : List (List Rr × List Rr)).getD (i : Int).toNat default).1.length := by omega
     rw [List.take_length] at hJ
     refine ⟨i + 1, ?_, Back.mk' (HasT.cons HasT.nil) HasH.nil, ?_⟩
     ·
      exact ⟨by omega, lt_step (p := fun j => setH (([(a, b), (b, a)] : List (List Rr × List Rr)).getD j default).1 (([(a, b), (b, a)] : List (List Rr × List Rr)).getD j default).2) hI hJ⟩
     ·
      first | omega | (simp; omega)
  ·
   refine AOps.nil ?_
   refine AWp.seq ?_
   refine AWp.cond_f rfl ?_
   refine AWp.exit ?_
   refine AWp.seq ?_
   refine AWp.region ?_
   refine aC_ rfl rfl (q_assign) ?_
   refine AOps.nil ?_
   refine AWp.ret ?_
   show Fin te Try.f71 _ _
   refine q_ret (0) [_] [_] ?_
   obtain rfl : i = 2 := by omega
   rw [set_yes hI]; rfl
end Go.Proofs.Ytokccoloholgaaa.Fw


set_option linter.unusedVariables false
set_option linter.unusedSimpArgs false
namespace Go.Proofs.Ytokccoloholgaaa.Fw
open Go.RowKit
set_option maxRecDepth 20000 in
set_option maxHeartbeats 2000000 in
theorem c_ciceroneref24_True (t : Tr) (m : Msg) (ht : TrOk t) (hm : MsgOk m) (hnm : NmOk m) : AC Try.prog 29 [.agg (trC t), .agg (msgC m)] emp (Ret (tf (refV t m))) := by
 have hvo := truV_ok (q := (m.qs.getD 0 default)) ht
 have han := hm.2.1
 have hvl := tru_len (t := t) (q := (m.qs.getD 0 default))
 have hal := han.1
 have hmn : NmB m.an := fun x hx => hnm.2 x (by simp only [Msg.rrs, List.mem_append]; exact .inl (.inl hx))
 refine AC.intro te_ok (fn := Try.f29) ⟨Try.func29, rfl, rfl⟩ (Nat.le_of_ble_eq_true rfl) ?_
 refine AWp.seq ?_
 refine AWp.region ?_
 refine aC_ rfl rfl (q_box 100) ?_
 refine aC_ rfl rfl (q_box 101) ?_
 refine aC_ rfl rfl (q_assign) ?_
 refine AOps.nil ?_
 refine AWp.seq ?_
 refine AWp.seq ?_
 refine AWp.region ?_
 refine aC_ rfl rfl (q_fa) ?_
 refine aC_ rfl rfl (q_load) ?_
 refine aC_ rfl rfl (q_len) ?_
 refine AOps.dec rfl rfl (q_neq) (fun h1_3 => ?_) (fun h1_3 => ?_)
 ·
  refine AOps.nil ?_
  refine AWp.cond_t rfl ?_
  refine AWp.seq ?_
  refine AWp.region ?_
  refine aC_ rfl rfl (q_assign) ?_
  refine AOps.nil ?_
  refine AWp.ret ?_
  show Fin te Try.f29 _ _
  refine q_ret (0) [_] [_] ?_
  rw [rv_1 (by omega)]; rfl
 ·
  refine AOps.nil ?_
  refine AWp.cond_f rfl ?_
  refine AWp.skip ?_
  refine AWp.seq ?_
  have hq := hnm.1 _ (getD_mem' (l := m.qs) (i := 0) (by omega))
  refine AWp.draws [⟨0, [2], [100], some 15, _, none⟩,
 ⟨1, [3], [101], some 16, _, none⟩,
 ⟨2, [16], [101], some 17, _, none⟩,
 ⟨3, [17], [], some 18, _, none⟩,
 ⟨4, [18], [], some 19, _, none⟩,
 ⟨5, [15, 19], [], some 20, _, none⟩,
 ⟨6, [20], [], some 14, _, none⟩,
 ⟨7, [14], [], some 21, _, none⟩,
 ⟨8, [14], [], some 22, _, none⟩,
 ⟨9, [], [409], some 5, _, some (409, _)⟩,
 ⟨10, [5, 21], [409], none, _, some (409, _)⟩,
 ⟨11, [22], [], some 6, _, none⟩]
   [kN_ 0 [2] [100] 15,
 kN_ 1 [3] [101] 16,
 kN_ 2 [16] [101] 17,
 kN_ 3 [17] [] 18,
 kN_ 4 [18] [] 19,
 kN_ 5 [15, 19] [] 20,
 kN_ 6 [20] [] 14,
 kN_ 7 [14] [] 21,
 kN_ 8 [14] [] 22,
 ⟨9, [], [409], some 5, .any, some (409, .box [])⟩,
 ⟨10, [5, 21], [409], none, .any, some (409, .box [])⟩,
 kN_ 11 [22] [] 6]
   mixed_ok rfl (by kernel_rfl) ⟨dK_ fun s0 => oG_ rfl rfl (q_load),
 dK_ fun s0 => oG_ rfl rfl (q_fa),
 dK_ fun s0 => oG_ rfl rfl (q_load),
 dK_ fun s0 => oG_ rfl rfl (q_ix),
 dK_ fun s0 => oG_ rfl rfl (q_load),
 dK_ fun s0 => oG_ rfl rfl (q_call (0) (hc := (c_rTruth t (m.qs.getD 0 default) ht hq))),
 dK_ fun s0 => oG_ rfl rfl (q_move),
 dK_ fun s0 => oG_ rfl rfl (q_extract),
 dK_ fun s0 => oG_ rfl rfl (q_extract),
 dK_ fun s0 => oG_ rfl rfl (q_alloc 409),
 dK_ fun s0 => oG_ rfl rfl (q_store),
 dK_ fun s0 => oG_ rfl rfl (q_assign), trivial⟩ ?_
  dsimp only [final, DS.upd, AS.seto]
  refine AWp.seq ?_
  refine AWp.seq ?_
  refine AWp.region ?_
  refine AOps.bool rfl rfl (q_move) (fun h4_0 => ?_) (fun h4_0 => ?_)
  ·
   refine aC_ rfl rfl (q_not) ?_
   refine aC_ rfl rfl (q_move) ?_
   refine AOps.gcons rfl rfl rfl rfl rfl (q_fa) ?_
   refine AOps.gcons rfl rfl rfl rfl rfl (q_fa) ?_
   refine AOps.gcons rfl rfl rfl rfl rfl (q_load) ?_
   refine AOps.gcons rfl rfl rfl rfl rfl (q_fa) ?_
   refine AOps.gcons rfl rfl rfl rfl rfl (q_load) ?_
   refine AOps.gdec rfl rfl rfl rfl rfl (q_neq) (fun h4_8 => ?_) (fun h4_8 => ?_)
   ·
    refine aC_ rfl rfl (q_pick) ?_
    refine aC_ rfl rfl (q_move) ?_
    refine aG_ rfl rfl rfl rfl rfl rfl rfl rfl ?_
    refine aG_ rfl rfl rfl rfl rfl rfl rfl rfl ?_
    refine aG_ rfl rfl rfl rfl rfl rfl rfl rfl ?_
    refine aG_ rfl rfl rfl rfl rfl rfl rfl rfl ?_
    refine aG_ rfl rfl rfl rfl rfl rfl rfl rfl ?_
    refine aG_ rfl rfl rfl rfl rfl rfl rfl rfl ?_
    refine aG_ rfl rfl rfl rfl rfl rfl rfl rfl ?_
    refine aC_ rfl rfl (q_pick) ?_
    refine AOps.nil ?_
    refine AWp.cond_t rfl ?_
    refine AWp.seq ?_
    refine AWp.region ?_
    refine aC_ rfl rfl (q_assign) ?_
    refine AOps.nil ?_
    refine AWp.ret ?_
    show Fin te Try.f29 _ _
    refine q_ret (0) [_] [_] ?_
    rw [rv_4 h4_8]; rfl
   ·
    refine aC_ rfl rfl (q_pick) ?_
    refine aC_ rfl rfl (q_move) ?_
    refine AOps.gcons rfl rfl rfl rfl rfl (q_fa) ?_
    refine AOps.gcons rfl rfl rfl rfl rfl (q_load) ?_
    refine AOps.gcons rfl rfl rfl rfl rfl (q_len) ?_
    refine AOps.gcons rfl rfl rfl rfl rfl (q_fa) ?_
    refine AOps.gcons rfl rfl rfl rfl rfl (q_load) ?_
    refine AOps.gcons rfl rfl rfl rfl rfl (q_len) ?_
    refine AOps.gdec rfl rfl rfl rfl rfl (q_neq) (fun h4_17 => ?_) (fun h4_17 => ?_)
    ·
     refine aC_ rfl rfl (q_pick) ?_
     refine AOps.nil ?_
     refine AWp.cond_t rfl ?_
     refine AWp.seq ?_
     refine AWp.region ?_
     refine aC_ rfl rfl (q_assign) ?_
     refine AOps.nil ?_
     refine AWp.ret ?_
     show Fin te Try.f29 _ _
     refine q_ret (0) [_] [_] ?_
     rw [rv_5 (by omega)]; rfl
    ·
     refine aC_ rfl rfl (q_pick) ?_
     refine AOps.nil ?_
     refine AWp.cond_f rfl ?_
     refine AWp.skip ?_
     refine AWp.seq ?_
     have hgo := rv_go (t := t) (m := m) (by omega) h4_0 (Decidable.not_not.1 h4_8) (by omega)
     refine AWp.draws [⟨0, [3], [101], some 42, _, none⟩,
 ⟨1, [42], [101], some 43, _, none⟩,
 ⟨2, [5], [409], some 44, _, none⟩,
 ⟨3, [44], [409], some 45, _, none⟩,
 ⟨4, [43], [], some 7, _, none⟩,
 ⟨5, [45], [], some 8, _, none⟩]
      [kN_ 0 [3] [101] 42,
 kN_ 1 [42] [101] 43,
 kN_ 2 [5] [409] 44,
 kN_ 3 [44] [409] 45,
 kN_ 4 [43] [] 7,
 kN_ 5 [45] [] 8]
      mixed_ok rfl (by kernel_rfl) ⟨dK_ fun s0 => oG_ rfl rfl (q_fa),
 dK_ fun s0 => oG_ rfl rfl (q_load),
 dK_ fun s0 => oG_ rfl rfl (q_fa),
 dK_ fun s0 => oG_ rfl rfl (q_load),
 dK_ fun s0 => oG_ rfl rfl (q_assign),
 dK_ fun s0 => oG_ rfl rfl (q_assign), trivial⟩ ?_
     dsimp only [final, DS.upd, AS.seto]
     refine AWp.seq ?_
     refine AWp.block ?_
     refine AWp.loopR (α := List Rr × List Rr) [4, 7, 8, 9, 46, 47, 48, 49, 50, 51, 52, 53, 54, 55, 56, 57, 58, 59, 60, 61, 62, 63, 64, 65, 66, 67, 68, 69, 70, 71, 72, 73, 74, 75, 76, 77, 78, 79, 80, 81, 82, 83, 84, 85, 86, 87, 88, 89, 90, 91, 92, 93, 94, 95, 96, 97] (fun x_ => [(7, .fz 0 (x_.1).length (cl rrc (x_.1))), (8, .fz 0 (x_.2).length (cl rrc (x_.2)))]) (fun x_ => []) (fun x_ => refT (x_.1) (x_.2) = refT m.an (truV t (m.qs.getD 0 default)).2 ∧ RrsOk (x_.1) ∧ NmB (x_.1) ∧ RrsOk (x_.2) ∧ NmB (x_.2)) (fun x_ => (x_.1).length) (m.an, (truV t (m.qs.getD 0 default)).2) ?_ (Back.mk' (HasT.cons (HasT.cons HasT.nil)) HasH.nil) ?_
     ·
      exact ⟨rfl, han, hmn, hvo⟩
     ·
      rintro ⟨a, b⟩ hI7
      change refT a b = refT m.an (truV t (m.qs.getD 0 default)).2 ∧ RrsOk a ∧ NmB a ∧ RrsOk b ∧ NmB b at hI7
      obtain ⟨hE, hA, hAn, hB, hBn⟩ := hI7
      refine AWp.as (s' := AS.over _ [4, 7, 8, 9, 46, 47, 48, 49, 50, 51, 52, 53, 54, 55, 56, 57, 58, 59, 60, 61, 62, 63, 64, 65, 66, 67, 68, 69, 70, 71, 72, 73, 74, 75, 76, 77, 78, 79, 80, 81, 82, 83, 84, 85, 86, 87, 88, 89, 90, 91, 92, 93, 94, 95, 96, 97] [(7, .fz 0 a.length (cl rrc a)), (8, .fz 0 b.length (cl rrc b))] []) rfl ?_
      have ha1 := hA.1
      have hb1 := hB.1
      refine AWp.seq ?_
      refine AWp.seq ?_
      refine AWp.region ?_
      refine aC_ rfl rfl (q_move) ?_
      refine aC_ rfl rfl (q_len) ?_
      refine AOps.dec rfl rfl (q_gtr) (fun h7_2 => ?_) (fun h7_2 => ?_)
      ·
       refine AOps.nil ?_
       refine AWp.cond_t rfl ?_
       refine AWp.skip ?_
       refine AWp.block ?_
       refine AWp.seq ?_
       refine AWp.region ?_
       refine aC_ rfl rfl (q_move) ?_
       refine aC_ rfl rfl (q_call (0) (hc := (c_ciceroneref24_group a hA hAn))) ?_
       refine aC_ rfl rfl (q_assign) ?_
       refine AOps.nil ?_
       refine AWp.seq ?_
       refine AWp.seq ?_
       have ga := grp_le a
       have gb := grp_le b
       have a1 := hAn _ (getD_mem' (l := a) (i := 0) (by omega))
       have b1 : 0 < b.length → (b.getD 0 default).nm.length ≤ 140737488351232 := fun h => hBn _ (getD_mem' h)
       rcases six6 (grp a = 0) (grp a = grp b) (sameN (a.getD 0 default).nm (b.getD 0 default).nm) ((a.getD 0 default).ty = (b.getD 0 default).ty) (setB (a.take (grp a)) (b.take (grp a))) with h1 | ⟨h1, h2⟩ | ⟨h1, h2, h3⟩ | ⟨h1, h2, h3, h4⟩ | ⟨h1, h2, h3, h4, h5⟩ | ⟨h1, h2, h3, h4, h5⟩
       ·
        refine AWp.draws (⟨0, [9], [], some 51, _, none⟩ ::
 ⟨1, [51], [], some 52, _, none⟩ ::
 ⟨2, [52], [], some 53, _, none⟩ ::
 ⟨3, [53], [], some 54, .v undef, none⟩ ::
 ⟨4, [53], [], some 55, .v undef, none⟩ ::
 ⟨5, [53], [], some 56, .v undef, none⟩ ::
 ⟨6, [53], [], some 57, .v undef, none⟩ ::
 ⟨7, [53, 57], [], some 58, _, none⟩ ::
 ⟨8, [58], [], some 59, _, none⟩ ::
 ⟨9, [59], [], some 60, .v undef, none⟩ ::
 ⟨10, [59], [], some 61, .v undef, none⟩ ::
 ⟨11, [59], [], some 62, .v undef, none⟩ ::
 ⟨12, [59], [], some 63, .v undef, none⟩ ::
 ⟨13, [59], [], some 64, .v undef, none⟩ ::
 ⟨14, [59], [], some 65, .v undef, none⟩ ::
 ⟨15, [59], [], some 66, .v undef, none⟩ ::
 ⟨16, [59], [], some 67, .v undef, none⟩ ::
 ⟨17, [59], [], some 68, .v undef, none⟩ ::
 ⟨18, [59], [], some 69, .v undef, none⟩ ::
 ⟨19, [59, 69], [], some 70, _, none⟩ ::
 ⟨20, [70], [], some 71, _, none⟩ ::
 ⟨21, [71], [], some 72, .v undef, none⟩ ::
 ⟨22, [71], [], some 73, .v undef, none⟩ ::
 ⟨23, [71], [], some 74, .v undef, none⟩ ::
 ⟨24, [71], [], some 75, .v undef, none⟩ ::
 ⟨25, [71], [], some 76, .v undef, none⟩ ::
 ⟨26, [71], [], some 77, .v undef, none⟩ ::
 ⟨27, [71], [], some 78, .v undef, none⟩ ::
 ⟨28, [71], [], some 79, .v undef, none⟩ ::
 ⟨29, [71], [], some 80, .v undef, none⟩ ::
 ⟨30, [71, 80], [], some 81, _, none⟩ ::
 ⟨31, [81], [], some 82, _, none⟩ ::
 ⟨32, [82], [], some 83, .v undef, none⟩ ::
 ⟨33, [82], [], some 84, .v undef, none⟩ ::
 ⟨34, [82], [], some 85, .v undef, none⟩ ::
 ⟨35, [82], [], some 86, .v undef, none⟩ ::
 ⟨36, [82], [], some 87, .v undef, none⟩ ::
 ⟨37, [82], [], some 88, .v undef, none⟩ ::
 ⟨38, [82], [], some 89, .v undef, none⟩ ::
 ⟨39, [82], [], some 90, .v undef, none⟩ ::
 ⟨40, [82, 90], [], some 91, _, none⟩ ::
            [])
         (kN_ 0 [9] [] 51 ::
 kN_ 1 [51] [] 52 ::
 kN_ 2 [52] [] 53 ::
 kN_ 3 [53] [] 54 ::
 kN_ 4 [53] [] 55 ::
 kN_ 5 [53] [] 56 ::
 kN_ 6 [53] [] 57 ::
 kN_ 7 [53, 57] [] 58 ::
 kN_ 8 [58] [] 59 ::
 kN_ 9 [59] [] 60 ::
 kN_ 10 [59] [] 61 ::
 kN_ 11 [59] [] 62 ::
 kN_ 12 [59] [] 63 ::
 kN_ 13 [59] [] 64 ::
 kN_ 14 [59] [] 65 ::
 kN_ 15 [59] [] 66 ::
 kN_ 16 [59] [] 67 ::
 kN_ 17 [59] [] 68 ::
 kN_ 18 [59] [] 69 ::
 kN_ 19 [59, 69] [] 70 ::
 kN_ 20 [70] [] 71 ::
 kN_ 21 [71] [] 72 ::
 kN_ 22 [71] [] 73 ::
 kN_ 23 [71] [] 74 ::
 kN_ 24 [71] [] 75 ::
 kN_ 25 [71] [] 76 ::
 kN_ 26 [71] [] 77 ::
 kN_ 27 [71] [] 78 ::
 kN_ 28 [71] [] 79 ::
 kN_ 29 [71] [] 80 ::
 kN_ 30 [71, 80] [] 81 ::
 kN_ 31 [81] [] 82 ::
 kN_ 32 [82] [] 83 ::
 kN_ 33 [82] [] 84 ::
 kN_ 34 [82] [] 85 ::
 kN_ 35 [82] [] 86 ::
 kN_ 36 [82] [] 87 ::
 kN_ 37 [82] [] 88 ::
 kN_ 38 [82] [] 89 ::
 kN_ 39 [82] [] 90 ::
 kN_ 40 [82, 90] [] 91 ::
             [])
         mixed_ok rfl (by kernel_rfl) ⟨dK_ fun s0 => oG_ rfl rfl (q_move),
 dK_ fun s0 => oG_ rfl rfl ((OpOk.dec_t (q_eql) (congrArg (fun x : Nat => (x : Int)) h1))),
 dK_ fun s0 => oG_ rfl rfl (q_move),
 dK_ fun s0 => oS_ rfl rfl rfl rfl rfl rfl rfl rfl,
 dK_ fun s0 => oS_ rfl rfl rfl rfl rfl rfl rfl rfl,
 dK_ fun s0 => oS_ rfl rfl rfl rfl rfl rfl rfl rfl,
 dK_ fun s0 => oS_ rfl rfl rfl rfl rfl rfl rfl rfl,
 dK_ fun s0 => oG_ rfl rfl (q_pick),
 dK_ fun s0 => oG_ rfl rfl (q_move (hy := by exact rfl)),
 dK_ fun s0 => oS_ rfl rfl rfl rfl rfl rfl rfl rfl,
 dK_ fun s0 => oS_ rfl rfl rfl rfl rfl rfl rfl rfl,
 dK_ fun s0 => oS_ rfl rfl rfl rfl rfl rfl rfl rfl,
 dK_ fun s0 => oS_ rfl rfl rfl rfl rfl rfl rfl rfl,
 dK_ fun s0 => oS_ rfl rfl rfl rfl rfl rfl rfl rfl,
 dK_ fun s0 => oS_ rfl rfl rfl rfl rfl rfl rfl rfl,
 dK_ fun s0 => oS_ rfl rfl rfl rfl rfl rfl rfl rfl,
 dK_ fun s0 => oS_ rfl rfl rfl rfl rfl rfl rfl rfl,
 dK_ fun s0 => oS_ rfl rfl rfl rfl rfl rfl rfl rfl,
 dK_ fun s0 => oS_ rfl rfl rfl rfl rfl rfl rfl rfl,
 dK_ fun s0 => oG_ rfl rfl (q_pick),
 dK_ fun s0 => oG_ rfl rfl (q_move (hy := by exact rfl)),
 dK_ fun s0 => oS_ rfl rfl rfl rfl rfl rfl rfl rfl,
 dK_ fun s0 => oS_ rfl rfl rfl rfl rfl rfl rfl rfl,
 dK_ fun s0 => oS_ rfl rfl rfl rfl rfl rfl rfl rfl,
 dK_ fun s0 => oS_ rfl rfl rfl rfl rfl rfl rfl rfl,
 dK_ fun s0 => oS_ rfl rfl rfl rfl rfl rfl rfl rfl,
 dK_ fun s0 => oS_ rfl rfl rfl rfl rfl rfl rfl rfl,
 dK_ fun s0 => oS_ rfl rfl rfl rfl rfl rfl rfl rfl,
 dK_ fun s0 => oS_ rfl rfl rfl rfl rfl rfl rfl rfl,
 dK_ fun s0 => oS_ rfl rfl rfl rfl rfl rfl rfl rfl,
 dK_ fun s0 => oG_ rfl rfl (q_pick),
 dK_ fun s0 => oG_ rfl rfl (q_move (hy := by exact rfl)),
 dK_ fun s0 => oS_ rfl rfl rfl rfl rfl rfl rfl rfl,
 dK_ fun s0 => oS_ rfl rfl rfl rfl rfl rfl rfl rfl,
 dK_ fun s0 => oS_ rfl rfl rfl rfl rfl rfl rfl rfl,
 dK_ fun s0 => oS_ rfl rfl rfl rfl rfl rfl rfl rfl,
 dK_ fun s0 => oS_ rfl rfl rfl rfl rfl rfl rfl rfl,
 dK_ fun s0 => oS_ rfl rfl rfl rfl rfl rfl rfl rfl,
 dK_ fun s0 => oS_ rfl rfl rfl rfl rfl rfl rfl rfl,
 dK_ fun s0 => oS_ rfl rfl rfl rfl rfl rfl rfl rfl,
 dK_ fun s0 => oG_ rfl rfl (q_pick), trivial⟩ ?_
        dsimp only [final, DS.upd, AS.seto]
        refine AWp.cond_t rfl ?_
        refine AWp.seq ?_
        refine AWp.region ?_
        refine aC_ rfl rfl (q_assign) ?_
        refine AOps.nil ?_
        refine AWp.ret ?_
        show Fin te Try.f29 _ _
        refine q_ret (0) [_] [_] ?_
        rw [hgo, ← hE, refT_0 (by omega) h1]; rfl
       ·
        refine AWp.draws (⟨0, [9], [], some 51, _, none⟩ ::
 ⟨1, [51], [], some 52, _, none⟩ ::
 ⟨2, [52], [], some 53, _, none⟩ ::
 ⟨3, [9, 53], [], some 54, _, none⟩ ::
 ⟨4, [8, 53], [], some 55, _, none⟩ ::
 ⟨5, [53, 55], [], some 56, _, none⟩ ::
 ⟨6, [53, 54, 56], [], some 57, _, none⟩ ::
 ⟨7, [53, 57], [], some 58, _, none⟩ ::
 ⟨8, [58], [], some 59, _, none⟩ ::
 ⟨9, [59], [], some 60, .v undef, none⟩ ::
 ⟨10, [59], [], some 61, .v undef, none⟩ ::
 ⟨11, [59], [], some 62, .v undef, none⟩ ::
 ⟨12, [59], [], some 63, .v undef, none⟩ ::
 ⟨13, [59], [], some 64, .v undef, none⟩ ::
 ⟨14, [59], [], some 65, .v undef, none⟩ ::
 ⟨15, [59], [], some 66, .v undef, none⟩ ::
 ⟨16, [59], [], some 67, .v undef, none⟩ ::
 ⟨17, [59], [], some 68, .v undef, none⟩ ::
 ⟨18, [59], [], some 69, .v undef, none⟩ ::
 ⟨19, [59, 69], [], some 70, _, none⟩ ::
 ⟨20, [70], [], some 71, _, none⟩ ::
 ⟨21, [71], [], some 72, .v undef, none⟩ ::
 ⟨22, [71], [], some 73, .v undef, none⟩ ::
 ⟨23, [71], [], some 74, .v undef, none⟩ ::
 ⟨24, [71], [], some 75, .v undef, none⟩ ::
 ⟨25, [71], [], some 76, .v undef, none⟩ ::
 ⟨26, [71], [], some 77, .v undef, none⟩ ::
 ⟨27, [71], [], some 78, .v undef, none⟩ ::
 ⟨28, [71], [], some 79, .v undef, none⟩ ::
 ⟨29, [71], [], some 80, .v undef, none⟩ ::
 ⟨30, [71, 80], [], some 81, _, none⟩ ::
 ⟨31, [81], [], some 82, _, none⟩ ::
 ⟨32, [82], [], some 83, .v undef, none⟩ ::
 ⟨33, [82], [], some 84, .v undef, none⟩ ::
 ⟨34, [82], [], some 85, .v undef, none⟩ ::
 ⟨35, [82], [], some 86, .v undef, none⟩ ::
 ⟨36, [82], [], some 87, .v undef, none⟩ ::
 ⟨37, [82], [], some 88, .v undef, none⟩ ::
 ⟨38, [82], [], some 89, .v undef, none⟩ ::
 ⟨39, [82], [], some 90, .v undef, none⟩ ::
 ⟨40, [82, 90], [], some 91, _, none⟩ ::
            [])
         (kN_ 0 [9] [] 51 ::
 kN_ 1 [51] [] 52 ::
 kN_ 2 [52] [] 53 ::
 kN_ 3 [9, 53] [] 54 ::
 kN_ 4 [8, 53] [] 55 ::
 kN_ 5 [53, 55] [] 56 ::
 kN_ 6 [53, 54, 56] [] 57 ::
 kN_ 7 [53, 57] [] 58 ::
 kN_ 8 [58] [] 59 ::
 kN_ 9 [59] [] 60 ::
 kN_ 10 [59] [] 61 ::
 kN_ 11 [59] [] 62 ::
 kN_ 12 [59] [] 63 ::
 kN_ 13 [59] [] 64 ::
 kN_ 14 [59] [] 65 ::
 kN_ 15 [59] [] 66 ::
 kN_ 16 [59] [] 67 ::
 kN_ 17 [59] [] 68 ::
 kN_ 18 [59] [] 69 ::
 kN_ 19 [59, 69] [] 70 ::
 kN_ 20 [70] [] 71 ::
 kN_ 21 [71] [] 72 ::
 kN_ 22 [71] [] 73 ::
 kN_ 23 [71] [] 74 ::
 kN_ 24 [71] [] 75 ::
 kN_ 25 [71] [] 76 ::
 kN_ 26 [71] [] 77 ::
 kN_ 27 [71] [] 78 ::
 kN_ 28 [71] [] 79 ::
 kN_ 29 [71] [] 80 ::
 kN_ 30 [71, 80] [] 81 ::
 kN_ 31 [81] [] 82 ::
 kN_ 32 [82] [] 83 ::
 kN_ 33 [82] [] 84 ::
 kN_ 34 [82] [] 85 ::
 kN_ 35 [82] [] 86 ::
 kN_ 36 [82] [] 87 ::
 kN_ 37 [82] [] 88 ::
 kN_ 38 [82] [] 89 ::
 kN_ 39 [82] [] 90 ::
 kN_ 40 [82, 90] [] 91 ::
             [])
         mixed_ok rfl (by kernel_rfl) ⟨dK_ fun s0 => oG_ rfl rfl (q_move),
 dK_ fun s0 => oG_ rfl rfl ((OpOk.dec_f (q_eql) (fun k => h1 (Int.ofNat_inj.1 k)))),
 dK_ fun s0 => oG_ rfl rfl (q_move),
 dK_ fun s0 => oO_ rfl rfl rfl rfl rfl (q_move),
 dK_ fun s0 => oO_ rfl rfl rfl rfl rfl (q_move),
 dK_ fun s0 => oO_ rfl rfl rfl rfl rfl (q_call (0) (hc := (c_ciceroneref24_group b hB hBn))),
 dK_ fun s0 => oO_ rfl rfl rfl rfl rfl ((OpOk.dec_t (q_neq) (fun k => h2 (Int.ofNat_inj.1 k)))),
 dK_ fun s0 => oG_ rfl rfl (q_pick),
 dK_ fun s0 => oG_ rfl rfl (q_move (hy := by exact rfl)),
 dK_ fun s0 => oS_ rfl rfl rfl rfl rfl rfl rfl rfl,
 dK_ fun s0 => oS_ rfl rfl rfl rfl rfl rfl rfl rfl,
 dK_ fun s0 => oS_ rfl rfl rfl rfl rfl rfl rfl rfl,
 dK_ fun s0 => oS_ rfl rfl rfl rfl rfl rfl rfl rfl,
 dK_ fun s0 => oS_ rfl rfl rfl rfl rfl rfl rfl rfl,
 dK_ fun s0 => oS_ rfl rfl rfl rfl rfl rfl rfl rfl,
 dK_ fun s0 => oS_ rfl rfl rfl rfl rfl rfl rfl rfl,
 dK_ fun s0 => oS_ rfl rfl rfl rfl rfl rfl rfl rfl,
 dK_ fun s0 => oS_ rfl rfl rfl rfl rfl rfl rfl rfl,
 dK_ fun s0 => oS_ rfl rfl rfl rfl rfl rfl rfl rfl,
 dK_ fun s0 => oG_ rfl rfl (q_pick),
 dK_ fun s0 => oG_ rfl rfl (q_move (hy := by exact rfl)),
 dK_ fun s0 => oS_ rfl rfl rfl rfl rfl rfl rfl rfl,
 dK_ fun s0 => oS_ rfl rfl rfl rfl rfl rfl rfl rfl,
 dK_ fun s0 => oS_ rfl rfl rfl rfl rfl rfl rfl rfl,
 dK_ fun s0 => oS_ rfl rfl rfl rfl rfl rfl rfl rfl,
 dK_ fun s0 => oS_ rfl rfl rfl rfl rfl rfl rfl rfl,
 dK_ fun s0 => oS_ rfl rfl rfl rfl rfl rfl rfl rfl,
 dK_ fun s0 => oS_ rfl rfl rfl rfl rfl rfl rfl rfl,
 dK_ fun s0 => oS_ rfl rfl rfl rfl rfl rfl rfl rfl,
 dK_ fun s0 => oS_ rfl rfl rfl rfl rfl rfl rfl rfl,
 dK_ fun s0 => oG_ rfl rfl (q_pick),
 dK_ fun s0 => oG_ rfl rfl (q_move (hy := by exact rfl)),
 dK_ fun s0 => oS_ rfl rfl rfl rfl rfl rfl rfl rfl,
 dK_ fun s0 => oS_ rfl rfl rfl rfl rfl rfl rfl rfl,
 dK_ fun s0 => oS_ rfl rfl rfl rfl rfl rfl rfl rfl,
 dK_ fun s0 => oS_ rfl rfl rfl rfl rfl rfl rfl rfl,
 dK_ fun s0 => oS_ rfl rfl rfl rfl rfl rfl rfl rfl,
 dK_ fun s0 => oS_ rfl rfl rfl rfl rfl rfl rfl rfl,
 dK_ fun s0 => oS_ rfl rfl rfl rfl rfl rfl rfl rfl,
 dK_ fun s0 => oS_ rfl rfl rfl rfl rfl rfl rfl rfl,
 dK_ fun s0 => oG_ rfl rfl (q_pick), trivial⟩ ?_
        dsimp only [final, DS.upd, AS.seto]
        refine AWp.cond_t rfl ?_
        refine AWp.seq ?_
        refine AWp.region ?_
        refine aC_ rfl rfl (q_assign) ?_
        refine AOps.nil ?_
        refine AWp.ret ?_
        show Fin te Try.f29 _ _
        refine q_ret (0) [_] [_] ?_
        rw [hgo, ← hE, refT_no (by omega) (by rw [okG, decide_eq_false h2]; simp)]; rfl
       ·
        refine AWp.draws (⟨0, [9], [], some 51, _, none⟩ ::
 ⟨1, [51], [], some 52, _, none⟩ ::
 ⟨2, [52], [], some 53, _, none⟩ ::
 ⟨3, [9, 53], [], some 54, _, none⟩ ::
 ⟨4, [8, 53], [], some 55, _, none⟩ ::
 ⟨5, [53, 55], [], some 56, _, none⟩ ::
 ⟨6, [53, 54, 56], [], some 57, _, none⟩ ::
 ⟨7, [53, 57], [], some 58, _, none⟩ ::
 ⟨8, [58], [], some 59, _, none⟩ ::
 ⟨9, [7, 59], [], some 60, _, none⟩ ::
 ⟨10, [59, 60], [], some 61, _, none⟩ ::
 ⟨11, [59, 61], [], some 62, _, none⟩ ::
 ⟨12, [59, 62], [], some 63, _, none⟩ ::
 ⟨13, [8, 59], [], some 64, _, none⟩ ::
 ⟨14, [59, 64], [], some 65, _, none⟩ ::
 ⟨15, [59, 65], [], some 66, _, none⟩ ::
 ⟨16, [59, 66], [], some 67, _, none⟩ ::
 ⟨17, [59, 63, 67], [], some 68, _, none⟩ ::
 ⟨18, [59, 68], [], some 69, _, none⟩ ::
 ⟨19, [59, 69], [], some 70, _, none⟩ ::
 ⟨20, [70], [], some 71, _, none⟩ ::
 ⟨21, [71], [], some 72, .v undef, none⟩ ::
 ⟨22, [71], [], some 73, .v undef, none⟩ ::
 ⟨23, [71], [], some 74, .v undef, none⟩ ::
 ⟨24, [71], [], some 75, .v undef, none⟩ ::
 ⟨25, [71], [], some 76, .v undef, none⟩ ::
 ⟨26, [71], [], some 77, .v undef, none⟩ ::
 ⟨27, [71], [], some 78, .v undef, none⟩ ::
 ⟨28, [71], [], some 79, .v undef, none⟩ ::
 ⟨29, [71], [], some 80, .v undef, none⟩ ::
 ⟨30, [71, 80], [], some 81, _, none⟩ ::
 ⟨31, [81], [], some 82, _, none⟩ ::
 ⟨32, [82], [], some 83, .v undef, none⟩ ::
 ⟨33, [82], [], some 84, .v undef, none⟩ ::
 ⟨34, [82], [], some 85, .v undef, none⟩ ::
 ⟨35, [82], [], some 86, .v undef, none⟩ ::
 ⟨36, [82], [], some 87, .v undef, none⟩ ::
 ⟨37, [82], [], some 88, .v undef, none⟩ ::
 ⟨38, [82], [], some 89, .v undef, none⟩ ::
 ⟨39, [82], [], some 90, .v undef, none⟩ ::
 ⟨40, [82, 90], [], some 91, _, none⟩ ::
            [])
         (kN_ 0 [9] [] 51 ::
 kN_ 1 [51] [] 52 ::
 kN_ 2 [52] [] 53 ::
 kN_ 3 [9, 53] [] 54 ::
 kN_ 4 [8, 53] [] 55 ::
 kN_ 5 [53, 55] [] 56 ::
 kN_ 6 [53, 54, 56] [] 57 ::
 kN_ 7 [53, 57] [] 58 ::
 kN_ 8 [58] [] 59 ::
 kN_ 9 [7, 59] [] 60 ::
 kN_ 10 [59, 60] [] 61 ::
 kN_ 11 [59, 61] [] 62 ::
 kN_ 12 [59, 62] [] 63 ::
 kN_ 13 [8, 59] [] 64 ::
 kN_ 14 [59, 64] [] 65 ::
 kN_ 15 [59, 65] [] 66 ::
 kN_ 16 [59, 66] [] 67 ::
 kN_ 17 [59, 63, 67] [] 68 ::
 kN_ 18 [59, 68] [] 69 ::
 kN_ 19 [59, 69] [] 70 ::
 kN_ 20 [70] [] 71 ::
 kN_ 21 [71] [] 72 ::
 kN_ 22 [71] [] 73 ::
 kN_ 23 [71] [] 74 ::
 kN_ 24 [71] [] 75 ::
 kN_ 25 [71] [] 76 ::
 kN_ 26 [71] [] 77 ::
 kN_ 27 [71] [] 78 ::
 kN_ 28 [71] [] 79 ::
 kN_ 29 [71] [] 80 ::
 kN_ 30 [71, 80] [] 81 ::
 kN_ 31 [81] [] 82 ::
 kN_ 32 [82] [] 83 ::
 kN_ 33 [82] [] 84 ::
 kN_ 34 [82] [] 85 ::
 kN_ 35 [82] [] 86 ::
 kN_ 36 [82] [] 87 ::
 kN_ 37 [82] [] 88 ::
 kN_ 38 [82] [] 89 ::
 kN_ 39 [82] [] 90 ::
 kN_ 40 [82, 90] [] 91 ::
             [])
         mixed_ok rfl (by kernel_rfl) ⟨dK_ fun s0 => oG_ rfl rfl (q_move),
 dK_ fun s0 => oG_ rfl rfl ((OpOk.dec_f (q_eql) (fun k => h1 (Int.ofNat_inj.1 k)))),
 dK_ fun s0 => oG_ rfl rfl (q_move),
 dK_ fun s0 => oO_ rfl rfl rfl rfl rfl (q_move),
 dK_ fun s0 => oO_ rfl rfl rfl rfl rfl (q_move),
 dK_ fun s0 => oO_ rfl rfl rfl rfl rfl (q_call (0) (hc := (c_ciceroneref24_group b hB hBn))),
 dK_ fun s0 => oO_ rfl rfl rfl rfl rfl ((OpOk.dec_f (q_neq) (fun k => k (congrArg (fun x : Nat => (x : Int)) h2)))),
 dK_ fun s0 => oG_ rfl rfl (q_pick),
 dK_ fun s0 => oG_ rfl rfl (q_move (hy := by exact rfl)),
 dK_ fun s0 => oO_ rfl rfl rfl rfl rfl (q_move),
 dK_ fun s0 => oO_ rfl rfl rfl rfl rfl (q_ix),
 dK_ fun s0 => oO_ rfl rfl rfl rfl rfl (q_fa),
 dK_ fun s0 => oO_ rfl rfl rfl rfl rfl (q_load),
 dK_ fun s0 => oO_ rfl rfl rfl rfl rfl (q_move),
 dK_ fun s0 => oO_ rfl rfl rfl rfl rfl (q_ix),
 dK_ fun s0 => oO_ rfl rfl rfl rfl rfl (q_fa),
 dK_ fun s0 => oO_ rfl rfl rfl rfl rfl (q_load),
 dK_ fun s0 => oO_ rfl rfl rfl rfl rfl ((OpOk.bool_is (c := false) (q_call (0) (hc := (c_ciceroneref01_Same (a.getD 0 default).nm (b.getD 0 default).nm (by omega) (by omega)))) (h3))),
 dK_ fun s0 => oO_ rfl rfl rfl rfl rfl (q_not),
 dK_ fun s0 => oG_ rfl rfl (q_pick),
 dK_ fun s0 => oG_ rfl rfl (q_move (hy := by exact rfl)),
 dK_ fun s0 => oS_ rfl rfl rfl rfl rfl rfl rfl rfl,
 dK_ fun s0 => oS_ rfl rfl rfl rfl rfl rfl rfl rfl,
 dK_ fun s0 => oS_ rfl rfl rfl rfl rfl rfl rfl rfl,
 dK_ fun s0 => oS_ rfl rfl rfl rfl rfl rfl rfl rfl,
 dK_ fun s0 => oS_ rfl rfl rfl rfl rfl rfl rfl rfl,
 dK_ fun s0 => oS_ rfl rfl rfl rfl rfl rfl rfl rfl,
 dK_ fun s0 => oS_ rfl rfl rfl rfl rfl rfl rfl rfl,
 dK_ fun s0 => oS_ rfl rfl rfl rfl rfl rfl rfl rfl,
 dK_ fun s0 => oS_ rfl rfl rfl rfl rfl rfl rfl rfl,
 dK_ fun s0 => oG_ rfl rfl (q_pick),
 dK_ fun s0 => oG_ rfl rfl (q_move (hy := by exact rfl)),
 dK_ fun s0 => oS_ rfl rfl rfl rfl rfl rfl rfl rfl,
 dK_ fun s0 => oS_ rfl rfl rfl rfl rfl rfl rfl rfl,
 dK_ fun s0 => oS_ rfl rfl rfl rfl rfl rfl rfl rfl,
 dK_ fun s0 => oS_ rfl rfl rfl rfl rfl rfl rfl rfl,
 dK_ fun s0 => oS_ rfl rfl rfl rfl rfl rfl rfl rfl,
 dK_ fun s0 => oS_ rfl rfl rfl rfl rfl rfl rfl rfl,
 dK_ fun s0 => oS_ rfl rfl rfl rfl rfl rfl rfl rfl,
 dK_ fun s0 => oS_ rfl rfl rfl rfl rfl rfl rfl rfl,
 dK_ fun s0 => oG_ rfl rfl (q_pick), trivial⟩ ?_
        dsimp only [final, DS.upd, AS.seto]
        refine AWp.cond_t rfl ?_
        refine AWp.seq ?_
        refine AWp.region ?_
        refine aC_ rfl rfl (q_assign) ?_
        refine AOps.nil ?_
        refine AWp.ret ?_
        show Fin te Try.f29 _ _
        refine q_ret (0) [_] [_] ?_
        rw [hgo, ← hE, refT_no (by omega) (by rw [okG, h3]; simp)]; rfl
       ·
        refine AWp.draws (⟨0, [9], [], some 51, _, none⟩ ::
 ⟨1, [51], [], some 52, _, none⟩ ::
 ⟨2, [52], [], some 53, _, none⟩ ::
 ⟨3, [9, 53], [], some 54, _, none⟩ ::
 ⟨4, [8, 53], [], some 55, _, none⟩ ::
 ⟨5, [53, 55], [], some 56, _, none⟩ ::
 ⟨6, [53, 54, 56], [], some 57, _, none⟩ ::
 ⟨7, [53, 57], [], some 58, _, none⟩ ::
 ⟨8, [58], [], some 59, _, none⟩ ::
 ⟨9, [7, 59], [], some 60, _, none⟩ ::
 ⟨10, [59, 60], [], some 61, _, none⟩ ::
 ⟨11, [59, 61], [], some 62, _, none⟩ ::
 ⟨12, [59, 62], [], some 63, _, none⟩ ::
 ⟨13, [8, 59], [], some 64, _, none⟩ ::
 ⟨14, [59, 64], [], some 65, _, none⟩ ::
 ⟨15, [59, 65], [], some 66, _, none⟩ ::
 ⟨16, [59, 66], [], some 67, _, none⟩ ::
 ⟨17, [59, 63, 67], [], some 68, _, none⟩ ::
 ⟨18, [59, 68], [], some 69, _, none⟩ ::
 ⟨19, [59, 69], [], some 70, _, none⟩ ::
 ⟨20, [70], [], some 71, _, none⟩ ::
 ⟨21, [7, 71], [], some 72, _, none⟩ ::
 ⟨22, [71, 72], [], some 73, _, none⟩ ::
 ⟨23, [71, 73], [], some 74, _, none⟩ ::
 ⟨24, [71, 74], [], some 75, _, none⟩ ::
 ⟨25, [8, 71], [], some 76, _, none⟩ ::
 ⟨26, [71, 76], [], some 77, _, none⟩ ::
 ⟨27, [71, 77], [], some 78, _, none⟩ ::
 ⟨28, [71, 78], [], some 79, _, none⟩ ::
 ⟨29, [71, 75, 79], [], some 80, _, none⟩ ::
 ⟨30, [71, 80], [], some 81, _, none⟩ ::
 ⟨31, [81], [], some 82, _, none⟩ ::
 ⟨32, [82], [], some 83, .v undef, none⟩ ::
 ⟨33, [82], [], some 84, .v undef, none⟩ ::
 ⟨34, [82], [], some 85, .v undef, none⟩ ::
 ⟨35, [82], [], some 86, .v undef, none⟩ ::
 ⟨36, [82], [], some 87, .v undef, none⟩ ::
 ⟨37, [82], [], some 88, .v undef, none⟩ ::
 ⟨38, [82], [], some 89, .v undef, none⟩ ::
 ⟨39, [82], [], some 90, .v undef, none⟩ ::
 ⟨40, [82, 90], [], some 91, _, none⟩ ::
            [])
         (kN_ 0 [9] [] 51 ::
 kN_ 1 [51] [] 52 ::
 kN_ 2 [52] [] 53 ::
 kN_ 3 [9, 53] [] 54 ::
 kN_ 4 [8, 53] [] 55 ::
 kN_ 5 [53, 55] [] 56 ::
 kN_ 6 [53, 54, 56] [] 57 ::
 kN_ 7 [53, 57] [] 58 ::
 kN_ 8 [58] [] 59 ::
 kN_ 9 [7, 59] [] 60 ::
 kN_ 10 [59, 60] [] 61 ::
 kN_ 11 [59, 61] [] 62 ::
 kN_ 12 [59, 62] [] 63 ::
 kN_ 13 [8, 59] [] 64 ::
 kN_ 14 [59, 64] [] 65 ::
 kN_ 15 [59, 65] [] 66 ::
 kN_ 16 [59, 66] [] 67 ::
 kN_ 17 [59, 63, 67] [] 68 ::
 kN_ 18 [59, 68] [] 69 ::
 kN_ 19 [59, 69] [] 70 ::
 kN_ 20 [70] [] 71 ::
 kN_ 21 [7, 71] [] 72 ::
 kN_ 22 [71, 72] [] 73 ::
 kN_ 23 [71, 73] [] 74 ::
 kN_ 24 [71, 74] [] 75 ::
 kN_ 25 [8, 71] [] 76 ::
 kN_ 26 [71, 76] [] 77 ::
 kN_ 27 [71, 77] [] 78 ::
 kN_ 28 [71, 78] [] 79 ::
 kN_ 29 [71, 75, 79] [] 80 ::
 kN_ 30 [71, 80] [] 81 ::
 kN_ 31 [81] [] 82 ::
 kN_ 32 [82] [] 83 ::
 kN_ 33 [82] [] 84 ::
 kN_ 34 [82] [] 85 ::
 kN_ 35 [82] [] 86 ::
 kN_ 36 [82] [] 87 ::
 kN_ 37 [82] [] 88 ::
 kN_ 38 [82] [] 89 ::
 kN_ 39 [82] [] 90 ::
 kN_ 40 [82, 90] [] 91 ::
             [])
         mixed_ok rfl (by kernel_rfl) ⟨dK_ fun s0 => oG_ rfl rfl (q_move),
 dK_ fun s0 => oG_ rfl rfl ((OpOk.dec_f (q_eql) (fun k => h1 (Int.ofNat_inj.1 k)))),
 dK_ fun s0 => oG_ rfl rfl (q_move),
 dK_ fun s0 => oO_ rfl rfl rfl rfl rfl (q_move),
 dK_ fun s0 => oO_ rfl rfl rfl rfl rfl (q_move),
 dK_ fun s0 => oO_ rfl rfl rfl rfl rfl (q_call (0) (hc := (c_ciceroneref24_group b hB hBn))),
 dK_ fun s0 => oO_ rfl rfl rfl rfl rfl ((OpOk.dec_f (q_neq) (fun k => k (congrArg (fun x : Nat => (x : Int)) h2)))),
 dK_ fun s0 => oG_ rfl rfl (q_pick),
 dK_ fun s0 => oG_ rfl rfl (q_move (hy := by exact rfl)),
 dK_ fun s0 => oO_ rfl rfl rfl rfl rfl (q_move),
 dK_ fun s0 => oO_ rfl rfl rfl rfl rfl (q_ix),
 dK_ fun s0 => oO_ rfl rfl rfl rfl rfl (q_fa),
 dK_ fun s0 => oO_ rfl rfl rfl rfl rfl (q_load),
 dK_ fun s0 => oO_ rfl rfl rfl rfl rfl (q_move),
 dK_ fun s0 => oO_ rfl rfl rfl rfl rfl (q_ix),
 dK_ fun s0 => oO_ rfl rfl rfl rfl rfl (q_fa),
 dK_ fun s0 => oO_ rfl rfl rfl rfl rfl (q_load),
 dK_ fun s0 => oO_ rfl rfl rfl rfl rfl ((OpOk.bool_is (c := true) (q_call (0) (hc := (c_ciceroneref01_Same (a.getD 0 default).nm (b.getD 0 default).nm (by omega) (by omega)))) (h3))),
 dK_ fun s0 => oO_ rfl rfl rfl rfl rfl (q_not),
 dK_ fun s0 => oG_ rfl rfl (q_pick),
 dK_ fun s0 => oG_ rfl rfl (q_move (hy := by exact rfl)),
 dK_ fun s0 => oO_ rfl rfl rfl rfl rfl (q_move),
 dK_ fun s0 => oO_ rfl rfl rfl rfl rfl (q_ix),
 dK_ fun s0 => oO_ rfl rfl rfl rfl rfl (q_fa),
 dK_ fun s0 => oO_ rfl rfl rfl rfl rfl (q_load),
 dK_ fun s0 => oO_ rfl rfl rfl rfl rfl (q_move),
 dK_ fun s0 => oO_ rfl rfl rfl rfl rfl (q_ix),
 dK_ fun s0 => oO_ rfl rfl rfl rfl rfl (q_fa),
 dK_ fun s0 => oO_ rfl rfl rfl rfl rfl (q_load),
 dK_ fun s0 => oO_ rfl rfl rfl rfl rfl ((OpOk.dec_t (q_neq) (h4))),
 dK_ fun s0 => oG_ rfl rfl (q_pick),
 dK_ fun s0 => oG_ rfl rfl (q_move (hy := by exact rfl)),
 dK_ fun s0 => oS_ rfl rfl rfl rfl rfl rfl rfl rfl,
 dK_ fun s0 => oS_ rfl rfl rfl rfl rfl rfl rfl rfl,
 dK_ fun s0 => oS_ rfl rfl rfl rfl rfl rfl rfl rfl,
 dK_ fun s0 => oS_ rfl rfl rfl rfl rfl rfl rfl rfl,
 dK_ fun s0 => oS_ rfl rfl rfl rfl rfl rfl rfl rfl,
 dK_ fun s0 => oS_ rfl rfl rfl rfl rfl rfl rfl rfl,
 dK_ fun s0 => oS_ rfl rfl rfl rfl rfl rfl rfl rfl,
 dK_ fun s0 => oS_ rfl rfl rfl rfl rfl rfl rfl rfl,
 dK_ fun s0 => oG_ rfl rfl (q_pick), trivial⟩ ?_
        dsimp only [final, DS.upd, AS.seto]
        refine AWp.cond_t rfl ?_
        refine AWp.seq ?_
        refine AWp.region ?_
        refine aC_ rfl rfl (q_assign) ?_
        refine AOps.nil ?_
        refine AWp.ret ?_
        show Fin te Try.f29 _ _
        refine q_ret (0) [_] [_] ?_
        rw [hgo, ← hE, refT_no (by omega) (by rw [okG, decide_eq_false h4]; simp)]; rfl
       ·
        refine AWp.draws (⟨0, [9], [], some 51, _, none⟩ ::
 ⟨1, [51], [], some 52, _, none⟩ ::
 ⟨2, [52], [], some 53, _, none⟩ ::
 ⟨3, [9, 53], [], some 54, _, none⟩ ::
 ⟨4, [8, 53], [], some 55, _, none⟩ ::
 ⟨5, [53, 55], [], some 56, _, none⟩ ::
 ⟨6, [53, 54, 56], [], some 57, _, none⟩ ::
 ⟨7, [53, 57], [], some 58, _, none⟩ ::
 ⟨8, [58], [], some 59, _, none⟩ ::
 ⟨9, [7, 59], [], some 60, _, none⟩ ::
 ⟨10, [59, 60], [], some 61, _, none⟩ ::
 ⟨11, [59, 61], [], some 62, _, none⟩ ::
 ⟨12, [59, 62], [], some 63, _, none⟩ ::
 ⟨13, [8, 59], [], some 64, _, none⟩ ::
 ⟨14, [59, 64], [], some 65, _, none⟩ ::
 ⟨15, [59, 65], [], some 66, _, none⟩ ::
 ⟨16, [59, 66], [], some 67, _, none⟩ ::
 ⟨17, [59, 63, 67], [], some 68, _, none⟩ ::
 ⟨18, [59, 68], [], some 69, _, none⟩ ::
 ⟨19, [59, 69], [], some 70, _, none⟩ ::
 ⟨20, [70], [], some 71, _, none⟩ ::
 ⟨21, [7, 71], [], some 72, _, none⟩ ::
 ⟨22, [71, 72], [], some 73, _, none⟩ ::
 ⟨23, [71, 73], [], some 74, _, none⟩ ::
 ⟨24, [71, 74], [], some 75, _, none⟩ ::
 ⟨25, [8, 71], [], some 76, _, none⟩ ::
 ⟨26, [71, 76], [], some 77, _, none⟩ ::
 ⟨27, [71, 77], [], some 78, _, none⟩ ::
 ⟨28, [71, 78], [], some 79, _, none⟩ ::
 ⟨29, [71, 75, 79], [], some 80, _, none⟩ ::
 ⟨30, [71, 80], [], some 81, _, none⟩ ::
 ⟨31, [81], [], some 82, _, none⟩ ::
 ⟨32, [7, 82], [], some 83, _, none⟩ ::
 ⟨33, [9, 82], [], some 84, _, none⟩ ::
 ⟨34, [82, 83, 84], [], some 85, _, none⟩ ::
 ⟨35, [8, 82], [], some 86, _, none⟩ ::
 ⟨36, [9, 82], [], some 87, _, none⟩ ::
 ⟨37, [82, 86, 87], [], some 88, _, none⟩ ::
 ⟨38, [82, 85, 88], [], some 89, _, none⟩ ::
 ⟨39, [82, 89], [], some 90, _, none⟩ ::
 ⟨40, [82, 90], [], some 91, _, none⟩ ::
            [])
         (kN_ 0 [9] [] 51 ::
 kN_ 1 [51] [] 52 ::
 kN_ 2 [52] [] 53 ::
 kN_ 3 [9, 53] [] 54 ::
 kN_ 4 [8, 53] [] 55 ::
 kN_ 5 [53, 55] [] 56 ::
 kN_ 6 [53, 54, 56] [] 57 ::
 kN_ 7 [53, 57] [] 58 ::
 kN_ 8 [58] [] 59 ::
 kN_ 9 [7, 59] [] 60 ::
 kN_ 10 [59, 60] [] 61 ::
 kN_ 11 [59, 61] [] 62 ::
 kN_ 12 [59, 62] [] 63 ::
 kN_ 13 [8, 59] [] 64 ::
 kN_ 14 [59, 64] [] 65 ::
 kN_ 15 [59, 65] [] 66 ::
 kN_ 16 [59, 66] [] 67 ::
 kN_ 17 [59, 63, 67] [] 68 ::
 kN_ 18 [59, 68] [] 69 ::
 kN_ 19 [59, 69] [] 70 ::
 kN_ 20 [70] [] 71 ::
 kN_ 21 [7, 71] [] 72 ::
 kN_ 22 [71, 72] [] 73 ::
 kN_ 23 [71, 73] [] 74 ::
 kN_ 24 [71, 74] [] 75 ::
 kN_ 25 [8, 71] [] 76 ::
 kN_ 26 [71, 76] [] 77 ::
 kN_ 27 [71, 77] [] 78 ::
 kN_ 28 [71, 78] [] 79 ::
 kN_ 29 [71, 75, 79] [] 80 ::
 kN_ 30 [71, 80] [] 81 ::
 kN_ 31 [81] [] 82 ::
 kN_ 32 [7, 82] [] 83 ::
 kN_ 33 [9, 82] [] 84 ::
 kN_ 34 [82, 83, 84] [] 85 ::
 kN_ 35 [8, 82] [] 86 ::
 kN_ 36 [9, 82] [] 87 ::
 kN_ 37 [82, 86, 87] [] 88 ::
 kN_ 38 [82, 85, 88] [] 89 ::
 kN_ 39 [82, 89] [] 90 ::
 kN_ 40 [82, 90] [] 91 ::
             [])
         mixed_ok rfl (by kernel_rfl) ⟨dK_ fun s0 => oG_ rfl rfl (q_move),
 dK_ fun s0 => oG_ rfl rfl ((OpOk.dec_f (q_eql) (fun k => h1 (Int.ofNat_inj.1 k)))),
 dK_ fun s0 => oG_ rfl rfl (q_move),
 dK_ fun s0 => oO_ rfl rfl rfl rfl rfl (q_move),
 dK_ fun s0 => oO_ rfl rfl rfl rfl rfl (q_move),
 dK_ fun s0 => oO_ rfl rfl rfl rfl rfl (q_call (0) (hc := (c_ciceroneref24_group b hB hBn))),
 dK_ fun s0 => oO_ rfl rfl rfl rfl rfl ((OpOk.dec_f (q_neq) (fun k => k (congrArg (fun x : Nat => (x : Int)) h2)))),
 dK_ fun s0 => oG_ rfl rfl (q_pick),
 dK_ fun s0 => oG_ rfl rfl (q_move (hy := by exact rfl)),
 dK_ fun s0 => oO_ rfl rfl rfl rfl rfl (q_move),
 dK_ fun s0 => oO_ rfl rfl rfl rfl rfl (q_ix),
 dK_ fun s0 => oO_ rfl rfl rfl rfl rfl (q_fa),
 dK_ fun s0 => oO_ rfl rfl rfl rfl rfl (q_load),
 dK_ fun s0 => oO_ rfl rfl rfl rfl rfl (q_move),
 dK_ fun s0 => oO_ rfl rfl rfl rfl rfl (q_ix),
 dK_ fun s0 => oO_ rfl rfl rfl rfl rfl (q_fa),
 dK_ fun s0 => oO_ rfl rfl rfl rfl rfl (q_load),
 dK_ fun s0 => oO_ rfl rfl rfl rfl rfl ((OpOk.bool_is (c := true) (q_call (0) (hc := (c_ciceroneref01_Same (a.getD 0 default).nm (b.getD 0 default).nm (by omega) (by omega)))) (h3))),
 dK_ fun s0 => oO_ rfl rfl rfl rfl rfl (q_not),
 dK_ fun s0 => oG_ rfl rfl (q_pick),
 dK_ fun s0 => oG_ rfl rfl (q_move (hy := by exact rfl)),
 dK_ fun s0 => oO_ rfl rfl rfl rfl rfl (q_move),
 dK_ fun s0 => oO_ rfl rfl rfl rfl rfl (q_ix),
 dK_ fun s0 => oO_ rfl rfl rfl rfl rfl (q_fa),
 dK_ fun s0 => oO_ rfl rfl rfl rfl rfl (q_load),
 dK_ fun s0 => oO_ rfl rfl rfl rfl rfl (q_move),
 dK_ fun s0 => oO_ rfl rfl rfl rfl rfl (q_ix),
 dK_ fun s0 => oO_ rfl rfl rfl rfl rfl (q_fa),
 dK_ fun s0 => oO_ rfl rfl rfl rfl rfl (q_load),
 dK_ fun s0 => oO_ rfl rfl rfl rfl rfl ((OpOk.dec_f (q_neq) (fun k => k h4))),
 dK_ fun s0 => oG_ rfl rfl (q_pick),
 dK_ fun s0 => oG_ rfl rfl (q_move (hy := by exact rfl)),
 dK_ fun s0 => oO_ rfl rfl rfl rfl rfl (q_move),
 dK_ fun s0 => oO_ rfl rfl rfl rfl rfl (q_move),
 dK_ fun s0 => oO_ rfl rfl rfl rfl rfl (q_sl),
 dK_ fun s0 => oO_ rfl rfl rfl rfl rfl (q_move),
 dK_ fun s0 => oO_ rfl rfl rfl rfl rfl (q_move),
 dK_ fun s0 => oO_ rfl rfl rfl rfl rfl (q_sl),
 dK_ fun s0 => oO_ rfl rfl rfl rfl rfl ((OpOk.bool_is (c := false) (q_call (0) (hc := (c_ciceroneref24_sets (a.take (grp a)) (b.take (grp a)) (hA.take _) (hB.take _)))) (h5))),
 dK_ fun s0 => oO_ rfl rfl rfl rfl rfl (q_not),
 dK_ fun s0 => oG_ rfl rfl (q_pick), trivial⟩ ?_
        dsimp only [final, DS.upd, AS.seto]
        refine AWp.cond_t rfl ?_
        refine AWp.seq ?_
        refine AWp.region ?_
        refine aC_ rfl rfl (q_assign) ?_
        refine AOps.nil ?_
        refine AWp.ret ?_
        show Fin te Try.f29 _ _
        refine q_ret (0) [_] [_] ?_
        rw [hgo, ← hE, refT_no (by omega) (by rw [okG, h5]; simp)]; rfl
       ·
        refine AWp.draws (⟨0, [9], [], some 51, _, none⟩ ::
 ⟨1, [51], [], some 52, _, none⟩ ::
 ⟨2, [52], [], some 53, _, none⟩ ::
 ⟨3, [9, 53], [], some 54, _, none⟩ ::
 ⟨4, [8, 53], [], some 55, _, none⟩ ::
 ⟨5, [53, 55], [], some 56, _, none⟩ ::
 ⟨6, [53, 54, 56], [], some 57, _, none⟩ ::
 ⟨7, [53, 57], [], some 58, _, none⟩ ::
 ⟨8, [58], [], some 59, _, none⟩ ::
 ⟨9, [7, 59], [], some 60, _, none⟩ ::
 ⟨10, [59, 60], [], some 61, _, none⟩ ::
 ⟨11, [59, 61], [], some 62, _, none⟩ ::
 ⟨12, [59, 62], [], some 63, _, none⟩ ::
 ⟨13, [8, 59], [], some 64, _, none⟩ ::
 ⟨14, [59, 64], [], some 65, _, none⟩ ::
 ⟨15, [59, 65], [], some 66, _, none⟩ ::
 ⟨16, [59, 66], [], some 67, _, none⟩ ::
 ⟨17, [59, 63, 67], [], some 68, _, none⟩ ::
 ⟨18, [59, 68], [], some 69, _, none⟩ ::
 ⟨19, [59, 69], [], some 70, _, none⟩ ::
 ⟨20, [70], [], some 71, _, none⟩ ::
 ⟨21, [7, 71], [], some 72, _, none⟩ ::
 ⟨22, [71, 72], [], some 73, _, none⟩ ::
 ⟨23, [71, 73], [], some 74, _, none⟩ ::
 ⟨24, [71, 74], [], some 75, _, none⟩ ::
 ⟨25, [8, 71], [], some 76, _, none⟩ ::
 ⟨26, [71, 76], [], some 77, _, none⟩ ::
 ⟨27, [71, 77], [], some 78, _, none⟩ ::
 ⟨28, [71, 78], [], some 79, _, none⟩ ::
 ⟨29, [71, 75, 79], [], some 80, _, none⟩ ::
 ⟨30, [71, 80], [], some 81, _, none⟩ ::
 ⟨31, [81], [], some 82, _, none⟩ ::
 ⟨32, [7, 82], [], some 83, _, none⟩ ::
 ⟨33, [9, 82], [], some 84, _, none⟩ ::
 ⟨34, [82, 83, 84], [], some 85, _, none⟩ ::
 ⟨35, [8, 82], [], some 86, _, none⟩ ::
 ⟨36, [9, 82], [], some 87, _, none⟩ ::
 ⟨37, [82, 86, 87], [], some 88, _, none⟩ ::
 ⟨38, [82, 85, 88], [], some 89, _, none⟩ ::
 ⟨39, [82, 89], [], some 90, _, none⟩ ::
 ⟨40, [82, 90], [], some 91, _, none⟩ ::
            [])
         (kN_ 0 [9] [] 51 ::
 kN_ 1 [51] [] 52 ::
 kN_ 2 [52] [] 53 ::
 kN_ 3 [9, 53] [] 54 ::
 kN_ 4 [8, 53] [] 55 ::
 kN_ 5 [53, 55] [] 56 ::
 kN_ 6 [53, 54, 56] [] 57 ::
 kN_ 7 [53, 57] [] 58 ::
 kN_ 8 [58] [] 59 ::
 kN_ 9 [7, 59] [] 60 ::
 kN_ 10 [59, 60] [] 61 ::
 kN_ 11 [59, 61] [] 62 ::
 kN_ 12 [59, 62] [] 63 ::
 kN_ 13 [8, 59] [] 64 ::
 kN_ 14 [59, 64] [] 65 ::
 kN_ 15 [59, 65] [] 66 ::
 kN_ 16 [59, 66] [] 67 ::
 kN_ 17 [59, 63, 67] [] 68 ::
 kN_ 18 [59, 68] [] 69 ::
 kN_ 19 [59, 69] [] 70 ::
 kN_ 20 [70] [] 71 ::
 kN_ 21 [7, 71] [] 72 ::
 kN_ 22 [71, 72] [] 73 ::
 kN_ 23 [71, 73] [] 74 ::
 kN_ 24 [71, 74] [] 75 ::
 kN_ 25 [8, 71] [] 76 ::
 kN_ 26 [71, 76] [] 77 ::
 kN_ 27 [71, 77] [] 78 ::
 kN_ 28 [71, 78] [] 79 ::
 kN_ 29 [71, 75, 79] [] 80 ::
 kN_ 30 [71, 80] [] 81 ::
 kN_ 31 [81] [] 82 ::
 kN_ 32 [7, 82] [] 83 ::
 kN_ 33 [9, 82] [] 84 ::
 kN_ 34 [82, 83, 84] [] 85 ::
 kN_ 35 [8, 82] [] 86 ::
 kN_ 36 [9, 82] [] 87 ::
 kN_ 37 [82, 86, 87] [] 88 ::
 kN_ 38 [82, 85, 88] [] 89 ::
 kN_ 39 [82, 89] [] 90 ::
 kN_ 40 [82, 90] [] 91 ::
             [])
         mixed_ok rfl (by kernel_rfl) ⟨dK_ fun s0 => oG_ rfl rfl (q_move),
 dK_ fun s0 => oG_ rfl rfl ((OpOk.dec_f (q_eql) (fun k => h1 (Int.ofNat_inj.1 k)))),
 dK_ fun s0 => oG_ rfl rfl (q_move),
 dK_ fun s0 => oO_ rfl rfl rfl rfl rfl (q_move),
 dK_ fun s0 => oO_ rfl rfl rfl rfl rfl (q_move),
 dK_ fun s0 => oO_ rfl rfl rfl rfl rfl (q_call (0) (hc := (c_ciceroneref24_group b hB hBn))),
 dK_ fun s0 => oO_ rfl rfl rfl rfl rfl ((OpOk.dec_f (q_neq) (fun k => k (congrArg (fun x : Nat => (x : Int)) h2)))),
 dK_ fun s0 => oG_ rfl rfl (q_pick),
 dK_ fun s0 => oG_ rfl rfl (q_move (hy := by exact rfl)),
 dK_ fun s0 => oO_ rfl rfl rfl rfl rfl (q_move),
 dK_ fun s0 => oO_ rfl rfl rfl rfl rfl (q_ix),
 dK_ fun s0 => oO_ rfl rfl rfl rfl rfl (q_fa),
 dK_ fun s0 => oO_ rfl rfl rfl rfl rfl (q_load),
 dK_ fun s0 => oO_ rfl rfl rfl rfl rfl (q_move),
 dK_ fun s0 => oO_ rfl rfl rfl rfl rfl (q_ix),
 dK_ fun s0 => oO_ rfl rfl rfl rfl rfl (q_fa),
 dK_ fun s0 => oO_ rfl rfl rfl rfl rfl (q_load),
 dK_ fun s0 => oO_ rfl rfl rfl rfl rfl ((OpOk.bool_is (c := true) (q_call (0) (hc := (c_ciceroneref01_Same (a.getD 0 default).nm (b.getD 0 default).nm (by omega) (by omega)))) (h3))),
 dK_ fun s0 => oO_ rfl rfl rfl rfl rfl (q_not),
 dK_ fun s0 => oG_ rfl rfl (q_pick),
 dK_ fun s0 => oG_ rfl rfl (q_move (hy := by exact rfl)),
 dK_ fun s0 => oO_ rfl rfl rfl rfl rfl (q_move),
 dK_ fun s0 => oO_ rfl rfl rfl rfl rfl (q_ix),
 dK_ fun s0 => oO_ rfl rfl rfl rfl rfl (q_fa),
 dK_ fun s0 => oO_ rfl rfl rfl rfl rfl (q_load),
 dK_ fun s0 => oO_ rfl rfl rfl rfl rfl (q_move),
 dK_ fun s0 => oO_ rfl rfl rfl rfl rfl (q_ix),
 dK_ fun s0 => oO_ rfl rfl rfl rfl rfl (q_fa),
 dK_ fun s0 => oO_ rfl rfl rfl rfl rfl (q_load),
 dK_ fun s0 => oO_ rfl rfl rfl rfl rfl ((OpOk.dec_f (q_neq) (fun k => k h4))),
 dK_ fun s0 => oG_ rfl rfl (q_pick),
 dK_ fun s0 => oG_ rfl rfl (q_move (hy := by exact rfl)),
 dK_ fun s0 => oO_ rfl rfl rfl rfl rfl (q_move),
 dK_ fun s0 => oO_ rfl rfl rfl rfl rfl (q_move),
 dK_ fun s0 => oO_ rfl rfl rfl rfl rfl (q_sl),
 dK_ fun s0 => oO_ rfl rfl rfl rfl rfl (q_move),
 dK_ fun s0 => oO_ rfl rfl rfl rfl rfl (q_move),
 dK_ fun s0 => oO_ rfl rfl rfl rfl rfl (q_sl),
 dK_ fun s0 => oO_ rfl rfl rfl rfl rfl ((OpOk.bool_is (c := true) (q_call (0) (hc := (c_ciceroneref24_sets (a.take (grp a)) (b.take (grp a)) (hA.take _) (hB.take _)))) (h5))),
 dK_ fun s0 => oO_ rfl rfl rfl rfl rfl (q_not),
 dK_ fun s0 => oG_ rfl rfl (q_pick), trivial⟩ ?_
        dsimp only [final, DS.upd, AS.seto]
        refine AWp.cond_f rfl ?_
        refine AWp.skip ?_
        refine AWp.draws [⟨0, [7], [], some 92, _, none⟩,
 ⟨1, [9], [], some 93, _, none⟩,
 ⟨2, [92, 93], [], some 94, _, none⟩,
 ⟨3, [8], [], some 95, _, none⟩,
 ⟨4, [9], [], some 96, _, none⟩,
 ⟨5, [95, 96], [], some 97, _, none⟩,
 ⟨6, [94], [], some 7, _, none⟩,
 ⟨7, [97], [], some 8, _, none⟩]
         [kN_ 0 [7] [] 92,
 kN_ 1 [9] [] 93,
 kN_ 2 [92, 93] [] 94,
 kN_ 3 [8] [] 95,
 kN_ 4 [9] [] 96,
 kN_ 5 [95, 96] [] 97,
 kN_ 6 [94] [] 7,
 kN_ 7 [97] [] 8]
         mixed_ok rfl (by kernel_rfl) ⟨dK_ fun s0 => oG_ rfl rfl (q_move),
 dK_ fun s0 => oG_ rfl rfl (q_move),
 dK_ fun s0 => oG_ rfl rfl (q_sl),
 dK_ fun s0 => oG_ rfl rfl (q_move),
 dK_ fun s0 => oG_ rfl rfl (q_move),
 dK_ fun s0 => oG_ rfl rfl (q_sl),
 dK_ fun s0 => oG_ rfl rfl (q_assign),
 dK_ fun s0 => oG_ rfl rfl (q_assign), trivial⟩ ?_
        dsimp only [final, DS.upd, AS.seto]
        refine ⟨(a.drop (grp a), b.drop (grp a)), ?_, Back.mk' (HasT.cons (HasT.cons HasT.nil)) HasH.nil, ?_⟩
        ·
         try dsimp only
         exact ⟨by rw [← hE, refT_go h1 (by rw [okG, decide_eq_true h2, h3, decide_eq_true h4, h5]; rfl)], hA.drop _, hAn.drop _, hB.drop _, hBn.drop _⟩
        ·
         try dsimp only
         rw [List.length_drop]; omega
      ·
       refine AOps.nil ?_
       refine AWp.cond_f rfl ?_
       refine AWp.exit ?_
       refine AWp.seq ?_
       refine AWp.region ?_
       refine aC_ rfl rfl (q_assign) ?_
       refine AOps.nil ?_
       refine AWp.ret ?_
       show Fin te Try.f29 _ _
       refine q_ret (0) [_] [_] ?_
       rw [hgo, ← hE, refT_end (by omega)]; rfl
  ·
   refine aC_ rfl rfl (q_not) ?_
   refine aC_ rfl rfl (q_move) ?_
   refine aG_ rfl rfl rfl rfl rfl rfl rfl rfl ?_
   refine aG_ rfl rfl rfl rfl rfl rfl rfl rfl ?_
   refine aG_ rfl rfl rfl rfl rfl rfl rfl rfl ?_
   refine aG_ rfl rfl rfl rfl rfl rfl rfl rfl ?_
   refine aG_ rfl rfl rfl rfl rfl rfl rfl rfl ?_
   refine aG_ rfl rfl rfl rfl rfl rfl rfl rfl ?_
   refine aC_ rfl rfl (q_pick) ?_
   refine aC_ rfl rfl (q_move) ?_
   refine aG_ rfl rfl rfl rfl rfl rfl rfl rfl ?_
   refine aG_ rfl rfl rfl rfl rfl rfl rfl rfl ?_
   refine aG_ rfl rfl rfl rfl rfl rfl rfl rfl ?_
   refine aG_ rfl rfl rfl rfl rfl rfl rfl rfl ?_
   refine aG_ rfl rfl rfl rfl rfl rfl rfl rfl ?_
   refine aG_ rfl rfl rfl rfl rfl rfl rfl rfl ?_
   refine aG_ rfl rfl rfl rfl rfl rfl rfl rfl ?_
   refine aC_ rfl rfl (q_pick) ?_
   refine AOps.nil ?_
   refine AWp.cond_t rfl ?_
   refine AWp.seq ?_
   refine AWp.region ?_
   refine aC_ rfl rfl (q_assign) ?_
   refine AOps.nil ?_
   refine AWp.ret ?_
   show Fin te Try.f29 _ _
   refine q_ret (0) [_] [_] ?_
   rw [rv_2 h4_0]; rfl
end Go.Proofs.Ytokccoloholgaaa.Fw


set_option linter.unusedVariables false
set_option linter.unusedSimpArgs false
namespace Go.Proofs.Ytokccoloholgaaa.Fw
open Go.RowKit
structure Ev where
  rp : Bool
  st : Int
  tm : Int
  m : Msg
  deriving Inhabited, DecidableEq
def evC (x : Ev) : List AV := [tf x.rp, i64 x.st, i64 x.tm, i64 x.m.h.id, tf x.m.h.resp, i64 x.m.h.op, tf x.m.h.aa, tf x.m.h.tc, tf x.m.h.rd, tf x.m.h.ra, i64 x.m.h.code, .fz 0 x.m.qs.length (cl quc x.m.qs), .fz 0 x.m.an.length (cl rrc x.m.an), .fz 0 x.m.au.length (cl rrc x.m.au), .fz 0 x.m.ad.length (cl rrc x.m.ad)]
def EvsOk (l : List Ev) : Prop := l.length * 160 ≤ 140737488351232 ∧ ∀ x ∈ l, MsgOk x.m
def ansB (q r : Ev) : Bool := !q.rp && decide (q.st = r.st) && decide (q.m.h.id = r.m.h.id) && decide (q.m.h.op = r.m.h.op) && (q.m.h.rd == r.m.h.rd) && decide ((q.m.qs.length : Int) = 1) && decide (q.m.qs = r.m.qs)
def okB (r : Ev) : Bool := r.m.h.resp && r.m.h.ra
def fitB (l : List Ev) (done : List Bool) (r : Ev) (j : Nat) : Bool := !done.getD j false && ansB (l.getD j default) r
def prdF (l : List Ev) : Nat → Nat → List Bool → Bool
  | 0, _, _ => true
  | n + 1, i, done => if (l.getD i default).rp then
      match (List.range i).find? (fitB l done (l.getD i default)) with
      | none => false
      | some j => if okB (l.getD i default) then prdF l n (i + 1) (done.set j true) else false
    else prdF l n (i + 1) done
def prd (l : List Ev) : Bool := prdF l l.length 0 (List.replicate l.length false)
theorem prdF_q {l : List Ev} {n i : Nat} {done : List Bool} (h : (l.getD i default).rp = false) : prdF l (n + 1) i done = prdF l n (i + 1) done := by rw [prdF, h]; rfl
theorem prdF_no {l : List Ev} {n i : Nat} {done : List Bool} (h : (l.getD i default).rp = true) (hf : ∀ j, j < i → fitB l done (l.getD i default) j = false) : prdF l (n + 1) i done = false := by
  rw [prdF, if_pos h]
  have : (List.range i).find? (fitB l done (l.getD i default)) = none := by
    rw [List.find?_eq_none]; intro j hj; rw [List.mem_range] at hj; rw [hf j hj]; exact Bool.false_ne_true
  rw [this]
theorem find_first {p : Nat → Bool} {i j : Nat} (hj : j < i) (h : p j = true) (hf : ∀ k, k < j → p k = false) : (List.range i).find? p = some j := by
  rw [List.find?_range_eq_some]
  exact ⟨h, by simpa using hj, fun k hk => by simp [hf k hk]⟩
theorem prdF_yes {l : List Ev} {n i j : Nat} {done : List Bool} (h : (l.getD i default).rp = true) (hj : j < i) (hfj : fitB l done (l.getD i default) j = true) (hf : ∀ k, k < j → fitB l done (l.getD i default) k = false) :
    prdF l (n + 1) i done = if okB (l.getD i default) then prdF l n (i + 1) (done.set j true) else false := by
  rw [prdF, if_pos h, find_first hj hfj hf]
structure Open (l : List Ev) (i : Nat) (m : List (Int × Bool)) (done : List Bool) : Prop where
  nd : MNd m
  len : done.length = l.length
  fresh : ∀ j : Nat, i ≤ j → done.getD j false = false
  dom : ∀ j : Nat, (mget m (j : Int)).getD false = true → j < i
  get : ∀ j : Nat, j < i → (mget m (j : Int)).getD false = (!(l.getD j default).rp && !done.getD j false)
theorem Open.start (l : List Ev) : Open l 0 [] (List.replicate l.length false) := ⟨MNd.nil, by simp, fun j _ => by
  rw [List.getD_eq_getElem?_getD, List.getElem?_replicate]; split <;> rfl, fun j h => by simp [mget] at h, fun j h => absurd h (by omega)⟩
theorem Open.query {l : List Ev} {i : Nat} {m : List (Int × Bool)} {done : List Bool} (h : Open l i m done) (hq : (l.getD i default).rp = false) : Open l (i + 1) (mput m (i : Int) true) done := by
  refine ⟨h.nd.put _ _, h.len, fun j hj => h.fresh j (by omega), fun j hj => ?_, fun j hj => ?_⟩
  · rw [mget_put] at hj
    by_cases e : (i : Int) = j
    · omega
    · rw [if_neg e] at hj; have := h.dom j hj; omega
  · rw [mget_put]
    by_cases e : (i : Int) = j
    · obtain rfl : i = j := by omega
      rw [if_pos rfl, hq, h.fresh i (Nat.le_refl _)]; rfl
    · rw [if_neg e]; exact h.get j (by omega)
theorem Open.reply {l : List Ev} {i k : Nat} {m : List (Int × Bool)} {done : List Bool} (h : Open l i m done) (hk : k < i) (hi : i < l.length) (hr : (l.getD i default).rp = true) : Open l (i + 1) (mdel m (k : Int)) (done.set k true) := by
  have hset : ∀ j, k ≠ j → (done.set k true).getD j false = done.getD j false := fun j e => by
    rw [List.getD_eq_getElem?_getD, List.getD_eq_getElem?_getD, List.getElem?_set_ne e]
  refine ⟨h.nd.del _, by simp [h.len], fun j hj => by rw [hset j (by omega)]; exact h.fresh j (by omega), fun j hj => ?_, fun j hj => ?_⟩
  · rw [mget_del h.nd] at hj
    by_cases e : (k : Int) = j
    · rw [if_pos e] at hj; cases hj
    · rw [if_neg e] at hj; have := h.dom j hj; omega
  · rw [mget_del h.nd]
    by_cases e : (k : Int) = j
    · obtain rfl : k = j := by omega
      have : (done.set k true).getD k false = true := by
        rw [List.getD_eq_getElem?_getD, List.getElem?_set_self (by rw [h.len]; omega)]; rfl
      rw [if_pos rfl, this]; simp
    · rw [if_neg e, hset j (by omega)]
      by_cases e2 : j = i
      · subst e2
        rw [hr, Bool.not_true, Bool.false_and]
        cases hx : (mget m (j : Int)).getD false with
        | false => rfl
        | true => exact absurd (h.dom j hx) (by omega)
      · exact h.get j (by omega)
theorem Open.fit {l : List Ev} {i j : Nat} {m : List (Int × Bool)} {done : List Bool} (h : Open l i m done) (hj : j < i) (r : Ev) : fitB l done r j = ((mget m (j : Int)).getD false && ansB (l.getD j default) r) := by
  rw [h.get j hj, fitB, ansB]
  cases (l.getD j default).rp <;> cases done.getD j false <;> simp
set_option maxRecDepth 20000 in
set_option maxHeartbeats 2000000 in
theorem c_audit_answers (q r : Ev) (hq : MsgOk q.m) : AC Try.prog 72 [.agg (evC q), .agg (evC r)] emp (Ret (tf (ansB q r))) := by
 refine AC.intro te_ok (fn := Try.f72) ⟨Try.func72, rfl, rfl⟩ (Nat.le_of_ble_eq_true rfl) ?_
 refine AWp.seq ?_
 refine AWp.region ?_
 refine aC_ rfl rfl (q_box 100) ?_
 refine aC_ rfl rfl (q_box 101) ?_
 refine aC_ rfl rfl (q_assign) ?_
 refine AOps.nil ?_
 refine AWp.seq ?_
 refine AWp.draws [⟨0, [2], [100], some 7, _, none⟩,
 ⟨1, [7], [100], some 8, _, none⟩,
 ⟨2, [3], [101], some 9, _, none⟩,
 ⟨3, [9], [101], some 10, _, none⟩,
 ⟨4, [], [204], some 5, _, some (204, _)⟩,
 ⟨5, [], [205], some 6, _, some (205, _)⟩,
 ⟨6, [5, 8], [204], none, _, some (204, _)⟩,
 ⟨7, [6, 10], [205], none, _, some (205, _)⟩]
  [kN_ 0 [2] [100] 7,
 kN_ 1 [7] [100] 8,
 kN_ 2 [3] [101] 9,
 kN_ 3 [9] [101] 10,
 ⟨4, [], [204], some 5, .any, some (204, .box [])⟩,
 ⟨5, [], [205], some 6, .any, some (205, .box [])⟩,
 ⟨6, [5, 8], [204], none, .any, some (204, .box [])⟩,
 ⟨7, [6, 10], [205], none, .any, some (205, .box [])⟩]
  mixed_ok rfl (by kernel_rfl) ⟨dK_ fun s0 => oG_ rfl rfl (q_fa),
 dK_ fun s0 => oG_ rfl rfl (q_load),
 dK_ fun s0 => oG_ rfl rfl (q_fa),
 dK_ fun s0 => oG_ rfl rfl (q_load),
 dK_ fun s0 => oG_ rfl rfl (q_alloc 204),
 dK_ fun s0 => oG_ rfl rfl (q_alloc 205),
 dK_ fun s0 => oG_ rfl rfl (q_store),
 dK_ fun s0 => oG_ rfl rfl (q_store), trivial⟩ ?_
 dsimp only [final, DS.upd, AS.seto]
 refine AWp.seq ?_
 refine AWp.region ?_
 refine aC_ rfl rfl (q_fa) ?_
 refine AOps.bool rfl rfl (q_load) (fun h2_1 => ?_) (fun h2_1 => ?_)
 ·
  refine aC_ rfl rfl (q_not) ?_
  refine aC_ rfl rfl (q_move) ?_
  refine aG_ rfl rfl rfl rfl rfl rfl rfl rfl ?_
  refine aG_ rfl rfl rfl rfl rfl rfl rfl rfl ?_
  refine aG_ rfl rfl rfl rfl rfl rfl rfl rfl ?_
  refine aG_ rfl rfl rfl rfl rfl rfl rfl rfl ?_
  refine aG_ rfl rfl rfl rfl rfl rfl rfl rfl ?_
  refine aC_ rfl rfl (q_pick) ?_
  refine aC_ rfl rfl (q_move) ?_
  refine aG_ rfl rfl rfl rfl rfl rfl rfl rfl ?_
  refine aG_ rfl rfl rfl rfl rfl rfl rfl rfl ?_
  refine aG_ rfl rfl rfl rfl rfl rfl rfl rfl ?_
  refine aG_ rfl rfl rfl rfl rfl rfl rfl rfl ?_
  refine aG_ rfl rfl rfl rfl rfl rfl rfl rfl ?_
  refine aG_ rfl rfl rfl rfl rfl rfl rfl rfl ?_
  refine aG_ rfl rfl rfl rfl rfl rfl rfl rfl ?_
  refine aC_ rfl rfl (q_pick) ?_
  refine aC_ rfl rfl (q_move) ?_
  refine aG_ rfl rfl rfl rfl rfl rfl rfl rfl ?_
  refine aG_ rfl rfl rfl rfl rfl rfl rfl rfl ?_
  refine aG_ rfl rfl rfl rfl rfl rfl rfl rfl ?_
  refine aG_ rfl rfl rfl rfl rfl rfl rfl rfl ?_
  refine aG_ rfl rfl rfl rfl rfl rfl rfl rfl ?_
  refine aG_ rfl rfl rfl rfl rfl rfl rfl rfl ?_
  refine aG_ rfl rfl rfl rfl rfl rfl rfl rfl ?_
  refine aC_ rfl rfl (q_pick) ?_
  refine aC_ rfl rfl (q_move) ?_
  refine aG_ rfl rfl rfl rfl rfl rfl rfl rfl ?_
  refine aG_ rfl rfl rfl rfl rfl rfl rfl rfl ?_
  refine aG_ rfl rfl rfl rfl rfl rfl rfl rfl ?_
  refine aG_ rfl rfl rfl rfl rfl rfl rfl rfl ?_
  refine aG_ rfl rfl rfl rfl rfl rfl rfl rfl ?_
  refine aG_ rfl rfl rfl rfl rfl rfl rfl rfl ?_
  refine aG_ rfl rfl rfl rfl rfl rfl rfl rfl ?_
  refine aC_ rfl rfl (q_pick) ?_
  refine aC_ rfl rfl (q_move) ?_
  refine aG_ rfl rfl rfl rfl rfl rfl rfl rfl ?_
  refine aG_ rfl rfl rfl rfl rfl rfl rfl rfl ?_
  refine aG_ rfl rfl rfl rfl rfl rfl rfl rfl ?_
  refine aG_ rfl rfl rfl rfl rfl rfl rfl rfl ?_
  refine aC_ rfl rfl (q_pick) ?_
  refine aC_ rfl rfl (q_move) ?_
  refine aG_ rfl rfl rfl rfl rfl rfl rfl rfl ?_
  refine aG_ rfl rfl rfl rfl rfl rfl rfl rfl ?_
  refine aG_ rfl rfl rfl rfl rfl rfl rfl rfl ?_
  refine aG_ rfl rfl rfl rfl rfl rfl rfl rfl ?_
  refine aG_ rfl rfl rfl rfl rfl rfl rfl rfl ?_
  refine aC_ rfl rfl (q_pick) ?_
  refine aC_ rfl rfl (q_assign) ?_
  refine AOps.nil ?_
  refine AWp.ret ?_
  show Fin te Try.f72 _ _
  refine q_ret (0) [_] [_] ?_
  exact congrArg tf (by simp [ansB, *])
 ·
  refine aC_ rfl rfl (q_not) ?_
  refine aC_ rfl rfl (q_move) ?_
  refine AOps.gcons rfl rfl rfl rfl rfl (q_fa) ?_
  refine AOps.gcons rfl rfl rfl rfl rfl (q_load) ?_
  refine AOps.gcons rfl rfl rfl rfl rfl (q_fa) ?_
  refine AOps.gcons rfl rfl rfl rfl rfl (q_load) ?_
  refine AOps.gdec rfl rfl rfl rfl rfl (q_eql) (fun h2_8 => ?_) (fun h2_8 => ?_)
  ·
   refine aC_ rfl rfl (q_pick) ?_
   refine aC_ rfl rfl (q_move) ?_
   refine AOps.gcons rfl rfl rfl rfl rfl (q_fa) ?_
   refine AOps.gcons rfl rfl rfl rfl rfl (q_fa) ?_
   refine AOps.gcons rfl rfl rfl rfl rfl (q_load) ?_
   refine AOps.gcons rfl rfl rfl rfl rfl (q_fa) ?_
   refine AOps.gcons rfl rfl rfl rfl rfl (q_fa) ?_
   refine AOps.gcons rfl rfl rfl rfl rfl (q_load) ?_
   refine AOps.gdec rfl rfl rfl rfl rfl (q_eql) (fun h2_17 => ?_) (fun h2_17 => ?_)
   ·
    refine aC_ rfl rfl (q_pick) ?_
    refine aC_ rfl rfl (q_move) ?_
    refine AOps.gcons rfl rfl rfl rfl rfl (q_fa) ?_
    refine AOps.gcons rfl rfl rfl rfl rfl (q_fa) ?_
    refine AOps.gcons rfl rfl rfl rfl rfl (q_load) ?_
    refine AOps.gcons rfl rfl rfl rfl rfl (q_fa) ?_
    refine AOps.gcons rfl rfl rfl rfl rfl (q_fa) ?_
    refine AOps.gcons rfl rfl rfl rfl rfl (q_load) ?_
    refine AOps.gdec rfl rfl rfl rfl rfl (q_eql) (fun h2_26 => ?_) (fun h2_26 => ?_)
    ·
     refine aC_ rfl rfl (q_pick) ?_
     refine aC_ rfl rfl (q_move) ?_
     refine AOps.gcons rfl rfl rfl rfl rfl (q_fa) ?_
     refine AOps.gcons rfl rfl rfl rfl rfl (q_fa) ?_
     refine AOps.gcons rfl rfl rfl rfl rfl (q_load) ?_
     refine AOps.gcons rfl rfl rfl rfl rfl (q_fa) ?_
     refine AOps.gcons rfl rfl rfl rfl rfl (q_fa) ?_
     refine AOps.gcons rfl rfl rfl rfl rfl (q_load) ?_
     refine AOps.gbool rfl rfl rfl rfl rfl (q_beql) (fun h2_35 => ?_) (fun h2_35 => ?_)
     ·
      refine aC_ rfl rfl (q_pick) ?_
      refine aC_ rfl rfl (q_move) ?_
      refine AOps.gcons rfl rfl rfl rfl rfl (q_fa) ?_
      refine AOps.gcons rfl rfl rfl rfl rfl (q_load) ?_
      refine AOps.gcons rfl rfl rfl rfl rfl (q_len) ?_
      refine AOps.gdec rfl rfl rfl rfl rfl (q_eql) (fun h2_41 => ?_) (fun h2_41 => ?_)
      ·
       refine aC_ rfl rfl (q_pick) ?_
       refine aC_ rfl rfl (q_move) ?_
       refine AOps.gcons rfl rfl rfl rfl rfl (q_fa) ?_
       refine AOps.gcons rfl rfl rfl rfl rfl (q_load) ?_
       refine AOps.gcons rfl rfl rfl rfl rfl (q_fa) ?_
       refine AOps.gcons rfl rfl rfl rfl rfl (q_load) ?_
       refine AOps.gcons rfl rfl rfl rfl rfl (q_call (0) (hc := (c_Equal_qu q.m.qs r.m.qs 0 0 (by have := hq.1; omega)))) ?_
       refine aC_ rfl rfl (q_pick) ?_
       refine aC_ rfl rfl (q_assign) ?_
       refine AOps.nil ?_
       refine AWp.ret ?_
       show Fin te Try.f72 _ _
       refine q_ret (0) [_] [_] ?_
       exact congrArg tf (by simp [ansB, *])
      ·
       refine aC_ rfl rfl (q_pick) ?_
       refine aC_ rfl rfl (q_move) ?_
       refine aG_ rfl rfl rfl rfl rfl rfl rfl rfl ?_
       refine aG_ rfl rfl rfl rfl rfl rfl rfl rfl ?_
       refine aG_ rfl rfl rfl rfl rfl rfl rfl rfl ?_
       refine aG_ rfl rfl rfl rfl rfl rfl rfl rfl ?_
       refine aG_ rfl rfl rfl rfl rfl rfl rfl rfl ?_
       refine aC_ rfl rfl (q_pick) ?_
       refine aC_ rfl rfl (q_assign) ?_
       refine AOps.nil ?_
       refine AWp.ret ?_
       show Fin te Try.f72 _ _
       refine q_ret (0) [_] [_] ?_
       exact congrArg tf (by simp [ansB, *])
     ·
      refine aC_ rfl rfl (q_pick) ?_
      refine aC_ rfl rfl (q_move) ?_
      refine aG_ rfl rfl rfl rfl rfl rfl rfl rfl ?_
      refine aG_ rfl rfl rfl rfl rfl rfl rfl rfl ?_
      refine aG_ rfl rfl rfl rfl rfl rfl rfl rfl ?_
      refine aG_ rfl rfl rfl rfl rfl rfl rfl rfl ?_
      refine aC_ rfl rfl (q_pick) ?_
      refine aC_ rfl rfl (q_move) ?_
      refine aG_ rfl rfl rfl rfl rfl rfl rfl rfl ?_
      refine aG_ rfl rfl rfl rfl rfl rfl rfl rfl ?_
      refine aG_ rfl rfl rfl rfl rfl rfl rfl rfl ?_
      refine aG_ rfl rfl rfl rfl rfl rfl rfl rfl ?_
      refine aG_ rfl rfl rfl rfl rfl rfl rfl rfl ?_
      refine aC_ rfl rfl (q_pick) ?_
      refine aC_ rfl rfl (q_assign) ?_
      refine AOps.nil ?_
      refine AWp.ret ?_
      show Fin te Try.f72 _ _
      refine q_ret (0) [_] [_] ?_
      exact congrArg tf (by simp [ansB, *])
    ·
     refine aC_ rfl rfl (q_pick) ?_
     refine aC_ rfl rfl (q_move) ?_
     refine aG_ rfl rfl rfl rfl rfl rfl rfl rfl ?_
     refine aG_ rfl rfl rfl rfl rfl rfl rfl rfl ?_
     refine aG_ rfl rfl rfl rfl rfl rfl rfl rfl ?_
     refine aG_ rfl rfl rfl rfl rfl rfl rfl rfl ?_
     refine aG_ rfl rfl rfl rfl rfl rfl rfl rfl ?_
     refine aG_ rfl rfl rfl rfl rfl rfl rfl rfl ?_
     refine aG_ rfl rfl rfl rfl rfl rfl rfl rfl ?_
     refine aC_ rfl rfl (q_pick) ?_
     refine aC_ rfl rfl (q_move) ?_
     refine aG_ rfl rfl rfl rfl rfl rfl rfl rfl ?_
     refine aG_ rfl rfl rfl rfl rfl rfl rfl rfl ?_
     refine aG_ rfl rfl rfl rfl rfl rfl rfl rfl ?_
     refine aG_ rfl rfl rfl rfl rfl rfl rfl rfl ?_
     refine aC_ rfl rfl (q_pick) ?_
     refine aC_ rfl rfl (q_move) ?_
     refine aG_ rfl rfl rfl rfl rfl rfl rfl rfl ?_
     refine aG_ rfl rfl rfl rfl rfl rfl rfl rfl ?_
     refine aG_ rfl rfl rfl rfl rfl rfl rfl rfl ?_
     refine aG_ rfl rfl rfl rfl rfl rfl rfl rfl ?_
     refine aG_ rfl rfl rfl rfl rfl rfl rfl rfl ?_
     refine aC_ rfl rfl (q_pick) ?_
     refine aC_ rfl rfl (q_assign) ?_
     refine AOps.nil ?_
     refine AWp.ret ?_
     show Fin te Try.f72 _ _
     refine q_ret (0) [_] [_] ?_
     exact congrArg tf (by simp [ansB, *])
   ·
    refine aC_ rfl rfl (q_pick) ?_
    refine aC_ rfl rfl (q_move) ?_
    refine aG_ rfl rfl rfl rfl rfl rfl rfl rfl ?_
    refine aG_ rfl rfl rfl rfl rfl rfl rfl rfl ?_
    refine aG_ rfl rfl rfl rfl rfl rfl rfl rfl ?_
    refine aG_ rfl rfl rfl rfl rfl rfl rfl rfl ?_
    refine aG_ rfl rfl rfl rfl rfl rfl rfl rfl ?_
    refine aG_ rfl rfl rfl rfl rfl rfl rfl rfl ?_
    refine aG_ rfl rfl rfl rfl rfl rfl rfl rfl ?_
    refine aC_ rfl rfl (q_pick) ?_
    refine aC_ rfl rfl (q_move) ?_
    refine aG_ rfl rfl rfl rfl rfl rfl rfl rfl ?_
    refine aG_ rfl rfl rfl rfl rfl rfl rfl rfl ?_
    refine aG_ rfl rfl rfl rfl rfl rfl rfl rfl ?_
    refine aG_ rfl rfl rfl rfl rfl rfl rfl rfl ?_
    refine aG_ rfl rfl rfl rfl rfl rfl rfl rfl ?_
    refine aG_ rfl rfl rfl rfl rfl rfl rfl rfl ?_
    refine aG_ rfl rfl rfl rfl rfl rfl rfl rfl ?_
    refine aC_ rfl rfl (q_pick) ?_
    refine aC_ rfl rfl (q_move) ?_
    refine aG_ rfl rfl rfl rfl rfl rfl rfl rfl ?_
    refine aG_ rfl rfl rfl rfl rfl rfl rfl rfl ?_
    refine aG_ rfl rfl rfl rfl rfl rfl rfl rfl ?_
    refine aG_ rfl rfl rfl rfl rfl rfl rfl rfl ?_
    refine aC_ rfl rfl (q_pick) ?_
    refine aC_ rfl rfl (q_move) ?_
    refine aG_ rfl rfl rfl rfl rfl rfl rfl rfl ?_
    refine aG_ rfl rfl rfl rfl rfl rfl rfl rfl ?_
    refine aG_ rfl rfl rfl rfl rfl rfl rfl rfl ?_
    refine aG_ rfl rfl rfl rfl rfl rfl rfl rfl ?_
    refine aG_ rfl rfl rfl rfl rfl rfl rfl rfl ?_
    refine aC_ rfl rfl (q_pick) ?_
    refine aC_ rfl rfl (q_assign) ?_
    refine AOps.nil ?_
    refine AWp.ret ?_
    show Fin te Try.f72 _ _
    refine q_ret (0) [_] [_] ?_
    exact congrArg tf (by simp [ansB, *])
  ·
   refine aC_ rfl rfl (q_pick) ?_
   refine aC_ rfl rfl (q_move) ?_
   refine aG_ rfl rfl rfl rfl rfl rfl rfl rfl ?_
   refine aG_ rfl rfl rfl rfl rfl rfl rfl rfl ?_
   refine aG_ rfl rfl rfl rfl rfl rfl rfl rfl ?_
   refine aG_ rfl rfl rfl rfl rfl rfl rfl rfl ?_
   refine aG_ rfl rfl rfl rfl rfl rfl rfl rfl ?_
   refine aG_ rfl rfl rfl rfl rfl rfl rfl rfl ?_
   refine aG_ rfl rfl rfl rfl rfl rfl rfl rfl ?_
   refine aC_ rfl rfl (q_pick) ?_
   refine aC_ rfl rfl (q_move) ?_
   refine aG_ rfl rfl rfl rfl rfl rfl rfl rfl ?_
   refine aG_ rfl rfl rfl rfl rfl rfl rfl rfl ?_
   refine aG_ rfl rfl rfl rfl rfl rfl rfl rfl ?_
   refine aG_ rfl rfl rfl rfl rfl rfl rfl rfl ?_
   refine aG_ rfl rfl rfl rfl rfl rfl rfl rfl ?_
   refine aG_ rfl rfl rfl rfl rfl rfl rfl rfl ?_
   refine aG_ rfl rfl rfl rfl rfl rfl rfl rfl ?_
   refine aC_ rfl rfl (q_pick) ?_
   refine aC_ rfl rfl (q_move) ?_
   refine aG_ rfl rfl rfl rfl rfl rfl rfl rfl ?_
   refine aG_ rfl rfl rfl rfl rfl rfl rfl rfl ?_
   refine aG_ rfl rfl rfl rfl rfl rfl rfl rfl ?_
   refine aG_ rfl rfl rfl rfl rfl rfl rfl rfl ?_
   refine aG_ rfl rfl rfl rfl rfl rfl rfl rfl ?_
   refine aG_ rfl rfl rfl rfl rfl rfl rfl rfl ?_
   refine aG_ rfl rfl rfl rfl rfl rfl rfl rfl ?_
   refine aC_ rfl rfl (q_pick) ?_
   refine aC_ rfl rfl (q_move) ?_
   refine aG_ rfl rfl rfl rfl rfl rfl rfl rfl ?_
   refine aG_ rfl rfl rfl rfl rfl rfl rfl rfl ?_
   refine aG_ rfl rfl rfl rfl rfl rfl rfl rfl ?_
   refine aG_ rfl rfl rfl rfl rfl rfl rfl rfl ?_
   refine aC_ rfl rfl (q_pick) ?_
   refine aC_ rfl rfl (q_move) ?_
   refine aG_ rfl rfl rfl rfl rfl rfl rfl rfl ?_
   refine aG_ rfl rfl rfl rfl rfl rfl rfl rfl ?_
   refine aG_ rfl rfl rfl rfl rfl rfl rfl rfl ?_
   refine aG_ rfl rfl rfl rfl rfl rfl rfl rfl ?_
   refine aG_ rfl rfl rfl rfl rfl rfl rfl rfl ?_
   refine aC_ rfl rfl (q_pick) ?_
   refine aC_ rfl rfl (q_assign) ?_
   refine AOps.nil ?_
   refine AWp.ret ?_
   show Fin te Try.f72 _ _
   refine q_ret (0) [_] [_] ?_
   exact congrArg tf (by simp [ansB, *])
set_option maxRecDepth 20000 in
set_option maxHeartbeats 2000000 in
theorem c_audit_Paired (l : List Ev) (lv : Nat) (h : EvsOk l) : AC Try.prog 30 [.fz lv l.length (cl evC l)] emp (Ret (tf (prd l))) := by
 obtain ⟨hb, hm⟩ := id h
 refine AC.intro te_ok (fn := Try.f30) ⟨Try.func30, rfl, rfl⟩ (Nat.le_of_ble_eq_true rfl) ?_
 refine AWp.seq ?_
 refine AWp.region ?_
 refine aC_ rfl rfl (q_assign) ?_
 refine AOps.nil ?_
 refine AWp.seq ?_
 refine AWp.region ?_
 refine aC_ rfl rfl (q_makeMap 200 MInt (fun b : Bool => tf b)) ?_
 refine aC_ rfl rfl (q_assign) ?_
 refine AOps.nil ?_
 refine AWp.seq ?_
 refine AWp.seq ?_
 refine AWp.region ?_
 refine aC_ rfl rfl (q_move) ?_
 refine aC_ rfl rfl (q_len) ?_
 refine aC_ rfl rfl (q_move) ?_
 refine AOps.nil ?_
 refine AWp.block ?_
 refine AWp.loopR (α := Nat × List (Int × Bool) × List Bool) [2, 4, 5, 6, 7, 8, 12, 13, 14, 15, 16, 17, 18, 19, 20, 21, 22, 23, 24, 25, 26, 27, 28, 29, 30, 31, 32, 33, 34, 35, 36, 37, 38, 39, 40, 41, 42, 43, 44, 45, 46, 47, 48, 49, 50, 51, 52, 53, 54, 55, 56, 57, 58, 59] (fun x_ => [(12, i64 (x_.1))]) (fun x_ => [(200, .map (me MInt (fun b : Bool => tf b) (x_.2.1)))]) (fun x_ => (x_.1) ≤ l.length ∧ Open l (x_.1) (x_.2.1) (x_.2.2) ∧ prdF l (l.length - (x_.1)) (x_.1) (x_.2.2) = prd l) (fun x_ => l.length - (x_.1)) (0, [], List.replicate l.length false) ?_ (Back.mk' (HasT.cons HasT.nil) (HasH.cons HasH.nil (h2 := by exact objIn_me (fun _ => rfl)) )) ?_
 ·
  exact ⟨Nat.zero_le _, Open.start l, rfl⟩
 ·
  rintro ⟨i, m, done⟩ hI3
  change i ≤ l.length ∧ Open l i m done ∧ prdF l (l.length - i) i done = prd l at hI3
  obtain ⟨hi, ho, hp⟩ := hI3
  refine AWp.as (s' := AS.over _ [2, 4, 5, 6, 7, 8, 12, 13, 14, 15, 16, 17, 18, 19, 20, 21, 22, 23, 24, 25, 26, 27, 28, 29, 30, 31, 32, 33, 34, 35, 36, 37, 38, 39, 40, 41, 42, 43, 44, 45, 46, 47, 48, 49, 50, 51, 52, 53, 54, 55, 56, 57, 58, 59] [(12, i64 i)] [(200, .map (me MInt (fun b : Bool => tf b) m))]) rfl ?_
  refine AWp.seq ?_
  refine AWp.region ?_
  refine AOps.dec rfl rfl (q_lss) (fun h3_0 => ?_) (fun h3_0 => ?_)
  ·
   refine AOps.nil ?_
   refine AWp.seq ?_
   refine AWp.cond_t rfl ?_
   refine AWp.skip ?_
   refine AWp.seq ?_
   refine AWp.block ?_
   refine AWp.seq ?_
   refine AWp.region ?_
   have hsub : l.length - i = (l.length - (i + 1)) + 1 := by omega
   have hmi : MsgOk (l.getD i default).m := hm _ (getD_mem (by omega))
   refine aC_ rfl rfl (q_move) ?_
   refine aC_ rfl rfl (q_ix) ?_
   refine aC_ rfl rfl (q_load) ?_
   refine aC_ rfl rfl (q_alloc 503) ?_
   refine aC_ rfl rfl (q_assign) ?_
   refine aC_ rfl rfl (q_store) ?_
   refine AOps.nil ?_
   refine AWp.seq ?_
   refine AWp.seq ?_
   refine AWp.region ?_
   refine aC_ rfl rfl (q_fa) ?_
   refine AOps.bool rfl rfl (q_load) (fun h5_1 => ?_) (fun h5_1 => ?_)
   ·
    refine aC_ rfl rfl (q_not) ?_
    refine AOps.nil ?_
    refine AWp.cond_f rfl ?_
    refine AWp.skip ?_
    refine AWp.seq ?_
    refine AWp.region ?_
    refine aC_ rfl rfl (q_assign) ?_
    refine AOps.nil ?_
    refine AWp.seq ?_
    refine AWp.seq ?_
    refine AWp.region ?_
    refine aC_ rfl rfl (q_move) ?_
    refine aC_ rfl rfl (q_move) ?_
    refine aC_ rfl rfl (q_sl) ?_
    refine aC_ rfl rfl (q_len) ?_
    refine aC_ rfl rfl (q_move) ?_
    refine AOps.nil ?_
    refine AWp.block ?_
    refine AWp.loopR (α := Nat) [6, 7, 8, 26, 27, 28, 29, 30, 31, 32, 33, 34, 35, 36, 37, 38, 39, 40] (fun j => [(26, i64 j), (6, i64 (-1))]) (fun j => []) (fun j => j ≤ i ∧ ∀ k, k < j → fitB l done (l.getD i default) k = false) (fun j => i - j) 0 ?_ (Back.mk' (HasT.cons (HasT.cons HasT.nil)) HasH.nil) ?_
    ·
     exact ⟨Nat.zero_le _, fun k hk => absurd hk (Nat.not_lt_zero k)⟩
    ·
     rintro j ⟨hji0, hj⟩
     refine AWp.seq ?_
     refine AWp.region ?_
     refine AOps.dec rfl rfl (q_lss) (fun h9_0 => ?_) (fun h9_0 => ?_)
     ·
      refine AOps.nil ?_
      refine AWp.seq ?_
      refine AWp.cond_t rfl ?_
      refine AWp.skip ?_
      refine AWp.seq ?_
      refine AWp.block ?_
      refine AWp.seq ?_
      refine AWp.region ?_
      have hji : j < i := by have := h9_0; simp at this; omega
      have hgj : (l.take i).getD j default = l.getD j default := by rw [List.getD_eq_getElem?_getD, List.getD_eq_getElem?_getD, List.getElem?_take_of_lt hji]
      have hmj : MsgOk (l.getD j default).m := hm _ (getD_mem (by omega))
      refine aC_ rfl rfl (q_move) ?_
      refine aC_ rfl rfl (q_ix) ?_
      refine aC_ rfl rfl (q_load) ?_
      refine aC_ rfl rfl (q_alloc 1103) ?_
      refine aC_ rfl rfl (q_assign) ?_
      refine aC_ rfl rfl (q_store) ?_
      refine AOps.nil ?_
      refine AWp.seq ?_
      refine AWp.region ?_
      refine aC_ rfl rfl (q_move) ?_
      refine aC_ rfl rfl (q_move) ?_
      refine AOps.bool rfl rfl (q_lookup MInt) (fun h11_2 => ?_) (fun h11_2 => ?_)
      ·
       refine aC_ rfl rfl (q_move) ?_
       refine AOps.gcons rfl rfl rfl rfl rfl (q_load) ?_
       refine AOps.gcons rfl rfl rfl rfl rfl (q_load) ?_
       refine AOps.gbool rfl rfl rfl rfl rfl (q_call (lv) (hc := (c_audit_answers ((l.take i).getD j default) (l.getD i default) (by rw [hgj]; exact hmj)))) (fun h11_6 => ?_) (fun h11_6 => ?_)
       ·
        refine aC_ rfl rfl (q_pick) ?_
        refine AOps.nil ?_
        refine AWp.cond_t rfl ?_
        refine AWp.seq ?_
        refine AWp.region ?_
        refine aC_ rfl rfl (q_move) ?_
        refine aC_ rfl rfl (q_assign) ?_
        refine AOps.nil ?_
        refine AWp.exit ?_
        refine AWp.seq ?_
        refine AWp.seq ?_
        refine AWp.region ?_
        rw [hgj] at h11_6
        have hfj : fitB l done (l.getD i default) j = true := by rw [ho.fit hji, h11_2, h11_6]; rfl
        refine aC_ rfl rfl (q_move) ?_
        refine AOps.dec rfl rfl (q_lss) (fun h14_1 => ?_) (fun h14_1 => ?_)
        ·
         exfalso; omega
        ·
         refine aC_ rfl rfl (q_move) ?_
         refine AOps.gcons rfl rfl rfl rfl rfl (q_fa) ?_
         refine AOps.gcons rfl rfl rfl rfl rfl (q_fa) ?_
         refine AOps.gcons rfl rfl rfl rfl rfl (q_fa) ?_
         refine AOps.gbool rfl rfl rfl rfl rfl (q_load) (fun h14_6 => ?_) (fun h14_6 => ?_)
         ·
          refine AOps.gcons rfl rfl rfl rfl rfl (q_not) ?_
          refine aC_ rfl rfl (q_pick) ?_
          refine aC_ rfl rfl (q_move) ?_
          refine AOps.gcons rfl rfl rfl rfl rfl (q_fa) ?_
          refine AOps.gcons rfl rfl rfl rfl rfl (q_fa) ?_
          refine AOps.gcons rfl rfl rfl rfl rfl (q_fa) ?_
          refine AOps.gbool rfl rfl rfl rfl rfl (q_load) (fun h14_13 => ?_) (fun h14_13 => ?_)
          ·
           refine AOps.gcons rfl rfl rfl rfl rfl (q_not) ?_
           refine aC_ rfl rfl (q_pick) ?_
           refine AOps.nil ?_
           refine AWp.cond_f rfl ?_
           refine AWp.skip ?_
           refine AWp.region ?_
           have hok : okB (l.getD i default) = true := by
             have e6 : (l.getD i default).m.h.resp = true := h14_6
             have e7 : (l.getD i default).m.h.ra = true := h14_13
             rw [okB, e6, e7]; rfl
           refine aC_ rfl rfl (q_move) ?_
           refine aC_ rfl rfl (q_move) ?_
           refine aC_ rfl rfl (q_delete MInt) ?_
           refine AOps.nil ?_
           refine AWp.region ?_
           refine aC_ rfl rfl (q_add) ?_
           refine aC_ rfl rfl (q_move) ?_
           refine AOps.nil ?_
           refine ⟨(i + 1, mdel m j, done.set j true), ?_, Back.mk' (HasT.cons HasT.nil) (HasH.cons HasH.nil (h2 := by exact objIn_me (fun _ => rfl)) ), ?_⟩
           ·
            try dsimp only
            exact ⟨by omega, ho.reply hji (by omega) h5_1, by rw [← hp, hsub, prdF_yes (i := i) h5_1 hji hfj hj, hok, if_pos rfl]⟩
           ·
            try dsimp only
            first | omega | (simp; omega)
          ·
           refine AOps.gcons rfl rfl rfl rfl rfl (q_not) ?_
           refine aC_ rfl rfl (q_pick) ?_
           refine AOps.nil ?_
           refine AWp.cond_t rfl ?_
           refine AWp.seq ?_
           refine AWp.region ?_
           refine aC_ rfl rfl (q_assign) ?_
           refine AOps.nil ?_
           refine AWp.ret ?_
           show Fin te Try.f30 _ _
           have hok : okB (l.getD i default) = false := by
             have e6 := h14_13
             simp only [okB]
             first | (have e7 : (l.getD i default).m.h.resp = false := e6; rw [e7]; rfl) | (have e7 : (l.getD i default).m.h.ra = false := e6; rw [e7, Bool.and_false])
           rw [← hp, hsub, prdF_yes (i := i) h5_1 hji hfj hj, hok]
           refine q_ret (lv) [_] [_] ?_
           rfl
         ·
          refine AOps.gcons rfl rfl rfl rfl rfl (q_not) ?_
          refine aC_ rfl rfl (q_pick) ?_
          refine aC_ rfl rfl (q_move) ?_
          refine aG_ rfl rfl rfl rfl rfl rfl rfl rfl ?_
          refine aG_ rfl rfl rfl rfl rfl rfl rfl rfl ?_
          refine aG_ rfl rfl rfl rfl rfl rfl rfl rfl ?_
          refine aG_ rfl rfl rfl rfl rfl rfl rfl rfl ?_
          refine aG_ rfl rfl rfl rfl rfl rfl rfl rfl ?_
          refine aC_ rfl rfl (q_pick) ?_
          refine AOps.nil ?_
          refine AWp.cond_t rfl ?_
          refine AWp.seq ?_
          refine AWp.region ?_
          refine aC_ rfl rfl (q_assign) ?_
          refine AOps.nil ?_
          refine AWp.ret ?_
          show Fin te Try.f30 _ _
          have hok : okB (l.getD i default) = false := by
            have e6 := h14_6
            simp only [okB]
            first | (have e7 : (l.getD i default).m.h.resp = false := e6; rw [e7]; rfl) | (have e7 : (l.getD i default).m.h.ra = false := e6; rw [e7, Bool.and_false])
          rw [← hp, hsub, prdF_yes (i := i) h5_1 hji hfj hj, hok]
          refine q_ret (lv) [_] [_] ?_
          rfl
       ·
        refine aC_ rfl rfl (q_pick) ?_
        refine AOps.nil ?_
        refine AWp.cond_f rfl ?_
        refine AWp.skip ?_
        refine AWp.region ?_
        refine aC_ rfl rfl (q_add) ?_
        refine aC_ rfl rfl (q_move) ?_
        refine AOps.nil ?_
        rw [hgj] at h11_6
        refine ⟨j + 1, ?_, Back.mk' (HasT.cons (HasT.cons HasT.nil)) HasH.nil, ?_⟩
        ·
         refine ⟨by omega, fun k hk => ?_⟩
         by_cases e : k = j
         · subst e; rw [ho.fit hji, h11_2, h11_6]; rfl
         · exact hj k (by omega)
        ·
         first | omega | (simp; omega)
      ·
       refine aC_ rfl rfl (q_move) ?_
       refine aG_ rfl rfl rfl rfl rfl rfl rfl rfl ?_
       refine aG_ rfl rfl rfl rfl rfl rfl rfl rfl ?_
       refine aG_ rfl rfl rfl rfl rfl rfl rfl rfl ?_
       refine aC_ rfl rfl (q_pick) ?_
       refine AOps.nil ?_
       refine AWp.cond_f rfl ?_
       refine AWp.skip ?_
       refine AWp.region ?_
       refine aC_ rfl rfl (q_add) ?_
       refine aC_ rfl rfl (q_move) ?_
       refine AOps.nil ?_
       refine ⟨j + 1, ?_, Back.mk' (HasT.cons (HasT.cons HasT.nil)) HasH.nil, ?_⟩
       ·
        refine ⟨by omega, fun k hk => ?_⟩
        by_cases e : k = j
        · subst e; rw [ho.fit hji, h11_2]; rfl
        · exact hj k (by omega)
       ·
        first | omega | (simp; omega)
     ·
      refine AOps.nil ?_
      refine AWp.seq ?_
      refine AWp.cond_f rfl ?_
      refine AWp.exit ?_
      refine AWp.seq ?_
      refine AWp.seq ?_
      refine AWp.region ?_
      refine aC_ rfl rfl (q_move) ?_
      refine AOps.dec rfl rfl (q_lss) (fun h14_1 => ?_) (fun h14_1 => ?_)
      ·
       refine aC_ rfl rfl (q_move) ?_
       refine aG_ rfl rfl rfl rfl rfl rfl rfl rfl ?_
       refine aG_ rfl rfl rfl rfl rfl rfl rfl rfl ?_
       refine aG_ rfl rfl rfl rfl rfl rfl rfl rfl ?_
       refine aG_ rfl rfl rfl rfl rfl rfl rfl rfl ?_
       refine aG_ rfl rfl rfl rfl rfl rfl rfl rfl ?_
       refine aC_ rfl rfl (q_pick) ?_
       refine aC_ rfl rfl (q_move) ?_
       refine aG_ rfl rfl rfl rfl rfl rfl rfl rfl ?_
       refine aG_ rfl rfl rfl rfl rfl rfl rfl rfl ?_
       refine aG_ rfl rfl rfl rfl rfl rfl rfl rfl ?_
       refine aG_ rfl rfl rfl rfl rfl rfl rfl rfl ?_
       refine aG_ rfl rfl rfl rfl rfl rfl rfl rfl ?_
       refine aC_ rfl rfl (q_pick) ?_
       refine AOps.nil ?_
       refine AWp.cond_t rfl ?_
       refine AWp.seq ?_
       refine AWp.region ?_
       refine aC_ rfl rfl (q_assign) ?_
       refine AOps.nil ?_
       refine AWp.ret ?_
       show Fin te Try.f30 _ _
       obtain rfl : j = i := by simp at h9_0; omega
       rw [← hp, hsub, prdF_no (i := j) h5_1 hj]
       refine q_ret (lv) [_] [_] ?_
       rfl
      ·
       exfalso; exact h14_1 (by decide)
   ·
    refine aC_ rfl rfl (q_not) ?_
    refine AOps.nil ?_
    refine AWp.cond_t rfl ?_
    refine AWp.seq ?_
    refine AWp.region ?_
    refine aC_ rfl rfl (q_move) ?_
    refine aC_ rfl rfl (q_move) ?_
    refine aC_ rfl rfl (q_mapUpdate MInt true) ?_
    refine AOps.nil ?_
    refine AWp.exit ?_
    refine AWp.region ?_
    refine aC_ rfl rfl (q_add) ?_
    refine aC_ rfl rfl (q_move) ?_
    refine AOps.nil ?_
    refine ⟨(i + 1, mput m i true, done), ?_, Back.mk' (HasT.cons HasT.nil) (HasH.cons HasH.nil (h2 := by exact objIn_me (fun _ => rfl)) ), ?_⟩
    ·
     try dsimp only
     exact ⟨by omega, ho.query h5_1, by rw [← hp, hsub, prdF_q (i := i) h5_1]⟩
    ·
     try dsimp only
     first | omega | (simp; omega)
  ·
   refine AOps.nil ?_
   refine AWp.seq ?_
   refine AWp.cond_f rfl ?_
   refine AWp.exit ?_
   refine AWp.seq ?_
   refine AWp.region ?_
   refine aC_ rfl rfl (q_assign) ?_
   refine AOps.nil ?_
   refine AWp.ret ?_
   show Fin te Try.f30 _ _
   obtain rfl : i = l.length := by omega
   rw [← hp, Nat.sub_self]
   refine q_ret (lv) [_] [_] ?_
   rfl
end Go.Proofs.Ytokccoloholgaaa.Fw


set_option linter.unusedVariables false
set_option linter.unusedSimpArgs false
namespace Go.Proofs.Ytokccoloholgaaa.Fw
open Go.RowKit
theorem keyE_eq (h r : Rr) : keyE h r = (sameN r.nm h.nm && decide (r.ty = h.ty)) := by
  rw [keyE, sameN_comm h.nm r.nm, Bool.and_comm]
  congr 1
  exact decide_eq_decide.2 ⟨Eq.symm, Eq.symm⟩
theorem rnD_from (t : List Rr) : ∀ (D : List (List Rr)) (h : Rr) (r : List Rr), rnD (t.foldl rnA (D, h :: r)) = D ++ (h :: r ++ t.take (grpN h t)) :: rnD ((t.drop (grpN h t)).foldl rnA ([], [])) := by
  induction t with
  | nil => intro D h r; simp [rnD, grpN]
  | cons x t ih =>
    intro D h r
    cases hk : keyE h x with
    | true =>
      rw [List.foldl_cons, rnA_yes hk, show h :: r ++ [x] = h :: (r ++ [x]) from rfl, ih]
      rw [keyE_eq] at hk
      rw [grpN, hk]
      simp
    | false =>
      rw [List.foldl_cons, rnA_no hk, ih]
      rw [keyE_eq] at hk
      rw [grpN, hk]
      simp only [Bool.false_eq_true, if_false, List.take_zero, List.drop_zero, List.append_nil, List.foldl_cons]
      rw [show rnA ([], []) x = ([], [x]) from rfl, ih]
      simp
theorem rnO_drop {l : List Rr} (h : rnO l = true) (n : Nat) : rnO (l.drop n) = true := by
  rw [rnO, List.all_eq_true] at *
  exact fun x hx => h x (List.mem_of_mem_drop hx)
theorem rn_unfold {l : List Rr} (h : rnO l = true) (hl : 0 < l.length) : 0 < grp l ∧ rnV l = l.take (grp l) :: rnV (l.drop (grp l)) := by
  cases l with
  | nil => simp at hl
  | cons a t =>
    have hc : canN a.nm = true := by
      rw [rnO, List.all_eq_true] at h
      exact h a List.mem_cons_self
    have hg : grp (a :: t) = grpN a t + 1 := by
      show grpN a (a :: t) = _
      rw [grpN, sameN_self hc, decide_eq_true rfl]; rfl
    refine ⟨by omega, ?_⟩
    rw [rnV_yes h, rnV_yes (rnO_drop h _), hg, rnF, List.foldl_cons, show rnA ([], []) a = ([], [a]) from rfl, rnD_from, rnF]
    simp
theorem cov_set (a b : List Rr) : covB a b = setH a b := by
  have e : ∀ r o, covP r o = setP r o := fun r o => by rw [covP, setP, low_plain, low_plain, Bool.and_comm]
  have e2 : covQ b = fun r => !(b.any (setP r)) := funext fun r => by rw [covQ, show covP r = setP r from funext (e r)]
  rw [covB, setH, e2, any_not, Bool.not_not]
theorem getD_take0 {l : List Rr} {n : Nat} (h : 0 < n) : (l.take n).getD 0 default = l.getD 0 default := by
  cases l with
  | nil => simp
  | cons a t => cases n with
    | zero => omega
    | succ n => rfl
theorem prA_cons {a b : List Rr} {A B : List (List Rr)} : prA (a :: A) (b :: B) = (prO a b && prA A B) := by
  rw [prA, prA, Bool.eq_iff_iff]
  simp only [Bool.and_eq_true, decide_eq_true_eq, List.length_cons, range_all_iff]
  constructor
  · rintro ⟨h1, h2⟩
    exact ⟨h2 0 (by omega), by omega, fun j hj => h2 (j + 1) (by omega)⟩
  · rintro ⟨h1, h2, h3⟩
    refine ⟨by omega, fun j hj => ?_⟩
    cases j with
    | zero => exact h1
    | succ j => exact h3 j (by omega)
theorem prO_ok {a b : List Rr} (ga : 0 < grp a) (gb : 0 < grp b) : prO (a.take (grp a)) (b.take (grp b)) = okG a b := by
  have la := grp_le a
  have lb := grp_le b
  rw [prO, okG, getD_take0 ga, getD_take0 gb, List.length_take, List.length_take, show min (grp a) a.length = grp a by omega, show min (grp b) b.length = grp b by omega]
  by_cases e : grp a = grp b
  · rw [decide_eq_true e, cov_set, cov_set, ← e]
    simp [setB]
  · rw [decide_eq_false e]; simp
theorem eq_can : ∀ (n : Nat) (a b : List Rr), a.length = n → rnO a = true → rnO b = true → a.length = b.length → prA (rnV a) (rnV b) = refT a b := by
  intro n
  induction n using Nat.strongRecOn with
  | ind n ih =>
    intro a b hn ha hb hab
    rcases Nat.eq_zero_or_pos a.length with h0 | h0
    · obtain rfl : a = [] := List.length_eq_zero_iff.1 h0
      obtain rfl : b = [] := List.length_eq_zero_iff.1 hab.symm
      rw [refT_end rfl]; rfl
    · obtain ⟨g1, e1⟩ := rn_unfold ha h0
      obtain ⟨g2, e2⟩ := rn_unfold hb (hab ▸ h0)
      have la := grp_le a
      rw [e1, e2, prA_cons, prO_ok g1 g2]
      cases ho : okG a b with
      | false => rw [refT_no (by omega) ho, Bool.false_and]
      | true =>
        have e : grp a = grp b := by
          rw [okG] at ho
          simp only [Bool.and_eq_true, decide_eq_true_eq] at ho
          exact ho.1
        rw [refT_go (by omega) ho, Bool.true_and, ← e]
        exact ih (n - grp a) (by omega) _ _ (by rw [List.length_drop]; omega) (rnO_drop ha _) (rnO_drop hb _) (by rw [List.length_drop, List.length_drop]; omega)
theorem grpN_all {h : Rr} : ∀ {l : List Rr} {x : Rr}, x ∈ l.take (grpN h l) → sameN x.nm h.nm = true
  | [], x, hx => by simp [grpN] at hx
  | r :: t, x, hx => by
    rw [grpN] at hx
    split at hx
    · rename_i hc
      simp only [Bool.and_eq_true] at hc
      rw [List.take_succ_cons] at hx
      rcases List.mem_cons.1 hx with rfl | hx
      · exact hc.1
      · exact grpN_all hx
    · simp at hx
theorem can_split {l : List Rr} (h1 : ∀ x ∈ l.take (grp l), sameN x.nm (l.getD 0 default).nm = true) (h2 : rnO (l.drop (grp l)) = true) : rnO l = true := by
  rw [rnO, List.all_eq_true] at *
  intro x hx
  rw [← List.take_append_drop (grp l) l] at hx
  rcases List.mem_append.1 hx with hx | hx
  · exact (same_iff.1 (h1 x hx)).1
  · exact h2 x hx
theorem ref_can : ∀ (n : Nat) (a b : List Rr), a.length = n → a.length = b.length → refT a b = true → rnO a = true ∧ rnO b = true := by
  intro n
  induction n using Nat.strongRecOn with
  | ind n ih =>
    intro a b hn hab h
    rcases Nat.eq_zero_or_pos a.length with h0 | h0
    · obtain rfl : a = [] := List.length_eq_zero_iff.1 h0
      obtain rfl : b = [] := List.length_eq_zero_iff.1 hab.symm
      exact ⟨rfl, rfl⟩
    · have la := grp_le a
      by_cases g : grp a = 0
      · rw [refT_0 h0 g] at h; cases h
      · cases ho : okG a b with
        | false => rw [refT_no g ho] at h; cases h
        | true =>
          rw [refT_go g ho] at h
          have e : grp a = grp b := by
            rw [okG] at ho
            simp only [Bool.and_eq_true, decide_eq_true_eq] at ho
            exact ho.1
          obtain ⟨k1, k2⟩ := ih (n - grp a) (by omega) _ _ (by rw [List.length_drop]; omega) (by rw [List.length_drop, List.length_drop]; omega) h
          exact ⟨can_split (fun x hx => grpN_all hx) k1, can_split (fun x hx => grpN_all hx) (e ▸ k2)⟩
theorem eq_lists (a b : List Rr) (h : a.length = b.length) : (rnO a && prA (rnV a) (rnV b)) = refT a b := by
  cases ha : rnO a with
  | true =>
    rw [Bool.true_and]
    cases hb : rnO b with
    | true => exact eq_can _ a b rfl ha hb h
    | false =>
      have hbl : 0 < b.length := by
        cases b with
        | nil => cases hb
        | cons => simp
      obtain ⟨g1, e1⟩ := rn_unfold ha (by omega)
      rw [rnV_no hb, e1, prA]
      rw [show decide ((a.take (grp a) :: rnV (a.drop (grp a))).length = ([] : List (List Rr)).length) = false from decide_eq_false (by simp), Bool.false_and]
      cases hr : refT a b with
      | false => rfl
      | true => rw [(ref_can _ a b rfl h hr).2] at hb; cases hb
  | false =>
    rw [Bool.false_and]
    cases hr : refT a b with
    | false => rfl
    | true => rw [(ref_can _ a b rfl h hr).1] at ha; cases ha
theorem au_rv (t : Tr) (m : Msg) : auT t m = refV t m := by
  by_cases h1 : m.qs.length = 1
  · cases h2 : (truO t (m.qs.getD 0 default)).isSome with
    | false => rw [au_2 h2, rv_2 h2]
    | true =>
      by_cases h4 : m.h.code = (truV t (m.qs.getD 0 default)).1
      · by_cases h5 : m.an.length = (truV t (m.qs.getD 0 default)).2.length
        · rw [rv_go h1 h2 h4 h5, ← eq_lists _ _ h5, auT, decide_eq_true h1, h2, decide_eq_true h4, decide_eq_true h5, Bool.true_and, Bool.true_and, Bool.true_and, Bool.true_and]
        · rw [au_5 h5, rv_5 h5]
      · rw [au_4 h4, rv_4 h4]
  · rw [au_1 h1, rv_1 h1]
def mE : Msg := ⟨⟨0, false, 0, false, false, false, false, 0⟩, [], [], [], []⟩
theorem mE_ok : MsgOk mE ∧ NmOk mE := ⟨⟨by decide, ⟨by decide, fun x hx => by cases hx⟩, ⟨by decide, fun x hx => by cases hx⟩, ⟨by decide, fun x hx => by cases hx⟩⟩, ⟨fun x hx => (List.not_mem_nil hx).elim, fun x hx => (List.not_mem_nil hx).elim⟩⟩
theorem au_mE (t : Tr) : auT t mE = false := au_1 (by decide)
theorem evs_nil' : EvsOk [] := ⟨by decide, fun x hx => by cases hx⟩
set_option maxRecDepth 20000 in
set_option maxHeartbeats 2000000 in
theorem c_ciceronelaw24_AuditTrue (t : Tr) (m : Msg) (ht : TrOk t) (hm : MsgOk m) (hnm : NmOk m) : AC Try.prog 8 [.agg (trC t), .agg (msgC m)] emp (Ret (tf true)) := by
 refine AC.intro te_ok (fn := Try.f8) ⟨Try.func8, rfl, rfl⟩ (Nat.le_of_ble_eq_true rfl) ?_
 refine AWp.seq ?_
 refine AWp.region ?_
 refine aC_ rfl rfl (q_box 100) ?_
 refine aC_ rfl rfl (q_box 101) ?_
 refine aC_ rfl rfl (q_assign) ?_
 refine AOps.nil ?_
 refine AWp.seq ?_
 refine AWp.draws [⟨0, [2], [100], some 5, _, none⟩,
 ⟨1, [3], [101], some 6, _, none⟩,
 ⟨2, [5, 6], [], some 7, _, none⟩,
 ⟨3, [2], [100], some 8, _, none⟩,
 ⟨4, [3], [101], some 9, _, none⟩,
 ⟨5, [8, 9], [], some 10, _, none⟩,
 ⟨6, [7, 10], [], some 11, _, none⟩,
 ⟨7, [11], [], some 12, _, none⟩,
 ⟨8, [2, 12], [100], some 13, _, none⟩,
 ⟨9, [12], [], some 14, _, none⟩,
 ⟨10, [12, 13, 14], [], some 15, _, none⟩,
 ⟨11, [12, 15], [], some 16, _, none⟩,
 ⟨12, [12, 16], [], some 17, _, none⟩,
 ⟨13, [17], [], some 18, _, none⟩,
 ⟨14, [18], [], some 19, _, none⟩,
 ⟨15, [18, 19], [], some 20, _, none⟩,
 ⟨16, [20], [], some 4, _, none⟩]
  [kN_ 0 [2] [100] 5,
 kN_ 1 [3] [101] 6,
 kN_ 2 [5, 6] [] 7,
 kN_ 3 [2] [100] 8,
 kN_ 4 [3] [101] 9,
 kN_ 5 [8, 9] [] 10,
 kN_ 6 [7, 10] [] 11,
 kN_ 7 [11] [] 12,
 kN_ 8 [2, 12] [100] 13,
 kN_ 9 [12] [] 14,
 kN_ 10 [12, 13, 14] [] 15,
 kN_ 11 [12, 15] [] 16,
 kN_ 12 [12, 16] [] 17,
 kN_ 13 [17] [] 18,
 kN_ 14 [18] [] 19,
 kN_ 15 [18, 19] [] 20,
 kN_ 16 [20] [] 4]
  mixed_ok rfl (by kernel_rfl) ⟨dK_ fun s0 => oG_ rfl rfl (q_load),
 dK_ fun s0 => oG_ rfl rfl (q_load),
 dK_ fun s0 => oG_ rfl rfl (q_call (0) (hc := (c_audit_True t m ht hm hnm))),
 dK_ fun s0 => oG_ rfl rfl (q_load),
 dK_ fun s0 => oG_ rfl rfl (q_load),
 dK_ fun s0 => oG_ rfl rfl (q_call (0) (hc := (c_ciceroneref24_True t m ht hm hnm))),
 dK_ fun s0 => oG_ rfl rfl ((OpOk.bool_is (c := true) (q_beql) (by simp [au_rv]))),
 dK_ fun s0 => oG_ rfl rfl (q_move (hy := by exact rfl)),
 dK_ fun s0 => oO_ rfl rfl rfl rfl rfl (q_load),
 dK_ fun s0 => oO_ rfl rfl rfl rfl rfl (q_build []),
 dK_ fun s0 => oO_ rfl rfl rfl rfl rfl ((OpOk.bool_is (c := false) (q_call (0) (hA := by exact ⟨fv_okb rfl rfl, fv_agg ⟨fv_okb rfl rfl, fv_okb rfl rfl, fv_okb rfl rfl, fv_okb rfl rfl, fv_okb rfl rfl, fv_okb rfl rfl, fv_okb rfl rfl, fv_okb rfl rfl, fv_nilz, fv_nilz, fv_nilz, fv_nilz, trivial⟩, trivial⟩) (hc := (c_audit_True t mE ht mE_ok.1 mE_ok.2))) (au_mE t))),
 dK_ fun s0 => oO_ rfl rfl rfl rfl rfl (q_not),
 dK_ fun s0 => oG_ rfl rfl (q_pick),
 dK_ fun s0 => oG_ rfl rfl (q_move (hy := by exact rfl)),
 dK_ fun s0 => oO_ rfl rfl rfl rfl rfl ((OpOk.bool_is (c := true) (q_call (0) (hA := by exact ⟨fv_nilz, trivial⟩) (hc := (c_audit_Paired [] 0 evs_nil'))) (rfl))),
 dK_ fun s0 => oG_ rfl rfl (q_pick),
 dK_ fun s0 => oG_ rfl rfl (q_assign), trivial⟩ ?_
 dsimp only [final, DS.upd, AS.seto]
 refine AWp.ret ?_
 show Fin te Try.f8 _ _
 refine q_ret (0) [_] [_] ?_
 rfl
end Go.Proofs.Ytokccoloholgaaa.Fw


