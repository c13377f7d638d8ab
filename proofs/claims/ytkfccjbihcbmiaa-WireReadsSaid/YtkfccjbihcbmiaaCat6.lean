/- The texts V04u, V04v, V04w, L04r, L04s, L04u, one behind the other: what the walks and plain laws need; conditions stand with each theorem. -/
import Derived.Test.YtkfccjbihcbmiaaCat5
set_option linter.unusedVariables false
set_option linter.unusedSimpArgs false
namespace Go.Proofs.Ytkfccjbihcbmiaa.Fw
open Go.RowKit
section
variable {b : List UInt8} {t : Int} {p0 en : Nat}
theorem c_rrdata_ok {d : List UInt8} (hb : b.length ≤ 65535) (he : en ≤ b.length) (hp : p0 ≤ en) (h : rdD b t p0 en = .ok d) : AC Try.prog 94 [.ptr 0 0 0, i64 t, i64 en] (hlook [(0, .box [.fz 0 b.length (cl bc b), i64 p0])]) (RetH (.tup [.fz 0 d.length (cl bc d), i64 0]) [(0, .box [.fz 0 b.length (cl bc b), i64 en])]) := by
  have := c_rrdata b t p0 en hb he hp
  rw [h] at this
  exact this
theorem c_rrdata_er {e : Int} (hb : b.length ≤ 65535) (he : en ≤ b.length) (hp : p0 ≤ en) (h : rdD b t p0 en = .error e) : AC Try.prog 94 [.ptr 0 0 0, i64 t, i64 en] (hlook [(0, .box [.fz 0 b.length (cl bc b), i64 p0])]) (RetH (.tup [.fz 0 ([] : List UInt8).length (cl bc []), i64 e]) [(0, .box [.fz 0 b.length (cl bc b), .any])]) := by
  have := c_rrdata b t p0 en hb he hp
  rw [h] at this
  exact this
end
theorem rdNs_ne0 {b : List UInt8} {en : Nat} : ∀ (k : Nat) (acc : List UInt8) (p : Nat) {e : Int}, rdNs b en k acc p = .error e → e ≠ 0
  | 0, acc, p, e, h => by cases h
  | k + 1, acc, p, e, h => by
    cases h1 : rdN b 30 p p en none [] with
    | error x =>
      rw [rdNs_err h1] at h
      cases h
      rw [rdN_sh] at h1
      cases h2 : rdN b 20 p p en none [] with
      | error y =>
        rw [h2] at h1
        have h3 : (if y = 20 then 30 else y) = e := by simpa [shE] using h1
        rw [← h3]; split
        · decide
        · exact rdN_ne0 _ _ _ _ _ h2
      | ok a => rw [h2] at h1; cases h1
    | ok a => rw [rdNs_ok h1] at h; exact rdNs_ne0 k _ _ h
theorem rdD_ne0 {b : List UInt8} {t : Int} {p en : Nat} {e : Int} (h : rdD b t p en = .error e) : e ≠ 0 := by
  unfold rdD at h
  split at h
  · cases h; decide
  · cases h1 : rdNs b en (nCnt t) (if t = 15 then (b.take (p + 2)).drop p else []) (if t = 15 then p + 2 else p) with
    | error x => rw [h1] at h; cases h; exact rdNs_ne0 _ _ _ h1
    | ok a =>
      rw [h1, rdO] at h
      split at h
      · cases h
      · cases h; decide
theorem rdR_ne0 {b : List UInt8} {p : Nat} {e : Int} (h : rdR b p = .error e) : e ≠ 0 := by
  unfold rdR at h
  cases h1 : rdN b 20 p p b.length none [] with
  | error x => rw [h1] at h; cases h; exact rdN_ne0 _ _ _ _ _ h1
  | ok a =>
    rw [h1, rdR1] at h
    split at h
    · cases h; decide
    · cases h2 : rdD b (bN b a.2 2) (a.2 + 10) (a.2 + 10 + bN b (a.2 + 8) 2) with
      | error x => rw [h2] at h; cases h; exact rdD_ne0 h2
      | ok d => rw [h2] at h; cases h
def zR : Rr := ⟨[], 0, 0, 0, []⟩
def recV1 (b : List UInt8) (n : List UInt8) (q : Nat) : Except Int (List UInt8) → Rr
  | .error _ => ⟨n, bN b q 2, bN b (q + 2) 2, bN b (q + 4) 4, []⟩
  | .ok d => ⟨n, bN b q 2, bN b (q + 2) 2, bN b (q + 4) 4, d⟩
def recV0 (b : List UInt8) : Except Int (List UInt8 × Nat) → Rr
  | .error _ => zR
  | .ok a => if b.length < a.2 + 10 ∨ b.length < a.2 + 10 + bN b (a.2 + 8) 2 then zR else recV1 b a.1 a.2 (rdD b (bN b a.2 2) (a.2 + 10) (a.2 + 10 + bN b (a.2 + 8) 2))
def recV (b : List UInt8) (p : Nat) : Rr := recV0 b (rdN b 20 p p b.length none [])
theorem recV_er {b : List UInt8} {p : Nat} {e : Int} (h : rdN b 20 p p b.length none [] = .error e) : recV b p = zR := by rw [recV, h]; rfl
theorem recV_sh {b : List UInt8} {p : Nat} {a : List UInt8 × Nat} (h : rdN b 20 p p b.length none [] = .ok a) (h1 : b.length < a.2 + 10 ∨ b.length < a.2 + 10 + bN b (a.2 + 8) 2) : recV b p = zR := by rw [recV, h, recV0, if_pos h1]
theorem recV_go {b : List UInt8} {p : Nat} {a : List UInt8 × Nat} (h : rdN b 20 p p b.length none [] = .ok a) (h1 : ¬ b.length < a.2 + 10) (h2 : ¬ b.length < a.2 + 10 + bN b (a.2 + 8) 2) : recV b p = recV1 b a.1 a.2 (rdD b (bN b a.2 2) (a.2 + 10) (a.2 + 10 + bN b (a.2 + 8) 2)) := by rw [recV, h, recV0, if_neg (by omega)]
set_option maxRecDepth 20000 in
set_option maxHeartbeats 2000000 in
theorem c_rrrec (b : List UInt8) (p0 : Nat) (hb : b.length ≤ 65535) (hp : p0 ≤ 100000) : AC Try.prog 75 [.ptr 0 0 0] (hlook [(0, .box [.fz 0 b.length (cl bc b), i64 p0])]) (RetH (.tup [.agg (rrc (recV b p0)), i64 (rnE (rdR b p0))]) [(0, .box [.fz 0 b.length (cl bc b), atE (rdR b p0)])]) := by
 refine AC.intro te_ok (fn := Try.f75) ⟨Try.func75, rfl, rfl⟩ (Nat.le_of_ble_eq_true rfl) ?_
 refine AWp.seq ?_
 refine AWp.region ?_
 refine AOps.cons rfl rfl (q_alloc 100) ?_
 refine AOps.cons rfl rfl (q_assign) ?_
 refine AOps.nil ?_
 refine AWp.seq ?_
 refine AWp.region ?_
 rcases ha : rdN b 20 p0 p0 b.length none [] with e | a
 ·
  refine AOps.cons rfl rfl (q_move) ?_
  refine AOps.cons rfl rfl (q_move) ?_
  refine AOps.cons rfl rfl (q_nil) ?_
  refine AOps.cons rfl rfl (q_fa) ?_
  refine AOps.cons rfl rfl (q_load) ?_
  refine AOps.cons rfl rfl (q_len) ?_
  refine AOps.cons rfl rfl (q_callB (0) [(0, 0)] [] [(_, _)] (hc := (c_rrname_er hb (Nat.le_refl _) hp ha))) ?_
  refine AOps.cons rfl rfl (q_move) ?_
  refine AOps.cons rfl rfl (q_extract) ?_
  refine AOps.cons rfl rfl (q_extract) ?_
  refine AOps.cons rfl rfl (q_assign) ?_
  refine AOps.cons rfl rfl (q_assign) ?_
  refine AOps.nil ?_
  refine AWp.seq ?_
  refine AWp.seq ?_
  refine AWp.region ?_
  refine AOps.cons rfl rfl (q_move) ?_
  refine AOps.dec rfl rfl (q_neq) (fun h2_1 => ?_) (fun h2_1 => ?_)
  ·
   refine AOps.nil ?_
   refine AWp.cond_t rfl ?_
   refine AWp.seq ?_
   refine AWp.region ?_
   refine AOps.cons rfl rfl (q_build []) ?_
   refine AOps.cons rfl rfl (q_move) ?_
   refine AOps.cons rfl rfl (q_store) ?_
   refine AOps.cons rfl rfl (q_assign) ?_
   refine AOps.nil ?_
   refine AWp.ret ?_
   show Fin te Try.f75 _ _
   have hX : rdR b p0 = .error e := by rw [rdR, ha]; rfl
   rw [hX, recV_er ha]
   refine q_retH (0) [] [_, _] [.agg (rrc zR), _] [(_, _)] ?_ (hobj := by repeat' (first | exact trivial | exact lv_ok rfl | exact lv_sl rfl rfl | exact lv_rn rfl rfl .row rfl | exact lv_ptr rfl rfl | exact lv_mp rfl rfl | exact lv_nilz | exact lv_any | exact lv_row0 rfl rfl .row (fun _ => rfl) (Nat.le_of_ble_eq_true rfl) (fun _ => rfl) | exact lobj_row (fun _ => rfl) | exact lobj_rown (fun _ => rfl) | exact lobj_me (fun _ => rfl) | refine lobj_box ?_ | refine ⟨rfl, ⟨_, rfl, ?_⟩, ?_⟩ | refine ⟨?_, ?_⟩)) (h2 := by repeat' (first | exact trivial | exact lv_ok rfl | exact lv_ptr rfl rfl | exact lv_sl rfl rfl | exact lv_nilz | exact lv_row0 rfl rfl .row (fun _ => rfl) (Nat.le_of_ble_eq_true rfl) (fun _ => rfl) | refine lv_agg ?_ | exact lv_any | refine ⟨?_, ?_⟩))
   rfl
  ·
   exfalso; exact h2_1 (rdN_ne0 _ _ _ _ _ ha)
 ·
  refine AOps.cons rfl rfl (q_move) ?_
  refine AOps.cons rfl rfl (q_move) ?_
  refine AOps.cons rfl rfl (q_nil) ?_
  refine AOps.cons rfl rfl (q_fa) ?_
  refine AOps.cons rfl rfl (q_load) ?_
  refine AOps.cons rfl rfl (q_len) ?_
  refine AOps.cons rfl rfl (q_callB (0) [(0, 0)] [] [(_, _)] (hc := (c_rrname_ok hb (Nat.le_refl _) hp ha))) ?_
  refine AOps.cons rfl rfl (q_move) ?_
  refine AOps.cons rfl rfl (q_extract) ?_
  refine AOps.cons rfl rfl (q_extract) ?_
  refine AOps.cons rfl rfl (q_assign) ?_
  refine AOps.cons rfl rfl (q_assign) ?_
  refine AOps.nil ?_
  refine AWp.seq ?_
  refine AWp.seq ?_
  refine AWp.region ?_
  refine AOps.cons rfl rfl (q_move) ?_
  refine AOps.dec rfl rfl (q_neq) (fun h2_1 => ?_) (fun h2_1 => ?_)
  ·
   exfalso; simp at h2_1
  ·
   refine AOps.nil ?_
   refine AWp.cond_f rfl ?_
   refine AWp.skip ?_
   refine AWp.seq ?_
   refine AWp.region ?_
   refine AOps.cons rfl rfl (q_move) ?_
   refine AOps.cons rfl rfl (q_build [(_, _)]) ?_
   refine AOps.cons rfl rfl (q_alloc 502) ?_
   refine AOps.cons rfl rfl (q_store) ?_
   refine AOps.nil ?_
   refine AWp.seq ?_
   refine AWp.region ?_
   refine AOps.cons rfl rfl (q_assign) ?_
   refine AOps.nil ?_
   refine AWp.seq ?_
   refine AWp.region ?_
   refine AOps.cons rfl rfl (q_buildA tc [false, false, false, false] []) ?_
   refine AOps.cons rfl rfl (q_alloc 701) ?_
   refine AOps.cons rfl rfl (q_store) ?_
   refine AOps.nil ?_
   refine AWp.seq ?_
   refine AWp.region ?_
   obtain ⟨n1, n2, n3⟩ := rdN_ok0 ha
   have hsz := bN_lt2 (b := b) (i := a.2 + 8)
   rcases (by omega : b.length < a.2 + 2 ∨ (a.2 + 2 ≤ b.length ∧ b.length < a.2 + 4) ∨ (a.2 + 4 ≤ b.length ∧ b.length < a.2 + 6) ∨ (a.2 + 6 ≤ b.length ∧ b.length < a.2 + 8) ∨ (a.2 + 8 ≤ b.length ∧ b.length < a.2 + 10) ∨ a.2 + 10 ≤ b.length) with g1 | g1 | g1 | g1 | g1 | g1
   ·
    refine AOps.cons rfl rfl (q_move) ?_
    refine AOps.cons rfl rfl (q_callB (0) [(0, 0)] [] [(_, _)] (hc := (c_rrnum_no b (a.2) 2 hb (by omega) (by omega) (by omega)))) ?_
    refine AOps.cons rfl rfl (q_move) ?_
    refine AOps.cons rfl rfl (q_extract) ?_
    refine AOps.cons rfl rfl (q_extract) ?_
    refine AOps.cons rfl rfl (q_fa) ?_
    refine AOps.cons rfl rfl (q_store) ?_
    refine AOps.cons rfl rfl (q_ixa) ?_
    refine AOps.cons rfl rfl (q_store) ?_
    refine AOps.nil ?_
    refine AWp.seq ?_
    refine AWp.region ?_
    refine AOps.cons rfl rfl (q_move) ?_
    refine AOps.cons rfl rfl (q_callB (0) [(0, 0)] [] [(_, _)] (hc := (c_rrnum_no b (a.2) 2 hb (by omega) (by omega) (by omega)))) ?_
    refine AOps.cons rfl rfl (q_move) ?_
    refine AOps.cons rfl rfl (q_extract) ?_
    refine AOps.cons rfl rfl (q_extract) ?_
    refine AOps.cons rfl rfl (q_fa) ?_
    refine AOps.cons rfl rfl (q_store) ?_
    refine AOps.cons rfl rfl (q_ixa) ?_
    refine AOps.cons rfl rfl (q_store) ?_
    refine AOps.nil ?_
    refine AWp.seq ?_
    refine AWp.region ?_
    refine AOps.cons rfl rfl (q_move) ?_
    refine AOps.cons rfl rfl (q_callB (0) [(0, 0)] [] [(_, _)] (hc := (c_rrnum_no b (a.2) 4 hb (by omega) (by omega) (by omega)))) ?_
    refine AOps.cons rfl rfl (q_move) ?_
    refine AOps.cons rfl rfl (q_extract) ?_
    refine AOps.cons rfl rfl (q_extract) ?_
    refine AOps.cons rfl rfl (q_fa) ?_
    refine AOps.cons rfl rfl (q_store) ?_
    refine AOps.cons rfl rfl (q_ixa) ?_
    refine AOps.cons rfl rfl (q_store) ?_
    refine AOps.nil ?_
    refine AWp.seq ?_
    refine AWp.region ?_
    refine AOps.cons rfl rfl (q_move) ?_
    refine AOps.cons rfl rfl (q_callB (0) [(0, 0)] [] [(_, _)] (hc := (c_rrnum_no b (a.2) 2 hb (by omega) (by omega) (by omega)))) ?_
    refine AOps.cons rfl rfl (q_move) ?_
    refine AOps.cons rfl rfl (q_extract) ?_
    refine AOps.cons rfl rfl (q_extract) ?_
    refine AOps.cons rfl rfl (q_assign) ?_
    refine AOps.cons rfl rfl (q_ixa) ?_
    refine AOps.cons rfl rfl (q_store) ?_
    refine AOps.nil ?_
    refine AWp.seq ?_
    refine AWp.seq ?_
    refine AWp.draws [⟨0, [8], [701], some 53, _, []⟩,
        ⟨1, [], [], some 54, _, []⟩,
        ⟨2, [53, 54], [], some 55, _, []⟩,
        ⟨3, [55], [], some 56, _, []⟩,
        ⟨4, [56], [], some 57, .v undef, []⟩,
        ⟨5, [56], [], some 58, .v undef, []⟩,
        ⟨6, [56], [], some 59, .v undef, []⟩,
        ⟨7, [56], [], some 60, .v undef, []⟩,
        ⟨8, [56], [], some 61, .v undef, []⟩,
        ⟨9, [56], [], some 62, .v undef, []⟩,
        ⟨10, [56], [], some 63, .v undef, []⟩,
        ⟨11, [56], [], some 64, .v undef, []⟩,
        ⟨12, [56], [], some 65, .v undef, []⟩,
        ⟨13, [56], [], some 66, .v undef, []⟩,
        ⟨14, [56], [], some 67, .v undef, []⟩,
        ⟨15, [56], [], some 68, .v undef, []⟩,
        ⟨16, [56, 68], [], some 69, _, []⟩]
     [⟨0, [8], [701], some 53, .any, []⟩,
         ⟨1, [], [], some 54, .any, []⟩,
         ⟨2, [53, 54], [], some 55, .any, []⟩,
         ⟨3, [55], [], some 56, .any, []⟩,
         ⟨4, [56], [], some 57, .any, []⟩,
         ⟨5, [56], [], some 58, .any, []⟩,
         ⟨6, [56], [], some 59, .any, []⟩,
         ⟨7, [56], [], some 60, .any, []⟩,
         ⟨8, [56], [], some 61, .any, []⟩,
         ⟨9, [56], [], some 62, .any, []⟩,
         ⟨10, [56], [], some 63, .any, []⟩,
         ⟨11, [56], [], some 64, .any, []⟩,
         ⟨12, [56], [], some 65, .any, []⟩,
         ⟨13, [56], [], some 66, .any, []⟩,
         ⟨14, [56], [], some 67, .any, []⟩,
         ⟨15, [56], [], some 68, .any, []⟩,
         ⟨16, [56, 68], [], some 69, .any, []⟩]
     mixed_ok rfl (by kernel_rfl) ⟨DS.ok_over fun s0 => OpAt.go rfl rfl (q_load),
         DS.ok_over fun s0 => OpAt.go rfl rfl (q_buildA tc [true, true, true, true] [(_, _), (_, _), (_, _), (_, _)]),
         DS.ok_over fun s0 => OpAt.go rfl rfl ((OpOk.bool_is (c := true) (q_eqp) (rfl))),
         DS.ok_over fun s0 => OpAt.go rfl rfl (q_move),
         DS.ok_over fun s0 => OpAt.gskip rfl rfl rfl rfl rfl rfl rfl rfl,
         DS.ok_over fun s0 => OpAt.gskip rfl rfl rfl rfl rfl rfl rfl rfl,
         DS.ok_over fun s0 => OpAt.gskip rfl rfl rfl rfl rfl rfl rfl rfl,
         DS.ok_over fun s0 => OpAt.gskip rfl rfl rfl rfl rfl rfl rfl rfl,
         DS.ok_over fun s0 => OpAt.gskip rfl rfl rfl rfl rfl rfl rfl rfl,
         DS.ok_over fun s0 => OpAt.gskip rfl rfl rfl rfl rfl rfl rfl rfl,
         DS.ok_over fun s0 => OpAt.gskip rfl rfl rfl rfl rfl rfl rfl rfl,
         DS.ok_over fun s0 => OpAt.gskip rfl rfl rfl rfl rfl rfl rfl rfl,
         DS.ok_over fun s0 => OpAt.gskip rfl rfl rfl rfl rfl rfl rfl rfl,
         DS.ok_over fun s0 => OpAt.gskip rfl rfl rfl rfl rfl rfl rfl rfl,
         DS.ok_over fun s0 => OpAt.gskip rfl rfl rfl rfl rfl rfl rfl rfl,
         DS.ok_over fun s0 => OpAt.gskip rfl rfl rfl rfl rfl rfl rfl rfl,
         DS.ok_over fun s0 => OpAt.go rfl rfl (q_pick), trivial⟩ ?_
    dsimp only [final, DS.upd, AS.seto]
    refine AWp.cond_t rfl ?_
    refine AWp.seq ?_
    refine AWp.region ?_
    refine AOps.cons rfl rfl (q_build []) ?_
    refine AOps.cons rfl rfl (q_store) ?_
    refine AOps.cons rfl rfl (q_assign) ?_
    refine AOps.nil ?_
    refine AWp.ret ?_
    show Fin te Try.f75 _ _
    have hX : rdR b p0 = .error 20 := rdR_bad ha (by omega)
    rw [hX, recV_sh ha (by omega)]
    refine q_retH (0) [] [_, _] [.agg (rrc zR), _] [(_, _)] ?_ (hobj := by repeat' (first | exact trivial | exact lv_ok rfl | exact lv_sl rfl rfl | exact lv_rn rfl rfl .row rfl | exact lv_ptr rfl rfl | exact lv_mp rfl rfl | exact lv_nilz | exact lv_any | exact lv_row0 rfl rfl .row (fun _ => rfl) (Nat.le_of_ble_eq_true rfl) (fun _ => rfl) | exact lobj_row (fun _ => rfl) | exact lobj_rown (fun _ => rfl) | exact lobj_me (fun _ => rfl) | refine lobj_box ?_ | refine ⟨rfl, ⟨_, rfl, ?_⟩, ?_⟩ | refine ⟨?_, ?_⟩)) (h2 := by repeat' (first | exact trivial | exact lv_ok rfl | exact lv_ptr rfl rfl | exact lv_sl rfl rfl | exact lv_nilz | exact lv_row0 rfl rfl .row (fun _ => rfl) (Nat.le_of_ble_eq_true rfl) (fun _ => rfl) | refine lv_agg ?_ | exact lv_any | refine ⟨?_, ?_⟩))
    rfl
   ·
    refine AOps.cons rfl rfl (q_move) ?_
    refine AOps.cons rfl rfl (q_callB (0) [(0, 0)] [] [(_, _)] (hc := (c_rrnum_ok b (a.2) 2 hb (by omega) (by omega) (by omega)))) ?_
    refine AOps.cons rfl rfl (q_move) ?_
    refine AOps.cons rfl rfl (q_extract) ?_
    refine AOps.cons rfl rfl (q_extract) ?_
    refine AOps.cons rfl rfl (q_fa) ?_
    refine AOps.cons rfl rfl (q_store) ?_
    refine AOps.cons rfl rfl (q_ixa) ?_
    refine AOps.cons rfl rfl (q_store) ?_
    refine AOps.nil ?_
    refine AWp.seq ?_
    refine AWp.region ?_
    refine AOps.cons rfl rfl (q_move) ?_
    refine AOps.cons rfl rfl (q_callB (0) [(0, 0)] [] [(_, _)] (hc := (c_rrnum_no b (a.2 + 2) 2 hb (by omega) (by omega) (by omega)))) ?_
    refine AOps.cons rfl rfl (q_move) ?_
    refine AOps.cons rfl rfl (q_extract) ?_
    refine AOps.cons rfl rfl (q_extract) ?_
    refine AOps.cons rfl rfl (q_fa) ?_
    refine AOps.cons rfl rfl (q_store) ?_
    refine AOps.cons rfl rfl (q_ixa) ?_
    refine AOps.cons rfl rfl (q_store) ?_
    refine AOps.nil ?_
    refine AWp.seq ?_
    refine AWp.region ?_
    refine AOps.cons rfl rfl (q_move) ?_
    refine AOps.cons rfl rfl (q_callB (0) [(0, 0)] [] [(_, _)] (hc := (c_rrnum_no b (a.2 + 2) 4 hb (by omega) (by omega) (by omega)))) ?_
    refine AOps.cons rfl rfl (q_move) ?_
    refine AOps.cons rfl rfl (q_extract) ?_
    refine AOps.cons rfl rfl (q_extract) ?_
    refine AOps.cons rfl rfl (q_fa) ?_
    refine AOps.cons rfl rfl (q_store) ?_
    refine AOps.cons rfl rfl (q_ixa) ?_
    refine AOps.cons rfl rfl (q_store) ?_
    refine AOps.nil ?_
    refine AWp.seq ?_
    refine AWp.region ?_
    refine AOps.cons rfl rfl (q_move) ?_
    refine AOps.cons rfl rfl (q_callB (0) [(0, 0)] [] [(_, _)] (hc := (c_rrnum_no b (a.2 + 2) 2 hb (by omega) (by omega) (by omega)))) ?_
    refine AOps.cons rfl rfl (q_move) ?_
    refine AOps.cons rfl rfl (q_extract) ?_
    refine AOps.cons rfl rfl (q_extract) ?_
    refine AOps.cons rfl rfl (q_assign) ?_
    refine AOps.cons rfl rfl (q_ixa) ?_
    refine AOps.cons rfl rfl (q_store) ?_
    refine AOps.nil ?_
    refine AWp.seq ?_
    refine AWp.seq ?_
    refine AWp.draws [⟨0, [8], [701], some 53, _, []⟩,
        ⟨1, [], [], some 54, _, []⟩,
        ⟨2, [53, 54], [], some 55, _, []⟩,
        ⟨3, [55], [], some 56, _, []⟩,
        ⟨4, [56], [], some 57, .v undef, []⟩,
        ⟨5, [56], [], some 58, .v undef, []⟩,
        ⟨6, [56], [], some 59, .v undef, []⟩,
        ⟨7, [56], [], some 60, .v undef, []⟩,
        ⟨8, [56], [], some 61, .v undef, []⟩,
        ⟨9, [56], [], some 62, .v undef, []⟩,
        ⟨10, [56], [], some 63, .v undef, []⟩,
        ⟨11, [56], [], some 64, .v undef, []⟩,
        ⟨12, [56], [], some 65, .v undef, []⟩,
        ⟨13, [56], [], some 66, .v undef, []⟩,
        ⟨14, [56], [], some 67, .v undef, []⟩,
        ⟨15, [56], [], some 68, .v undef, []⟩,
        ⟨16, [56, 68], [], some 69, _, []⟩]
     [⟨0, [8], [701], some 53, .any, []⟩,
         ⟨1, [], [], some 54, .any, []⟩,
         ⟨2, [53, 54], [], some 55, .any, []⟩,
         ⟨3, [55], [], some 56, .any, []⟩,
         ⟨4, [56], [], some 57, .any, []⟩,
         ⟨5, [56], [], some 58, .any, []⟩,
         ⟨6, [56], [], some 59, .any, []⟩,
         ⟨7, [56], [], some 60, .any, []⟩,
         ⟨8, [56], [], some 61, .any, []⟩,
         ⟨9, [56], [], some 62, .any, []⟩,
         ⟨10, [56], [], some 63, .any, []⟩,
         ⟨11, [56], [], some 64, .any, []⟩,
         ⟨12, [56], [], some 65, .any, []⟩,
         ⟨13, [56], [], some 66, .any, []⟩,
         ⟨14, [56], [], some 67, .any, []⟩,
         ⟨15, [56], [], some 68, .any, []⟩,
         ⟨16, [56, 68], [], some 69, .any, []⟩]
     mixed_ok rfl (by kernel_rfl) ⟨DS.ok_over fun s0 => OpAt.go rfl rfl (q_load),
         DS.ok_over fun s0 => OpAt.go rfl rfl (q_buildA tc [true, true, true, true] [(_, _), (_, _), (_, _), (_, _)]),
         DS.ok_over fun s0 => OpAt.go rfl rfl ((OpOk.bool_is (c := true) (q_eqp) (rfl))),
         DS.ok_over fun s0 => OpAt.go rfl rfl (q_move),
         DS.ok_over fun s0 => OpAt.gskip rfl rfl rfl rfl rfl rfl rfl rfl,
         DS.ok_over fun s0 => OpAt.gskip rfl rfl rfl rfl rfl rfl rfl rfl,
         DS.ok_over fun s0 => OpAt.gskip rfl rfl rfl rfl rfl rfl rfl rfl,
         DS.ok_over fun s0 => OpAt.gskip rfl rfl rfl rfl rfl rfl rfl rfl,
         DS.ok_over fun s0 => OpAt.gskip rfl rfl rfl rfl rfl rfl rfl rfl,
         DS.ok_over fun s0 => OpAt.gskip rfl rfl rfl rfl rfl rfl rfl rfl,
         DS.ok_over fun s0 => OpAt.gskip rfl rfl rfl rfl rfl rfl rfl rfl,
         DS.ok_over fun s0 => OpAt.gskip rfl rfl rfl rfl rfl rfl rfl rfl,
         DS.ok_over fun s0 => OpAt.gskip rfl rfl rfl rfl rfl rfl rfl rfl,
         DS.ok_over fun s0 => OpAt.gskip rfl rfl rfl rfl rfl rfl rfl rfl,
         DS.ok_over fun s0 => OpAt.gskip rfl rfl rfl rfl rfl rfl rfl rfl,
         DS.ok_over fun s0 => OpAt.gskip rfl rfl rfl rfl rfl rfl rfl rfl,
         DS.ok_over fun s0 => OpAt.go rfl rfl (q_pick), trivial⟩ ?_
    dsimp only [final, DS.upd, AS.seto]
    refine AWp.cond_t rfl ?_
    refine AWp.seq ?_
    refine AWp.region ?_
    refine AOps.cons rfl rfl (q_build []) ?_
    refine AOps.cons rfl rfl (q_store) ?_
    refine AOps.cons rfl rfl (q_assign) ?_
    refine AOps.nil ?_
    refine AWp.ret ?_
    show Fin te Try.f75 _ _
    have hX : rdR b p0 = .error 20 := rdR_bad ha (by omega)
    rw [hX, recV_sh ha (by omega)]
    refine q_retH (0) [] [_, _] [.agg (rrc zR), _] [(_, _)] ?_ (hobj := by repeat' (first | exact trivial | exact lv_ok rfl | exact lv_sl rfl rfl | exact lv_rn rfl rfl .row rfl | exact lv_ptr rfl rfl | exact lv_mp rfl rfl | exact lv_nilz | exact lv_any | exact lv_row0 rfl rfl .row (fun _ => rfl) (Nat.le_of_ble_eq_true rfl) (fun _ => rfl) | exact lobj_row (fun _ => rfl) | exact lobj_rown (fun _ => rfl) | exact lobj_me (fun _ => rfl) | refine lobj_box ?_ | refine ⟨rfl, ⟨_, rfl, ?_⟩, ?_⟩ | refine ⟨?_, ?_⟩)) (h2 := by repeat' (first | exact trivial | exact lv_ok rfl | exact lv_ptr rfl rfl | exact lv_sl rfl rfl | exact lv_nilz | exact lv_row0 rfl rfl .row (fun _ => rfl) (Nat.le_of_ble_eq_true rfl) (fun _ => rfl) | refine lv_agg ?_ | exact lv_any | refine ⟨?_, ?_⟩))
    rfl
   ·
    refine AOps.cons rfl rfl (q_move) ?_
    refine AOps.cons rfl rfl (q_callB (0) [(0, 0)] [] [(_, _)] (hc := (c_rrnum_ok b (a.2) 2 hb (by omega) (by omega) (by omega)))) ?_
    refine AOps.cons rfl rfl (q_move) ?_
    refine AOps.cons rfl rfl (q_extract) ?_
    refine AOps.cons rfl rfl (q_extract) ?_
    refine AOps.cons rfl rfl (q_fa) ?_
    refine AOps.cons rfl rfl (q_store) ?_
    refine AOps.cons rfl rfl (q_ixa) ?_
    refine AOps.cons rfl rfl (q_store) ?_
    refine AOps.nil ?_
    refine AWp.seq ?_
    refine AWp.region ?_
    refine AOps.cons rfl rfl (q_move) ?_
    refine AOps.cons rfl rfl (q_callB (0) [(0, 0)] [] [(_, _)] (hc := (c_rrnum_ok b (a.2 + 2) 2 hb (by omega) (by omega) (by omega)))) ?_
    refine AOps.cons rfl rfl (q_move) ?_
    refine AOps.cons rfl rfl (q_extract) ?_
    refine AOps.cons rfl rfl (q_extract) ?_
    refine AOps.cons rfl rfl (q_fa) ?_
    refine AOps.cons rfl rfl (q_store) ?_
    refine AOps.cons rfl rfl (q_ixa) ?_
    refine AOps.cons rfl rfl (q_store) ?_
    refine AOps.nil ?_
    refine AWp.seq ?_
    refine AWp.region ?_
    refine AOps.cons rfl rfl (q_move) ?_
    refine AOps.cons rfl rfl (q_callB (0) [(0, 0)] [] [(_, _)] (hc := (c_rrnum_no b (a.2 + 4) 4 hb (by omega) (by omega) (by omega)))) ?_
    refine AOps.cons rfl rfl (q_move) ?_
    refine AOps.cons rfl rfl (q_extract) ?_
    refine AOps.cons rfl rfl (q_extract) ?_
    refine AOps.cons rfl rfl (q_fa) ?_
    refine AOps.cons rfl rfl (q_store) ?_
    refine AOps.cons rfl rfl (q_ixa) ?_
    refine AOps.cons rfl rfl (q_store) ?_
    refine AOps.nil ?_
    refine AWp.seq ?_
    refine AWp.region ?_
    refine AOps.cons rfl rfl (q_move) ?_
    refine AOps.cons rfl rfl (q_callB (0) [(0, 0)] [] [(_, _)] (hc := (c_rrnum_no b (a.2 + 4) 2 hb (by omega) (by omega) (by omega)))) ?_
    refine AOps.cons rfl rfl (q_move) ?_
    refine AOps.cons rfl rfl (q_extract) ?_
    refine AOps.cons rfl rfl (q_extract) ?_
    refine AOps.cons rfl rfl (q_assign) ?_
    refine AOps.cons rfl rfl (q_ixa) ?_
    refine AOps.cons rfl rfl (q_store) ?_
    refine AOps.nil ?_
    refine AWp.seq ?_
    refine AWp.seq ?_
    refine AWp.draws [⟨0, [8], [701], some 53, _, []⟩,
        ⟨1, [], [], some 54, _, []⟩,
        ⟨2, [53, 54], [], some 55, _, []⟩,
        ⟨3, [55], [], some 56, _, []⟩,
        ⟨4, [56], [], some 57, .v undef, []⟩,
        ⟨5, [56], [], some 58, .v undef, []⟩,
        ⟨6, [56], [], some 59, .v undef, []⟩,
        ⟨7, [56], [], some 60, .v undef, []⟩,
        ⟨8, [56], [], some 61, .v undef, []⟩,
        ⟨9, [56], [], some 62, .v undef, []⟩,
        ⟨10, [56], [], some 63, .v undef, []⟩,
        ⟨11, [56], [], some 64, .v undef, []⟩,
        ⟨12, [56], [], some 65, .v undef, []⟩,
        ⟨13, [56], [], some 66, .v undef, []⟩,
        ⟨14, [56], [], some 67, .v undef, []⟩,
        ⟨15, [56], [], some 68, .v undef, []⟩,
        ⟨16, [56, 68], [], some 69, _, []⟩]
     [⟨0, [8], [701], some 53, .any, []⟩,
         ⟨1, [], [], some 54, .any, []⟩,
         ⟨2, [53, 54], [], some 55, .any, []⟩,
         ⟨3, [55], [], some 56, .any, []⟩,
         ⟨4, [56], [], some 57, .any, []⟩,
         ⟨5, [56], [], some 58, .any, []⟩,
         ⟨6, [56], [], some 59, .any, []⟩,
         ⟨7, [56], [], some 60, .any, []⟩,
         ⟨8, [56], [], some 61, .any, []⟩,
         ⟨9, [56], [], some 62, .any, []⟩,
         ⟨10, [56], [], some 63, .any, []⟩,
         ⟨11, [56], [], some 64, .any, []⟩,
         ⟨12, [56], [], some 65, .any, []⟩,
         ⟨13, [56], [], some 66, .any, []⟩,
         ⟨14, [56], [], some 67, .any, []⟩,
         ⟨15, [56], [], some 68, .any, []⟩,
         ⟨16, [56, 68], [], some 69, .any, []⟩]
     mixed_ok rfl (by kernel_rfl) ⟨DS.ok_over fun s0 => OpAt.go rfl rfl (q_load),
         DS.ok_over fun s0 => OpAt.go rfl rfl (q_buildA tc [true, true, true, true] [(_, _), (_, _), (_, _), (_, _)]),
         DS.ok_over fun s0 => OpAt.go rfl rfl ((OpOk.bool_is (c := true) (q_eqp) (rfl))),
         DS.ok_over fun s0 => OpAt.go rfl rfl (q_move),
         DS.ok_over fun s0 => OpAt.gskip rfl rfl rfl rfl rfl rfl rfl rfl,
         DS.ok_over fun s0 => OpAt.gskip rfl rfl rfl rfl rfl rfl rfl rfl,
         DS.ok_over fun s0 => OpAt.gskip rfl rfl rfl rfl rfl rfl rfl rfl,
         DS.ok_over fun s0 => OpAt.gskip rfl rfl rfl rfl rfl rfl rfl rfl,
         DS.ok_over fun s0 => OpAt.gskip rfl rfl rfl rfl rfl rfl rfl rfl,
         DS.ok_over fun s0 => OpAt.gskip rfl rfl rfl rfl rfl rfl rfl rfl,
         DS.ok_over fun s0 => OpAt.gskip rfl rfl rfl rfl rfl rfl rfl rfl,
         DS.ok_over fun s0 => OpAt.gskip rfl rfl rfl rfl rfl rfl rfl rfl,
         DS.ok_over fun s0 => OpAt.gskip rfl rfl rfl rfl rfl rfl rfl rfl,
         DS.ok_over fun s0 => OpAt.gskip rfl rfl rfl rfl rfl rfl rfl rfl,
         DS.ok_over fun s0 => OpAt.gskip rfl rfl rfl rfl rfl rfl rfl rfl,
         DS.ok_over fun s0 => OpAt.gskip rfl rfl rfl rfl rfl rfl rfl rfl,
         DS.ok_over fun s0 => OpAt.go rfl rfl (q_pick), trivial⟩ ?_
    dsimp only [final, DS.upd, AS.seto]
    refine AWp.cond_t rfl ?_
    refine AWp.seq ?_
    refine AWp.region ?_
    refine AOps.cons rfl rfl (q_build []) ?_
    refine AOps.cons rfl rfl (q_store) ?_
    refine AOps.cons rfl rfl (q_assign) ?_
    refine AOps.nil ?_
    refine AWp.ret ?_
    show Fin te Try.f75 _ _
    have hX : rdR b p0 = .error 20 := rdR_bad ha (by omega)
    rw [hX, recV_sh ha (by omega)]
    refine q_retH (0) [] [_, _] [.agg (rrc zR), _] [(_, _)] ?_ (hobj := by repeat' (first | exact trivial | exact lv_ok rfl | exact lv_sl rfl rfl | exact lv_rn rfl rfl .row rfl | exact lv_ptr rfl rfl | exact lv_mp rfl rfl | exact lv_nilz | exact lv_any | exact lv_row0 rfl rfl .row (fun _ => rfl) (Nat.le_of_ble_eq_true rfl) (fun _ => rfl) | exact lobj_row (fun _ => rfl) | exact lobj_rown (fun _ => rfl) | exact lobj_me (fun _ => rfl) | refine lobj_box ?_ | refine ⟨rfl, ⟨_, rfl, ?_⟩, ?_⟩ | refine ⟨?_, ?_⟩)) (h2 := by repeat' (first | exact trivial | exact lv_ok rfl | exact lv_ptr rfl rfl | exact lv_sl rfl rfl | exact lv_nilz | exact lv_row0 rfl rfl .row (fun _ => rfl) (Nat.le_of_ble_eq_true rfl) (fun _ => rfl) | refine lv_agg ?_ | exact lv_any | refine ⟨?_, ?_⟩))
    rfl
   ·
    refine AOps.cons rfl rfl (q_move) ?_
    refine AOps.cons rfl rfl (q_callB (0) [(0, 0)] [] [(_, _)] (hc := (c_rrnum_ok b (a.2) 2 hb (by omega) (by omega) (by omega)))) ?_
    refine AOps.cons rfl rfl (q_move) ?_
    refine AOps.cons rfl rfl (q_extract) ?_
    refine AOps.cons rfl rfl (q_extract) ?_
    refine AOps.cons rfl rfl (q_fa) ?_
    refine AOps.cons rfl rfl (q_store) ?_
    refine AOps.cons rfl rfl (q_ixa) ?_
    refine AOps.cons rfl rfl (q_store) ?_
    refine AOps.nil ?_
    refine AWp.seq ?_
    refine AWp.region ?_
    refine AOps.cons rfl rfl (q_move) ?_
    refine AOps.cons rfl rfl (q_callB (0) [(0, 0)] [] [(_, _)] (hc := (c_rrnum_ok b (a.2 + 2) 2 hb (by omega) (by omega) (by omega)))) ?_
    refine AOps.cons rfl rfl (q_move) ?_
    refine AOps.cons rfl rfl (q_extract) ?_
    refine AOps.cons rfl rfl (q_extract) ?_
    refine AOps.cons rfl rfl (q_fa) ?_
    refine AOps.cons rfl rfl (q_store) ?_
    refine AOps.cons rfl rfl (q_ixa) ?_
    refine AOps.cons rfl rfl (q_store) ?_
    refine AOps.nil ?_
    refine AWp.seq ?_
    refine AWp.region ?_
    refine AOps.cons rfl rfl (q_move) ?_
    refine AOps.cons rfl rfl (q_callB (0) [(0, 0)] [] [(_, _)] (hc := (c_rrnum_no b (a.2 + 4) 4 hb (by omega) (by omega) (by omega)))) ?_
    refine AOps.cons rfl rfl (q_move) ?_
    refine AOps.cons rfl rfl (q_extract) ?_
    refine AOps.cons rfl rfl (q_extract) ?_
    refine AOps.cons rfl rfl (q_fa) ?_
    refine AOps.cons rfl rfl (q_store) ?_
    refine AOps.cons rfl rfl (q_ixa) ?_
    refine AOps.cons rfl rfl (q_store) ?_
    refine AOps.nil ?_
    refine AWp.seq ?_
    refine AWp.region ?_
    refine AOps.cons rfl rfl (q_move) ?_
    refine AOps.cons rfl rfl (q_callB (0) [(0, 0)] [] [(_, _)] (hc := (c_rrnum_ok b (a.2 + 4) 2 hb (by omega) (by omega) (by omega)))) ?_
    refine AOps.cons rfl rfl (q_move) ?_
    refine AOps.cons rfl rfl (q_extract) ?_
    refine AOps.cons rfl rfl (q_extract) ?_
    refine AOps.cons rfl rfl (q_assign) ?_
    refine AOps.cons rfl rfl (q_ixa) ?_
    refine AOps.cons rfl rfl (q_store) ?_
    refine AOps.nil ?_
    refine AWp.seq ?_
    refine AWp.seq ?_
    refine AWp.draws [⟨0, [8], [701], some 53, _, []⟩,
        ⟨1, [], [], some 54, _, []⟩,
        ⟨2, [53, 54], [], some 55, _, []⟩,
        ⟨3, [55], [], some 56, _, []⟩,
        ⟨4, [56], [], some 57, .v undef, []⟩,
        ⟨5, [56], [], some 58, .v undef, []⟩,
        ⟨6, [56], [], some 59, .v undef, []⟩,
        ⟨7, [56], [], some 60, .v undef, []⟩,
        ⟨8, [56], [], some 61, .v undef, []⟩,
        ⟨9, [56], [], some 62, .v undef, []⟩,
        ⟨10, [56], [], some 63, .v undef, []⟩,
        ⟨11, [56], [], some 64, .v undef, []⟩,
        ⟨12, [56], [], some 65, .v undef, []⟩,
        ⟨13, [56], [], some 66, .v undef, []⟩,
        ⟨14, [56], [], some 67, .v undef, []⟩,
        ⟨15, [56], [], some 68, .v undef, []⟩,
        ⟨16, [56, 68], [], some 69, _, []⟩]
     [⟨0, [8], [701], some 53, .any, []⟩,
         ⟨1, [], [], some 54, .any, []⟩,
         ⟨2, [53, 54], [], some 55, .any, []⟩,
         ⟨3, [55], [], some 56, .any, []⟩,
         ⟨4, [56], [], some 57, .any, []⟩,
         ⟨5, [56], [], some 58, .any, []⟩,
         ⟨6, [56], [], some 59, .any, []⟩,
         ⟨7, [56], [], some 60, .any, []⟩,
         ⟨8, [56], [], some 61, .any, []⟩,
         ⟨9, [56], [], some 62, .any, []⟩,
         ⟨10, [56], [], some 63, .any, []⟩,
         ⟨11, [56], [], some 64, .any, []⟩,
         ⟨12, [56], [], some 65, .any, []⟩,
         ⟨13, [56], [], some 66, .any, []⟩,
         ⟨14, [56], [], some 67, .any, []⟩,
         ⟨15, [56], [], some 68, .any, []⟩,
         ⟨16, [56, 68], [], some 69, .any, []⟩]
     mixed_ok rfl (by kernel_rfl) ⟨DS.ok_over fun s0 => OpAt.go rfl rfl (q_load),
         DS.ok_over fun s0 => OpAt.go rfl rfl (q_buildA tc [true, true, true, true] [(_, _), (_, _), (_, _), (_, _)]),
         DS.ok_over fun s0 => OpAt.go rfl rfl ((OpOk.bool_is (c := true) (q_eqp) (rfl))),
         DS.ok_over fun s0 => OpAt.go rfl rfl (q_move),
         DS.ok_over fun s0 => OpAt.gskip rfl rfl rfl rfl rfl rfl rfl rfl,
         DS.ok_over fun s0 => OpAt.gskip rfl rfl rfl rfl rfl rfl rfl rfl,
         DS.ok_over fun s0 => OpAt.gskip rfl rfl rfl rfl rfl rfl rfl rfl,
         DS.ok_over fun s0 => OpAt.gskip rfl rfl rfl rfl rfl rfl rfl rfl,
         DS.ok_over fun s0 => OpAt.gskip rfl rfl rfl rfl rfl rfl rfl rfl,
         DS.ok_over fun s0 => OpAt.gskip rfl rfl rfl rfl rfl rfl rfl rfl,
         DS.ok_over fun s0 => OpAt.gskip rfl rfl rfl rfl rfl rfl rfl rfl,
         DS.ok_over fun s0 => OpAt.gskip rfl rfl rfl rfl rfl rfl rfl rfl,
         DS.ok_over fun s0 => OpAt.gskip rfl rfl rfl rfl rfl rfl rfl rfl,
         DS.ok_over fun s0 => OpAt.gskip rfl rfl rfl rfl rfl rfl rfl rfl,
         DS.ok_over fun s0 => OpAt.gskip rfl rfl rfl rfl rfl rfl rfl rfl,
         DS.ok_over fun s0 => OpAt.gskip rfl rfl rfl rfl rfl rfl rfl rfl,
         DS.ok_over fun s0 => OpAt.go rfl rfl (q_pick), trivial⟩ ?_
    dsimp only [final, DS.upd, AS.seto]
    refine AWp.cond_t rfl ?_
    refine AWp.seq ?_
    refine AWp.region ?_
    refine AOps.cons rfl rfl (q_build []) ?_
    refine AOps.cons rfl rfl (q_store) ?_
    refine AOps.cons rfl rfl (q_assign) ?_
    refine AOps.nil ?_
    refine AWp.ret ?_
    show Fin te Try.f75 _ _
    have hX : rdR b p0 = .error 20 := rdR_bad ha (by omega)
    rw [hX, recV_sh ha (by omega)]
    refine q_retH (0) [] [_, _] [.agg (rrc zR), _] [(_, _)] ?_ (hobj := by repeat' (first | exact trivial | exact lv_ok rfl | exact lv_sl rfl rfl | exact lv_rn rfl rfl .row rfl | exact lv_ptr rfl rfl | exact lv_mp rfl rfl | exact lv_nilz | exact lv_any | exact lv_row0 rfl rfl .row (fun _ => rfl) (Nat.le_of_ble_eq_true rfl) (fun _ => rfl) | exact lobj_row (fun _ => rfl) | exact lobj_rown (fun _ => rfl) | exact lobj_me (fun _ => rfl) | refine lobj_box ?_ | refine ⟨rfl, ⟨_, rfl, ?_⟩, ?_⟩ | refine ⟨?_, ?_⟩)) (h2 := by repeat' (first | exact trivial | exact lv_ok rfl | exact lv_ptr rfl rfl | exact lv_sl rfl rfl | exact lv_nilz | exact lv_row0 rfl rfl .row (fun _ => rfl) (Nat.le_of_ble_eq_true rfl) (fun _ => rfl) | refine lv_agg ?_ | exact lv_any | refine ⟨?_, ?_⟩))
    rfl
   ·
    refine AOps.cons rfl rfl (q_move) ?_
    refine AOps.cons rfl rfl (q_callB (0) [(0, 0)] [] [(_, _)] (hc := (c_rrnum_ok b (a.2) 2 hb (by omega) (by omega) (by omega)))) ?_
    refine AOps.cons rfl rfl (q_move) ?_
    refine AOps.cons rfl rfl (q_extract) ?_
    refine AOps.cons rfl rfl (q_extract) ?_
    refine AOps.cons rfl rfl (q_fa) ?_
    refine AOps.cons rfl rfl (q_store) ?_
    refine AOps.cons rfl rfl (q_ixa) ?_
    refine AOps.cons rfl rfl (q_store) ?_
    refine AOps.nil ?_
    refine AWp.seq ?_
    refine AWp.region ?_
    refine AOps.cons rfl rfl (q_move) ?_
    refine AOps.cons rfl rfl (q_callB (0) [(0, 0)] [] [(_, _)] (hc := (c_rrnum_ok b (a.2 + 2) 2 hb (by omega) (by omega) (by omega)))) ?_
    refine AOps.cons rfl rfl (q_move) ?_
    refine AOps.cons rfl rfl (q_extract) ?_
    refine AOps.cons rfl rfl (q_extract) ?_
    refine AOps.cons rfl rfl (q_fa) ?_
    refine AOps.cons rfl rfl (q_store) ?_
    refine AOps.cons rfl rfl (q_ixa) ?_
    refine AOps.cons rfl rfl (q_store) ?_
    refine AOps.nil ?_
    refine AWp.seq ?_
    refine AWp.region ?_
    refine AOps.cons rfl rfl (q_move) ?_
    refine AOps.cons rfl rfl (q_callB (0) [(0, 0)] [] [(_, _)] (hc := (c_rrnum_ok b (a.2 + 4) 4 hb (by omega) (by omega) (by omega)))) ?_
    refine AOps.cons rfl rfl (q_move) ?_
    refine AOps.cons rfl rfl (q_extract) ?_
    refine AOps.cons rfl rfl (q_extract) ?_
    refine AOps.cons rfl rfl (q_fa) ?_
    refine AOps.cons rfl rfl (q_store) ?_
    refine AOps.cons rfl rfl (q_ixa) ?_
    refine AOps.cons rfl rfl (q_store) ?_
    refine AOps.nil ?_
    refine AWp.seq ?_
    refine AWp.region ?_
    refine AOps.cons rfl rfl (q_move) ?_
    refine AOps.cons rfl rfl (q_callB (0) [(0, 0)] [] [(_, _)] (hc := (c_rrnum_no b (a.2 + 8) 2 hb (by omega) (by omega) (by omega)))) ?_
    refine AOps.cons rfl rfl (q_move) ?_
    refine AOps.cons rfl rfl (q_extract) ?_
    refine AOps.cons rfl rfl (q_extract) ?_
    refine AOps.cons rfl rfl (q_assign) ?_
    refine AOps.cons rfl rfl (q_ixa) ?_
    refine AOps.cons rfl rfl (q_store) ?_
    refine AOps.nil ?_
    refine AWp.seq ?_
    refine AWp.seq ?_
    refine AWp.draws [⟨0, [8], [701], some 53, _, []⟩,
        ⟨1, [], [], some 54, _, []⟩,
        ⟨2, [53, 54], [], some 55, _, []⟩,
        ⟨3, [55], [], some 56, _, []⟩,
        ⟨4, [56], [], some 57, .v undef, []⟩,
        ⟨5, [56], [], some 58, .v undef, []⟩,
        ⟨6, [56], [], some 59, .v undef, []⟩,
        ⟨7, [56], [], some 60, .v undef, []⟩,
        ⟨8, [56], [], some 61, .v undef, []⟩,
        ⟨9, [56], [], some 62, .v undef, []⟩,
        ⟨10, [56], [], some 63, .v undef, []⟩,
        ⟨11, [56], [], some 64, .v undef, []⟩,
        ⟨12, [56], [], some 65, .v undef, []⟩,
        ⟨13, [56], [], some 66, .v undef, []⟩,
        ⟨14, [56], [], some 67, .v undef, []⟩,
        ⟨15, [56], [], some 68, .v undef, []⟩,
        ⟨16, [56, 68], [], some 69, _, []⟩]
     [⟨0, [8], [701], some 53, .any, []⟩,
         ⟨1, [], [], some 54, .any, []⟩,
         ⟨2, [53, 54], [], some 55, .any, []⟩,
         ⟨3, [55], [], some 56, .any, []⟩,
         ⟨4, [56], [], some 57, .any, []⟩,
         ⟨5, [56], [], some 58, .any, []⟩,
         ⟨6, [56], [], some 59, .any, []⟩,
         ⟨7, [56], [], some 60, .any, []⟩,
         ⟨8, [56], [], some 61, .any, []⟩,
         ⟨9, [56], [], some 62, .any, []⟩,
         ⟨10, [56], [], some 63, .any, []⟩,
         ⟨11, [56], [], some 64, .any, []⟩,
         ⟨12, [56], [], some 65, .any, []⟩,
         ⟨13, [56], [], some 66, .any, []⟩,
         ⟨14, [56], [], some 67, .any, []⟩,
         ⟨15, [56], [], some 68, .any, []⟩,
         ⟨16, [56, 68], [], some 69, .any, []⟩]
     mixed_ok rfl (by kernel_rfl) ⟨DS.ok_over fun s0 => OpAt.go rfl rfl (q_load),
         DS.ok_over fun s0 => OpAt.go rfl rfl (q_buildA tc [true, true, true, true] [(_, _), (_, _), (_, _), (_, _)]),
         DS.ok_over fun s0 => OpAt.go rfl rfl ((OpOk.bool_is (c := true) (q_eqp) (rfl))),
         DS.ok_over fun s0 => OpAt.go rfl rfl (q_move),
         DS.ok_over fun s0 => OpAt.gskip rfl rfl rfl rfl rfl rfl rfl rfl,
         DS.ok_over fun s0 => OpAt.gskip rfl rfl rfl rfl rfl rfl rfl rfl,
         DS.ok_over fun s0 => OpAt.gskip rfl rfl rfl rfl rfl rfl rfl rfl,
         DS.ok_over fun s0 => OpAt.gskip rfl rfl rfl rfl rfl rfl rfl rfl,
         DS.ok_over fun s0 => OpAt.gskip rfl rfl rfl rfl rfl rfl rfl rfl,
         DS.ok_over fun s0 => OpAt.gskip rfl rfl rfl rfl rfl rfl rfl rfl,
         DS.ok_over fun s0 => OpAt.gskip rfl rfl rfl rfl rfl rfl rfl rfl,
         DS.ok_over fun s0 => OpAt.gskip rfl rfl rfl rfl rfl rfl rfl rfl,
         DS.ok_over fun s0 => OpAt.gskip rfl rfl rfl rfl rfl rfl rfl rfl,
         DS.ok_over fun s0 => OpAt.gskip rfl rfl rfl rfl rfl rfl rfl rfl,
         DS.ok_over fun s0 => OpAt.gskip rfl rfl rfl rfl rfl rfl rfl rfl,
         DS.ok_over fun s0 => OpAt.gskip rfl rfl rfl rfl rfl rfl rfl rfl,
         DS.ok_over fun s0 => OpAt.go rfl rfl (q_pick), trivial⟩ ?_
    dsimp only [final, DS.upd, AS.seto]
    refine AWp.cond_t rfl ?_
    refine AWp.seq ?_
    refine AWp.region ?_
    refine AOps.cons rfl rfl (q_build []) ?_
    refine AOps.cons rfl rfl (q_store) ?_
    refine AOps.cons rfl rfl (q_assign) ?_
    refine AOps.nil ?_
    refine AWp.ret ?_
    show Fin te Try.f75 _ _
    have hX : rdR b p0 = .error 20 := rdR_bad ha (by omega)
    rw [hX, recV_sh ha (by omega)]
    refine q_retH (0) [] [_, _] [.agg (rrc zR), _] [(_, _)] ?_ (hobj := by repeat' (first | exact trivial | exact lv_ok rfl | exact lv_sl rfl rfl | exact lv_rn rfl rfl .row rfl | exact lv_ptr rfl rfl | exact lv_mp rfl rfl | exact lv_nilz | exact lv_any | exact lv_row0 rfl rfl .row (fun _ => rfl) (Nat.le_of_ble_eq_true rfl) (fun _ => rfl) | exact lobj_row (fun _ => rfl) | exact lobj_rown (fun _ => rfl) | exact lobj_me (fun _ => rfl) | refine lobj_box ?_ | refine ⟨rfl, ⟨_, rfl, ?_⟩, ?_⟩ | refine ⟨?_, ?_⟩)) (h2 := by repeat' (first | exact trivial | exact lv_ok rfl | exact lv_ptr rfl rfl | exact lv_sl rfl rfl | exact lv_nilz | exact lv_row0 rfl rfl .row (fun _ => rfl) (Nat.le_of_ble_eq_true rfl) (fun _ => rfl) | refine lv_agg ?_ | exact lv_any | refine ⟨?_, ?_⟩))
    rfl
   ·
    refine AOps.cons rfl rfl (q_move) ?_
    refine AOps.cons rfl rfl (q_callB (0) [(0, 0)] [] [(_, _)] (hc := (c_rrnum_ok b (a.2) 2 hb (by omega) (by omega) (by omega)))) ?_
    refine AOps.cons rfl rfl (q_move) ?_
    refine AOps.cons rfl rfl (q_extract) ?_
    refine AOps.cons rfl rfl (q_extract) ?_
    refine AOps.cons rfl rfl (q_fa) ?_
    refine AOps.cons rfl rfl (q_store) ?_
    refine AOps.cons rfl rfl (q_ixa) ?_
    refine AOps.cons rfl rfl (q_store) ?_
    refine AOps.nil ?_
    refine AWp.seq ?_
    refine AWp.region ?_
    refine AOps.cons rfl rfl (q_move) ?_
    refine AOps.cons rfl rfl (q_callB (0) [(0, 0)] [] [(_, _)] (hc := (c_rrnum_ok b (a.2 + 2) 2 hb (by omega) (by omega) (by omega)))) ?_
    refine AOps.cons rfl rfl (q_move) ?_
    refine AOps.cons rfl rfl (q_extract) ?_
    refine AOps.cons rfl rfl (q_extract) ?_
    refine AOps.cons rfl rfl (q_fa) ?_
    refine AOps.cons rfl rfl (q_store) ?_
    refine AOps.cons rfl rfl (q_ixa) ?_
    refine AOps.cons rfl rfl (q_store) ?_
    refine AOps.nil ?_
    refine AWp.seq ?_
    refine AWp.region ?_
    refine AOps.cons rfl rfl (q_move) ?_
    refine AOps.cons rfl rfl (q_callB (0) [(0, 0)] [] [(_, _)] (hc := (c_rrnum_ok b (a.2 + 4) 4 hb (by omega) (by omega) (by omega)))) ?_
    refine AOps.cons rfl rfl (q_move) ?_
    refine AOps.cons rfl rfl (q_extract) ?_
    refine AOps.cons rfl rfl (q_extract) ?_
    refine AOps.cons rfl rfl (q_fa) ?_
    refine AOps.cons rfl rfl (q_store) ?_
    refine AOps.cons rfl rfl (q_ixa) ?_
    refine AOps.cons rfl rfl (q_store) ?_
    refine AOps.nil ?_
    refine AWp.seq ?_
    refine AWp.region ?_
    refine AOps.cons rfl rfl (q_move) ?_
    refine AOps.cons rfl rfl (q_callB (0) [(0, 0)] [] [(_, _)] (hc := (c_rrnum_ok b (a.2 + 8) 2 hb (by omega) (by omega) (by omega)))) ?_
    refine AOps.cons rfl rfl (q_move) ?_
    refine AOps.cons rfl rfl (q_extract) ?_
    refine AOps.cons rfl rfl (q_extract) ?_
    refine AOps.cons rfl rfl (q_assign) ?_
    refine AOps.cons rfl rfl (q_ixa) ?_
    refine AOps.cons rfl rfl (q_store) ?_
    refine AOps.nil ?_
    refine AWp.seq ?_
    refine AWp.seq ?_
    by_cases g2 : b.length < a.2 + 10 + bN b (a.2 + 8) 2
    ·
     refine AWp.draws [⟨0, [8], [701], some 53, _, []⟩,
         ⟨1, [], [], some 54, _, []⟩,
         ⟨2, [53, 54], [], some 55, _, []⟩,
         ⟨3, [55], [], some 56, _, []⟩,
         ⟨4, [0, 56], [], some 57, _, []⟩,
         ⟨5, [56, 57], [0], some 58, _, []⟩,
         ⟨6, [56, 58], [0], some 59, _, []⟩,
         ⟨7, [56, 59], [0], some 60, _, []⟩,
         ⟨8, [56, 60], [], some 61, _, []⟩,
         ⟨9, [0, 56], [], some 62, _, []⟩,
         ⟨10, [56, 62], [0], some 63, _, []⟩,
         ⟨11, [56, 63], [0], some 64, _, []⟩,
         ⟨12, [56, 64], [0], some 65, _, []⟩,
         ⟨13, [56, 61, 65], [], some 66, _, []⟩,
         ⟨14, [7, 56], [], some 67, _, []⟩,
         ⟨15, [56, 66, 67], [], some 68, _, []⟩,
         ⟨16, [56, 68], [], some 69, _, []⟩]
      [⟨0, [8], [701], some 53, .any, []⟩,
          ⟨1, [], [], some 54, .any, []⟩,
          ⟨2, [53, 54], [], some 55, .any, []⟩,
          ⟨3, [55], [], some 56, .any, []⟩,
          ⟨4, [0, 56], [], some 57, .any, []⟩,
          ⟨5, [56, 57], [0], some 58, .any, []⟩,
          ⟨6, [56, 58], [0], some 59, .any, []⟩,
          ⟨7, [56, 59], [0], some 60, .any, []⟩,
          ⟨8, [56, 60], [], some 61, .any, []⟩,
          ⟨9, [0, 56], [], some 62, .any, []⟩,
          ⟨10, [56, 62], [0], some 63, .any, []⟩,
          ⟨11, [56, 63], [0], some 64, .any, []⟩,
          ⟨12, [56, 64], [0], some 65, .any, []⟩,
          ⟨13, [56, 61, 65], [], some 66, .any, []⟩,
          ⟨14, [7, 56], [], some 67, .any, []⟩,
          ⟨15, [56, 66, 67], [], some 68, .any, []⟩,
          ⟨16, [56, 68], [], some 69, .any, []⟩]
      mixed_ok rfl (by kernel_rfl) ⟨DS.ok_over fun s0 => OpAt.go rfl rfl (q_load),
          DS.ok_over fun s0 => OpAt.go rfl rfl (q_buildA tc [true, true, true, true] [(_, _), (_, _), (_, _), (_, _)]),
          DS.ok_over fun s0 => OpAt.go rfl rfl ((OpOk.bool_is (c := false) (q_eqp) (rfl))),
          DS.ok_over fun s0 => OpAt.go rfl rfl (q_move),
          DS.ok_over fun s0 => OpAt.ggo rfl rfl rfl rfl rfl (q_move),
          DS.ok_over fun s0 => OpAt.ggo rfl rfl rfl rfl rfl (q_nil),
          DS.ok_over fun s0 => OpAt.ggo rfl rfl rfl rfl rfl (q_fa),
          DS.ok_over fun s0 => OpAt.ggo rfl rfl rfl rfl rfl (q_load),
          DS.ok_over fun s0 => OpAt.ggo rfl rfl rfl rfl rfl (q_len),
          DS.ok_over fun s0 => OpAt.ggo rfl rfl rfl rfl rfl (q_move),
          DS.ok_over fun s0 => OpAt.ggo rfl rfl rfl rfl rfl (q_nil),
          DS.ok_over fun s0 => OpAt.ggo rfl rfl rfl rfl rfl (q_fa),
          DS.ok_over fun s0 => OpAt.ggo rfl rfl rfl rfl rfl (q_load),
          DS.ok_over fun s0 => OpAt.ggo rfl rfl rfl rfl rfl (q_sub),
          DS.ok_over fun s0 => OpAt.ggo rfl rfl rfl rfl rfl (q_move),
          DS.ok_over fun s0 => OpAt.ggo rfl rfl rfl rfl rfl ((OpOk.dec_t (q_lss) (by omega))),
          DS.ok_over fun s0 => OpAt.go rfl rfl (q_pick), trivial⟩ ?_
     dsimp only [final, DS.upd, AS.seto]
     refine AWp.cond_t rfl ?_
     refine AWp.seq ?_
     refine AWp.region ?_
     refine AOps.cons rfl rfl (q_build []) ?_
     refine AOps.cons rfl rfl (q_store) ?_
     refine AOps.cons rfl rfl (q_assign) ?_
     refine AOps.nil ?_
     refine AWp.ret ?_
     show Fin te Try.f75 _ _
     have hX : rdR b p0 = .error 20 := rdR_bad ha (by omega)
     rw [hX, recV_sh ha (by omega)]
     refine q_retH (0) [] [_, _] [.agg (rrc zR), _] [(_, _)] ?_ (hobj := by repeat' (first | exact trivial | exact lv_ok rfl | exact lv_sl rfl rfl | exact lv_rn rfl rfl .row rfl | exact lv_ptr rfl rfl | exact lv_mp rfl rfl | exact lv_nilz | exact lv_any | exact lv_row0 rfl rfl .row (fun _ => rfl) (Nat.le_of_ble_eq_true rfl) (fun _ => rfl) | exact lobj_row (fun _ => rfl) | exact lobj_rown (fun _ => rfl) | exact lobj_me (fun _ => rfl) | refine lobj_box ?_ | refine ⟨rfl, ⟨_, rfl, ?_⟩, ?_⟩ | refine ⟨?_, ?_⟩)) (h2 := by repeat' (first | exact trivial | exact lv_ok rfl | exact lv_ptr rfl rfl | exact lv_sl rfl rfl | exact lv_nilz | exact lv_row0 rfl rfl .row (fun _ => rfl) (Nat.le_of_ble_eq_true rfl) (fun _ => rfl) | refine lv_agg ?_ | exact lv_any | refine ⟨?_, ?_⟩))
     rfl
    ·
     refine AWp.draws [⟨0, [8], [701], some 53, _, []⟩,
         ⟨1, [], [], some 54, _, []⟩,
         ⟨2, [53, 54], [], some 55, _, []⟩,
         ⟨3, [55], [], some 56, _, []⟩,
         ⟨4, [0, 56], [], some 57, _, []⟩,
         ⟨5, [56, 57], [0], some 58, _, []⟩,
         ⟨6, [56, 58], [0], some 59, _, []⟩,
         ⟨7, [56, 59], [0], some 60, _, []⟩,
         ⟨8, [56, 60], [], some 61, _, []⟩,
         ⟨9, [0, 56], [], some 62, _, []⟩,
         ⟨10, [56, 62], [0], some 63, _, []⟩,
         ⟨11, [56, 63], [0], some 64, _, []⟩,
         ⟨12, [56, 64], [0], some 65, _, []⟩,
         ⟨13, [56, 61, 65], [], some 66, _, []⟩,
         ⟨14, [7, 56], [], some 67, _, []⟩,
         ⟨15, [56, 66, 67], [], some 68, _, []⟩,
         ⟨16, [56, 68], [], some 69, _, []⟩]
      [⟨0, [8], [701], some 53, .any, []⟩,
          ⟨1, [], [], some 54, .any, []⟩,
          ⟨2, [53, 54], [], some 55, .any, []⟩,
          ⟨3, [55], [], some 56, .any, []⟩,
          ⟨4, [0, 56], [], some 57, .any, []⟩,
          ⟨5, [56, 57], [0], some 58, .any, []⟩,
          ⟨6, [56, 58], [0], some 59, .any, []⟩,
          ⟨7, [56, 59], [0], some 60, .any, []⟩,
          ⟨8, [56, 60], [], some 61, .any, []⟩,
          ⟨9, [0, 56], [], some 62, .any, []⟩,
          ⟨10, [56, 62], [0], some 63, .any, []⟩,
          ⟨11, [56, 63], [0], some 64, .any, []⟩,
          ⟨12, [56, 64], [0], some 65, .any, []⟩,
          ⟨13, [56, 61, 65], [], some 66, .any, []⟩,
          ⟨14, [7, 56], [], some 67, .any, []⟩,
          ⟨15, [56, 66, 67], [], some 68, .any, []⟩,
          ⟨16, [56, 68], [], some 69, .any, []⟩]
      mixed_ok rfl (by kernel_rfl) ⟨DS.ok_over fun s0 => OpAt.go rfl rfl (q_load),
          DS.ok_over fun s0 => OpAt.go rfl rfl (q_buildA tc [true, true, true, true] [(_, _), (_, _), (_, _), (_, _)]),
          DS.ok_over fun s0 => OpAt.go rfl rfl ((OpOk.bool_is (c := false) (q_eqp) (rfl))),
          DS.ok_over fun s0 => OpAt.go rfl rfl (q_move),
          DS.ok_over fun s0 => OpAt.ggo rfl rfl rfl rfl rfl (q_move),
          DS.ok_over fun s0 => OpAt.ggo rfl rfl rfl rfl rfl (q_nil),
          DS.ok_over fun s0 => OpAt.ggo rfl rfl rfl rfl rfl (q_fa),
          DS.ok_over fun s0 => OpAt.ggo rfl rfl rfl rfl rfl (q_load),
          DS.ok_over fun s0 => OpAt.ggo rfl rfl rfl rfl rfl (q_len),
          DS.ok_over fun s0 => OpAt.ggo rfl rfl rfl rfl rfl (q_move),
          DS.ok_over fun s0 => OpAt.ggo rfl rfl rfl rfl rfl (q_nil),
          DS.ok_over fun s0 => OpAt.ggo rfl rfl rfl rfl rfl (q_fa),
          DS.ok_over fun s0 => OpAt.ggo rfl rfl rfl rfl rfl (q_load),
          DS.ok_over fun s0 => OpAt.ggo rfl rfl rfl rfl rfl (q_sub),
          DS.ok_over fun s0 => OpAt.ggo rfl rfl rfl rfl rfl (q_move),
          DS.ok_over fun s0 => OpAt.ggo rfl rfl rfl rfl rfl ((OpOk.dec_f (q_lss) (by omega))),
          DS.ok_over fun s0 => OpAt.go rfl rfl (q_pick), trivial⟩ ?_
     dsimp only [final, DS.upd, AS.seto]
     refine AWp.cond_f rfl ?_
     refine AWp.skip ?_
     refine AWp.seq ?_
     rcases hd : rdD b (bN b a.2 2) (a.2 + 10) (a.2 + 10 + bN b (a.2 + 8) 2) with e | d
     ·
      refine AWp.draws [⟨0, [0], [], some 72, _, []⟩,
          ⟨1, [6], [502], some 73, _, []⟩,
          ⟨2, [73], [502], some 74, _, []⟩,
          ⟨3, [0], [], some 75, _, []⟩,
          ⟨4, [75], [0], some 76, _, []⟩,
          ⟨5, [76], [0], some 77, _, []⟩,
          ⟨6, [77], [0], some 78, _, []⟩,
          ⟨7, [7], [], some 79, _, []⟩,
          ⟨8, [78, 79], [], some 80, _, []⟩,
          ⟨9, [72, 74, 80], [0], some 81, _, [(0, _)]⟩,
          ⟨10, [81], [], some 71, _, []⟩,
          ⟨11, [71], [], some 82, _, []⟩,
          ⟨12, [71], [], some 83, _, []⟩,
          ⟨13, [6], [502], some 84, _, []⟩,
          ⟨14, [82, 84], [502], none, _, [(502, _)]⟩,
          ⟨15, [83], [], some 5, _, []⟩]
       [⟨0, [0], [], some 72, .any, []⟩,
           ⟨1, [6], [502], some 73, .any, []⟩,
           ⟨2, [73], [502], some 74, .any, []⟩,
           ⟨3, [0], [], some 75, .any, []⟩,
           ⟨4, [75], [0], some 76, .any, []⟩,
           ⟨5, [76], [0], some 77, .any, []⟩,
           ⟨6, [77], [0], some 78, .any, []⟩,
           ⟨7, [7], [], some 79, .any, []⟩,
           ⟨8, [78, 79], [], some 80, .any, []⟩,
           ⟨9, [72, 74, 80], [0], some 81, .any, [(0, .box [])]⟩,
           ⟨10, [81], [], some 71, .any, []⟩,
           ⟨11, [71], [], some 82, .any, []⟩,
           ⟨12, [71], [], some 83, .any, []⟩,
           ⟨13, [6], [502], some 84, .any, []⟩,
           ⟨14, [82, 84], [502], none, .any, [(502, .box [])]⟩,
           ⟨15, [83], [], some 5, .any, []⟩]
       mixed_ok rfl (by kernel_rfl) ⟨DS.ok_over fun s0 => OpAt.go rfl rfl (q_move),
           DS.ok_over fun s0 => OpAt.go rfl rfl (q_fa),
           DS.ok_over fun s0 => OpAt.go rfl rfl (q_load),
           DS.ok_over fun s0 => OpAt.go rfl rfl (q_move),
           DS.ok_over fun s0 => OpAt.go rfl rfl (q_nil),
           DS.ok_over fun s0 => OpAt.go rfl rfl (q_fa),
           DS.ok_over fun s0 => OpAt.go rfl rfl (q_load),
           DS.ok_over fun s0 => OpAt.go rfl rfl (q_move),
           DS.ok_over fun s0 => OpAt.go rfl rfl (q_add),
           DS.ok_over fun s0 => OpAt.go rfl rfl (q_callB (0) [(0, 0)] [] [(_, _)] (hc := (c_rrdata_er hb (by omega) (by omega) hd))),
           DS.ok_over fun s0 => OpAt.go rfl rfl (q_move),
           DS.ok_over fun s0 => OpAt.go rfl rfl (q_extract),
           DS.ok_over fun s0 => OpAt.go rfl rfl (q_extract),
           DS.ok_over fun s0 => OpAt.go rfl rfl (q_fa),
           DS.ok_over fun s0 => OpAt.go rfl rfl (q_store),
           DS.ok_over fun s0 => OpAt.go rfl rfl (q_assign), trivial⟩ ?_
      dsimp only [final, DS.upd, AS.seto]
      refine AWp.seq ?_
      refine AWp.region ?_
      refine AOps.cons rfl rfl (q_load) ?_
      refine AOps.cons rfl rfl (q_move) ?_
      refine AOps.cons rfl rfl (q_store) ?_
      refine AOps.cons rfl rfl (q_assign) ?_
      refine AOps.nil ?_
      refine AWp.ret ?_
      show Fin te Try.f75 _ _
      have hX : rdR b p0 = .error e := by rw [rdR_go ha (by omega) (by omega), hd]; rfl
      rw [hX, recV_go ha (by omega) (by omega), hd]
      refine q_retH (0) [] [_, _] [_, _] [(_, _)] ?_ (hobj := by repeat' (first | exact trivial | exact lv_ok rfl | exact lv_sl rfl rfl | exact lv_rn rfl rfl .row rfl | exact lv_ptr rfl rfl | exact lv_mp rfl rfl | exact lv_nilz | exact lv_any | exact lv_row0 rfl rfl .row (fun _ => rfl) (Nat.le_of_ble_eq_true rfl) (fun _ => rfl) | exact lobj_row (fun _ => rfl) | exact lobj_rown (fun _ => rfl) | exact lobj_me (fun _ => rfl) | refine lobj_box ?_ | refine ⟨rfl, ⟨_, rfl, ?_⟩, ?_⟩ | refine ⟨?_, ?_⟩)) (h2 := by repeat' (first | exact trivial | exact lv_ok rfl | exact lv_ptr rfl rfl | exact lv_sl rfl rfl | exact lv_nilz | exact lv_row0 rfl rfl .row (fun _ => rfl) (Nat.le_of_ble_eq_true rfl) (fun _ => rfl) | refine lv_agg ?_ | exact lv_any | refine ⟨?_, ?_⟩))
      rfl
     ·
      refine AWp.draws [⟨0, [0], [], some 72, _, []⟩,
          ⟨1, [6], [502], some 73, _, []⟩,
          ⟨2, [73], [502], some 74, _, []⟩,
          ⟨3, [0], [], some 75, _, []⟩,
          ⟨4, [75], [0], some 76, _, []⟩,
          ⟨5, [76], [0], some 77, _, []⟩,
          ⟨6, [77], [0], some 78, _, []⟩,
          ⟨7, [7], [], some 79, _, []⟩,
          ⟨8, [78, 79], [], some 80, _, []⟩,
          ⟨9, [72, 74, 80], [0], some 81, _, [(0, _)]⟩,
          ⟨10, [81], [], some 71, _, []⟩,
          ⟨11, [71], [], some 82, _, []⟩,
          ⟨12, [71], [], some 83, _, []⟩,
          ⟨13, [6], [502], some 84, _, []⟩,
          ⟨14, [82, 84], [502], none, _, [(502, _)]⟩,
          ⟨15, [83], [], some 5, _, []⟩]
       [⟨0, [0], [], some 72, .any, []⟩,
           ⟨1, [6], [502], some 73, .any, []⟩,
           ⟨2, [73], [502], some 74, .any, []⟩,
           ⟨3, [0], [], some 75, .any, []⟩,
           ⟨4, [75], [0], some 76, .any, []⟩,
           ⟨5, [76], [0], some 77, .any, []⟩,
           ⟨6, [77], [0], some 78, .any, []⟩,
           ⟨7, [7], [], some 79, .any, []⟩,
           ⟨8, [78, 79], [], some 80, .any, []⟩,
           ⟨9, [72, 74, 80], [0], some 81, .any, [(0, .box [])]⟩,
           ⟨10, [81], [], some 71, .any, []⟩,
           ⟨11, [71], [], some 82, .any, []⟩,
           ⟨12, [71], [], some 83, .any, []⟩,
           ⟨13, [6], [502], some 84, .any, []⟩,
           ⟨14, [82, 84], [502], none, .any, [(502, .box [])]⟩,
           ⟨15, [83], [], some 5, .any, []⟩]
       mixed_ok rfl (by kernel_rfl) ⟨DS.ok_over fun s0 => OpAt.go rfl rfl (q_move),
           DS.ok_over fun s0 => OpAt.go rfl rfl (q_fa),
           DS.ok_over fun s0 => OpAt.go rfl rfl (q_load),
           DS.ok_over fun s0 => OpAt.go rfl rfl (q_move),
           DS.ok_over fun s0 => OpAt.go rfl rfl (q_nil),
           DS.ok_over fun s0 => OpAt.go rfl rfl (q_fa),
           DS.ok_over fun s0 => OpAt.go rfl rfl (q_load),
           DS.ok_over fun s0 => OpAt.go rfl rfl (q_move),
           DS.ok_over fun s0 => OpAt.go rfl rfl (q_add),
           DS.ok_over fun s0 => OpAt.go rfl rfl (q_callB (0) [(0, 0)] [] [(_, _)] (hc := (c_rrdata_ok hb (by omega) (by omega) hd))),
           DS.ok_over fun s0 => OpAt.go rfl rfl (q_move),
           DS.ok_over fun s0 => OpAt.go rfl rfl (q_extract),
           DS.ok_over fun s0 => OpAt.go rfl rfl (q_extract),
           DS.ok_over fun s0 => OpAt.go rfl rfl (q_fa),
           DS.ok_over fun s0 => OpAt.go rfl rfl (q_store),
           DS.ok_over fun s0 => OpAt.go rfl rfl (q_assign), trivial⟩ ?_
      dsimp only [final, DS.upd, AS.seto]
      refine AWp.seq ?_
      refine AWp.region ?_
      refine AOps.cons rfl rfl (q_load) ?_
      refine AOps.cons rfl rfl (q_move) ?_
      refine AOps.cons rfl rfl (q_store) ?_
      refine AOps.cons rfl rfl (q_assign) ?_
      refine AOps.nil ?_
      refine AWp.ret ?_
      show Fin te Try.f75 _ _
      have hX : rdR b p0 = .ok (⟨a.1, bN b a.2 2, bN b (a.2 + 2) 2, bN b (a.2 + 4) 4, d⟩, a.2 + 10 + bN b (a.2 + 8) 2) := by rw [rdR_go ha (by omega) (by omega), hd]; rfl
      rw [hX, recV_go ha (by omega) (by omega), hd]
      refine q_retH (0) [] [_, _] [_, _] [(_, _)] ?_ (hobj := by repeat' (first | exact trivial | exact lv_ok rfl | exact lv_sl rfl rfl | exact lv_rn rfl rfl .row rfl | exact lv_ptr rfl rfl | exact lv_mp rfl rfl | exact lv_nilz | exact lv_any | exact lv_row0 rfl rfl .row (fun _ => rfl) (Nat.le_of_ble_eq_true rfl) (fun _ => rfl) | exact lobj_row (fun _ => rfl) | exact lobj_rown (fun _ => rfl) | exact lobj_me (fun _ => rfl) | refine lobj_box ?_ | refine ⟨rfl, ⟨_, rfl, ?_⟩, ?_⟩ | refine ⟨?_, ?_⟩)) (h2 := by repeat' (first | exact trivial | exact lv_ok rfl | exact lv_ptr rfl rfl | exact lv_sl rfl rfl | exact lv_nilz | exact lv_row0 rfl rfl .row (fun _ => rfl) (Nat.le_of_ble_eq_true rfl) (fun _ => rfl) | refine lv_agg ?_ | exact lv_any | refine ⟨?_, ?_⟩))
      rfl
end Go.Proofs.Ytkfccjbihcbmiaa.Fw


set_option linter.unusedVariables false
set_option linter.unusedSimpArgs false
namespace Go.Proofs.Ytkfccjbihcbmiaa.Fw
open Go.RowKit
section
variable {b : List UInt8} {p0 k : Nat}
theorem c_rrrec_ok {x : Rr × Nat} (hb : b.length ≤ 65535) (hp : p0 ≤ 100000) (h : rdR b p0 = .ok x) : AC Try.prog 75 [.ptr 0 0 0] (hlook [(0, .box [.fz 0 b.length (cl bc b), i64 p0])]) (RetH (.tup [.agg (rrc (recV b p0)), i64 0]) [(0, .box [.fz 0 b.length (cl bc b), i64 x.2])]) := by
  have := c_rrrec b p0 hb hp
  rw [h] at this
  exact this
theorem c_rrrec_er {e : Int} (hb : b.length ≤ 65535) (hp : p0 ≤ 100000) (h : rdR b p0 = .error e) : AC Try.prog 75 [.ptr 0 0 0] (hlook [(0, .box [.fz 0 b.length (cl bc b), i64 p0])]) (RetH (.tup [.agg (rrc (recV b p0)), i64 e]) [(0, .box [.fz 0 b.length (cl bc b), .any])]) := by
  have := c_rrrec b p0 hb hp
  rw [h] at this
  exact this
end
theorem rdRs_ne0 {b : List UInt8} : ∀ (k : Nat) (acc : List Rr) (p : Nat) {e : Int}, rdRs b k acc p = .error e → e ≠ 0
  | 0, acc, p, e, h => by cases h
  | k + 1, acc, p, e, h => by
    cases h1 : rdR b p with
    | error x => rw [rdRs_err h1] at h; cases h; exact rdR_ne0 h1
    | ok a => rw [rdRs_ok h1] at h; exact rdRs_ne0 k _ _ h
theorem rdRs_le {b : List UInt8} : ∀ (k : Nat) (acc : List Rr) (p : Nat) {q : List Rr × Nat}, rdRs b k acc p = .ok q → p ≤ b.length → q.2 ≤ b.length
  | 0, acc, p, q, h, hp => by cases h; exact hp
  | k + 1, acc, p, q, h, hp => by
    cases h1 : rdR b p with
    | error x => rw [rdRs_err h1] at h; cases h
    | ok a => rw [rdRs_ok h1] at h; exact rdRs_le k _ _ h (rdR_ok h1).2
theorem rdQs_ne0 {b : List UInt8} : ∀ (k : Nat) (acc : List Qu) (p : Nat) {e : Int}, rdQs b k acc p = .error e → e ≠ 0
  | 0, acc, p, e, h => by cases h
  | k + 1, acc, p, e, h => by
    cases h1 : rdN b 20 p p b.length none [] with
    | error x => rw [rdQs_err h1] at h; cases h; exact rdN_ne0 _ _ _ _ _ h1
    | ok a =>
      by_cases h2 : b.length < a.2 + 4
      · rw [rdQs_bad h1 h2] at h; cases h; decide
      · rw [rdQs_ok h1 h2] at h; exact rdQs_ne0 k _ _ h
theorem rdQs_le {b : List UInt8} : ∀ (k : Nat) (acc : List Qu) (p : Nat) {q : List Qu × Nat}, rdQs b k acc p = .ok q → p ≤ b.length → q.2 ≤ b.length
  | 0, acc, p, q, h, hp => by cases h; exact hp
  | k + 1, acc, p, q, h, hp => by
    cases h1 : rdN b 20 p p b.length none [] with
    | error x => rw [rdQs_err h1] at h; cases h
    | ok a =>
      by_cases h2 : b.length < a.2 + 4
      · rw [rdQs_bad h1 h2] at h; cases h
      · rw [rdQs_ok h1 h2] at h; exact rdQs_le k _ _ h (by omega)
theorem recV_ok {b : List UInt8} {p : Nat} {x : Rr × Nat} (h : rdR b p = .ok x) : recV b p = x.1 := by
  unfold rdR at h
  unfold recV
  cases h1 : rdN b 20 p p b.length none [] with
  | error e => rw [h1] at h; cases h
  | ok a =>
    rw [h1, rdR1] at h
    rw [recV0]
    split at h
    · cases h
    · rename_i h2
      rw [if_neg h2]
      cases h3 : rdD b (bN b a.2 2) (a.2 + 10) (a.2 + 10 + bN b (a.2 + 8) 2) with
      | error e => rw [h3] at h; cases h
      | ok d => rw [h3] at h; cases h; rfl
def resL {α : Type} : Except Int (List α × Nat) → List α
  | .error _ => []
  | .ok a => a.1
set_option maxRecDepth 20000 in
set_option maxHeartbeats 2000000 in
theorem c_rrrs (b : List UInt8) (p0 k : Nat) (hb : b.length ≤ 65535) (hp : p0 ≤ b.length) (hk : k ≤ 65535) : AC Try.prog 42 [.ptr 0 0 0, i64 k] (hlook [(0, .box [.fz 0 b.length (cl bc b), i64 p0])]) (RetH (.tup [.fz 0 (resL (rdRs b k [] p0)).length (cl rrc (resL (rdRs b k [] p0))), i64 (rnE (rdRs b k [] p0))]) [(0, .box [.fz 0 b.length (cl bc b), atE (rdRs b k [] p0)])]) := by
 refine AC.intro te_ok (fn := Try.f42) ⟨Try.func42, rfl, rfl⟩ (Nat.le_of_ble_eq_true rfl) ?_
 refine AWp.seq ?_
 refine AWp.region ?_
 refine AOps.cons rfl rfl (q_nilz (0) rrc) ?_
 refine AOps.cons rfl rfl (q_assign) ?_
 refine AOps.nil ?_
 refine AWp.seq ?_
 refine AWp.region ?_
 refine AOps.cons rfl rfl (q_nilrow 200 5 rrc) ?_
 refine AOps.nil ?_
 refine AWp.seq ?_
 refine AWp.seq ?_
 refine AWp.region ?_
 refine AOps.cons rfl rfl (q_move) ?_
 refine AOps.cons rfl rfl (q_move) ?_
 refine AOps.nil ?_
 refine AWp.block ?_
 refine AWp.loopR (α := Nat × List Rr × Nat × Nat) [4, 5, 6, 7, 8, 10, 11, 12, 13, 14, 15, 16, 17, 18, 19, 20, 21, 22, 23, 24] (fun x_ => [(10, i64 (x_.1)), (6, .sl 200 (x_.2.2.2) 0 (x_.2.1).length 5)]) (fun x_ => [(0, .box [.fz 0 b.length (cl bc b), i64 (x_.2.2.1)]), (200, .row (cl rrc (x_.2.1)) 5 (x_.2.2.2))]) (fun x_ => (x_.1) ≤ k ∧ rdRs b (k - (x_.1)) (x_.2.1) (x_.2.2.1) = rdRs b k [] p0 ∧ (x_.2.1).length = (x_.1) ∧ (x_.2.2.1) ≤ b.length) (fun x_ => k - (x_.1)) (0, [], p0, 0) ?_ (Back.mk' (HasT.cons (HasT.cons HasT.nil)) (HasH.cons (HasH.cons HasH.nil))) ?_
 ·
  exact ⟨Nat.zero_le _, rfl, rfl, hp⟩
 ·
  rintro ⟨i, l, p, v⟩ hI3
  change i ≤ k ∧ rdRs b (k - i) l p = rdRs b k [] p0 ∧ l.length = i ∧ p ≤ b.length at hI3
  obtain ⟨hi, hE, hll, hpe⟩ := hI3
  refine AWp.as (s' := AS.over _ [4, 5, 6, 7, 8, 10, 11, 12, 13, 14, 15, 16, 17, 18, 19, 20, 21, 22, 23, 24] [(10, i64 i), (6, .sl 200 v 0 l.length 5)] [(0, .box [.fz 0 b.length (cl bc b), i64 p]), (200, .row (cl rrc l) 5 v)]) rfl ?_
  refine AWp.seq ?_
  refine AWp.region ?_
  refine AOps.dec rfl rfl (q_lss) (fun h3_0 => ?_) (fun h3_0 => ?_)
  ·
   refine AOps.nil ?_
   refine AWp.seq ?_
   refine AWp.cond_t rfl ?_
   refine AWp.skip ?_
   refine AWp.seq ?_
   refine AWp.block ?_
   refine AWp.seq ?_
   refine AWp.region ?_
   rcases ha : rdR b p with e | a
   ·
    refine AOps.cons rfl rfl (q_move) ?_
    refine AOps.cons rfl rfl (q_callB (0) [(0, 0)] [] [(_, _)] (hc := (c_rrrec_er hb (by omega) ha))) ?_
    refine AOps.cons rfl rfl (q_move) ?_
    refine AOps.cons rfl rfl (q_extract) ?_
    refine AOps.cons rfl rfl (q_extract) ?_
    refine AOps.cons rfl rfl (q_alloc 505) ?_
    refine AOps.cons rfl rfl (q_store) ?_
    refine AOps.cons rfl rfl (q_assign) ?_
    refine AOps.nil ?_
    refine AWp.seq ?_
    refine AWp.seq ?_
    refine AWp.region ?_
    refine AOps.cons rfl rfl (q_move) ?_
    refine AOps.dec rfl rfl (q_neq) (fun h5_1 => ?_) (fun h5_1 => ?_)
    ·
     refine AOps.nil ?_
     refine AWp.cond_t rfl ?_
     refine AWp.seq ?_
     refine AWp.region ?_
     refine AOps.cons rfl rfl (q_move) ?_
     refine AOps.cons rfl rfl (q_nilz (0) rrc) ?_
     refine AOps.cons rfl rfl (q_assign) ?_
     refine AOps.nil ?_
     refine AWp.ret ?_
     show Fin te Try.f42 _ _
     have hX : rdRs b k [] p0 = .error e := by rw [← hE, show k - i = (k - (i + 1)) + 1 by omega, rdRs_err ha]
     rw [hX]
     refine q_retH (0) [] [_, _] [_, _] [(_, _)] ?_ (hobj := by repeat' (first | exact trivial | exact lv_ok rfl | exact lv_sl rfl rfl | exact lv_rn rfl rfl .row rfl | exact lv_ptr rfl rfl | exact lv_mp rfl rfl | exact lv_nilz | exact lv_any | exact lv_row0 rfl rfl .row (fun _ => rfl) (Nat.le_of_ble_eq_true rfl) (fun _ => rfl) | exact lobj_row (fun _ => rfl) | exact lobj_rown (fun _ => rfl) | exact lobj_me (fun _ => rfl) | refine lobj_box ?_ | refine ⟨rfl, ⟨_, rfl, ?_⟩, ?_⟩ | refine ⟨?_, ?_⟩)) (h2 := by repeat' (first | exact trivial | exact lv_ok rfl | exact lv_ptr rfl rfl | exact lv_sl rfl rfl | exact lv_nilz | exact lv_row0 rfl rfl .row (fun _ => rfl) (Nat.le_of_ble_eq_true rfl) (fun _ => rfl) | refine lv_agg ?_ | exact lv_any | refine ⟨?_, ?_⟩))
     rfl
    ·
     exfalso; exact h5_1 (rdR_ne0 ha)
   ·
    refine AOps.cons rfl rfl (q_move) ?_
    refine AOps.cons rfl rfl (q_callB (0) [(0, 0)] [] [(_, _)] (hc := (c_rrrec_ok hb (by omega) ha))) ?_
    refine AOps.cons rfl rfl (q_move) ?_
    refine AOps.cons rfl rfl (q_extract) ?_
    refine AOps.cons rfl rfl (q_extract) ?_
    refine AOps.cons rfl rfl (q_alloc 505) ?_
    refine AOps.cons rfl rfl (q_store) ?_
    refine AOps.cons rfl rfl (q_assign) ?_
    refine AOps.nil ?_
    refine AWp.seq ?_
    refine AWp.seq ?_
    refine AWp.region ?_
    refine AOps.cons rfl rfl (q_move) ?_
    refine AOps.dec rfl rfl (q_neq) (fun h5_1 => ?_) (fun h5_1 => ?_)
    ·
     exfalso; simp at h5_1
    ·
     refine AOps.nil ?_
     refine AWp.cond_f rfl ?_
     refine AWp.skip ?_
     refine AWp.region ?_
     rw [recV_ok ha]
     refine AOps.cons rfl rfl (q_move) ?_
     refine AOps.cons rfl rfl (q_load) ?_
     refine AOps.cons rfl rfl (q_bs 802 rrc [a.1] [(_, _)]) ?_
     refine AOps.cons rfl rfl (q_app) ?_
     refine AOps.cons rfl rfl (q_assign) ?_
     refine AOps.nil ?_
     refine AWp.region ?_
     refine AOps.cons rfl rfl (q_add) ?_
     refine AOps.cons rfl rfl (q_move) ?_
     refine AOps.nil ?_
     refine ⟨(i + 1, l ++ [a.1], a.2, v + 1), ?_, Back.mk' (HasT.cons (HasT.cons HasT.nil)) (HasH.cons (HasH.cons HasH.nil)), ?_⟩
     ·
      try dsimp only
      refine ⟨by omega, ?_, by rw [List.length_append, hll]; rfl, (rdR_ok ha).2⟩
      rw [← hE, show k - i = (k - (i + 1)) + 1 by omega, rdRs_ok ha]
     ·
      try dsimp only
      first | omega | (simp; omega)
  ·
   refine AOps.nil ?_
   refine AWp.seq ?_
   refine AWp.cond_f rfl ?_
   refine AWp.exit ?_
   refine AWp.seq ?_
   refine AWp.region ?_
   refine AOps.cons rfl rfl (q_move) ?_
   refine AOps.cons rfl rfl (q_assign) ?_
   refine AOps.cons rfl rfl (q_assign) ?_
   refine AOps.nil ?_
   refine AWp.ret ?_
   show Fin te Try.f42 _ _
   obtain rfl : i = k := by omega
   rw [Nat.sub_self, rdRs] at hE
   rw [← hE]
   refine q_retH (0) [] [_, _] [_, _] [(_, _)] ?_ (hobj := by repeat' (first | exact trivial | exact lv_ok rfl | exact lv_sl rfl rfl | exact lv_rn rfl rfl .row rfl | exact lv_ptr rfl rfl | exact lv_mp rfl rfl | exact lv_nilz | exact lv_any | exact lv_row0 rfl rfl .row (fun _ => rfl) (Nat.le_of_ble_eq_true rfl) (fun _ => rfl) | exact lobj_row (fun _ => rfl) | exact lobj_rown (fun _ => rfl) | exact lobj_me (fun _ => rfl) | refine lobj_box ?_ | refine ⟨rfl, ⟨_, rfl, ?_⟩, ?_⟩ | refine ⟨?_, ?_⟩)) (h2 := by repeat' (first | exact trivial | exact lv_ok rfl | exact lv_ptr rfl rfl | exact lv_sl rfl rfl | exact lv_nilz | exact lv_row0 rfl rfl .row (fun _ => rfl) (Nat.le_of_ble_eq_true rfl) (fun _ => rfl) | refine lv_agg ?_ | exact lv_any | refine ⟨?_, ?_⟩))
   rfl
set_option maxRecDepth 20000 in
set_option maxHeartbeats 2000000 in
theorem c_rrqs (b : List UInt8) (p0 k : Nat) (hb : b.length ≤ 65535) (hp : p0 ≤ b.length) (hk : k ≤ 65535) : AC Try.prog 41 [.ptr 0 0 0, i64 k] (hlook [(0, .box [.fz 0 b.length (cl bc b), i64 p0])]) (RetH (.tup [.fz 0 (resL (rdQs b k [] p0)).length (cl quc (resL (rdQs b k [] p0))), i64 (rnE (rdQs b k [] p0))]) [(0, .box [.fz 0 b.length (cl bc b), atE (rdQs b k [] p0)])]) := by
 refine AC.intro te_ok (fn := Try.f41) ⟨Try.func41, rfl, rfl⟩ (Nat.le_of_ble_eq_true rfl) ?_
 refine AWp.seq ?_
 refine AWp.region ?_
 refine AOps.cons rfl rfl (q_nilz (0) quc) ?_
 refine AOps.cons rfl rfl (q_assign) ?_
 refine AOps.nil ?_
 refine AWp.seq ?_
 refine AWp.region ?_
 refine AOps.cons rfl rfl (q_nilrow 200 3 quc) ?_
 refine AOps.nil ?_
 refine AWp.seq ?_
 refine AWp.seq ?_
 refine AWp.region ?_
 refine AOps.cons rfl rfl (q_move) ?_
 refine AOps.cons rfl rfl (q_move) ?_
 refine AOps.nil ?_
 refine AWp.block ?_
 refine AWp.loopR (α := Nat × List Qu × Nat × Nat) [4, 5, 6, 7, 8, 9, 10, 11, 12, 14, 15, 16, 17, 18, 19, 20, 21, 22, 23, 24, 25, 26, 27, 28, 29, 30, 31, 32, 33, 34, 35, 36, 37, 38, 39, 40, 41, 42, 43, 44, 45, 46, 47, 48, 49, 50, 51, 52] (fun x_ => [(14, i64 (x_.1)), (6, .sl 200 (x_.2.2.2) 0 (x_.2.1).length 3)]) (fun x_ => [(0, .box [.fz 0 b.length (cl bc b), i64 (x_.2.2.1)]), (200, .row (cl quc (x_.2.1)) 3 (x_.2.2.2))]) (fun x_ => (x_.1) ≤ k ∧ rdQs b (k - (x_.1)) (x_.2.1) (x_.2.2.1) = rdQs b k [] p0 ∧ (x_.2.1).length = (x_.1) ∧ (x_.2.2.1) ≤ b.length) (fun x_ => k - (x_.1)) (0, [], p0, 0) ?_ (Back.mk' (HasT.cons (HasT.cons HasT.nil)) (HasH.cons (HasH.cons HasH.nil))) ?_
 ·
  exact ⟨Nat.zero_le _, rfl, rfl, hp⟩
 ·
  rintro ⟨i, l, p, v⟩ hI3
  change i ≤ k ∧ rdQs b (k - i) l p = rdQs b k [] p0 ∧ l.length = i ∧ p ≤ b.length at hI3
  obtain ⟨hi, hE, hll, hpe⟩ := hI3
  refine AWp.as (s' := AS.over _ [4, 5, 6, 7, 8, 9, 10, 11, 12, 14, 15, 16, 17, 18, 19, 20, 21, 22, 23, 24, 25, 26, 27, 28, 29, 30, 31, 32, 33, 34, 35, 36, 37, 38, 39, 40, 41, 42, 43, 44, 45, 46, 47, 48, 49, 50, 51, 52] [(14, i64 i), (6, .sl 200 v 0 l.length 3)] [(0, .box [.fz 0 b.length (cl bc b), i64 p]), (200, .row (cl quc l) 3 v)]) rfl ?_
  refine AWp.seq ?_
  refine AWp.region ?_
  refine AOps.dec rfl rfl (q_lss) (fun h3_0 => ?_) (fun h3_0 => ?_)
  ·
   refine AOps.nil ?_
   refine AWp.seq ?_
   refine AWp.cond_t rfl ?_
   refine AWp.skip ?_
   refine AWp.seq ?_
   refine AWp.block ?_
   refine AWp.seq ?_
   refine AWp.region ?_
   rcases ha : rdN b 20 p p b.length none [] with e | a
   ·
    refine AOps.cons rfl rfl (q_move) ?_
    refine AOps.cons rfl rfl (q_move) ?_
    refine AOps.cons rfl rfl (q_nil) ?_
    refine AOps.cons rfl rfl (q_fa) ?_
    refine AOps.cons rfl rfl (q_load) ?_
    refine AOps.cons rfl rfl (q_len) ?_
    refine AOps.cons rfl rfl (q_callB (0) [(0, 0)] [] [(_, _)] (hc := (c_rrname_er hb (Nat.le_refl _) (by omega) ha))) ?_
    refine AOps.cons rfl rfl (q_move) ?_
    refine AOps.cons rfl rfl (q_extract) ?_
    refine AOps.cons rfl rfl (q_extract) ?_
    refine AOps.cons rfl rfl (q_assign) ?_
    refine AOps.cons rfl rfl (q_assign) ?_
    refine AOps.nil ?_
    refine AWp.seq ?_
    refine AWp.seq ?_
    refine AWp.region ?_
    refine AOps.cons rfl rfl (q_move) ?_
    refine AOps.dec rfl rfl (q_neq) (fun h5_1 => ?_) (fun h5_1 => ?_)
    ·
     refine AOps.nil ?_
     refine AWp.cond_t rfl ?_
     refine AWp.seq ?_
     refine AWp.region ?_
     refine AOps.cons rfl rfl (q_move) ?_
     refine AOps.cons rfl rfl (q_nilz (0) quc) ?_
     refine AOps.cons rfl rfl (q_assign) ?_
     refine AOps.nil ?_
     refine AWp.ret ?_
     show Fin te Try.f41 _ _
     have hX : rdQs b k [] p0 = .error e := by rw [← hE, show k - i = (k - (i + 1)) + 1 by omega, rdQs_err ha]
     rw [hX]
     refine q_retH (0) [] [_, _] [_, _] [(_, _)] ?_ (hobj := by repeat' (first | exact trivial | exact lv_ok rfl | exact lv_sl rfl rfl | exact lv_rn rfl rfl .row rfl | exact lv_ptr rfl rfl | exact lv_mp rfl rfl | exact lv_nilz | exact lv_any | exact lv_row0 rfl rfl .row (fun _ => rfl) (Nat.le_of_ble_eq_true rfl) (fun _ => rfl) | exact lobj_row (fun _ => rfl) | exact lobj_rown (fun _ => rfl) | exact lobj_me (fun _ => rfl) | refine lobj_box ?_ | refine ⟨rfl, ⟨_, rfl, ?_⟩, ?_⟩ | refine ⟨?_, ?_⟩)) (h2 := by repeat' (first | exact trivial | exact lv_ok rfl | exact lv_ptr rfl rfl | exact lv_sl rfl rfl | exact lv_nilz | exact lv_row0 rfl rfl .row (fun _ => rfl) (Nat.le_of_ble_eq_true rfl) (fun _ => rfl) | refine lv_agg ?_ | exact lv_any | refine ⟨?_, ?_⟩))
     rfl
    ·
     exfalso; exact h5_1 (rdN_ne0 _ _ _ _ _ ha)
   ·
    refine AOps.cons rfl rfl (q_move) ?_
    refine AOps.cons rfl rfl (q_move) ?_
    refine AOps.cons rfl rfl (q_nil) ?_
    refine AOps.cons rfl rfl (q_fa) ?_
    refine AOps.cons rfl rfl (q_load) ?_
    refine AOps.cons rfl rfl (q_len) ?_
    refine AOps.cons rfl rfl (q_callB (0) [(0, 0)] [] [(_, _)] (hc := (c_rrname_ok hb (Nat.le_refl _) (by omega) ha))) ?_
    refine AOps.cons rfl rfl (q_move) ?_
    refine AOps.cons rfl rfl (q_extract) ?_
    refine AOps.cons rfl rfl (q_extract) ?_
    refine AOps.cons rfl rfl (q_assign) ?_
    refine AOps.cons rfl rfl (q_assign) ?_
    refine AOps.nil ?_
    refine AWp.seq ?_
    refine AWp.seq ?_
    refine AWp.region ?_
    refine AOps.cons rfl rfl (q_move) ?_
    refine AOps.dec rfl rfl (q_neq) (fun h5_1 => ?_) (fun h5_1 => ?_)
    ·
     exfalso; simp at h5_1
    ·
     refine AOps.nil ?_
     refine AWp.cond_f rfl ?_
     refine AWp.skip ?_
     refine AWp.seq ?_
     refine AWp.region ?_
     obtain ⟨n1, n2, n3⟩ := rdN_ok0 ha
     rcases (by omega : b.length < a.2 + 2 ∨ (a.2 + 2 ≤ b.length ∧ b.length < a.2 + 4) ∨ a.2 + 4 ≤ b.length) with g1 | g1 | g1
     ·
      refine AOps.cons rfl rfl (q_move) ?_
      refine AOps.cons rfl rfl (q_callB (0) [(0, 0)] [] [(_, _)] (hc := (c_rrnum_no b (a.2) 2 hb (by omega) (by omega) (by omega)))) ?_
      refine AOps.cons rfl rfl (q_move) ?_
      refine AOps.cons rfl rfl (q_extract) ?_
      refine AOps.cons rfl rfl ((OpOk.bool_is (c := false) (q_extract) (rfl))) ?_
      refine AOps.cons rfl rfl (q_assign) ?_
      refine AOps.cons rfl rfl (q_assign) ?_
      refine AOps.nil ?_
      refine AWp.seq ?_
      refine AWp.region ?_
      refine AOps.cons rfl rfl (q_move) ?_
      refine AOps.cons rfl rfl (q_callB (0) [(0, 0)] [] [(_, _)] (hc := (c_rrnum_no b (a.2) 2 hb (by omega) (by omega) (by omega)))) ?_
      refine AOps.cons rfl rfl (q_move) ?_
      refine AOps.cons rfl rfl (q_extract) ?_
      refine AOps.cons rfl rfl ((OpOk.bool_is (c := false) (q_extract) (rfl))) ?_
      refine AOps.cons rfl rfl (q_assign) ?_
      refine AOps.cons rfl rfl (q_assign) ?_
      refine AOps.nil ?_
      refine AWp.seq ?_
      refine AWp.seq ?_
      refine AWp.region ?_
      refine AOps.cons rfl rfl (q_move) ?_
      refine AOps.cons rfl rfl (q_not) ?_
      refine AOps.cons rfl rfl (q_move) ?_
      refine AOps.gskip rfl rfl rfl rfl rfl rfl rfl rfl ?_
      refine AOps.gskip rfl rfl rfl rfl rfl rfl rfl rfl ?_
      refine AOps.cons rfl rfl (q_pick) ?_
      refine AOps.nil ?_
      refine AWp.cond_t rfl ?_
      refine AWp.seq ?_
      refine AWp.region ?_
      refine AOps.cons rfl rfl (q_nilz (0) quc) ?_
      refine AOps.cons rfl rfl (q_assign) ?_
      refine AOps.nil ?_
      refine AWp.ret ?_
      show Fin te Try.f41 _ _
      have hX : rdQs b k [] p0 = .error 20 := by rw [← hE, show k - i = (k - (i + 1)) + 1 by omega, rdQs_bad ha (by omega)]
      rw [hX]
      refine q_retH (0) [] [_, _] [_, _] [(_, _)] ?_ (hobj := by repeat' (first | exact trivial | exact lv_ok rfl | exact lv_sl rfl rfl | exact lv_rn rfl rfl .row rfl | exact lv_ptr rfl rfl | exact lv_mp rfl rfl | exact lv_nilz | exact lv_any | exact lv_row0 rfl rfl .row (fun _ => rfl) (Nat.le_of_ble_eq_true rfl) (fun _ => rfl) | exact lobj_row (fun _ => rfl) | exact lobj_rown (fun _ => rfl) | exact lobj_me (fun _ => rfl) | refine lobj_box ?_ | refine ⟨rfl, ⟨_, rfl, ?_⟩, ?_⟩ | refine ⟨?_, ?_⟩)) (h2 := by repeat' (first | exact trivial | exact lv_ok rfl | exact lv_ptr rfl rfl | exact lv_sl rfl rfl | exact lv_nilz | exact lv_row0 rfl rfl .row (fun _ => rfl) (Nat.le_of_ble_eq_true rfl) (fun _ => rfl) | refine lv_agg ?_ | exact lv_any | refine ⟨?_, ?_⟩))
      rfl
     ·
      refine AOps.cons rfl rfl (q_move) ?_
      refine AOps.cons rfl rfl (q_callB (0) [(0, 0)] [] [(_, _)] (hc := (c_rrnum_ok b (a.2) 2 hb (by omega) (by omega) (by omega)))) ?_
      refine AOps.cons rfl rfl (q_move) ?_
      refine AOps.cons rfl rfl (q_extract) ?_
      refine AOps.cons rfl rfl ((OpOk.bool_is (c := true) (q_extract) (rfl))) ?_
      refine AOps.cons rfl rfl (q_assign) ?_
      refine AOps.cons rfl rfl (q_assign) ?_
      refine AOps.nil ?_
      refine AWp.seq ?_
      refine AWp.region ?_
      refine AOps.cons rfl rfl (q_move) ?_
      refine AOps.cons rfl rfl (q_callB (0) [(0, 0)] [] [(_, _)] (hc := (c_rrnum_no b (a.2 + 2) 2 hb (by omega) (by omega) (by omega)))) ?_
      refine AOps.cons rfl rfl (q_move) ?_
      refine AOps.cons rfl rfl (q_extract) ?_
      refine AOps.cons rfl rfl ((OpOk.bool_is (c := false) (q_extract) (rfl))) ?_
      refine AOps.cons rfl rfl (q_assign) ?_
      refine AOps.cons rfl rfl (q_assign) ?_
      refine AOps.nil ?_
      refine AWp.seq ?_
      refine AWp.seq ?_
      refine AWp.region ?_
      refine AOps.cons rfl rfl (q_move) ?_
      refine AOps.cons rfl rfl (q_not) ?_
      refine AOps.cons rfl rfl (q_move) ?_
      refine AOps.gcons rfl rfl rfl rfl rfl (q_move) ?_
      refine AOps.gcons rfl rfl rfl rfl rfl (q_not) ?_
      refine AOps.cons rfl rfl (q_pick) ?_
      refine AOps.nil ?_
      refine AWp.cond_t rfl ?_
      refine AWp.seq ?_
      refine AWp.region ?_
      refine AOps.cons rfl rfl (q_nilz (0) quc) ?_
      refine AOps.cons rfl rfl (q_assign) ?_
      refine AOps.nil ?_
      refine AWp.ret ?_
      show Fin te Try.f41 _ _
      have hX : rdQs b k [] p0 = .error 20 := by rw [← hE, show k - i = (k - (i + 1)) + 1 by omega, rdQs_bad ha (by omega)]
      rw [hX]
      refine q_retH (0) [] [_, _] [_, _] [(_, _)] ?_ (hobj := by repeat' (first | exact trivial | exact lv_ok rfl | exact lv_sl rfl rfl | exact lv_rn rfl rfl .row rfl | exact lv_ptr rfl rfl | exact lv_mp rfl rfl | exact lv_nilz | exact lv_any | exact lv_row0 rfl rfl .row (fun _ => rfl) (Nat.le_of_ble_eq_true rfl) (fun _ => rfl) | exact lobj_row (fun _ => rfl) | exact lobj_rown (fun _ => rfl) | exact lobj_me (fun _ => rfl) | refine lobj_box ?_ | refine ⟨rfl, ⟨_, rfl, ?_⟩, ?_⟩ | refine ⟨?_, ?_⟩)) (h2 := by repeat' (first | exact trivial | exact lv_ok rfl | exact lv_ptr rfl rfl | exact lv_sl rfl rfl | exact lv_nilz | exact lv_row0 rfl rfl .row (fun _ => rfl) (Nat.le_of_ble_eq_true rfl) (fun _ => rfl) | refine lv_agg ?_ | exact lv_any | refine ⟨?_, ?_⟩))
      rfl
     ·
      refine AOps.cons rfl rfl (q_move) ?_
      refine AOps.cons rfl rfl (q_callB (0) [(0, 0)] [] [(_, _)] (hc := (c_rrnum_ok b (a.2) 2 hb (by omega) (by omega) (by omega)))) ?_
      refine AOps.cons rfl rfl (q_move) ?_
      refine AOps.cons rfl rfl (q_extract) ?_
      refine AOps.cons rfl rfl ((OpOk.bool_is (c := true) (q_extract) (rfl))) ?_
      refine AOps.cons rfl rfl (q_assign) ?_
      refine AOps.cons rfl rfl (q_assign) ?_
      refine AOps.nil ?_
      refine AWp.seq ?_
      refine AWp.region ?_
      refine AOps.cons rfl rfl (q_move) ?_
      refine AOps.cons rfl rfl (q_callB (0) [(0, 0)] [] [(_, _)] (hc := (c_rrnum_ok b (a.2 + 2) 2 hb (by omega) (by omega) (by omega)))) ?_
      refine AOps.cons rfl rfl (q_move) ?_
      refine AOps.cons rfl rfl (q_extract) ?_
      refine AOps.cons rfl rfl ((OpOk.bool_is (c := true) (q_extract) (rfl))) ?_
      refine AOps.cons rfl rfl (q_assign) ?_
      refine AOps.cons rfl rfl (q_assign) ?_
      refine AOps.nil ?_
      refine AWp.seq ?_
      refine AWp.seq ?_
      refine AWp.region ?_
      refine AOps.cons rfl rfl (q_move) ?_
      refine AOps.cons rfl rfl (q_not) ?_
      refine AOps.cons rfl rfl (q_move) ?_
      refine AOps.gcons rfl rfl rfl rfl rfl (q_move) ?_
      refine AOps.gcons rfl rfl rfl rfl rfl (q_not) ?_
      refine AOps.cons rfl rfl (q_pick) ?_
      refine AOps.nil ?_
      refine AWp.cond_f rfl ?_
      refine AWp.skip ?_
      refine AWp.region ?_
      refine AOps.cons rfl rfl (q_move) ?_
      refine AOps.cons rfl rfl (q_move) ?_
      refine AOps.cons rfl rfl (q_move) ?_
      refine AOps.cons rfl rfl (q_move) ?_
      refine AOps.cons rfl rfl (q_build [(_, _), (_, _), (_, _)]) ?_
      refine AOps.cons rfl rfl (q_bs 1205 quc [⟨a.1, bN b a.2 2, bN b (a.2 + 2) 2⟩] [(_, _)]) ?_
      refine AOps.cons rfl rfl (q_app) ?_
      refine AOps.cons rfl rfl (q_assign) ?_
      refine AOps.nil ?_
      refine AWp.region ?_
      refine AOps.cons rfl rfl (q_add) ?_
      refine AOps.cons rfl rfl (q_move) ?_
      refine AOps.nil ?_
      refine ⟨(i + 1, l ++ [⟨a.1, bN b a.2 2, bN b (a.2 + 2) 2⟩], a.2 + 4, v + 1), ?_, Back.mk' (HasT.cons (HasT.cons HasT.nil)) (HasH.cons (HasH.cons HasH.nil)), ?_⟩
      ·
       try dsimp only
       refine ⟨by omega, ?_, by rw [List.length_append, hll]; rfl, by omega⟩
       rw [← hE, show k - i = (k - (i + 1)) + 1 by omega, rdQs_ok ha (by omega)]
      ·
       try dsimp only
       first | omega | (simp; omega)
  ·
   refine AOps.nil ?_
   refine AWp.seq ?_
   refine AWp.cond_f rfl ?_
   refine AWp.exit ?_
   refine AWp.seq ?_
   refine AWp.region ?_
   refine AOps.cons rfl rfl (q_move) ?_
   refine AOps.cons rfl rfl (q_assign) ?_
   refine AOps.cons rfl rfl (q_assign) ?_
   refine AOps.nil ?_
   refine AWp.ret ?_
   show Fin te Try.f41 _ _
   obtain rfl : i = k := by omega
   rw [Nat.sub_self, rdQs] at hE
   rw [← hE]
   refine q_retH (0) [] [_, _] [_, _] [(_, _)] ?_ (hobj := by repeat' (first | exact trivial | exact lv_ok rfl | exact lv_sl rfl rfl | exact lv_rn rfl rfl .row rfl | exact lv_ptr rfl rfl | exact lv_mp rfl rfl | exact lv_nilz | exact lv_any | exact lv_row0 rfl rfl .row (fun _ => rfl) (Nat.le_of_ble_eq_true rfl) (fun _ => rfl) | exact lobj_row (fun _ => rfl) | exact lobj_rown (fun _ => rfl) | exact lobj_me (fun _ => rfl) | refine lobj_box ?_ | refine ⟨rfl, ⟨_, rfl, ?_⟩, ?_⟩ | refine ⟨?_, ?_⟩)) (h2 := by repeat' (first | exact trivial | exact lv_ok rfl | exact lv_ptr rfl rfl | exact lv_sl rfl rfl | exact lv_nilz | exact lv_row0 rfl rfl .row (fun _ => rfl) (Nat.le_of_ble_eq_true rfl) (fun _ => rfl) | refine lv_agg ?_ | exact lv_any | refine ⟨?_, ?_⟩))
   rfl
end Go.Proofs.Ytkfccjbihcbmiaa.Fw


set_option linter.unusedVariables false
set_option linter.unusedSimpArgs false
namespace Go.Proofs.Ytkfccjbihcbmiaa.Fw
open Go.RowKit
section
variable {b : List UInt8} {p0 k : Nat}
theorem c_rrrs_ok {x : List Rr × Nat} (hb : b.length ≤ 65535) (hp : p0 ≤ b.length) (hk : k ≤ 65535) (h : rdRs b k [] p0 = .ok x) : AC Try.prog 42 [.ptr 0 0 0, i64 k] (hlook [(0, .box [.fz 0 b.length (cl bc b), i64 p0])]) (RetH (.tup [.fz 0 x.1.length (cl rrc x.1), i64 0]) [(0, .box [.fz 0 b.length (cl bc b), i64 x.2])]) := by
  have := c_rrrs b p0 k hb hp hk
  rw [h] at this
  exact this
theorem c_rrrs_er {e : Int} (hb : b.length ≤ 65535) (hp : p0 ≤ b.length) (hk : k ≤ 65535) (h : rdRs b k [] p0 = .error e) : AC Try.prog 42 [.ptr 0 0 0, i64 k] (hlook [(0, .box [.fz 0 b.length (cl bc b), i64 p0])]) (RetH (.tup [.fz 0 ([] : List Rr).length (cl rrc []), i64 e]) [(0, .box [.fz 0 b.length (cl bc b), .any])]) := by
  have := c_rrrs b p0 k hb hp hk
  rw [h] at this
  exact this
theorem c_rrqs_ok {x : List Qu × Nat} (hb : b.length ≤ 65535) (hp : p0 ≤ b.length) (hk : k ≤ 65535) (h : rdQs b k [] p0 = .ok x) : AC Try.prog 41 [.ptr 0 0 0, i64 k] (hlook [(0, .box [.fz 0 b.length (cl bc b), i64 p0])]) (RetH (.tup [.fz 0 x.1.length (cl quc x.1), i64 0]) [(0, .box [.fz 0 b.length (cl bc b), i64 x.2])]) := by
  have := c_rrqs b p0 k hb hp hk
  rw [h] at this
  exact this
theorem c_rrqs_er {e : Int} (hb : b.length ≤ 65535) (hp : p0 ≤ b.length) (hk : k ≤ 65535) (h : rdQs b k [] p0 = .error e) : AC Try.prog 41 [.ptr 0 0 0, i64 k] (hlook [(0, .box [.fz 0 b.length (cl bc b), i64 p0])]) (RetH (.tup [.fz 0 ([] : List Qu).length (cl quc []), i64 e]) [(0, .box [.fz 0 b.length (cl bc b), .any])]) := by
  have := c_rrqs b p0 k hb hp hk
  rw [h] at this
  exact this
end
theorem dec_err {b : List UInt8} {e : Int} (h : rdM b = .error e) : decM b = zM ∧ decE b = e := by rw [decM, decE, h]; exact ⟨rfl, rfl⟩
theorem dec_ok {b : List UInt8} {m : Msg} (h : rdM b = .ok m) : decM b = m ∧ decE b = 0 := by rw [decM, decE, h]; exact ⟨rfl, rfl⟩
set_option maxRecDepth 20000 in
set_option maxHeartbeats 2000000 in
theorem co_refDecode (b : List UInt8) (hb : b.length ≤ 140737488351232) : AC Try.prog 17 [.fz 0 b.length (cl bc b)] (hlook []) (RetH (.tup [.agg (msgC (decM b)), i64 (decE b)]) []) := by
 refine AC.intro te_ok (fn := Try.f17) ⟨Try.func17, rfl, rfl⟩ (Nat.le_of_ble_eq_true rfl) ?_
 refine AWp.seq ?_
 refine AWp.region ?_
 refine AOps.cons rfl rfl (q_alloc 100) ?_
 refine AOps.cons rfl rfl (q_assign) ?_
 refine AOps.nil ?_
 refine AWp.seq ?_
 refine AWp.seq ?_
 refine AWp.region ?_
 refine AOps.cons rfl rfl (q_move) ?_
 refine AOps.cons rfl rfl (q_len) ?_
 refine AOps.dec rfl rfl (q_gtr) (fun h1_2 => ?_) (fun h1_2 => ?_)
 ·
  refine AOps.nil ?_
  refine AWp.cond_t rfl ?_
  refine AWp.seq ?_
  refine AWp.region ?_
  refine AOps.cons rfl rfl (q_build []) ?_
  refine AOps.cons rfl rfl (q_store) ?_
  refine AOps.cons rfl rfl (q_assign) ?_
  refine AOps.nil ?_
  refine AWp.ret ?_
  show Fin te Try.f17 _ _
  obtain ⟨x1, x2⟩ := dec_err (b := b) (e := 42) (by rw [rdM, if_pos (by omega)])
  rw [x1, x2]
  refine q_retH (0) [] [_, _] [.agg (msgC zM), _] [] ?_ (hobj := by repeat' (first | exact trivial | exact lv_ok rfl | exact lv_sl rfl rfl | exact lv_rn rfl rfl .row rfl | exact lv_ptr rfl rfl | exact lv_mp rfl rfl | exact lv_nilz | exact lv_any | exact lv_row0 rfl rfl .row (fun _ => rfl) (Nat.le_of_ble_eq_true rfl) (fun _ => rfl) | exact lobj_row (fun _ => rfl) | exact lobj_rown (fun _ => rfl) | exact lobj_me (fun _ => rfl) | refine lobj_box ?_ | refine ⟨rfl, ⟨_, rfl, ?_⟩, ?_⟩ | refine ⟨?_, ?_⟩)) (h2 := by repeat' (first | exact trivial | exact lv_ok rfl | exact lv_ptr rfl rfl | exact lv_sl rfl rfl | exact lv_nilz | exact lv_row0 rfl rfl .row (fun _ => rfl) (Nat.le_of_ble_eq_true rfl) (fun _ => rfl) | refine lv_agg ?_ | exact lv_any | refine ⟨?_, ?_⟩))
  rfl
 ·
  refine AOps.nil ?_
  refine AWp.cond_f rfl ?_
  refine AWp.skip ?_
  refine AWp.seq ?_
  refine AWp.region ?_
  refine AOps.cons rfl rfl (q_move) ?_
  refine AOps.cons rfl rfl (q_call (0) (hc := (c_ciceroneref02_Decode b 0 (by omega)))) ?_
  refine AOps.cons rfl rfl (q_move) ?_
  refine AOps.cons rfl rfl (q_extract) ?_
  refine AOps.cons rfl rfl (q_extract) ?_
  refine AOps.cons rfl rfl (q_extract) ?_
  refine AOps.cons rfl rfl (q_alloc 406) ?_
  refine AOps.cons rfl rfl (q_alloc 407) ?_
  refine AOps.cons rfl rfl (q_store) ?_
  refine AOps.cons rfl rfl (q_store) ?_
  refine AOps.cons rfl rfl (q_assign) ?_
  refine AOps.nil ?_
  refine AWp.seq ?_
  refine AWp.seq ?_
  refine AWp.region ?_
  refine AOps.cons rfl rfl (q_move) ?_
  refine AOps.dec rfl rfl (q_neq) (fun h4_1 => ?_) (fun h4_1 => ?_)
  ·
   refine AOps.nil ?_
   refine AWp.cond_t rfl ?_
   refine AWp.seq ?_
   refine AWp.region ?_
   refine AOps.cons rfl rfl (q_build []) ?_
   refine AOps.cons rfl rfl (q_move) ?_
   refine AOps.cons rfl rfl (q_store) ?_
   refine AOps.cons rfl rfl (q_assign) ?_
   refine AOps.nil ?_
   refine AWp.ret ?_
   show Fin te Try.f17 _ _
   obtain ⟨x1, x2⟩ := dec_err (b := b) (e := dE b) (by rw [rdM, if_neg (by omega), if_pos h4_1])
   rw [x1, x2]
   refine q_retH (0) [] [_, _] [.agg (msgC zM), _] [] ?_ (hobj := by repeat' (first | exact trivial | exact lv_ok rfl | exact lv_sl rfl rfl | exact lv_rn rfl rfl .row rfl | exact lv_ptr rfl rfl | exact lv_mp rfl rfl | exact lv_nilz | exact lv_any | exact lv_row0 rfl rfl .row (fun _ => rfl) (Nat.le_of_ble_eq_true rfl) (fun _ => rfl) | exact lobj_row (fun _ => rfl) | exact lobj_rown (fun _ => rfl) | exact lobj_me (fun _ => rfl) | refine lobj_box ?_ | refine ⟨rfl, ⟨_, rfl, ?_⟩, ?_⟩ | refine ⟨?_, ?_⟩)) (h2 := by repeat' (first | exact trivial | exact lv_ok rfl | exact lv_ptr rfl rfl | exact lv_sl rfl rfl | exact lv_nilz | exact lv_row0 rfl rfl .row (fun _ => rfl) (Nat.le_of_ble_eq_true rfl) (fun _ => rfl) | refine lv_agg ?_ | exact lv_any | refine ⟨?_, ?_⟩))
   rfl
  ·
   refine AOps.nil ?_
   refine AWp.cond_f rfl ?_
   refine AWp.skip ?_
   refine AWp.seq ?_
   refine AWp.region ?_
   have g1 : ¬ 65535 < b.length := by omega
   have hb2 : b.length ≤ 65535 := by omega
   have hz : dE b = 0 := by omega
   have hz1 := dE_zero' hz
   obtain ⟨e2, l2⟩ := cN_eq b 2
   obtain ⟨e3, l3⟩ := cN_eq b 3
   obtain ⟨e4, l4⟩ := cN_eq b 4
   obtain ⟨e5, l5⟩ := cN_eq b 5
   rw [e2, e3, e4, e5]
   refine AOps.cons rfl rfl (q_move) ?_
   refine AOps.cons rfl rfl (q_build [(_, _), (_, _)]) ?_
   refine AOps.cons rfl rfl (q_box 702) ?_
   refine AOps.cons rfl rfl (q_assign) ?_
   refine AOps.nil ?_
   refine AWp.seq ?_
   refine AWp.region ?_
   refine AOps.cons rfl rfl (q_load) ?_
   refine AOps.cons rfl rfl (q_build [(_, _)]) ?_
   refine AOps.cons rfl rfl (q_alloc 802) ?_
   refine AOps.cons rfl rfl (q_store) ?_
   refine AOps.nil ?_
   refine AWp.seq ?_
   refine AWp.seq ?_
   refine AWp.region ?_
   rcases hq : rdQs b (cN b 2) [] 12 with e | q
   ·
    refine AOps.cons rfl rfl (q_move) ?_
    refine AOps.cons rfl rfl (q_ixa) ?_
    refine AOps.cons rfl rfl (q_load) ?_
    refine AOps.cons rfl rfl (q_callB (0) [(0, 702)] [] [(_, _)] (hc := (c_rrqs_er hb2 (by omega) l2 hq))) ?_
    refine AOps.cons rfl rfl (q_move) ?_
    refine AOps.cons rfl rfl (q_extract) ?_
    refine AOps.cons rfl rfl (q_extract) ?_
    refine AOps.cons rfl rfl (q_fa) ?_
    refine AOps.cons rfl rfl (q_store) ?_
    refine AOps.cons rfl rfl (q_assign) ?_
    refine AOps.nil ?_
    refine AWp.seq ?_
    refine AWp.region ?_
    refine AOps.cons rfl rfl (q_move) ?_
    refine AOps.dec rfl rfl (q_neq) (fun h9_1 => ?_) (fun h9_1 => ?_)
    ·
     refine AOps.nil ?_
     refine AWp.cond_t rfl ?_
     refine AWp.seq ?_
     refine AWp.region ?_
     refine AOps.cons rfl rfl (q_build []) ?_
     refine AOps.cons rfl rfl (q_move) ?_
     refine AOps.cons rfl rfl (q_store) ?_
     refine AOps.cons rfl rfl (q_assign) ?_
     refine AOps.nil ?_
     refine AWp.ret ?_
     show Fin te Try.f17 _ _
     obtain ⟨x1, x2⟩ := dec_err (b := b) (e := e) (by rw [rdM_q g1 hz, bindE_err hq])
     rw [x1, x2]
     refine q_retH (0) [] [_, _] [.agg (msgC zM), _] [] ?_ (hobj := by repeat' (first | exact trivial | exact lv_ok rfl | exact lv_sl rfl rfl | exact lv_rn rfl rfl .row rfl | exact lv_ptr rfl rfl | exact lv_mp rfl rfl | exact lv_nilz | exact lv_any | exact lv_row0 rfl rfl .row (fun _ => rfl) (Nat.le_of_ble_eq_true rfl) (fun _ => rfl) | exact lobj_row (fun _ => rfl) | exact lobj_rown (fun _ => rfl) | exact lobj_me (fun _ => rfl) | refine lobj_box ?_ | refine ⟨rfl, ⟨_, rfl, ?_⟩, ?_⟩ | refine ⟨?_, ?_⟩)) (h2 := by repeat' (first | exact trivial | exact lv_ok rfl | exact lv_ptr rfl rfl | exact lv_sl rfl rfl | exact lv_nilz | exact lv_row0 rfl rfl .row (fun _ => rfl) (Nat.le_of_ble_eq_true rfl) (fun _ => rfl) | refine lv_agg ?_ | exact lv_any | refine ⟨?_, ?_⟩))
     rfl
    ·
     exfalso; exact h9_1 (rdQs_ne0 _ _ _ hq)
   ·
    refine AOps.cons rfl rfl (q_move) ?_
    refine AOps.cons rfl rfl (q_ixa) ?_
    refine AOps.cons rfl rfl (q_load) ?_
    refine AOps.cons rfl rfl (q_callB (0) [(0, 702)] [] [(_, _)] (hc := (c_rrqs_ok hb2 (by omega) l2 hq))) ?_
    refine AOps.cons rfl rfl (q_move) ?_
    refine AOps.cons rfl rfl (q_extract) ?_
    refine AOps.cons rfl rfl (q_extract) ?_
    refine AOps.cons rfl rfl (q_fa) ?_
    refine AOps.cons rfl rfl (q_store) ?_
    refine AOps.cons rfl rfl (q_assign) ?_
    refine AOps.nil ?_
    refine AWp.seq ?_
    refine AWp.region ?_
    refine AOps.cons rfl rfl (q_move) ?_
    refine AOps.dec rfl rfl (q_neq) (fun h9_1 => ?_) (fun h9_1 => ?_)
    ·
     exfalso; simp at h9_1
    ·
     refine AOps.nil ?_
     refine AWp.cond_f rfl ?_
     refine AWp.skip ?_
     refine AWp.seq ?_
     refine AWp.seq ?_
     refine AWp.region ?_
     rcases h3 : rdRs b (cN b 3) [] q.2 with e | x
     ·
      have q1 := rdQs_le _ _ _ hq (by omega)
      refine AOps.cons rfl rfl (q_move) ?_
      refine AOps.cons rfl rfl (q_ixa) ?_
      refine AOps.cons rfl rfl (q_load) ?_
      refine AOps.cons rfl rfl (q_callB (0) [(0, 702)] [] [(_, _)] (hc := (c_rrrs_er hb2 (by omega) l3 h3))) ?_
      refine AOps.cons rfl rfl (q_move) ?_
      refine AOps.cons rfl rfl (q_extract) ?_
      refine AOps.cons rfl rfl (q_extract) ?_
      refine AOps.cons rfl rfl (q_fa) ?_
      refine AOps.cons rfl rfl (q_store) ?_
      refine AOps.cons rfl rfl (q_assign) ?_
      refine AOps.nil ?_
      refine AWp.seq ?_
      refine AWp.region ?_
      refine AOps.cons rfl rfl (q_move) ?_
      refine AOps.dec rfl rfl (q_neq) (fun h12_1 => ?_) (fun h12_1 => ?_)
      ·
       refine AOps.nil ?_
       refine AWp.cond_t rfl ?_
       refine AWp.seq ?_
       refine AWp.region ?_
       refine AOps.cons rfl rfl (q_build []) ?_
       refine AOps.cons rfl rfl (q_move) ?_
       refine AOps.cons rfl rfl (q_store) ?_
       refine AOps.cons rfl rfl (q_assign) ?_
       refine AOps.nil ?_
       refine AWp.ret ?_
       show Fin te Try.f17 _ _
       obtain ⟨x1, x2⟩ := dec_err (b := b) (e := e) (by rw [rdM_q g1 hz, bindE_ok hq]; rw [bindE_err h3])
       rw [x1, x2]
       refine q_retH (0) [] [_, _] [.agg (msgC zM), _] [] ?_ (hobj := by repeat' (first | exact trivial | exact lv_ok rfl | exact lv_sl rfl rfl | exact lv_rn rfl rfl .row rfl | exact lv_ptr rfl rfl | exact lv_mp rfl rfl | exact lv_nilz | exact lv_any | exact lv_row0 rfl rfl .row (fun _ => rfl) (Nat.le_of_ble_eq_true rfl) (fun _ => rfl) | exact lobj_row (fun _ => rfl) | exact lobj_rown (fun _ => rfl) | exact lobj_me (fun _ => rfl) | refine lobj_box ?_ | refine ⟨rfl, ⟨_, rfl, ?_⟩, ?_⟩ | refine ⟨?_, ?_⟩)) (h2 := by repeat' (first | exact trivial | exact lv_ok rfl | exact lv_ptr rfl rfl | exact lv_sl rfl rfl | exact lv_nilz | exact lv_row0 rfl rfl .row (fun _ => rfl) (Nat.le_of_ble_eq_true rfl) (fun _ => rfl) | refine lv_agg ?_ | exact lv_any | refine ⟨?_, ?_⟩))
       rfl
      ·
       exfalso; exact h12_1 (rdRs_ne0 _ _ _ h3)
     ·
      have q1 := rdQs_le _ _ _ hq (by omega)
      refine AOps.cons rfl rfl (q_move) ?_
      refine AOps.cons rfl rfl (q_ixa) ?_
      refine AOps.cons rfl rfl (q_load) ?_
      refine AOps.cons rfl rfl (q_callB (0) [(0, 702)] [] [(_, _)] (hc := (c_rrrs_ok hb2 (by omega) l3 h3))) ?_
      refine AOps.cons rfl rfl (q_move) ?_
      refine AOps.cons rfl rfl (q_extract) ?_
      refine AOps.cons rfl rfl (q_extract) ?_
      refine AOps.cons rfl rfl (q_fa) ?_
      refine AOps.cons rfl rfl (q_store) ?_
      refine AOps.cons rfl rfl (q_assign) ?_
      refine AOps.nil ?_
      refine AWp.seq ?_
      refine AWp.region ?_
      refine AOps.cons rfl rfl (q_move) ?_
      refine AOps.dec rfl rfl (q_neq) (fun h12_1 => ?_) (fun h12_1 => ?_)
      ·
       exfalso; simp at h12_1
      ·
       refine AOps.nil ?_
       refine AWp.cond_f rfl ?_
       refine AWp.skip ?_
       refine AWp.seq ?_
       refine AWp.seq ?_
       refine AWp.region ?_
       rcases h4 : rdRs b (cN b 4) [] x.2 with e | y
       ·
        have q2 := rdRs_le _ _ _ h3 q1
        refine AOps.cons rfl rfl (q_move) ?_
        refine AOps.cons rfl rfl (q_ixa) ?_
        refine AOps.cons rfl rfl (q_load) ?_
        refine AOps.cons rfl rfl (q_callB (0) [(0, 702)] [] [(_, _)] (hc := (c_rrrs_er hb2 (by omega) l4 h4))) ?_
        refine AOps.cons rfl rfl (q_move) ?_
        refine AOps.cons rfl rfl (q_extract) ?_
        refine AOps.cons rfl rfl (q_extract) ?_
        refine AOps.cons rfl rfl (q_fa) ?_
        refine AOps.cons rfl rfl (q_store) ?_
        refine AOps.cons rfl rfl (q_assign) ?_
        refine AOps.nil ?_
        refine AWp.seq ?_
        refine AWp.region ?_
        refine AOps.cons rfl rfl (q_move) ?_
        refine AOps.dec rfl rfl (q_neq) (fun h15_1 => ?_) (fun h15_1 => ?_)
        ·
         refine AOps.nil ?_
         refine AWp.cond_t rfl ?_
         refine AWp.seq ?_
         refine AWp.region ?_
         refine AOps.cons rfl rfl (q_build []) ?_
         refine AOps.cons rfl rfl (q_move) ?_
         refine AOps.cons rfl rfl (q_store) ?_
         refine AOps.cons rfl rfl (q_assign) ?_
         refine AOps.nil ?_
         refine AWp.ret ?_
         show Fin te Try.f17 _ _
         obtain ⟨x1, x2⟩ := dec_err (b := b) (e := e) (by rw [rdM_q g1 hz, bindE_ok hq]; rw [bindE_ok h3]; rw [bindE_err h4])
         rw [x1, x2]
         refine q_retH (0) [] [_, _] [.agg (msgC zM), _] [] ?_ (hobj := by repeat' (first | exact trivial | exact lv_ok rfl | exact lv_sl rfl rfl | exact lv_rn rfl rfl .row rfl | exact lv_ptr rfl rfl | exact lv_mp rfl rfl | exact lv_nilz | exact lv_any | exact lv_row0 rfl rfl .row (fun _ => rfl) (Nat.le_of_ble_eq_true rfl) (fun _ => rfl) | exact lobj_row (fun _ => rfl) | exact lobj_rown (fun _ => rfl) | exact lobj_me (fun _ => rfl) | refine lobj_box ?_ | refine ⟨rfl, ⟨_, rfl, ?_⟩, ?_⟩ | refine ⟨?_, ?_⟩)) (h2 := by repeat' (first | exact trivial | exact lv_ok rfl | exact lv_ptr rfl rfl | exact lv_sl rfl rfl | exact lv_nilz | exact lv_row0 rfl rfl .row (fun _ => rfl) (Nat.le_of_ble_eq_true rfl) (fun _ => rfl) | refine lv_agg ?_ | exact lv_any | refine ⟨?_, ?_⟩))
         rfl
        ·
         exfalso; exact h15_1 (rdRs_ne0 _ _ _ h4)
       ·
        have q2 := rdRs_le _ _ _ h3 q1
        refine AOps.cons rfl rfl (q_move) ?_
        refine AOps.cons rfl rfl (q_ixa) ?_
        refine AOps.cons rfl rfl (q_load) ?_
        refine AOps.cons rfl rfl (q_callB (0) [(0, 702)] [] [(_, _)] (hc := (c_rrrs_ok hb2 (by omega) l4 h4))) ?_
        refine AOps.cons rfl rfl (q_move) ?_
        refine AOps.cons rfl rfl (q_extract) ?_
        refine AOps.cons rfl rfl (q_extract) ?_
        refine AOps.cons rfl rfl (q_fa) ?_
        refine AOps.cons rfl rfl (q_store) ?_
        refine AOps.cons rfl rfl (q_assign) ?_
        refine AOps.nil ?_
        refine AWp.seq ?_
        refine AWp.region ?_
        refine AOps.cons rfl rfl (q_move) ?_
        refine AOps.dec rfl rfl (q_neq) (fun h15_1 => ?_) (fun h15_1 => ?_)
        ·
         exfalso; simp at h15_1
        ·
         refine AOps.nil ?_
         refine AWp.cond_f rfl ?_
         refine AWp.skip ?_
         refine AWp.seq ?_
         refine AWp.seq ?_
         refine AWp.region ?_
         rcases h5 : rdRs b (cN b 5) [] y.2 with e | z
         ·
          have q3 := rdRs_le _ _ _ h4 q2
          refine AOps.cons rfl rfl (q_move) ?_
          refine AOps.cons rfl rfl (q_ixa) ?_
          refine AOps.cons rfl rfl (q_load) ?_
          refine AOps.cons rfl rfl (q_callB (0) [(0, 702)] [] [(_, _)] (hc := (c_rrrs_er hb2 (by omega) l5 h5))) ?_
          refine AOps.cons rfl rfl (q_move) ?_
          refine AOps.cons rfl rfl (q_extract) ?_
          refine AOps.cons rfl rfl (q_extract) ?_
          refine AOps.cons rfl rfl (q_fa) ?_
          refine AOps.cons rfl rfl (q_store) ?_
          refine AOps.cons rfl rfl (q_assign) ?_
          refine AOps.nil ?_
          refine AWp.seq ?_
          refine AWp.region ?_
          refine AOps.cons rfl rfl (q_move) ?_
          refine AOps.dec rfl rfl (q_neq) (fun h18_1 => ?_) (fun h18_1 => ?_)
          ·
           refine AOps.nil ?_
           refine AWp.cond_t rfl ?_
           refine AWp.seq ?_
           refine AWp.region ?_
           refine AOps.cons rfl rfl (q_build []) ?_
           refine AOps.cons rfl rfl (q_move) ?_
           refine AOps.cons rfl rfl (q_store) ?_
           refine AOps.cons rfl rfl (q_assign) ?_
           refine AOps.nil ?_
           refine AWp.ret ?_
           show Fin te Try.f17 _ _
           obtain ⟨x1, x2⟩ := dec_err (b := b) (e := e) (by rw [rdM_q g1 hz, bindE_ok hq]; rw [bindE_ok h3]; rw [bindE_ok h4]; rw [bindE_err h5])
           rw [x1, x2]
           refine q_retH (0) [] [_, _] [.agg (msgC zM), _] [] ?_ (hobj := by repeat' (first | exact trivial | exact lv_ok rfl | exact lv_sl rfl rfl | exact lv_rn rfl rfl .row rfl | exact lv_ptr rfl rfl | exact lv_mp rfl rfl | exact lv_nilz | exact lv_any | exact lv_row0 rfl rfl .row (fun _ => rfl) (Nat.le_of_ble_eq_true rfl) (fun _ => rfl) | exact lobj_row (fun _ => rfl) | exact lobj_rown (fun _ => rfl) | exact lobj_me (fun _ => rfl) | refine lobj_box ?_ | refine ⟨rfl, ⟨_, rfl, ?_⟩, ?_⟩ | refine ⟨?_, ?_⟩)) (h2 := by repeat' (first | exact trivial | exact lv_ok rfl | exact lv_ptr rfl rfl | exact lv_sl rfl rfl | exact lv_nilz | exact lv_row0 rfl rfl .row (fun _ => rfl) (Nat.le_of_ble_eq_true rfl) (fun _ => rfl) | refine lv_agg ?_ | exact lv_any | refine ⟨?_, ?_⟩))
           rfl
          ·
           exfalso; exact h18_1 (rdRs_ne0 _ _ _ h5)
         ·
          have q3 := rdRs_le _ _ _ h4 q2
          refine AOps.cons rfl rfl (q_move) ?_
          refine AOps.cons rfl rfl (q_ixa) ?_
          refine AOps.cons rfl rfl (q_load) ?_
          refine AOps.cons rfl rfl (q_callB (0) [(0, 702)] [] [(_, _)] (hc := (c_rrrs_ok hb2 (by omega) l5 h5))) ?_
          refine AOps.cons rfl rfl (q_move) ?_
          refine AOps.cons rfl rfl (q_extract) ?_
          refine AOps.cons rfl rfl (q_extract) ?_
          refine AOps.cons rfl rfl (q_fa) ?_
          refine AOps.cons rfl rfl (q_store) ?_
          refine AOps.cons rfl rfl (q_assign) ?_
          refine AOps.nil ?_
          refine AWp.seq ?_
          refine AWp.region ?_
          refine AOps.cons rfl rfl (q_move) ?_
          refine AOps.dec rfl rfl (q_neq) (fun h18_1 => ?_) (fun h18_1 => ?_)
          ·
           exfalso; simp at h18_1
          ·
           refine AOps.nil ?_
           refine AWp.cond_f rfl ?_
           refine AWp.skip ?_
           refine AWp.seq ?_
           refine AWp.seq ?_
           refine AWp.region ?_
           have q4 := rdRs_le _ _ _ h5 q3
           refine AOps.cons rfl rfl (q_move) ?_
           refine AOps.cons rfl rfl (q_nil) ?_
           refine AOps.cons rfl rfl (q_fa) ?_
           refine AOps.cons rfl rfl (q_load) ?_
           refine AOps.cons rfl rfl (q_move) ?_
           refine AOps.cons rfl rfl (q_len) ?_
           refine AOps.dec rfl rfl (q_lss) (fun h20_6 => ?_) (fun h20_6 => ?_)
           ·
            refine AOps.nil ?_
            refine AWp.cond_t rfl ?_
            refine AWp.seq ?_
            refine AWp.region ?_
            refine AOps.cons rfl rfl (q_build []) ?_
            refine AOps.cons rfl rfl (q_store) ?_
            refine AOps.cons rfl rfl (q_assign) ?_
            refine AOps.nil ?_
            refine AWp.ret ?_
            show Fin te Try.f17 _ _
            obtain ⟨x1, x2⟩ := dec_err (b := b) (e := 41) (by rw [rdM_q g1 hz, bindE_ok hq]; rw [bindE_ok h3]; rw [bindE_ok h4]; rw [bindE_ok h5]; exact if_neg (by omega))
            rw [x1, x2]
            refine q_retH (0) [] [_, _] [.agg (msgC zM), _] [] ?_ (hobj := by repeat' (first | exact trivial | exact lv_ok rfl | exact lv_sl rfl rfl | exact lv_rn rfl rfl .row rfl | exact lv_ptr rfl rfl | exact lv_mp rfl rfl | exact lv_nilz | exact lv_any | exact lv_row0 rfl rfl .row (fun _ => rfl) (Nat.le_of_ble_eq_true rfl) (fun _ => rfl) | exact lobj_row (fun _ => rfl) | exact lobj_rown (fun _ => rfl) | exact lobj_me (fun _ => rfl) | refine lobj_box ?_ | refine ⟨rfl, ⟨_, rfl, ?_⟩, ?_⟩ | refine ⟨?_, ?_⟩)) (h2 := by repeat' (first | exact trivial | exact lv_ok rfl | exact lv_ptr rfl rfl | exact lv_sl rfl rfl | exact lv_nilz | exact lv_row0 rfl rfl .row (fun _ => rfl) (Nat.le_of_ble_eq_true rfl) (fun _ => rfl) | refine lv_agg ?_ | exact lv_any | refine ⟨?_, ?_⟩))
            rfl
           ·
            refine AOps.nil ?_
            refine AWp.cond_f rfl ?_
            refine AWp.skip ?_
            refine AWp.seq ?_
            refine AWp.region ?_
            refine AOps.cons rfl rfl (q_load) ?_
            refine AOps.cons rfl rfl (q_store) ?_
            refine AOps.cons rfl rfl (q_assign) ?_
            refine AOps.nil ?_
            refine AWp.ret ?_
            show Fin te Try.f17 _ _
            obtain ⟨x1, x2⟩ := dec_ok (b := b) (m := ⟨hdM b, q.1, x.1, y.1, z.1⟩) (by rw [rdM_q g1 hz, bindE_ok hq]; rw [bindE_ok h3]; rw [bindE_ok h4]; rw [bindE_ok h5]; exact if_pos (by omega))
            rw [x1, x2]
            refine q_retH (0) [] [_, _] [_, _] [] ?_ (hobj := by repeat' (first | exact trivial | exact lv_ok rfl | exact lv_sl rfl rfl | exact lv_rn rfl rfl .row rfl | exact lv_ptr rfl rfl | exact lv_mp rfl rfl | exact lv_nilz | exact lv_any | exact lv_row0 rfl rfl .row (fun _ => rfl) (Nat.le_of_ble_eq_true rfl) (fun _ => rfl) | exact lobj_row (fun _ => rfl) | exact lobj_rown (fun _ => rfl) | exact lobj_me (fun _ => rfl) | refine lobj_box ?_ | refine ⟨rfl, ⟨_, rfl, ?_⟩, ?_⟩ | refine ⟨?_, ?_⟩)) (h2 := by repeat' (first | exact trivial | exact lv_ok rfl | exact lv_ptr rfl rfl | exact lv_sl rfl rfl | exact lv_nilz | exact lv_row0 rfl rfl .row (fun _ => rfl) (Nat.le_of_ble_eq_true rfl) (fun _ => rfl) | refine lv_agg ?_ | exact lv_any | refine ⟨?_, ?_⟩))
            rfl
theorem c_refDecode (b : List UInt8) (hb : b.length ≤ 140737488351232) : AC Try.prog 17 [.fz 0 b.length (cl bc b)] emp (Ret (.tup [.agg (msgC (decM b)), i64 (decE b)])) := co_refDecode b hb
end Go.Proofs.Ytkfccjbihcbmiaa.Fw


set_option linter.unusedVariables false
set_option linter.unusedSimpArgs false
namespace Go.Proofs.Ytkfccjbihcbmiaa.Fw
open Go.RowKit
theorem decM_ok (b : List UInt8) : MsgOk (decM b) := by
  cases h : rdM b with
  | error e =>
    have h1 : decM b = zM := by rw [decM, h]
    rw [h1]
    exact ⟨by decide, ⟨by decide, by simp [zM]⟩, ⟨by decide, by simp [zM]⟩, ⟨by decide, by simp [zM]⟩⟩
  | ok m => exact (again (b := b) (by rw [decE, h])).2.1
noncomputable def wB : Code := Try.f5.body.getD .skip
noncomputable def w2 : Code := fstC (sndC (sndC wB))
noncomputable def w3 : Code := fstC (sndC (sndC (sndC wB)))
noncomputable def w4 : Code := fstC (sndC (sndC (sndC (sndC wB))))
noncomputable def w6 : Code := fstC (sndC (sndC (sndC (sndC (sndC wB)))))
noncomputable def w7 : Code := sndC (sndC (sndC (sndC (sndC (sndC wB)))))
section
variable (b : List UInt8) (D0 D3 : Value → Prop)
def S2 : AS := mkS [(0, .p D0 (.fz 1 b.length (cl bc b))), (3, .p D3 (.fz 1 b.length (cl bc b)))] []
def S2b : AS := mkS [(0, .p D0 (.fz 1 b.length (cl bc b))), (3, .p D3 (.fz 1 b.length (cl bc b))), (4, .ptr 305 0 0), (5, i64 (decE b))] [(305, .box (msgC (decM b)))]
def S3 (B : Nat) : AS := mkS [(0, .p D0 (.fz 0 b.length (cl bc b))), (3, .p D3 (.fz 0 b.length (cl bc b))), (4, .ptr 305 0 0), (5, i64 (decE b))] [(305, .box (msgF (DF B) (decM b)))]
def S4 (B : Nat) : AS := mkS [(0, .p D0 (.fz 0 b.length (cl bc b))), (3, .p D3 (.fz 0 b.length (cl bc b))), (4, .ptr 305 0 0), (5, i64 (decE b)), (6, .ptr 405 0 0), (7, i64 (decE b))] [(305, .box (msgF (DF B) (decM b))), (405, .box (msgC (decM b)))]
def S6 (B : Nat) : AS := mkS [(0, .p D0 (.fz 0 b.length (cl bc b))), (3, .p D3 (.fz 0 b.length (cl bc b))), (4, .ptr 305 0 0)] [(305, .box (msgF (DF B) (decM b)))]
def S7 : AS := mkS [(0, .fz 0 b.length (cl bc b)), (3, .fz 0 b.length (cl bc b))] []
theorem wr_2 (hb : b.length ≤ 140737488351232) : AWp Try.prog Try.f5.ntmps w2 (fun e s => e = .normal ∧ Weak s (S2b b D0 D3)) (S2 b D0 D3) := by
  refine AWp.region ?_
  refine AOps.cons rfl rfl q_move ?_
  refine AOps.cons rfl rfl (q_call (1) (hA := by exact ⟨fv_p (fv_ok rfl), trivial⟩) (hc := c_Decode1 b hb)) ?_
  refine AOps.cons rfl rfl q_move ?_
  refine AOps.cons rfl rfl q_extract ?_
  refine AOps.cons rfl rfl q_extract ?_
  refine AOps.cons rfl rfl (q_alloc 305) ?_
  refine AOps.cons rfl rfl q_store ?_
  refine AOps.cons rfl rfl q_assign ?_
  exact AOps.nil ⟨rfl, Weak.full 1 []⟩
theorem wr_3 (hb : b.length ≤ 140737488351232) (B : Nat) : AWp Try.prog Try.f5.ntmps w3 (fun e s => e = .normal ∧ Weak s (S4 b D0 D3 B)) (S3 b D0 D3 B) := by
  refine AWp.region ?_
  refine AOps.cons rfl rfl q_move ?_
  refine AOps.cons rfl rfl (q_call (0) (hA := by exact ⟨fv_p (fv_ok rfl), trivial⟩) (hc := c_refDecode b hb)) ?_
  refine AOps.cons rfl rfl q_move ?_
  refine AOps.cons rfl rfl q_extract ?_
  refine AOps.cons rfl rfl q_extract ?_
  refine AOps.cons rfl rfl (q_alloc 405) ?_
  refine AOps.cons rfl rfl q_store ?_
  refine AOps.cons rfl rfl q_assign ?_
  exact AOps.nil ⟨rfl, Weak.full 0 []⟩
theorem wr_4 (B : Nat) : AWp Try.prog Try.f5.ntmps w4 (fun e s => e = .normal ∧ Weak s (S6 b D0 D3 B)) (S4 b D0 D3 B) := by
  have hm := decM_ok b
  refine AWp.seq ?_
  refine AWp.region ?_
  refine AOps.cons rfl rfl q_move ?_
  refine AOps.cons rfl rfl q_move ?_
  refine AOps.cons rfl rfl (OpOk.dec_f q_neq (fun k => k rfl)) ?_
  refine AOps.cons rfl rfl q_move ?_
  refine AOps.gcons rfl rfl rfl rfl rfl q_load ?_
  refine AOps.gcons rfl rfl rfl rfl rfl q_load ?_
  refine AOps.gcons rfl rfl rfl rfl rfl (OpOk.bool_is (q_call (0) (hA := by exact ⟨fv_unF (D := DF B) (m := decM b), fv_ok rfl, trivial⟩) (hc := c_ciceroneplain_SameMessage (decM b) (decM b) hm hm)) (decide_eq_true rfl)) ?_
  refine AOps.gcons rfl rfl rfl rfl rfl q_not ?_
  refine AOps.cons rfl rfl q_pick ?_
  refine AOps.nil ?_
  refine AWp.cond_f rfl ?_
  exact AWp.skip ⟨rfl, Weak.full 0 []⟩
theorem wr_7 (hb : b.length ≤ 140737488351232) : AWp Try.prog Try.f5.ntmps w7 (Post te Try.f5 (Ret (tf true))) (S7 b) := by
  refine AWp.seq ?_
  refine AWp.region ?_
  refine AOps.cons rfl rfl q_move ?_
  refine AOps.cons rfl rfl q_move ?_
  refine AOps.cons rfl rfl (OpOk.bool_is (q_call (0) (hc := c_bytes_Equal b b 0 0)) (decide_eq_true rfl)) ?_
  refine AOps.cons rfl rfl q_move ?_
  refine AOps.gcons rfl rfl rfl rfl rfl (q_call (0) (hc := c_ciceronelaw04_awake)) ?_
  refine AOps.cons rfl rfl q_pick ?_
  refine AOps.cons rfl rfl q_assign ?_
  refine AOps.nil ?_
  refine AWp.ret ?_
  show Fin te Try.f5 _ _
  refine q_ret (0) [_] [_] ?_
  rfl
end
end Go.Proofs.Ytkfccjbihcbmiaa.Fw


set_option linter.unusedVariables false
set_option linter.unusedSimpArgs false
namespace Go.Proofs.Ytkfccjbihcbmiaa.Fw
open Go.RowKit
theorem rep_pD {w : World} {φ : PMap} {Λ : Lent} {D : Value → Prop} {x : AV} {v : Value} (h : Rep w φ Λ (.p D x) v) : D v := by cases h; assumption
theorem rep_pX {w : World} {φ : PMap} {Λ : Lent} {D : Value → Prop} {x : AV} {v : Value} (h : Rep w φ Λ (.p D x) v) : Rep w φ Λ x v := by cases h; assumption
theorem HSim.relent {w : World} {φ : PMap} {Λ Λ1 : Lent} {h h' : Heap} (hs : HSim w φ Λ1 h) (hl : ∀ k x, Λ k x → Λ1 k x) (hd : ∀ id, h' id = none → h id = none)
    (ho : ∀ id ob', h' id = some ob' → ∃ ob, h id = some ob ∧ ∀ l, ObjRep w φ Λ1 ob l → ObjRep w φ Λ ob' l) : HSim w φ Λ h' where
  heap id ob' e := by
    obtain ⟨ob, e1, e2⟩ := ho id ob' e
    obtain ⟨l, e3, e4⟩ := hs.heap id ob e1
    exact ⟨l, e3, e2 l e4⟩
  dom id e := hs.dom id (hd id e)
  lt id l b o e1 e2 := ⟨(hs.lt id l b o e1 e2).1, fun k hk => (hs.lt id l b o e1 e2).2 k (hl k b hk)⟩
  inj := hs.inj
  lent k b hk := hs.lent k b (hl k b hk)
theorem wpOps_call {P : Program} {ops : Array Oper} {i : Nat} {rest : List Nat} {o : Oper} {f : FuncId} {fn : Func} {c : Code} {fop : Operand} {argops : Array Operand} {tys : Array TypeId} {a : Act} {w : World} {QQ : Exit → Act → World → Prop} (hb : Body P f fn c)
    (hi : ops[i]? = some o) (hg : o.guard = none) (ho : o.op = .call { callee := .value fop, args := argops, argTypes := tys }) (hf : a.eval fop = .func (.func f) #[] #[])
    (h : Calls P f (argops.map a.eval) w (fun e w' => match e with
      | .returned v => wpOps P ops QQ rest (a.put o.dst v) w'
      | .panicked chain => QQ (.panic chain) a w'
      | .outgrown => False)) : wpOps P ops QQ (i :: rest) a w := by
  simp only [wpOps, hi, Region.wanted, hg, if_true]
  refine .inl ?_
  unfold Oper.wp
  rw [run_callOp hb ho hf]
  have e : (#[] ++ argops.map a.eval ++ #[] : Array Value) = argops.map a.eval := by simp
  rw [e]
  refine Calls.mono h ?_
  intro e w' k
  cases e with
  | returned v => exact k
  | panicked chain => exact k
  | outgrown => exact k.elim
def JC (B : Nat) (w : World) (φ : PMap) (b o : Nat) : Prop := B ≤ b ∧ ¬ owned φ b ∧ ∃ c : UInt8, w.cell? ⟨b, o, none⟩ = some (.int .u8 c.toNat)
theorem rep_toJ {B : Nat} {w : World} {φ : PMap} {Λ : Lent} {n : Nat} {l : List Rr} {v : Value} (hl : ∀ x ∈ l, x.da.length ≤ 140737488355328) (h : Rep w φ Λ (.fz 0 n (cl (rrF (DF B)) l)) v) :
    Rep w (fun _ => none) NoL (.fz 0 n (cl (@J.rrJ ⟨JC B w φ⟩) l)) v :=
  rep_cl5 rrF5 (fun _ => rfl) (fun b _ => ⟨fun h => owned_none h, fun _ _ h => h.elim⟩) (fun x => AV.oks_iff.1 rfl) (fun x hx r c' c h1 h2 u hu => by
    match r, h1, h2 with
    | 0, h1, h2 => cases h1; cases h2; exact rep_v hu
    | 1, h1, h2 => cases h1; cases h2; exact rep_v hu
    | 2, h1, h2 => cases h1; cases h2; exact rep_v hu
    | 3, h1, h2 => cases h1; cases h2; exact rep_v hu
    | 4, h1, h2 =>
      cases h1
      cases h2
      obtain ⟨ad, m, cap, e1, e2⟩ := rep_pD hu
      obtain ⟨ad', cap', e3, e4⟩ := bytes_at (rep_pX hu)
      rw [e3] at e1
      cases e1
      subst e3
      refine .p ⟨x.da.length, hl x hx, ad, cap, rfl, fun hp => ?_⟩ rfl .any
      obtain ⟨b, o, f1, f2⟩ := e2 hp
      obtain ⟨b', o', f3, f4, f5⟩ := e4 hp
      rw [f1] at f3
      cases f3
      exact ⟨b, o, f1, fun j hj => ⟨f2, f4.1, _, f5 j hj⟩⟩
    | r + 5, h1, _ => cases h1) h
theorem msg_toJ {B : Nat} {w : World} {φ : PMap} {Λ : Lent} {m : Msg} {v : Value} (hm : MsgOk m) (h : Rep w φ Λ (.agg (msgF (DF B) m)) v) : Rep w (fun _ => none) NoL (.agg (@J.msgJ ⟨JC B w φ⟩ m)) v := by
  have hd : ∀ x, x ∈ m.an ∨ x ∈ m.au ∨ x ∈ m.ad → x.da.length ≤ 140737488355328 := fun x hx => by
    rcases hx with hx | hx | hx
    · have := hm.2.1.2 x hx; omega
    · have := hm.2.2.1.2 x hx; omega
    · have := hm.2.2.2.2 x hx; omega
  exact agg_of (cs := msgF (DF B) m) (cs' := @J.msgJ ⟨JC B w φ⟩ m) rfl (msg_cases (P := fun c c' => ∀ u, Rep w φ Λ c u → Rep w (fun _ => none) NoL c' u) m (rrF (DF B)) (@J.rrJ ⟨JC B w φ⟩) (fun _ _ h => rep_v h)
    (fun u h => h.move (lv := 0) (fun _ _ _ _ _ => ⟨fun h => owned_none h, fun _ _ h => h.elim⟩) rfl) (fun l hl u h => rep_toJ (fun x hx => hd x (hl x hx)) h) _ _ rfl rfl) h
end Go.Proofs.Ytkfccjbihcbmiaa.Fw


set_option linter.unusedVariables false
set_option linter.unusedSimpArgs false
namespace Go.Proofs.Ytkfccjbihcbmiaa.Fw
open Go.RowKit
set_option maxRecDepth 20000 in
set_option maxHeartbeats 2000000 in
theorem wr_mid (b : List UInt8) (hb : b.length ≤ 140737488351232) : AWp Try.prog Try.f5.ntmps (.seq w2 (.seq w3 (.seq w4 (.seq w6 w7)))) (Post te Try.f5 (Ret (tf true))) (S7 b) := by
  intro Λ w φ a hs QQ hQ
  have hφ : ∀ id, φ id = none := fun id => hs.hs.dom id rfl
  obtain ⟨v0, hv0⟩ : ∃ v, v = a.tmps.getD 0 undef := ⟨_, rfl⟩
  obtain ⟨v3, hv3⟩ : ∃ v, v = a.tmps.getD 3 undef := ⟨_, rfl⟩
  have r0 : Rep w φ Λ (.fz 0 b.length (cl bc b)) v0 := hv0 ▸ hs.tmps 0
  have r3 : Rep w φ Λ (.fz 0 b.length (cl bc b)) v3 := hv3 ▸ hs.tmps 3
  obtain ⟨Λ1, hΛ1⟩ : ∃ Λ1 : Lent, Λ1 = fun k x => Λ k x ∨ (k = 1 ∧ x < w.heap.size) := ⟨_, rfl⟩
  have up : ∀ {v}, Rep w φ Λ (.fz 0 b.length (cl bc b)) v → Rep w φ Λ1 (.p (fun u => u = v) (.fz 1 b.length (cl bc b))) v := fun {v} h => .p rfl (h.one rfl) (rep_bytes (fun x hx hm => ⟨hm.1, fun k hk hl => by
    rw [hΛ1] at hl
    rcases hl with hl | ⟨rfl, _⟩
    · exact hm.2 k (by omega) hl
    · omega⟩) h)
  have hs2 : Sim Try.f5.ntmps w φ Λ1 (S2 b (fun u => u = v0) (fun u => u = v3)) a := by
    refine ⟨hs.defs, hs.size, fun i => ?_, (fun id ob h => by cases h), fun id _ => hφ id, (fun id l x o h => by rw [hφ id] at h; cases h), (fun id id' l l' x o o' h => by rw [hφ id] at h; cases h), fun k x h => ?_⟩
    · match i with
      | 0 => show Rep w φ Λ1 (.p (fun u => u = v0) _) (a.tmps.getD 0 undef); rw [← hv0]; exact up r0
      | 1 => exact .any
      | 2 => exact .any
      | 3 => show Rep w φ Λ1 (.p (fun u => u = v3) _) (a.tmps.getD 3 undef); rw [← hv3]; exact up r3
      | i + 4 => exact .any
    · rw [hΛ1] at h
      exact h.elim (hs.hs.lent k x) (·.2)
  refine wp_seq (wr_2 b _ _ hb Λ1 w φ a hs2 _ ?_)
  rintro ae s' w1 φ1 a1 ⟨rfl, hW⟩ hs' g1
  obtain ⟨φ2, hs2b, g2⟩ := hW _ Λ1 w1 φ1 a1 hs'
  have g12 := g1.trans g2
  have hle : ∀ k x, Λ k x → Λ1 k x := fun k x h => by rw [hΛ1]; exact .inl h
  have hsub : ∀ l x, may φ2 Λ1 l x → may φ2 Λ l x := fun l x hm => ⟨hm.1, fun k hk hl => hm.2 k hk (hle k x hl)⟩
  have hfresh : ∀ x, may φ2 Λ1 0 x → w.heap.size ≤ x := fun x hm => Nat.le_of_not_lt fun hx => hm.2 1 (by omega) (by rw [hΛ1]; exact .inr ⟨rfl, hx⟩)
  have st0 : ∀ {w' φ'}, Stays w φ w' φ' := fun {w' φ'} => ⟨(fun id l h => by rw [hφ id] at h; cases h), (fun id l h => by rw [hφ id] at h; cases h)⟩
  have e0 : a1.tmps.getD 0 undef = v0 := rep_pD (D := fun u => u = v0) (show Rep w1 φ2 Λ1 (.p (fun u => u = v0) (.fz 1 b.length (cl bc b))) (a1.tmps.getD 0 undef) from hs2b.tmps 0)
  have e3 : a1.tmps.getD 3 undef = v3 := rep_pD (D := fun u => u = v3) (show Rep w1 φ2 Λ1 (.p (fun u => u = v3) (.fz 1 b.length (cl bc b))) (a1.tmps.getD 3 undef) from hs2b.tmps 3)
  have hs3 : Sim Try.f5.ntmps w1 φ2 Λ (S3 b (fun u => u = v0) (fun u => u = v3) w.heap.size) a1 := by
    refine ⟨hs2b.defs, hs2b.size, fun i => ?_, HSim.relent hs2b.hs hle (fun id h => ?_) (fun id ob' h => ?_)⟩
    · match i with
      | 0 => show Rep w1 φ2 Λ (.p (fun u => u = v0) _) (a1.tmps.getD 0 undef); rw [e0]; exact .p rfl (r0.one rfl) (r0.goes g12 st0)
      | 1 => exact .any
      | 2 => exact .any
      | 3 => show Rep w1 φ2 Λ (.p (fun u => u = v3) _) (a1.tmps.getD 3 undef); rw [e3]; exact .p rfl (r3.one rfl) (r3.goes g12 st0)
      | 4 => exact Rep.lent hsub (hs2b.tmps 4)
      | 5 => exact Rep.lent hsub (hs2b.tmps 5)
      | i + 6 => exact .any
    · simp only [S3, mkS, hlook] at h
      simp only [S2b, mkS, hlook]
      cases hc : Nat.beq id 305 with
      | true => rw [hc] at h; cases h
      | false => rfl
    · simp only [S3, mkS, hlook] at h
      cases hc : Nat.beq id 305 with
      | false => rw [hc] at h; cases h
      | true =>
        rw [hc] at h
        cases h
        refine ⟨.box (msgC (decM b)), by simp only [S2b, mkS, hlook, hc, cond_true], fun l ho => ?_⟩
        obtain ⟨b0, arr, T, k1, k2, k3, k4, k5⟩ := ho
        refine ⟨b0, arr, T, k1, k2, k3, k4, fun j c' hj => ?_⟩
        have hjl := (List.getElem?_eq_some_iff.1 hj).1
        obtain ⟨v, f1, f2⟩ := k5 j _ (List.getElem?_eq_getElem (show j < (msgC (decM b)).length from hjl))
        exact ⟨v, f1, msg_cases (P := fun c c' => ∀ u, Rep w1 φ2 Λ1 c u → Rep w1 φ2 Λ c' u) (decM b) rrc (rrF (DF w.heap.size)) (fun _ _ h => rep_v h) (fun u h => Rep.lent hsub h) (fun l _ u h => rep_toF hfresh hsub h) (msgC (decM b)) (msgF (DF w.heap.size) (decM b)) rfl rfl j _ c' (List.getElem?_eq_getElem (show j < (msgC (decM b)).length from hjl)) hj v f2⟩
  refine wp_seq (wr_3 b _ _ hb w.heap.size Λ w1 φ2 a1 hs3 _ ?_)
  rintro ae s3' w2' φ3 a2 ⟨rfl, hW3⟩ hs3' g3
  obtain ⟨φ4, hs4, g4⟩ := hW3 _ Λ w2' φ3 a2 hs3'
  refine wp_seq (wr_4 b _ _ w.heap.size Λ w2' φ4 a2 hs4 _ ?_)
  rintro ae s4' w3' φ5 a3 ⟨rfl, hW4⟩ hs4' g5
  obtain ⟨φ6, hs6, g6⟩ := hW4 _ Λ w3' φ5 a3 hs4'
  refine wp_seq (wp_region ?_)
  change wpOps Try.prog (opsOf w6) _ [0, 1] a3 w3'
  refine wpOps_ok (o := (opsOf w6)[0]!) (s' := (S6 b (fun u => u = v0) (fun u => u = v3) w.heap.size).put (some 29) (.agg (msgF (DF w.heap.size) (decM b)))) rfl rfl (q_load (hy := rfl)) hs6 fun w4' φ7 a4 hs7 g7 => ?_
  have gt : Goes w φ w4' φ7 := (((((g12.trans g3).trans g4).trans g5).trans g6).trans g7)
  have hno : ∀ x, ¬ owned (fun _ => none : PMap) x := fun x h => owned_none h
  have hJ : @J.JInv ⟨JC w.heap.size w4' φ7⟩ w4' (fun _ => none) := fun x o hx => ⟨hno x, gt.fro trivial x (fun h => absurd h (by have := hx.1; omega)), hx.2.2⟩
  have hv : Rep w4' φ7 Λ (.agg (msgF (DF w.heap.size) (decM b))) (a4.eval (.tmp 29)) := hs7.tmps 29
  have spoil := @J.cj_SpoilMessage ⟨JC w.heap.size w4' φ7⟩ (decM b) (decM_ok b)
  obtain ⟨⟨fn, c, hbd⟩, hcall⟩ := spoil
  refine wpOps_call hbd (o := (opsOf w6)[1]!) rfl rfl rfl rfl ?_
  refine hcall w4' (fun _ => none) _ ⟨(fun id ob h => by cases h), fun _ _ => rfl, (fun id l x o h => by cases h), (fun id id' l l' x o o' h => by cases h), fun k x h => h.elim⟩ ⟨by simp, fun j c hj => ?_⟩ hJ _ ?_
  · match j, hj with
    | 0, hj => cases hj; exact ⟨a4.eval (.tmp 29), by simp, msg_toJ (decM_ok b) hv⟩
  · intro r h' w5 φ' v hR hs' jg hj' hr
    letI : HasJ := ⟨JC w.heap.size w4' φ7⟩
    have hd : ((opsOf w6)[1]!).dst = some 30 := rfl
    show wpOps Try.prog (opsOf w6) _ [] (a4.put ((opsOf w6)[1]!).dst v) w5
    have gw : Goes w φ w5 φ := by
      refine ⟨fun x hx ho => ?_, Nat.le_trans gt.size jg.size, fun x h => .inl h, jg.os.trans gt.os, jg.tape.trans gt.tape, jg.output.trans gt.output, Pin.none _ _ fun id _ => hφ id, gt.fro.trans jg.fro⟩
      rw [jg.keep x (Nat.lt_of_lt_of_le hx gt.size) (hno x) (fun o hj => by have := hj.1; omega), gt.keep x hx ho]
    have hs8 : Sim Try.f5.ntmps w5 φ Λ (S7 b) (a4.put ((opsOf w6)[1]!).dst v) := by
      have t0 : a4.tmps.getD 0 undef = v0 := rep_pD (D := fun u => u = v0) (show Rep w4' φ7 Λ (.p (fun u => u = v0) (.fz 0 b.length (cl bc b))) (a4.tmps.getD 0 undef) from hs7.tmps 0)
      have t3 : a4.tmps.getD 3 undef = v3 := rep_pD (D := fun u => u = v3) (show Rep w4' φ7 Λ (.p (fun u => u = v3) (.fz 0 b.length (cl bc b))) (a4.tmps.getD 3 undef) from hs7.tmps 3)
      rw [hd]
      refine ⟨hs7.defs, by have := hs7.size; simpa [Act.put] using this, fun i => ?_, (fun id ob h => by cases h), fun id _ => hφ id, (fun id l x o h => by rw [hφ id] at h; cases h), (fun id id' l l' x o o' h => by rw [hφ id] at h; cases h), fun k x h => Nat.lt_of_lt_of_le (hs.hs.lent k x h) (Nat.le_trans gt.size jg.size)⟩
      match i with
      | 0 => show Rep w5 φ Λ (.fz 0 _ _) ((a4.put (some 30) v).tmps.getD 0 undef); rw [put_getD (by simp), t0]; exact r0.goes gw st0
      | 1 => exact .any
      | 2 => exact .any
      | 3 => show Rep w5 φ Λ (.fz 0 _ _) ((a4.put (some 30) v).tmps.getD 3 undef); rw [put_getD (by simp), t3]; exact r3.goes gw st0
      | i + 4 => exact .any
    exact wr_7 b hb Λ w5 φ _ hs8 QQ fun ae s' w' φ' a' q hs' g => hQ ae s' w' φ' a' q hs' (gw.trans g)
theorem c_WireReads (b : List UInt8) (hb : b.length ≤ 140737488351232) : AC Try.prog 5 [.fz 0 b.length (cl bc b)] emp (Ret (tf true)) := by
  refine AC.intro te_ok (fn := Try.f5) ⟨Try.func5, rfl, rfl⟩ (Nat.le_of_ble_eq_true rfl) ?_
  refine AWp.seq ?_
  refine AWp.region ?_
  refine AOps.cons rfl rfl q_assign ?_
  refine AOps.nil ?_
  refine AWp.seq ?_
  refine AWp.region ?_
  refine AOps.cons rfl rfl q_move ?_
  refine AOps.cons rfl rfl (q_call (0) (hc := c_bytes_Clone b 0 (by omega))) ?_
  refine AOps.cons rfl rfl q_assign ?_
  refine AOps.nil ?_
  exact AWp.weak (Weak.full 0 []) (wr_mid b hb)
end Go.Proofs.Ytkfccjbihcbmiaa.Fw


