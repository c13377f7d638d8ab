/- The texts V04e, L04p, V04f, V04g, Q16, V04h, V04i, V04j, one behind the other: what the walks and plain laws need; conditions stand with each theorem. -/
import Derived.Test.YtkfccjbihcbmiaaCat4
/- Walks of layer 4: a message is written. -/
set_option linter.unusedVariables false
set_option linter.unusedSimpArgs false
namespace Go.Proofs.Ytkfccjbihcbmiaa.Fw
open Go.RowKit


theorem wrNames_ok : ∀ {L : List (List UInt8)} {w : Wr}, (∀ n ∈ L, canN n = true) → WOk w → WOk (wrNames L w) ∧ (wrNames L w).b.length ≤ w.b.length + 255 * L.length ∧ w.b.length ≤ (wrNames L w).b.length
  | [], w, _, hw => ⟨hw, Nat.le_refl _, Nat.le_refl _⟩
  | n :: L, w, hn, hw => by
    obtain ⟨a, b, c⟩ := wrName_ok (canN_nm (hn n (by simp))).1 hw
    have d := (canN_nm (hn n (by simp))).1.2
    obtain ⟨e, f, g⟩ := wrNames_ok (L := L) (fun x hx => hn x (by simp [hx])) a
    simp only [wrNames, List.length_cons]
    exact ⟨e, by omega, by omega⟩
theorem wrRec_ok {r : Rr} {w : Wr} (hr : rOk r = true) (hw : WOk w) : WOk (wrRec r w) := by
  obtain ⟨⟨⟨⟨r1, r2⟩, r3⟩, r4⟩, r5⟩ : (((canN r.nm = true ∧ twoB [r.ty, r.cs] = true) ∧ 0 ≤ r.ttl) ∧ r.ttl < 4294967296) ∧ canS r.ty r.da = true := by simpa [rOk] using hr
  have h1 := (wrName_ok (canN_nm r1).1 hw).1
  exact (wrNames_ok (data_ok r5).2.2.1 (w := ⟨(wrNum r w).b ++ preD r.ty r.da, (wrNum r w).m⟩) h1).1
def wrQ (q : Qu) (w : Wr) : Wr := ⟨(wrName (labN q.nm) w).b ++ [q.ty, q.cs].flatMap two, (wrName (labN q.nm) w).m⟩
theorem wrQ_ok {q : Qu} {w : Wr} (hq : qOk q = true) (hw : WOk w) : canN q.nm = true ∧ WOk (wrName (labN q.nm) w) ∧ WOk (wrQ q w) ∧ (wrName (labN q.nm) w).b.length ≤ w.b.length + 255 ∧ (wrQ q w).b.length ≤ w.b.length + 259 := by
  have hc : canN q.nm = true := by unfold qOk at hq; simp only [Bool.and_eq_true] at hq; exact hq.1
  obtain ⟨a, b, c⟩ := wrName_ok (canN_nm hc).1 hw
  have d := (canN_nm hc).1.2
  refine ⟨hc, a, a, by omega, ?_⟩
  rw [wrQ, List.length_append, flat_two]
  simp only [List.length_cons, List.length_nil]; omega
def encQ (qs : List Qu) (w : Wr) : Wr := qs.foldl (fun w q => wrQ q w) w
def stepR (p : Wr × Bool) (r : Rr) : Wr × Bool := if p.2 then (wrRec r p.1, wrOk r p.1 && decide (((wrRec r p.1).b.length : Int) ≤ 65535)) else p
def encR (rs : List Rr) (p : Wr × Bool) : Wr × Bool := rs.foldl stepR p
theorem encQ_step {l : List Qu} {i : Nat} (h : i < l.length) (w : Wr) : encQ (l.take (i + 1)) w = wrQ (l.getD i default) (encQ (l.take i) w) := by
  rw [take_step' h, encQ, List.foldl_append]; rfl
theorem encR_step {l : List Rr} {i : Nat} (h : i < l.length) (p : Wr × Bool) : encR (l.take (i + 1)) p = stepR (encR (l.take i) p) (l.getD i default) := by
  rw [take_step' h, encR, List.foldl_append]; rfl
def hdW (m : Msg) : Wr := ⟨hB (toHd m.h) m.qs.length m.an.length m.au.length m.ad.length, []⟩
def encW (m : Msg) : Wr × Bool := encR m.rrs (encQ m.qs (hdW m), decide (((encQ m.qs (hdW m)).b.length : Int) ≤ 65535))
def encB (m : Msg) : List UInt8 := if canM m then (if (encW m).2 then (encW m).1.b else []) else []
def encE (m : Msg) : Int := if canM m then (if (encW m).2 then 0 else 42) else 1
theorem canM_parts {m : Msg} (h : canM m = true) : hdO m ∧ (∀ q ∈ m.qs, qOk q = true) ∧ ∀ r ∈ m.rrs, rOk r = true := by
  rw [canM, any_nall, any_nall] at h
  simp only [Bool.and_eq_true, decide_eq_true_eq, List.all_eq_true] at h
  exact ⟨h.1.1, h.1.2, h.2⟩

set_option maxRecDepth 20000 in
set_option maxHeartbeats 2000000 in
theorem c_wire_Encode (m : Msg) (h : MsgOk m) (hn : NmOk m) : AC Try.prog 11 [.agg (msgC m)] emp (Ret (.tup [.fz 0 (encB m).length (cl bc (encB m)), i64 (encE m)])) := by
  refine AC.intro te_ok (fn := Try.f11) ⟨Try.func11, rfl, rfl⟩ (Nat.le_of_ble_eq_true rfl) ?_
  refine AWp.seq ?_
  refine AWp.region ?_
  refine AOps.cons rfl rfl (q_box 100) ?_
  refine AOps.cons rfl rfl (q_nilz (0) bc) ?_
  refine AOps.cons rfl rfl (q_assign) ?_
  refine AOps.nil ?_
  refine AWp.seq ?_
  refine AWp.seq ?_
  refine AWp.region ?_
  refine AOps.cons rfl rfl (q_load) ?_
  refine AOps.bool rfl rfl (q_call (0) (hc := (c_wire_Can m h hn))) (fun h1_1 => ?_) (fun h1_1 => ?_)
  · skip
    refine AOps.cons rfl rfl (q_not) ?_
    refine AOps.nil ?_
    refine AWp.cond_f rfl ?_
    refine AWp.skip ?_
    refine AWp.seq ?_
    have hW0 : WOk (hdW m) := fun k a h => by cases h
    obtain ⟨p1, p2, p3⟩ := canM_parts (m := m) h1_1
    have hz := hE_iff.2 p1
    have hbl : (hdW m).b.length = 12 := by
      show (hB (toHd m.h) m.qs.length m.an.length m.au.length m.ad.length).length = 12
      rw [hB_yes p1, Hd.bytes_length]
    obtain ⟨k1, k2, k3, k4⟩ := hdO_counts p1
    have hrl : m.rrs.length ≤ 196605 := by simp only [Msg.rrs, List.length_append]; omega
    refine AWp.draws [⟨0, [1], [100], some 16, _, none⟩,
        ⟨1, [16], [100], some 17, _, none⟩,
        ⟨2, [1], [100], some 18, _, none⟩,
        ⟨3, [18], [], some 19, _, none⟩,
        ⟨4, [17, 19], [4048], some 20, _, some (4048, _)⟩,
        ⟨5, [20], [], some 15, _, none⟩,
        ⟨6, [15], [4048], some 21, _, none⟩,
        ⟨7, [15], [4048], some 22, _, none⟩,
        ⟨8, [21], [], some 4, _, none⟩,
        ⟨9, [22], [], some 5, _, none⟩]
      [⟨0, [1], [100], some 16, .any, none⟩,
          ⟨1, [16], [100], some 17, .any, none⟩,
          ⟨2, [1], [100], some 18, .any, none⟩,
          ⟨3, [18], [], some 19, .any, none⟩,
          ⟨4, [17, 19], [4048], some 20, .any, some (4048, .box [])⟩,
          ⟨5, [20], [], some 15, .any, none⟩,
          ⟨6, [15], [4048], some 21, .any, none⟩,
          ⟨7, [15], [4048], some 22, .any, none⟩,
          ⟨8, [21], [], some 4, .any, none⟩,
          ⟨9, [22], [], some 5, .any, none⟩]
      mixed_ok rfl (by kernel_rfl) ⟨DS.ok_over fun s0 => OpAt.go rfl rfl (q_fa),
          DS.ok_over fun s0 => OpAt.go rfl rfl (q_load),
          DS.ok_over fun s0 => OpAt.go rfl rfl (q_load),
          DS.ok_over fun s0 => OpAt.go rfl rfl (q_call (0) (hc := (c_wire_counts m))),
          DS.ok_over fun s0 => OpAt.go rfl rfl (q_callB (0) [] [(8, 4048)] [(_, _)] (hobj := by repeat' (first | exact trivial | exact lv_ok rfl | exact lv_sl rfl rfl | exact lv_ptr rfl rfl | exact lv_mp rfl rfl | exact lobj_row (fun _ => rfl) | exact lobj_me (fun _ => rfl) | refine lobj_box ?_ | refine ⟨rfl, ⟨_, rfl, ?_⟩, ?_⟩ | refine ⟨?_, ?_⟩)) (hB := by repeat' (first | exact trivial | exact hb_rowc (lv := 0) (fun _ => rfl) | exact hb_me (lv := 0) (fun _ => rfl) | exact rfl | refine ⟨rfl, rfl, ?_, ?_⟩)) (hL := by repeat' (first | exact trivial | exact hl_row (fun _ => rfl) | exact hl_me (fun _ => rfl) | exact ⟨rfl, rfl⟩ | refine ⟨?_, ?_⟩)) (hc := (co_header_Encode (toHd m.h) m.qs.length m.an.length m.au.length m.ad.length))),
          DS.ok_over fun s0 => OpAt.go rfl rfl (q_move),
          DS.ok_over fun s0 => OpAt.go rfl rfl (q_extract),
          DS.ok_over fun s0 => OpAt.go rfl rfl (q_extract),
          DS.ok_over fun s0 => OpAt.go rfl rfl (q_assign),
          DS.ok_over fun s0 => OpAt.go rfl rfl (q_assign), trivial⟩ ?_
    dsimp only [final, DS.upd, AS.seto]
    refine AWp.seq ?_
    refine AWp.seq ?_
    refine AWp.region ?_
    refine AOps.cons rfl rfl (q_move) ?_
    refine AOps.dec rfl rfl (q_neq) (fun h4_1 => ?_) (fun h4_1 => ?_)
    · exfalso; exact h4_1 hz
    · skip
      refine AOps.nil ?_
      refine AWp.cond_f rfl ?_
      refine AWp.skip ?_
      refine AWp.seq ?_
      refine AWp.region ?_
      refine AOps.cons rfl rfl (q_move) ?_
      refine AOps.cons rfl rfl (q_makeMap 701 MStr (fun b : Int => i64 b)) ?_
      refine AOps.cons rfl rfl (q_build [(_, _), (_, _)]) ?_
      refine AOps.cons rfl rfl (q_box 703) ?_
      refine AOps.cons rfl rfl (q_assign) ?_
      refine AOps.nil ?_
      refine AWp.seq ?_
      refine AWp.seq ?_
      refine AWp.region ?_
      refine AOps.cons rfl rfl (q_fa) ?_
      refine AOps.cons rfl rfl (q_load) ?_
      refine AOps.cons rfl rfl (q_len) ?_
      refine AOps.cons rfl rfl (q_move) ?_
      refine AOps.nil ?_
      refine AWp.block ?_
      refine AWp.loopR (α := Nat × Wr × Nat) [8, 33, 34, 35, 36, 37, 38, 39, 40, 41, 42, 43, 44, 45, 46, 47, 48] (fun x_ => [(33, i64 (x_.1))]) (fun x_ => [(703, .box [.sl 4048 ((x_.2.2)) 0 ((x_.2.1).b).length 1, .mp 701 0]), (4048, .row (cl bc ((x_.2.1).b)) 1 ((x_.2.2))), (701, .map (me MStr (fun b : Int => i64 b) ((x_.2.1).m)))]) (fun x_ => (x_.1) ≤ m.qs.length ∧ (x_.2.1) = encQ (m.qs.take (x_.1)) (hdW m) ∧ WOk (x_.2.1) ∧ (x_.2.1).b.length ≤ 12 + 259 * (x_.1)) (fun x_ => m.qs.length - (x_.1)) (0, hdW m, 0) ?_ (Back.mk' (HasT.cons HasT.nil) (HasH.cons (HasH.cons (HasH.cons HasH.nil (h2 := by exact objIn_me (fun _ => rfl)) )))) ?_
      · exact ⟨Nat.zero_le _, rfl, hW0, by show (hdW m).b.length ≤ _; omega⟩
      · rintro ⟨i, w, v⟩ hI8
        change i ≤ m.qs.length ∧ w = encQ (m.qs.take i) (hdW m) ∧ WOk w ∧ w.b.length ≤ 12 + 259 * i at hI8
        obtain ⟨hi, hw, hW, hB⟩ := hI8
        refine AWp.as (s' := AS.over _ [8, 33, 34, 35, 36, 37, 38, 39, 40, 41, 42, 43, 44, 45, 46, 47, 48] [(33, i64 i)] [(703, .box [.sl 4048 (v) 0 (w.b).length 1, .mp 701 0]), (4048, .row (cl bc (w.b)) 1 (v)), (701, .map (me MStr (fun b : Int => i64 b) (w.m)))]) rfl ?_
        refine AWp.seq ?_
        refine AWp.region ?_
        refine AOps.dec rfl rfl (q_lss) (fun h8_0 => ?_) (fun h8_0 => ?_)
        · skip
          refine AOps.nil ?_
          refine AWp.seq ?_
          refine AWp.cond_t rfl ?_
          refine AWp.skip ?_
          refine AWp.seq ?_
          refine AWp.block ?_
          refine AWp.seq ?_
          refine AWp.region ?_
          have hq := wrQ_ok (p2 _ (getD_mem (i := i) (by omega))) hW
          have hst := encQ_step (l := m.qs) (i := i) (by omega) (hdW m)
          refine AOps.cons rfl rfl (q_ix) ?_
          refine AOps.cons rfl rfl (q_load) ?_
          refine AOps.cons rfl rfl (q_alloc 1002) ?_
          refine AOps.cons rfl rfl (q_store) ?_
          refine AOps.nil ?_
          refine AWp.seq ?_
          refine AWp.region ?_
          refine AOps.cons rfl rfl (q_move) ?_
          refine AOps.cons rfl rfl (q_fa) ?_
          refine AOps.cons rfl rfl (q_load) ?_
          refine AOps.cons rfl rfl (q_callB (0) [(0, 703), (1, 4048), (2, 701)] [] [(_, _), (_, _), (_, _)] (hobj := by repeat' (first | exact trivial | exact lv_ok rfl | exact lv_sl rfl rfl | exact lv_ptr rfl rfl | exact lv_mp rfl rfl | exact lobj_row (fun _ => rfl) | exact lobj_me (fun _ => rfl) | refine lobj_box ?_ | refine ⟨rfl, ⟨_, rfl, ?_⟩, ?_⟩ | refine ⟨?_, ?_⟩)) (hB := by repeat' (first | exact trivial | exact hb_rowc (lv := 0) (fun _ => rfl) | exact hb_me (lv := 0) (fun _ => rfl) | exact rfl | refine ⟨rfl, rfl, ?_, ?_⟩)) (hL := by repeat' (first | exact trivial | exact hl_row (fun _ => rfl) | exact hl_me (fun _ => rfl) | exact ⟨rfl, rfl⟩ | refine ⟨?_, ?_⟩)) (hc := (c_wnameC (m.qs.getD i default).nm w v hq.1 hW (by omega)))) ?_
          refine AOps.nil ?_
          refine AWp.region ?_
          refine AOps.cons rfl rfl (q_move) ?_
          refine AOps.cons rfl rfl (q_fa) ?_
          refine AOps.cons rfl rfl (q_load) ?_
          refine AOps.cons rfl rfl (q_fa) ?_
          refine AOps.cons rfl rfl (q_load) ?_
          refine AOps.cons rfl rfl (q_bs 1205 ic [_, _] [(_, _), (_, _)]) ?_
          refine AOps.cons rfl rfl (q_callB (0) [(0, 703), (1, 4048), (2, 701)] [] [(_, _), (_, _), (_, _)] (hobj := by repeat' (first | exact trivial | exact lv_ok rfl | exact lv_sl rfl rfl | exact lv_ptr rfl rfl | exact lv_mp rfl rfl | exact lobj_row (fun _ => rfl) | exact lobj_me (fun _ => rfl) | refine lobj_box ?_ | refine ⟨rfl, ⟨_, rfl, ?_⟩, ?_⟩ | refine ⟨?_, ?_⟩)) (hB := by repeat' (first | exact trivial | exact hb_rowc (lv := 0) (fun _ => rfl) | exact hb_me (lv := 0) (fun _ => rfl) | exact rfl | refine ⟨rfl, rfl, ?_, ?_⟩)) (hL := by repeat' (first | exact trivial | exact hl_row (fun _ => rfl) | exact hl_me (fun _ => rfl) | exact ⟨rfl, rfl⟩ | refine ⟨?_, ?_⟩)) (hc := (c_short (wrName (labN (m.qs.getD i default).nm) w).b (wrName (labN (m.qs.getD i default).nm) w).m (v + nmC (labN (m.qs.getD i default).nm) w) [(m.qs.getD i default).ty, (m.qs.getD i default).cs] 1 (by show _ + 2 * 2 ≤ _; omega)))) ?_
          refine AOps.nil ?_
          refine AWp.region ?_
          refine AOps.cons rfl rfl (q_add) ?_
          refine AOps.cons rfl rfl (q_move) ?_
          refine AOps.nil ?_
          refine ⟨(i + 1, wrQ (m.qs.getD i default) w, v + nmC (labN (m.qs.getD i default).nm) w + 2), ?_, Back.mk' (HasT.cons HasT.nil) (HasH.cons (HasH.cons (HasH.cons HasH.nil (h2 := by exact objIn_me (fun _ => rfl)) ))), ?_⟩
          · try dsimp only
            exact ⟨by omega, by rw [hst, hw], hq.2.2.1, by have := hq.2.2.2.2; omega⟩
          · try dsimp only
            first | omega | (simp; omega)
        · skip
          refine AOps.nil ?_
          refine AWp.seq ?_
          refine AWp.cond_f rfl ?_
          refine AWp.exit ?_
          refine AWp.seq ?_
          refine AWp.region ?_
          obtain rfl : i = m.qs.length := by omega
          rw [List.take_length] at hw
          refine AOps.cons rfl rfl (q_move) ?_
          refine AOps.cons rfl rfl (q_nil) ?_
          refine AOps.cons rfl rfl (q_fa) ?_
          refine AOps.cons rfl rfl (q_load) ?_
          refine AOps.cons rfl rfl (q_len) ?_
          refine AOps.cons rfl rfl (q_leq) ?_
          refine AOps.cons rfl rfl (q_assign) ?_
          refine AOps.nil ?_
          refine AWp.seq ?_
          refine AWp.seq ?_
          refine AWp.region ?_
          refine AOps.cons rfl rfl (q_fa) ?_
          refine AOps.cons rfl rfl (q_load) ?_
          refine AOps.cons rfl rfl (q_fa) ?_
          refine AOps.cons rfl rfl (q_load) ?_
          refine AOps.cons rfl rfl (q_fa) ?_
          refine AOps.cons rfl rfl (q_load) ?_
          refine AOps.cons rfl rfl (q_bs 1506 (lc 0 rrc) [m.an, m.au, m.ad] [(_, _), (_, _), (_, _)]) ?_
          refine AOps.cons rfl rfl (q_call (0) (hc := (c_Concat_rr [m.an, m.au, m.ad] 1 (by simp) (by simp; omega)))) ?_
          refine AOps.cons rfl rfl (q_len) ?_
          refine AOps.cons rfl rfl (q_move) ?_
          rw [rrs_flat]
          refine AOps.nil ?_
          refine AWp.block ?_
          refine AWp.loopR (α := Nat × Wr × Nat × Bool) [9, 11, 64, 65, 66, 67, 68, 69, 70, 71, 72, 73, 74, 75, 76, 77, 78, 79, 80, 81, 82] (fun x_ => [(64, i64 (x_.1)), (9, tf (x_.2.2.2))]) (fun x_ => [(703, .box [.sl 4048 ((x_.2.2.1)) 0 ((x_.2.1).b).length 1, .mp 701 0]), (4048, .row (cl bc ((x_.2.1).b)) 1 ((x_.2.2.1))), (701, .map (me MStr (fun b : Int => i64 b) ((x_.2.1).m)))]) (fun x_ => (x_.1) ≤ m.rrs.length ∧ ((x_.2.1), (x_.2.2.2)) = encR (m.rrs.take (x_.1)) (encQ m.qs (hdW m), decide (((encQ m.qs (hdW m)).b.length : Int) ≤ 65535)) ∧ WOk (x_.2.1) ∧ ((x_.2.2.2) = true → ((x_.2.1).b.length : Int) ≤ 65535)) (fun x_ => m.rrs.length - (x_.1)) (0, w, v, decide ((w.b.length : Int) ≤ 65535)) ?_ (Back.mk' (HasT.cons (HasT.cons HasT.nil)) (HasH.cons (HasH.cons (HasH.cons HasH.nil (h2 := by exact objIn_me (fun _ => rfl)) )))) ?_
          · exact ⟨Nat.zero_le _, by rw [hw]; rfl, hW, fun h => by simpa using h⟩
          · rintro ⟨i, w, v, f⟩ hI15
            change i ≤ m.rrs.length ∧ (w, f) = encR (m.rrs.take i) (encQ m.qs (hdW m), decide (((encQ m.qs (hdW m)).b.length : Int) ≤ 65535)) ∧ WOk w ∧ (f = true → (w.b.length : Int) ≤ 65535) at hI15
            obtain ⟨hi, hw, hW, hF⟩ := hI15
            refine AWp.as (s' := AS.over _ [9, 11, 64, 65, 66, 67, 68, 69, 70, 71, 72, 73, 74, 75, 76, 77, 78, 79, 80, 81, 82] [(64, i64 i), (9, tf f)] [(703, .box [.sl 4048 (v) 0 (w.b).length 1, .mp 701 0]), (4048, .row (cl bc (w.b)) 1 (v)), (701, .map (me MStr (fun b : Int => i64 b) (w.m)))]) rfl ?_
            refine AWp.seq ?_
            refine AWp.region ?_
            refine AOps.dec rfl rfl (q_lss) (fun h15_0 => ?_) (fun h15_0 => ?_)
            · skip
              refine AOps.nil ?_
              refine AWp.seq ?_
              refine AWp.cond_t rfl ?_
              refine AWp.skip ?_
              refine AWp.seq ?_
              refine AWp.block ?_
              refine AWp.seq ?_
              refine AWp.region ?_
              have hr := p3 _ (getD_mem (l := m.rrs) (i := i) (by omega))
              have hst := encR_step (l := m.rrs) (i := i) (by omega) (encQ m.qs (hdW m), decide (((encQ m.qs (hdW m)).b.length : Int) ≤ 65535))
              rw [← hw, stepR] at hst
              dsimp only at hst
              refine AOps.cons rfl rfl (q_ix) ?_
              refine AOps.cons rfl rfl (q_load) ?_
              refine AOps.cons rfl rfl (q_alloc 1702) ?_
              refine AOps.cons rfl rfl (q_store) ?_
              refine AOps.nil ?_
              refine AWp.region ?_
              refine AOps.bool rfl rfl (q_move) (fun h17_0 => ?_) (fun h17_0 => ?_)
              · skip
                refine AOps.cons rfl rfl (q_move) ?_
                refine AOps.gcons rfl rfl rfl rfl rfl (q_move) ?_
                refine AOps.gcons rfl rfl rfl rfl rfl (q_load) ?_
                refine AOps.gcons rfl rfl rfl rfl rfl (q_callB (0) [(0, 703), (1, 4048), (2, 701)] [] [(_, _), (_, _), (_, _)] (hobj := by repeat' (first | exact trivial | exact lv_ok rfl | exact lv_sl rfl rfl | exact lv_ptr rfl rfl | exact lv_mp rfl rfl | exact lobj_row (fun _ => rfl) | exact lobj_me (fun _ => rfl) | refine lobj_box ?_ | refine ⟨rfl, ⟨_, rfl, ?_⟩, ?_⟩ | refine ⟨?_, ?_⟩)) (hB := by repeat' (first | exact trivial | exact hb_rowc (lv := 0) (fun _ => rfl) | exact hb_me (lv := 0) (fun _ => rfl) | exact rfl | refine ⟨rfl, rfl, ?_, ?_⟩)) (hL := by repeat' (first | exact trivial | exact hl_row (fun _ => rfl) | exact hl_me (fun _ => rfl) | exact ⟨rfl, rfl⟩ | refine ⟨?_, ?_⟩)) (hc := (c_wrec (m.rrs.getD i default) w v hr hW (by have := hF h17_0; omega)))) ?_
                refine AOps.cons rfl rfl (q_pick) ?_
                refine AOps.bool rfl rfl (q_move) (fun h17_6 => ?_) (fun h17_6 => ?_)
                · skip
                  refine AOps.gcons rfl rfl rfl rfl rfl (q_move) ?_
                  refine AOps.gcons rfl rfl rfl rfl rfl (q_nil) ?_
                  refine AOps.gcons rfl rfl rfl rfl rfl (q_fa) ?_
                  refine AOps.gcons rfl rfl rfl rfl rfl (q_load) ?_
                  refine AOps.gcons rfl rfl rfl rfl rfl (q_len) ?_
                  refine AOps.gcons rfl rfl rfl rfl rfl (q_leq) ?_
                  refine AOps.cons rfl rfl (q_pick) ?_
                  refine AOps.cons rfl rfl (q_assign) ?_
                  refine AOps.nil ?_
                  refine AWp.region ?_
                  refine AOps.cons rfl rfl (q_add) ?_
                  refine AOps.cons rfl rfl (q_move) ?_
                  refine AOps.nil ?_
                  refine ⟨(i + 1, wrRec (m.rrs.getD i default) w, v + recC (m.rrs.getD i default) w, decide (((wrRec (m.rrs.getD i default) w).b.length : Int) ≤ 65535)), ?_, Back.mk' (HasT.cons (HasT.cons HasT.nil)) (HasH.cons (HasH.cons (HasH.cons HasH.nil (h2 := by exact objIn_me (fun _ => rfl)) ))), ?_⟩
                  · try dsimp only
                    exact ⟨by omega, by rw [hst, if_pos h17_0, h17_6, Bool.true_and], wrRec_ok hr hW, fun h => by simpa using h⟩
                  · try dsimp only
                    first | omega | (simp; omega)
                · skip
                  refine AOps.gskip rfl rfl rfl rfl rfl rfl rfl rfl ?_
                  refine AOps.gskip rfl rfl rfl rfl rfl rfl rfl rfl ?_
                  refine AOps.gskip rfl rfl rfl rfl rfl rfl rfl rfl ?_
                  refine AOps.gskip rfl rfl rfl rfl rfl rfl rfl rfl ?_
                  refine AOps.gskip rfl rfl rfl rfl rfl rfl rfl rfl ?_
                  refine AOps.gskip rfl rfl rfl rfl rfl rfl rfl rfl ?_
                  refine AOps.cons rfl rfl (q_pick) ?_
                  refine AOps.cons rfl rfl (q_assign) ?_
                  refine AOps.nil ?_
                  refine AWp.region ?_
                  refine AOps.cons rfl rfl (q_add) ?_
                  refine AOps.cons rfl rfl (q_move) ?_
                  refine AOps.nil ?_
                  refine ⟨(i + 1, wrRec (m.rrs.getD i default) w, v + recC (m.rrs.getD i default) w, false), ?_, Back.mk' (HasT.cons (HasT.cons HasT.nil)) (HasH.cons (HasH.cons (HasH.cons HasH.nil (h2 := by exact objIn_me (fun _ => rfl)) ))), ?_⟩
                  · try dsimp only
                    exact ⟨by omega, by rw [hst, if_pos h17_0, h17_6]; rfl, wrRec_ok hr hW, fun h => by cases h⟩
                  · try dsimp only
                    first | omega | (simp; omega)
              · skip
                refine AOps.cons rfl rfl (q_move) ?_
                refine AOps.gskip rfl rfl rfl rfl rfl rfl rfl rfl ?_
                refine AOps.gskip rfl rfl rfl rfl rfl rfl rfl rfl ?_
                refine AOps.gskip rfl rfl rfl rfl rfl rfl rfl rfl ?_
                refine AOps.cons rfl rfl (q_pick) ?_
                refine AOps.cons rfl rfl (q_move) ?_
                refine AOps.gskip rfl rfl rfl rfl rfl rfl rfl rfl ?_
                refine AOps.gskip rfl rfl rfl rfl rfl rfl rfl rfl ?_
                refine AOps.gskip rfl rfl rfl rfl rfl rfl rfl rfl ?_
                refine AOps.gskip rfl rfl rfl rfl rfl rfl rfl rfl ?_
                refine AOps.gskip rfl rfl rfl rfl rfl rfl rfl rfl ?_
                refine AOps.gskip rfl rfl rfl rfl rfl rfl rfl rfl ?_
                refine AOps.cons rfl rfl (q_pick) ?_
                refine AOps.cons rfl rfl (q_assign) ?_
                refine AOps.nil ?_
                refine AWp.region ?_
                refine AOps.cons rfl rfl (q_add) ?_
                refine AOps.cons rfl rfl (q_move) ?_
                refine AOps.nil ?_
                refine ⟨(i + 1, w, v, false), ?_, Back.mk' (HasT.cons (HasT.cons HasT.nil)) (HasH.cons (HasH.cons (HasH.cons HasH.nil (h2 := by exact objIn_me (fun _ => rfl)) ))), ?_⟩
                · try dsimp only
                  exact ⟨by omega, by rw [hst, if_neg (by simp [h17_0]), h17_0], hW, fun h => by cases h⟩
                · try dsimp only
                  first | omega | (simp; omega)
            · skip
              refine AOps.nil ?_
              refine AWp.seq ?_
              refine AWp.cond_f rfl ?_
              refine AWp.exit ?_
              refine AWp.seq ?_
              refine AWp.seq ?_
              refine AWp.region ?_
              obtain rfl : i = m.rrs.length := by omega
              rw [List.take_length] at hw
              have hew : encW m = (w, f) := hw.symm
              refine AOps.bool rfl rfl (q_move) (fun h19_0 => ?_) (fun h19_0 => ?_)
              · skip
                refine AOps.cons rfl rfl (q_not) ?_
                refine AOps.nil ?_
                refine AWp.cond_f rfl ?_
                refine AWp.skip ?_
                refine AWp.seq ?_
                refine AWp.region ?_
                refine AOps.cons rfl rfl (q_move) ?_
                refine AOps.cons rfl rfl (q_nil) ?_
                refine AOps.cons rfl rfl (q_fa) ?_
                refine AOps.cons rfl rfl (q_load) ?_
                refine AOps.cons rfl rfl (q_assign) ?_
                refine AOps.cons rfl rfl (q_assign) ?_
                refine AOps.nil ?_
                refine AWp.ret ?_
                show Fin te Try.f11 _ _
                refine q_ret (0) [_, _] [_, _] ?_
                rw [encB, encE, h1_1, hew, h19_0]; rfl
              · skip
                refine AOps.cons rfl rfl (q_not) ?_
                refine AOps.nil ?_
                refine AWp.cond_t rfl ?_
                refine AWp.seq ?_
                refine AWp.region ?_
                refine AOps.cons rfl rfl (q_nilz (0) bc) ?_
                refine AOps.cons rfl rfl (q_assign) ?_
                refine AOps.nil ?_
                refine AWp.ret ?_
                show Fin te Try.f11 _ _
                refine q_ret (0) [_, _] [_, _] ?_
                rw [encB, encE, h1_1, hew, h19_0]; rfl
  · skip
    refine AOps.cons rfl rfl (q_not) ?_
    refine AOps.nil ?_
    refine AWp.cond_t rfl ?_
    refine AWp.seq ?_
    refine AWp.region ?_
    refine AOps.cons rfl rfl (q_nilz (0) bc) ?_
    refine AOps.cons rfl rfl (q_assign) ?_
    refine AOps.nil ?_
    refine AWp.ret ?_
    show Fin te Try.f11 _ _
    refine q_ret (0) [_, _] [_, _] ?_
    rw [encB, encE, h1_1]; rfl

end Go.Proofs.Ytkfccjbihcbmiaa.Fw

/- Layer 4: pointers. -/
set_option linter.unusedVariables false
set_option linter.unusedSimpArgs false
namespace Go.Proofs.Ytkfccjbihcbmiaa.Fw
open Go.RowKit


def hd0 : Hdr := ⟨0, false, 0, false, false, false, false, 0⟩
def qP (n : List UInt8) : Qu := ⟨n, 1, 1⟩
def rP (n d : List UInt8) : Rr := ⟨n, 300, 1, 0, d⟩
def mP (n : List UInt8) (k : Nat) (d : List UInt8) : Msg := ⟨hd0, [qP n], List.replicate k (rP n d), [], []⟩
def own (ls : List (List UInt8)) : Nat := if ls = [] then 1 else 2
theorem can_300 {d : List UInt8} (h : d.length ≤ 40) : canS 300 d = true ∧ namS 300 d = [] := by
  rw [canS_ne (by omega), namS_ne (by omega)]; exact canR_other (by omega) (by omega)
theorem rOk_P {n d : List UInt8} (hn : canN n = true) (h : d.length ≤ 40) : rOk (rP n d) = true := by
  show (canN n && twoB [300, 1] && !decide ((0 : Int) < 0) && !decide ((4294967296 : Int) ≤ 0) && canS 300 d) = true
  rw [hn, (can_300 h).1]; decide
theorem canM_P {n d : List UInt8} {k : Nat} (hn : canN n = true) (h : d.length ≤ 40) (hk : k ≤ 19) : canM (mP n k d) = true := by
  rw [canM, any_nall, any_nall]
  have h1 : hdO (mP n k d) := by
    refine ⟨(by decide : (0 : Int) ≤ 0 ∧ (0 : Int) ≤ 65535), (by decide : (0 : Int) ≤ 0 ∧ (0 : Int) ≤ 15), (by decide : (0 : Int) ≤ 0 ∧ (0 : Int) ≤ 15), (by decide : (0 : Int) ≤ ((1 : Nat) : Int) ∧ ((1 : Nat) : Int) ≤ 65535), ⟨by omega, ?_⟩, (by decide : (0 : Int) ≤ ((0 : Nat) : Int) ∧ ((0 : Nat) : Int) ≤ 65535), (by decide : (0 : Int) ≤ ((0 : Nat) : Int) ∧ ((0 : Nat) : Int) ≤ 65535)⟩
    show ((List.replicate k (rP n d)).length : Int) ≤ 65535
    rw [List.length_replicate]; omega
  rw [decide_eq_true h1, Bool.true_and, Bool.and_eq_true, List.all_eq_true, List.all_eq_true]
  constructor
  · intro q hq
    have : q = qP n := by simpa [mP] using hq
    subst this
    show (canN n && twoB [1, 1]) = true
    rw [hn]; decide
  · intro r hr
    have : r = rP n d := by
      have hr2 : r ∈ List.replicate k (rP n d) := by simpa [mP, Msg.rrs] using hr
      exact List.eq_of_mem_replicate hr2
    subst this
    exact rOk_P hn h
theorem fresh : ∀ {ls : List (List UInt8)} {w : Wr}, Nm ls → (∀ K, (mget w.m K).isSome = true → (joinN ls).length < K.length) → (wrName ls w).b.length = w.b.length + (joinN ls).length ∧ ∀ K, (joinN ls).length < K.length → mget (wrName ls w).m K = mget w.m K
  | [], w, _, _ => ⟨by simp [wrName, joinN_nil], fun K _ => rfl⟩
  | l :: ls, w, hn, hf => by
    have hm : mget w.m (joinN (l :: ls)) = none := by
      cases hq : mget w.m (joinN (l :: ls)) with
      | none => rfl
      | some a => have := hf _ (by rw [hq]; rfl); omega
    have hle := joinN_le (l := l) (ls := ls)
    have hJ : (joinN (l :: ls)).length = l.length + 1 + (joinN ls).length := by rw [joinN_cons]; simp; omega
    have hp : ∀ K, mget (w.put l ls).m K = if (joinN (l :: ls) = K ∧ (w.b.length : Int) < 16384) then some (w.b.length : Int) else mget w.m K := by
      intro K
      unfold Wr.put
      by_cases h : (w.b.length : Int) < 16384
      · rw [if_pos h, mget_put]; by_cases e : joinN (l :: ls) = K <;> simp [e, h]
      · simp only [if_neg h, h, and_false, if_false]
    have hpl : (w.put l ls).b.length = w.b.length + (l.length + 1) := by simp [Wr.put]
    obtain ⟨a, b⟩ := fresh (w := w.put l ls) (Nm_tl hn) (by
      intro K hK
      rw [hp] at hK
      split at hK
      · rename_i hh; rw [← hh.1]; exact hle
      · have := hf K hK; omega)
    rw [(wrName_no hm).1]
    refine ⟨by omega, fun K hK => ?_⟩
    rw [b K (by omega), hp, if_neg]
    rintro ⟨e, _⟩
    rw [e] at hK; omega
theorem fresh_at {l : List UInt8} {ls : List (List UInt8)} {w : Wr} (hn : Nm (l :: ls)) (hf : ∀ K, (mget w.m K).isSome = true → (joinN (l :: ls)).length < K.length) (hb : (w.b.length : Int) < 16384) : mget (wrName (l :: ls) w).m (joinN (l :: ls)) = some (w.b.length : Int) := by
  have hm : mget w.m (joinN (l :: ls)) = none := by
    cases hq : mget w.m (joinN (l :: ls)) with
    | none => rfl
    | some a => have := hf _ (by rw [hq]; rfl); omega
  have hle := joinN_le (l := l) (ls := ls)
  have hpm : (w.put l ls).m = mput w.m (joinN (l :: ls)) (w.b.length : Int) := by simp only [Wr.put, if_pos hb]
  rw [(wrName_no hm).1, (fresh (w := w.put l ls) (Nm_tl hn) (by
      intro K hK
      rw [hpm, mget_put] at hK
      split at hK
      · rename_i hh; rw [← hh]; exact hle
      · have := hf K hK; omega)).2 _ hle, hpm, mget_put, if_pos rfl]
theorem hit_len {ls : List (List UInt8)} {w : Wr} (h : ls ≠ [] → ∃ a, mget w.m (joinN ls) = some a) : (wrName ls w).b.length = w.b.length + own ls ∧ (wrName ls w).m = w.m := by
  cases ls with
  | nil => exact ⟨by simp [wrName, own], rfl⟩
  | cons l ls =>
    obtain ⟨a, ha⟩ := h (by simp)
    rw [(wrName_hit ha).1]
    refine ⟨?_, rfl⟩
    show (w.b ++ two (49152 + a)).length = _
    rw [List.length_append, own, if_neg (by simp)]; rfl
theorem rec_P {ls : List (List UInt8)} {d : List UInt8} {w : Wr} (hn : Nm ls) (hd : d.length ≤ 40) (h : ls ≠ [] → ∃ a, mget w.m (joinN ls) = some a) :
    (wrRec (rP (joinN ls) d) w).b.length = w.b.length + (own ls + 10 + d.length) ∧ (wrRec (rP (joinN ls) d) w).m = w.m ∧ wrOk (rP (joinN ls) d) w = true := by
  obtain ⟨a, b⟩ := hit_len h
  have hl : labN (rP (joinN ls) d).nm = ls := hn.lab
  have e1 : wrNum (rP (joinN ls) d) w = ⟨(wrName ls w).b ++ (rNums (rP (joinN ls) d)).flatMap two, (wrName ls w).m⟩ := by rw [wrNum, hl]
  have e2 : (wrNum (rP (joinN ls) d) w).b.length = w.b.length + own ls + 10 := by
    rw [e1]; show ((wrName ls w).b ++ _).length = _
    rw [List.length_append, flat_two, a]; rfl
  have e3 : wrDat (rP (joinN ls) d) (wrNum (rP (joinN ls) d) w) = ⟨(wrNum (rP (joinN ls) d) w).b ++ d, w.m⟩ := by
    have n1 : namS (rP (joinN ls) d).ty (rP (joinN ls) d).da = [] := (can_300 hd).2
    have n2 : preD (rP (joinN ls) d).ty (rP (joinN ls) d).da = [] := by rw [preD, if_neg (by show ¬ (300 : Int) = 15; decide)]
    rw [wrDat, dN, n1, n2, e1, b]
    simp [wrNames]; rfl
  refine ⟨?_, ?_, ?_⟩
  · rw [wrRec, e3]
    show (setSz _ _).length = _
    rw [setSz_len, List.length_append, e2]; omega
  · rw [wrRec, e3]
  · rw [wrOk, e3]
    show decide (((_ ++ d).length : Int) - _ < 65536) = true
    rw [List.length_append]
    exact decide_eq_true (by omega)
theorem encR_P {ls : List (List UInt8)} {d : List UInt8} (hn : Nm ls) (hd : d.length ≤ 40) : ∀ (k : Nat) (w : Wr), (ls ≠ [] → ∃ a, mget w.m (joinN ls) = some a) → w.b.length + k * (own ls + 10 + d.length) ≤ 65535 →
    ∃ w', encR (List.replicate k (rP (joinN ls) d)) (w, true) = (w', true) ∧ w'.b.length = w.b.length + k * (own ls + 10 + d.length)
  | 0, w, _, _ => ⟨w, rfl, by omega⟩
  | k + 1, w, h, hb => by
    obtain ⟨a, b, c⟩ := rec_P (w := w) hn hd h
    have hs : (k + 1) * (own ls + 10 + d.length) = k * (own ls + 10 + d.length) + (own ls + 10 + d.length) := Nat.succ_mul _ _
    obtain ⟨w', e1, e2⟩ := encR_P hn hd k (wrRec (rP (joinN ls) d) w) (by rw [b]; exact h) (by omega)
    refine ⟨w', ?_, by omega⟩
    rw [List.replicate_succ, ← e1]
    show encR _ (if true = true then (wrRec (rP (joinN ls) d) w, wrOk (rP (joinN ls) d) w && decide (((wrRec (rP (joinN ls) d) w).b.length : Int) ≤ 65535)) else (w, true)) = _
    rw [if_pos rfl, c, Bool.true_and, decide_eq_true (by omega)]
theorem enc_P {ls : List (List UInt8)} {d : List UInt8} {k : Nat} (hn : Nm ls) (hd : d.length ≤ 40) (hk : k ≤ 19) : encE (mP (joinN ls) k d) = 0 ∧ (encB (mP (joinN ls) k d)).length = 12 + (joinN ls).length + 4 + k * (own ls + 10 + d.length) := by
  have hc := canM_P (k := k) hn.can hd hk
  have hO := (canM_parts hc).1
  have h255 := hn.2
  have hw0 : (hdW (mP (joinN ls) k d)).b.length = 12 := by
    show (hB (toHd (mP (joinN ls) k d).h) _ _ _ _).length = 12
    rw [hB_yes hO, Hd.bytes_length]
  have hf : ∀ K, (mget (hdW (mP (joinN ls) k d)).m K).isSome = true → (joinN ls).length < K.length := fun K h => by cases h
  obtain ⟨f1, f2⟩ := fresh hn hf
  have eq1 : encQ (mP (joinN ls) k d).qs (hdW (mP (joinN ls) k d)) = ⟨(wrName ls (hdW (mP (joinN ls) k d))).b ++ [(1 : Int), 1].flatMap two, (wrName ls (hdW (mP (joinN ls) k d))).m⟩ := by
    show wrQ (qP (joinN ls)) _ = _
    rw [wrQ]; show Wr.mk ((wrName (labN (joinN ls)) _).b ++ _) (wrName (labN (joinN ls)) _).m = _
    rw [hn.lab]; rfl
  have el : (encQ (mP (joinN ls) k d).qs (hdW (mP (joinN ls) k d))).b.length = 12 + (joinN ls).length + 4 := by
    rw [eq1]; show (_ ++ _ : List UInt8).length = _
    rw [List.length_append, f1, hw0]; rfl
  have ho : own ls ≤ 2 := by unfold own; split <;> omega
  have hm : k * (own ls + 10 + d.length) ≤ 19 * 52 := Nat.mul_le_mul hk (by omega)
  obtain ⟨w', e1, e2⟩ := encR_P hn hd k (encQ (mP (joinN ls) k d).qs (hdW (mP (joinN ls) k d))) (by
    intro hne
    cases ls with
    | nil => exact absurd rfl hne
    | cons l ls => rw [eq1]; exact ⟨_, fresh_at hn hf (by omega)⟩) (by omega)
  have eW : encW (mP (joinN ls) k d) = (w', true) := by
    rw [encW, decide_eq_true (by omega)]
    rw [show (mP (joinN ls) k d).rrs = List.replicate k (rP (joinN ls) d) by simp [mP, Msg.rrs]]
    exact e1
  rw [encE, encB, if_pos hc, if_pos hc, eW]
  exact ⟨rfl, by show w'.b.length = _; omega⟩
theorem mP_ok {ls : List (List UInt8)} {d : List UInt8} {k : Nat} (hn : Nm ls) (hd : d.length ≤ 40) (hk : k ≤ 19) : MsgOk (mP (joinN ls) k d) ∧ NmOk (mP (joinN ls) k d) := by
  have h255 := hn.2
  have h1 : (List.replicate k (rP (joinN ls) d)).length = k := List.length_replicate
  have h2 : ∀ x ∈ List.replicate k (rP (joinN ls) d), x = rP (joinN ls) d := fun x hx => List.eq_of_mem_replicate hx
  refine ⟨⟨by show 1 * 32 ≤ _; omega, ⟨by show (List.replicate k _).length * 64 ≤ _; omega, fun x hx => ?_⟩, ⟨by show 0 * 64 ≤ _; omega, fun x hx => by cases hx⟩, ⟨by show 0 * 64 ≤ _; omega, fun x hx => by cases hx⟩⟩, ?_, ?_⟩
  · rw [h2 x hx]; show d.length ≤ _; omega
  · intro x hx
    have : x = qP (joinN ls) := by simpa [mP] using hx
    rw [this]; show (joinN ls).length ≤ _; omega
  · intro x hx
    have hx2 : x ∈ List.replicate k (rP (joinN ls) d) := by simpa [mP, Msg.rrs] using hx
    rw [h2 x hx2]; show (joinN ls).length ≤ _; omega
theorem root_iff {ls : List (List UInt8)} : (joinN ls = [0]) ↔ ls = [] := by
  constructor
  · intro h
    cases ls with
    | nil => rfl
    | cons l ls =>
      have h1 := congrArg List.length h
      have h2 := joinN_length ls
      rw [joinN_cons] at h1; simp at h1; rw [h1.2] at h2; simp at h2
  · rintro rfl; rfl

set_option maxRecDepth 20000 in
set_option maxHeartbeats 2000000 in
theorem c_ciceronelaw04_WirePoints (a : List UInt8) (c : Int) (data : List UInt8) (ha : a.length ≤ 140737488351232) (hd : data.length ≤ 140737488351232) : AC Try.prog 3 [.fz 0 a.length (cl bc a), i64 c, .fz 0 data.length (cl bc data)] emp (Ret (tf true)) := by
  obtain ⟨ls, hN, eN, hN4⟩ := plain_nm a
  refine AC.intro te_ok (fn := Try.f3) ⟨Try.func3, rfl, rfl⟩ (Nat.le_of_ble_eq_true rfl) ?_
  refine AWp.seq ?_
  refine AWp.region ?_
  refine AOps.cons rfl rfl (q_assign) ?_
  refine AOps.nil ?_
  refine AWp.seq ?_
  refine AWp.region ?_
  refine AOps.cons rfl rfl (q_move) ?_
  refine AOps.cons rfl rfl (q_call (0) (hc := (c_ciceroneplain_Name a 0 ha))) ?_
  refine AOps.cons rfl rfl (q_assign) ?_
  refine AOps.nil ?_
  refine AWp.seq ?_
  refine AWp.region ?_
  rw [eN]
  have h255 := hN.2
  refine AOps.cons rfl rfl (q_move) ?_
  refine AOps.cons rfl rfl (q_conv_u64) ?_
  refine AOps.cons rfl rfl (q_rem) ?_
  refine AOps.cons rfl rfl (q_conv_i64) ?_
  refine AOps.cons rfl rfl (q_assign) ?_
  refine AOps.nil ?_
  refine AWp.seq ?_
  refine AWp.region ?_
  obtain ⟨k, hk, hk2⟩ : ∃ k : Nat, (c % 18446744073709551616) % 20 = (k : Int) ∧ k ≤ 19 := ⟨((c % 18446744073709551616) % 20).toNat, by omega, by omega⟩
  rw [hk]
  refine AOps.cons rfl rfl (q_move) ?_
  refine AOps.cons rfl rfl (q_move) ?_
  refine AOps.cons rfl rfl (q_len) ?_
  refine AOps.cons rfl rfl (q_min) ?_
  refine AOps.cons rfl rfl (q_sl) ?_
  refine AOps.cons rfl rfl (q_assign) ?_
  refine AOps.nil ?_
  refine AWp.seq ?_
  refine AWp.region ?_
  obtain ⟨D, hD⟩ : ∃ D, D = data.take (min (data.length : Int) 40).toNat := ⟨_, rfl⟩
  have hDl : D.length ≤ 40 := by rw [hD, List.length_take]; omega
  rw [← hD]
  clear hD
  have hok := mP_ok hN hDl hk2
  obtain ⟨hE1, hE2⟩ := enc_P hN hDl hk2
  refine AOps.cons rfl rfl (q_move) ?_
  refine AOps.cons rfl rfl (q_build [(_, _), (_, _), (_, _)]) ?_
  refine AOps.cons rfl rfl (q_bs 502 quc [qP (joinN ls)] [(_, _)]) ?_
  refine AOps.cons rfl rfl (q_build [(_, _)]) ?_
  refine AOps.cons rfl rfl (q_alloc 504) ?_
  refine AOps.cons rfl rfl (q_store) ?_
  refine AOps.nil ?_
  refine AWp.seq ?_
  refine AWp.seq ?_
  refine AWp.region ?_
  refine AOps.cons rfl rfl (q_move) ?_
  refine AOps.cons rfl rfl (q_move) ?_
  refine AOps.weak (Weak.nilcell 504 700 9 5 rrc) ?_
  refine AOps.nil ?_
  refine AWp.block ?_
  refine AWp.loopR (α := Nat × List Rr × Nat) [28, 29, 30, 31, 32, 33, 34, 35, 36, 37, 38] (fun x_ => [(28, i64 (x_.1))]) (fun x_ => [(504, .box [i64 0, tf false, i64 0, tf false, tf false, tf false, tf false, i64 0, .sl 502 0 0 ([qP (joinN ls)] : List Qu).length 3, .sl 700 (x_.2.2) 0 (x_.2.1).length 5, .v (.slice none 0 0), .v (.slice none 0 0)]), (700, .row (cl rrc (x_.2.1)) 5 (x_.2.2)), (502, .row (cl quc [qP (joinN ls)]) 3 0)]) (fun x_ => (x_.1) ≤ k ∧ (x_.2.1) = List.replicate (x_.1) (rP (joinN ls) D)) (fun x_ => k - (x_.1)) (0, [], 0) ?_ (Back.mk' (HasT.cons HasT.nil) (HasH.cons (HasH.cons (HasH.cons HasH.nil)))) ?_
  · exact ⟨Nat.zero_le _, rfl⟩
  · rintro ⟨i, acc, v⟩ hI6
    change i ≤ k ∧ acc = List.replicate i (rP (joinN ls) D) at hI6
    obtain ⟨hi, hacc⟩ := hI6
    refine AWp.as (s' := AS.over _ [28, 29, 30, 31, 32, 33, 34, 35, 36, 37, 38] [(28, i64 i)] [(504, .box [i64 0, tf false, i64 0, tf false, tf false, tf false, tf false, i64 0, .sl 502 0 0 ([qP (joinN ls)] : List Qu).length 3, .sl 700 v 0 acc.length 5, .v (.slice none 0 0), .v (.slice none 0 0)]), (700, .row (cl rrc acc) 5 v), (502, .row (cl quc [qP (joinN ls)]) 3 0)]) rfl ?_
    have hal := congrArg List.length hacc
    rw [List.length_replicate] at hal
    refine AWp.seq ?_
    refine AWp.region ?_
    refine AOps.dec rfl rfl (q_lss) (fun h6_0 => ?_) (fun h6_0 => ?_)
    · skip
      refine AOps.nil ?_
      refine AWp.seq ?_
      refine AWp.cond_t rfl ?_
      refine AWp.skip ?_
      refine AWp.seq ?_
      refine AWp.block ?_
      refine AWp.region ?_
      refine AOps.cons rfl rfl (q_fa) ?_
      refine AOps.cons rfl rfl (q_load) ?_
      refine AOps.cons rfl rfl (q_move) ?_
      refine AOps.cons rfl rfl (q_move) ?_
      refine AOps.cons rfl rfl (q_build [(_, _), (_, _), (_, _), (_, _)]) ?_
      refine AOps.cons rfl rfl (q_bs 805 rrc [rP (joinN ls) D] [(_, _)]) ?_
      refine AOps.cons rfl rfl (q_app) ?_
      refine AOps.cons rfl rfl (q_fa) ?_
      refine AOps.cons rfl rfl (q_store) ?_
      refine AOps.nil ?_
      refine AWp.region ?_
      refine AOps.cons rfl rfl (q_add) ?_
      refine AOps.cons rfl rfl (q_move) ?_
      refine AOps.nil ?_
      refine ⟨(i + 1, acc ++ [rP (joinN ls) D], v + 1), ?_, Back.mk' (HasT.cons HasT.nil) (HasH.cons (HasH.cons (HasH.cons HasH.nil))), ?_⟩
      · try dsimp only
        exact ⟨by omega, by rw [hacc, List.replicate_succ']⟩
      · try dsimp only
        first | omega | (simp; omega)
    · skip
      refine AOps.nil ?_
      refine AWp.seq ?_
      refine AWp.cond_f rfl ?_
      refine AWp.exit ?_
      refine AWp.seq ?_
      refine AWp.region ?_
      obtain rfl : i = k := by omega
      subst hacc
      refine AOps.weak (Weak.full 0 [] (t := [(1, i64 i), (2, .fz 0 D.length (cl bc D)), (7, str (joinN ls)), (8, .ptr 504 0 0)]) (hl := [(504, .box [i64 0, tf false, i64 0, tf false, tf false, tf false, tf false, i64 0, .fz 0 ([qP (joinN ls)] : List Qu).length (cl quc [qP (joinN ls)]), .fz 0 (List.replicate i (rP (joinN ls) D)).length (cl rrc (List.replicate i (rP (joinN ls) D))), .fz 0 ([] : List Rr).length (cl rrc []), .fz 0 ([] : List Rr).length (cl rrc [])])])) ?_
      refine AOps.cons rfl rfl (q_assign) ?_
      refine AOps.nil ?_
      refine AWp.seq ?_
      refine AWp.seq ?_
      refine AWp.region ?_
      refine AOps.cons rfl rfl (q_move) ?_
      refine AOps.dec rfl rfl (q_seql) (fun h10_1 => ?_) (fun h10_1 => ?_)
      · skip
        refine AOps.nil ?_
        refine AWp.cond_t rfl ?_
        refine AWp.region ?_
        refine AOps.cons rfl rfl (q_assign) ?_
        refine AOps.nil ?_
        refine AWp.seq ?_
        refine AWp.region ?_
        refine AOps.cons rfl rfl (q_load) ?_
        refine AOps.cons rfl rfl (q_call (0) (hc := (c_wire_Encode (mP (joinN ls) i D) hok.1 hok.2))) ?_
        refine AOps.cons rfl rfl (q_move) ?_
        refine AOps.cons rfl rfl (q_extract) ?_
        refine AOps.cons rfl rfl (q_extract) ?_
        refine AOps.cons rfl rfl (q_assign) ?_
        refine AOps.cons rfl rfl (q_assign) ?_
        refine AOps.nil ?_
        refine AWp.seq ?_
        refine AWp.region ?_
        rw [hE1]
        have ho : own ls = 1 := by rw [own, if_pos (root_iff.1 h10_1)]
        rw [ho] at hE2
        have hm : (i : Int) * (1 + 10 + (D.length : Int)) = ((i * (1 + 10 + D.length) : Nat) : Int) := by push_cast; rfl
        have hmb : i * (1 + 10 + D.length) ≤ 19 * 52 := Nat.mul_le_mul hk2 (by omega)
        refine AOps.cons rfl rfl (q_move) ?_
        refine AOps.cons rfl rfl ((OpOk.dec_t (q_eql) (rfl))) ?_
        refine AOps.cons rfl rfl (q_move) ?_
        refine AOps.gcons rfl rfl rfl rfl rfl (q_move) ?_
        refine AOps.gcons rfl rfl rfl rfl rfl (q_len) ?_
        refine AOps.gcons rfl rfl rfl rfl rfl (q_move) ?_
        refine AOps.gcons rfl rfl rfl rfl rfl (q_len_str) ?_
        refine AOps.gcons rfl rfl rfl rfl rfl (q_add) ?_
        refine AOps.gcons rfl rfl rfl rfl rfl (q_add) ?_
        refine AOps.gcons rfl rfl rfl rfl rfl (q_move) ?_
        refine AOps.gcons rfl rfl rfl rfl rfl (q_move) ?_
        refine AOps.gcons rfl rfl rfl rfl rfl (q_add) ?_
        refine AOps.gcons rfl rfl rfl rfl rfl (q_move) ?_
        refine AOps.gcons rfl rfl rfl rfl rfl (q_len) ?_
        refine AOps.gcons rfl rfl rfl rfl rfl (q_add) ?_
        refine AOps.gcons rfl rfl rfl rfl rfl (q_mul (h1 := by rw [hm]; omega) (h2 := by rw [hm]; omega)) ?_
        refine AOps.gcons rfl rfl rfl rfl rfl (q_add) ?_
        refine AOps.gcons rfl rfl rfl rfl rfl ((OpOk.dec_t (q_eql) (by rw [hm, hE2]; omega))) ?_
        refine AOps.cons rfl rfl (q_pick) ?_
        refine AOps.cons rfl rfl (q_move) ?_
        refine AOps.gcons rfl rfl rfl rfl rfl (q_move) ?_
        refine AOps.gcons rfl rfl rfl rfl rfl ((OpOk.bool_is (c := true) (q_call (0) (hc := (c_ciceroneref01_Can (joinN ls) (by omega)))) (hN.can))) ?_
        refine AOps.cons rfl rfl (q_pick) ?_
        refine AOps.cons rfl rfl (q_assign) ?_
        refine AOps.nil ?_
        refine AWp.ret ?_
        show Fin te Try.f3 _ _
        refine q_ret (0) [_] [_] ?_
        rfl
      · skip
        refine AOps.nil ?_
        refine AWp.cond_f rfl ?_
        refine AWp.skip ?_
        refine AWp.seq ?_
        refine AWp.region ?_
        refine AOps.cons rfl rfl (q_load) ?_
        refine AOps.cons rfl rfl (q_call (0) (hc := (c_wire_Encode (mP (joinN ls) i D) hok.1 hok.2))) ?_
        refine AOps.cons rfl rfl (q_move) ?_
        refine AOps.cons rfl rfl (q_extract) ?_
        refine AOps.cons rfl rfl (q_extract) ?_
        refine AOps.cons rfl rfl (q_assign) ?_
        refine AOps.cons rfl rfl (q_assign) ?_
        refine AOps.nil ?_
        refine AWp.seq ?_
        refine AWp.region ?_
        rw [hE1]
        have ho : own ls = 2 := by rw [own, if_neg (fun e => h10_1 (root_iff.2 e))]
        rw [ho] at hE2
        have hm : (i : Int) * (2 + 10 + (D.length : Int)) = ((i * (2 + 10 + D.length) : Nat) : Int) := by push_cast; rfl
        have hmb : i * (2 + 10 + D.length) ≤ 19 * 52 := Nat.mul_le_mul hk2 (by omega)
        refine AOps.cons rfl rfl (q_move) ?_
        refine AOps.cons rfl rfl ((OpOk.dec_t (q_eql) (rfl))) ?_
        refine AOps.cons rfl rfl (q_move) ?_
        refine AOps.gcons rfl rfl rfl rfl rfl (q_move) ?_
        refine AOps.gcons rfl rfl rfl rfl rfl (q_len) ?_
        refine AOps.gcons rfl rfl rfl rfl rfl (q_move) ?_
        refine AOps.gcons rfl rfl rfl rfl rfl (q_len_str) ?_
        refine AOps.gcons rfl rfl rfl rfl rfl (q_add) ?_
        refine AOps.gcons rfl rfl rfl rfl rfl (q_add) ?_
        refine AOps.gcons rfl rfl rfl rfl rfl (q_move) ?_
        refine AOps.gcons rfl rfl rfl rfl rfl (q_move) ?_
        refine AOps.gcons rfl rfl rfl rfl rfl (q_add) ?_
        refine AOps.gcons rfl rfl rfl rfl rfl (q_move) ?_
        refine AOps.gcons rfl rfl rfl rfl rfl (q_len) ?_
        refine AOps.gcons rfl rfl rfl rfl rfl (q_add) ?_
        refine AOps.gcons rfl rfl rfl rfl rfl (q_mul (h1 := by rw [hm]; omega) (h2 := by rw [hm]; omega)) ?_
        refine AOps.gcons rfl rfl rfl rfl rfl (q_add) ?_
        refine AOps.gcons rfl rfl rfl rfl rfl ((OpOk.dec_t (q_eql) (by rw [hm, hE2]; omega))) ?_
        refine AOps.cons rfl rfl (q_pick) ?_
        refine AOps.cons rfl rfl (q_move) ?_
        refine AOps.gcons rfl rfl rfl rfl rfl (q_move) ?_
        refine AOps.gcons rfl rfl rfl rfl rfl ((OpOk.bool_is (c := true) (q_call (0) (hc := (c_ciceroneref01_Can (joinN ls) (by omega)))) (hN.can))) ?_
        refine AOps.cons rfl rfl (q_pick) ?_
        refine AOps.cons rfl rfl (q_assign) ?_
        refine AOps.nil ?_
        refine AWp.ret ?_
        show Fin te Try.f3 _ _
        refine q_ret (0) [_] [_] ?_
        rfl

end Go.Proofs.Ytkfccjbihcbmiaa.Fw

/- Walks of layer 4: the reference's writer. -/
set_option linter.unusedVariables false
set_option linter.unusedSimpArgs false
namespace Go.Proofs.Ytkfccjbihcbmiaa.Fw
open Go.RowKit


def plC (p : List UInt8 × Int) : List AV := [str p.1, i64 p.2]
def four (n : Int) : List UInt8 := two (n / 2 ^ 16) ++ two (lowW n)
theorem mget_hit {m : List (List UInt8 × Int)} {n : List UInt8} : ∀ {i : Nat}, i < m.length → (∀ j, j < i → (m.getD j default).1 ≠ n) → (m.getD i default).1 = n → mget m n = some (m.getD i default).2 := by
  induction m with
  | nil => intro i h; simp at h
  | cons p m ih =>
    obtain ⟨a, b⟩ := p
    intro i hi hj he
    cases i with
    | zero =>
      have he' : a = n := he
      rw [mget, if_pos he']; rfl
    | succ i =>
      have h0 : a ≠ n := hj 0 (by omega)
      rw [mget, if_neg h0]
      exact ih (by simpa using hi) (fun j hj2 => by have := hj (j + 1) (by omega); simpa using this) (by simpa using he)
theorem mget_all {m : List (List UInt8 × Int)} {n : List UInt8} (h : ∀ j, j < m.length → (m.getD j default).1 ≠ n) : mget m n = none := by
  apply mget_none
  intro hm
  obtain ⟨p, hp, e⟩ := List.mem_map.1 hm
  obtain ⟨j, hj, e2⟩ := List.mem_iff_getElem.1 hp
  apply h j hj
  rw [List.getD_eq_getElem?_getD, List.getElem?_eq_getElem hj]
  show (m[j]).1 = n
  rw [e2, e]
theorem mput_none {m : List (List UInt8 × Int)} {n : List UInt8} {v : Int} (h : mget m n = none) : mput m n v = m ++ [(n, v)] := by
  rcases mfind m n with ⟨_, _, h3, _⟩ | h2
  · exact h3 v
  · obtain ⟨i, p, h3⟩ := h2
    simp_all
theorem lab_get {l : List UInt8} {ls : List (List UInt8)} (g : GoodN (l :: ls)) : ((joinN (l :: ls)).getD (0 : Int).toNat 0).toNat = l.length := by
  rw [joinN_cons]
  show (byte (l.length : Int)).toNat = l.length
  exact byte_len g.head.2
theorem lab_take {l : List UInt8} {ls : List (List UInt8)} : (joinN (l :: ls)).take ((1 : Int) + (l.length : Int)).toNat = byte (l.length : Int) :: l := by
  rw [show ((1 : Int) + (l.length : Int)).toNat = l.length + 1 by omega, joinN_cons]; simp
theorem lab_drop {l : List UInt8} {ls : List (List UInt8)} : (joinN (l :: ls)).drop ((1 : Int) + (l.length : Int)).toNat = joinN ls := by
  rw [show ((1 : Int) + (l.length : Int)).toNat = l.length + 1 by omega, joinN_cons]; simp
theorem joinN_ne {l : List UInt8} {ls : List (List UInt8)} : joinN (l :: ls) ≠ [0] := fun h => by
  have := root_iff.1 h; cases this
theorem setSz_at {b : List UInt8} {n a : Nat} (h : n = a + 2) : (b.set (a : Int).toNat (byte (((b.length : Int) - a - 2) / 2 ^ 8))).set ((a : Int) + 1).toNat (byte ((b.length : Int) - a - 2)) = setSz b n := by
  subst h
  unfold setSz
  rw [show (((a + 2 : Nat) : Int) - 2).toNat = (a : Int).toNat by omega, show (((a + 2 : Nat) : Int) - 1).toNat = ((a : Int) + 1).toNat by omega, show (b.length : Int) - ((a + 2 : Nat) : Int) = (b.length : Int) - a - 2 by omega]
def recC2 (r : Rr) (w : Wr) : Nat := nmC (labN r.nm) w + 4 + (if r.ty = 15 then 1 else 0) + nmsC (namS r.ty r.da) ⟨(wrNum r w).b ++ preD r.ty r.da, (wrNum r w).m⟩ + 1
theorem allOk_take {α : Type} [Inhabited α] {p : α → Bool} {l : List α} {i : Nat} (h : i < l.length) (h1 : (l.take i).all p = true) (h2 : p (l.getD i default) = true) : (l.take (i + 1)).all p = true := by
  rw [take_step' h, List.all_append, h1, List.all_cons, List.all_nil, h2]; rfl
theorem allOk_no {α : Type} [Inhabited α] {p : α → Bool} {l : List α} {i : Nat} (h : i < l.length) (h2 : p (l.getD i default) = false) : l.all p = false := by
  rw [List.all_eq_false]; exact ⟨_, getD_mem h, by rw [h2]; simp⟩
theorem canM_eq (m : Msg) : canM m = (decide (hdO m) && m.qs.all qOk && m.rrs.all rOk) := by rw [canM, any_nall, any_nall]
theorem qOk_eq (q : Qu) : qOk q = (canN q.nm && (decide (0 ≤ q.ty ∧ q.ty ≤ 65535) && decide (0 ≤ q.cs ∧ q.cs ≤ 65535))) := by
  rw [qOk, twoB_two]; simp [shB]
theorem rOk_eq (r : Rr) : rOk r = (canN r.nm && (decide (0 ≤ r.ty ∧ r.ty ≤ 65535) && decide (0 ≤ r.cs ∧ r.cs ≤ 65535)) && !decide (r.ttl < 0) && !decide (4294967296 ≤ r.ttl) && canS r.ty r.da) := by
  rw [rOk, twoB_two]; simp [shB]

set_option maxRecDepth 20000 in
set_option maxHeartbeats 2000000 in
theorem co_two (n : Int) : AC Try.prog 35 [i64 n] (hlook []) (RetH (.sl 8 0 0 (two n).length 1) [(8, .row (cl bc (two n)) 1 0)]) := by
  refine AC.intro te_ok (fn := Try.f35) ⟨Try.func35, rfl, rfl⟩ (Nat.le_of_ble_eq_true rfl) ?_
  refine AWp.seq ?_
  refine AWp.region ?_
  refine AOps.cons rfl rfl (q_assign) ?_
  refine AOps.nil ?_
  refine AWp.seq ?_
  refine AWp.region ?_
  refine AOps.cons rfl rfl (q_move) ?_
  refine AOps.cons rfl rfl (q_shr 8) ?_
  refine AOps.cons rfl rfl (q_conv_u8) ?_
  refine AOps.cons rfl rfl (q_move) ?_
  refine AOps.cons rfl rfl (q_conv_u8) ?_
  refine AOps.cons rfl rfl (q_bs 8 bc [_, _] [(_, _), (_, _)]) ?_
  refine AOps.cons rfl rfl (q_assign) ?_
  refine AOps.nil ?_
  refine AWp.ret ?_
  show Fin te Try.f35 _ _
  refine q_retH (0) [8] [_] [.sl 8 0 0 _ 1] [(8, .row (cl bc _) 1 0)] ?_
  rfl

set_option maxRecDepth 20000 in
set_option maxHeartbeats 2000000 in
theorem c_two (n : Int) : AC Try.prog 35 [i64 n] emp (Ret (.fz 0 (two n).length (cl bc (two n)))) := by
  refine AC.intro te_ok (fn := Try.f35) ⟨Try.func35, rfl, rfl⟩ (Nat.le_of_ble_eq_true rfl) ?_
  refine AWp.seq ?_
  refine AWp.region ?_
  refine AOps.cons rfl rfl (q_assign) ?_
  refine AOps.nil ?_
  refine AWp.seq ?_
  refine AWp.region ?_
  refine AOps.cons rfl rfl (q_move) ?_
  refine AOps.cons rfl rfl (q_shr 8) ?_
  refine AOps.cons rfl rfl (q_conv_u8) ?_
  refine AOps.cons rfl rfl (q_move) ?_
  refine AOps.cons rfl rfl (q_conv_u8) ?_
  refine AOps.cons rfl rfl (q_bs 205 bc [_, _] [(_, _), (_, _)]) ?_
  refine AOps.cons rfl rfl (q_assign) ?_
  refine AOps.nil ?_
  refine AWp.ret ?_
  show Fin te Try.f35 _ _
  refine q_ret (0) [_] [_] ?_
  rfl

set_option maxRecDepth 20000 in
set_option maxHeartbeats 2000000 in
theorem c_ciceroneref04_four (n : Int) (h : 0 ≤ n ∧ n ≤ 9223372036854775807) : AC Try.prog 66 [i64 n] emp (Ret (.fz 0 (four n).length (cl bc (four n)))) := by
  have t1 : (two (n / 2 ^ 16)).length = 2 := rfl
  have t2 : (two (lowW n)).length = 2 := rfl
  have t3 : (two (n / 65536)).length = 2 := rfl
  refine AC.intro te_ok (fn := Try.f66) ⟨Try.func66, rfl, rfl⟩ (Nat.le_of_ble_eq_true rfl) ?_
  refine AWp.seq ?_
  refine AWp.region ?_
  refine AOps.cons rfl rfl (q_assign) ?_
  refine AOps.nil ?_
  refine AWp.seq ?_
  refine AWp.region ?_
  refine AOps.cons rfl rfl (q_move) ?_
  refine AOps.cons rfl rfl (q_shr 16) ?_
  refine AOps.cons rfl rfl (q_callB (0) [] [(8, 2028)] [(_, _)] (hc := (co_two (n / 2 ^ 16)))) ?_
  refine AOps.cons rfl rfl (q_move) ?_
  refine AOps.cons rfl rfl (q_and) ?_
  refine AOps.cons rfl rfl (q_call (0) (hc := (c_two (lowW n)))) ?_
  refine AOps.cons rfl rfl (q_app) ?_
  refine AOps.cons rfl rfl (q_assign) ?_
  refine AOps.nil ?_
  refine AWp.ret ?_
  show Fin te Try.f66 _ _
  refine q_ret (0) [_] [_] ?_
  rfl

set_option maxRecDepth 20000 in
set_option maxHeartbeats 2000000 in
theorem c_rshort (n : Int) : AC Try.prog 58 [i64 n] emp (Ret (tf (decide (0 ≤ n ∧ n ≤ 65535)))) := by
  refine AC.intro te_ok (fn := Try.f58) ⟨Try.func58, rfl, rfl⟩ (Nat.le_of_ble_eq_true rfl) ?_
  refine AWp.seq ?_
  refine AWp.region ?_
  refine AOps.cons rfl rfl (q_assign) ?_
  refine AOps.nil ?_
  refine AWp.seq ?_
  refine AWp.region ?_
  refine AOps.cons rfl rfl (q_move) ?_
  refine AOps.dec rfl rfl (q_geq) (fun h1_1 => ?_) (fun h1_1 => ?_)
  · skip
    refine AOps.cons rfl rfl (q_move) ?_
    refine AOps.gcons rfl rfl rfl rfl rfl (q_move) ?_
    refine AOps.gcons rfl rfl rfl rfl rfl (q_leq) ?_
    refine AOps.cons rfl rfl (q_pick) ?_
    refine AOps.cons rfl rfl (q_assign) ?_
    refine AOps.nil ?_
    refine AWp.ret ?_
    show Fin te Try.f58 _ _
    refine q_ret (0) [_] [_] ?_
    exact congrArg tf (by simp [*])
  · skip
    refine AOps.cons rfl rfl (q_move) ?_
    refine AOps.gskip rfl rfl rfl rfl rfl rfl rfl rfl ?_
    refine AOps.gskip rfl rfl rfl rfl rfl rfl rfl rfl ?_
    refine AOps.cons rfl rfl (q_pick) ?_
    refine AOps.cons rfl rfl (q_assign) ?_
    refine AOps.nil ?_
    refine AWp.ret ?_
    show Fin te Try.f58 _ _
    refine q_ret (0) [_] [_] ?_
    exact congrArg tf (by simp [*]; try omega)

set_option maxRecDepth 20000 in
set_option maxHeartbeats 2000000 in
theorem c_ciceroneref04_counts (m : Msg) : AC Try.prog 33 [.agg (msgC m)] emp (Ret (.agg [i64 m.qs.length, i64 m.an.length, i64 m.au.length, i64 m.ad.length])) := by
  refine AC.intro te_ok (fn := Try.f33) ⟨Try.func33, rfl, rfl⟩ (Nat.le_of_ble_eq_true rfl) ?_
  refine AWp.seq ?_
  refine AWp.region ?_
  refine AOps.cons rfl rfl (q_box 100) ?_
  refine AOps.cons rfl rfl (q_alloc 101) ?_
  refine AOps.nil ?_
  refine AWp.seq ?_
  refine AWp.region ?_
  refine AOps.cons rfl rfl (q_fa) ?_
  refine AOps.cons rfl rfl (q_load) ?_
  refine AOps.cons rfl rfl (q_len) ?_
  refine AOps.cons rfl rfl (q_fa) ?_
  refine AOps.cons rfl rfl (q_load) ?_
  refine AOps.cons rfl rfl (q_len) ?_
  refine AOps.cons rfl rfl (q_fa) ?_
  refine AOps.cons rfl rfl (q_load) ?_
  refine AOps.cons rfl rfl (q_len) ?_
  refine AOps.cons rfl rfl (q_fa) ?_
  refine AOps.cons rfl rfl (q_load) ?_
  refine AOps.cons rfl rfl (q_len) ?_
  refine AOps.cons rfl rfl (q_buildA ic [_, _, _, _] [(_, _), (_, _), (_, _), (_, _)]) ?_
  refine AOps.cons rfl rfl (q_store) ?_
  refine AOps.nil ?_
  refine AWp.ret ?_
  show Fin te Try.f33 _ _
  refine q_ret (0) [_] [_] ?_
  rfl

set_option maxRecDepth 20000 in
set_option maxHeartbeats 2000000 in
theorem c_ciceroneref04_all (m : Msg) (h : MsgOk m) (hO : hdO m) : AC Try.prog 36 [.agg (msgC m)] emp (Ret (.fz 0 m.rrs.length (cl rrc m.rrs))) := by
  obtain ⟨q1, q2, q3, q4⟩ := id h
  obtain ⟨k1, k2, k3, k4⟩ := hdO_counts hO
  refine AC.intro te_ok (fn := Try.f36) ⟨Try.func36, rfl, rfl⟩ (Nat.le_of_ble_eq_true rfl) ?_
  refine AWp.seq ?_
  refine AWp.region ?_
  refine AOps.cons rfl rfl (q_box 100) ?_
  refine AOps.cons rfl rfl (q_assign) ?_
  refine AOps.nil ?_
  refine AWp.seq ?_
  refine AWp.draws [⟨0, [], [200], some 3, _, some (200, _)⟩,
      ⟨1, [1], [100], some 4, _, none⟩,
      ⟨2, [4], [100], some 5, _, none⟩,
      ⟨3, [3, 5], [200], some 6, _, some (200, _)⟩,
      ⟨4, [1], [100], some 7, _, none⟩,
      ⟨5, [7], [100], some 8, _, none⟩,
      ⟨6, [6, 8], [200], some 9, _, some (200, _)⟩,
      ⟨7, [1], [100], some 10, _, none⟩,
      ⟨8, [10], [100], some 11, _, none⟩,
      ⟨9, [9, 11], [200], some 12, _, some (200, _)⟩,
      ⟨10, [12], [], some 2, _, none⟩]
    [⟨0, [], [200], some 3, .any, some (200, .box [])⟩,
        ⟨1, [1], [100], some 4, .any, none⟩,
        ⟨2, [4], [100], some 5, .any, none⟩,
        ⟨3, [3, 5], [200], some 6, .any, some (200, .box [])⟩,
        ⟨4, [1], [100], some 7, .any, none⟩,
        ⟨5, [7], [100], some 8, .any, none⟩,
        ⟨6, [6, 8], [200], some 9, .any, some (200, .box [])⟩,
        ⟨7, [1], [100], some 10, .any, none⟩,
        ⟨8, [10], [100], some 11, .any, none⟩,
        ⟨9, [9, 11], [200], some 12, .any, some (200, .box [])⟩,
        ⟨10, [12], [], some 2, .any, none⟩]
    mixed_ok rfl (by kernel_rfl) ⟨DS.ok_over fun s0 => OpAt.go rfl rfl (q_bs 200 rrc [] []),
        DS.ok_over fun s0 => OpAt.go rfl rfl (q_fa),
        DS.ok_over fun s0 => OpAt.go rfl rfl (q_load),
        DS.ok_over fun s0 => OpAt.go rfl rfl (q_app),
        DS.ok_over fun s0 => OpAt.go rfl rfl (q_fa),
        DS.ok_over fun s0 => OpAt.go rfl rfl (q_load),
        DS.ok_over fun s0 => OpAt.go rfl rfl (q_app),
        DS.ok_over fun s0 => OpAt.go rfl rfl (q_fa),
        DS.ok_over fun s0 => OpAt.go rfl rfl (q_load),
        DS.ok_over fun s0 => OpAt.go rfl rfl (q_app),
        DS.ok_over fun s0 => OpAt.go rfl rfl (q_assign), trivial⟩ ?_
  dsimp only [final, DS.upd, AS.seto]
  refine AWp.ret ?_
  show Fin te Try.f36 _ _
  rw [Msg.rrs]
  refine q_ret (0) [_] [_] ?_
  rfl

set_option maxRecDepth 20000 in
set_option maxHeartbeats 2000000 in
theorem c_ciceroneref04_Can (m : Msg) (h : MsgOk m) (hn : NmOk m) : AC Try.prog 24 [.agg (msgC m)] emp (Ret (tf (canM m))) := by
  obtain ⟨q1, q2, q3, q4⟩ := id h
  obtain ⟨n1, n2⟩ := id hn
  have q5 := rrs_da h
  refine AC.intro te_ok (fn := Try.f24) ⟨Try.func24, rfl, rfl⟩ (Nat.le_of_ble_eq_true rfl) ?_
  refine AWp.seq ?_
  refine AWp.region ?_
  refine AOps.cons rfl rfl (q_box 100) ?_
  refine AOps.cons rfl rfl (q_assign) ?_
  refine AOps.nil ?_
  refine AWp.seq ?_
  refine AWp.seq ?_
  by_cases hO : hdO m
  · skip
    refine AWp.draws [⟨0, [1], [100], some 7, _, none⟩,
        ⟨1, [7], [100], some 8, _, none⟩,
        ⟨2, [1], [100], some 9, _, none⟩,
        ⟨3, [9], [], some 10, _, none⟩,
        ⟨4, [8, 10], [], some 11, _, none⟩,
        ⟨5, [11], [], some 12, _, none⟩]
      [⟨0, [1], [100], some 7, .any, none⟩,
          ⟨1, [7], [100], some 8, .any, none⟩,
          ⟨2, [1], [100], some 9, .any, none⟩,
          ⟨3, [9], [], some 10, .any, none⟩,
          ⟨4, [8, 10], [], some 11, .any, none⟩,
          ⟨5, [11], [], some 12, .any, none⟩]
      mixed_ok rfl (by kernel_rfl) ⟨DS.ok_over fun s0 => OpAt.go rfl rfl (q_fa),
          DS.ok_over fun s0 => OpAt.go rfl rfl (q_load),
          DS.ok_over fun s0 => OpAt.go rfl rfl (q_load),
          DS.ok_over fun s0 => OpAt.go rfl rfl (q_call (0) (hc := (c_ciceroneref04_counts m))),
          DS.ok_over fun s0 => OpAt.go rfl rfl ((OpOk.dec_t (q_call (0) (hc := (c_ciceroneref02_Can (toHd m.h) m.qs.length m.an.length m.au.length m.ad.length))) (hO))),
          DS.ok_over fun s0 => OpAt.go rfl rfl (q_not), trivial⟩ ?_
    dsimp only [final, DS.upd, AS.seto]
    refine AWp.cond_f rfl ?_
    refine AWp.skip ?_
    refine AWp.seq ?_
    refine AWp.seq ?_
    refine AWp.region ?_
    obtain ⟨k1, k2, k3, k4⟩ := hdO_counts hO
    have hrl : m.rrs.length ≤ 196605 := by simp only [Msg.rrs, List.length_append]; omega
    refine AOps.cons rfl rfl (q_fa) ?_
    refine AOps.cons rfl rfl (q_load) ?_
    refine AOps.cons rfl rfl (q_len) ?_
    refine AOps.cons rfl rfl (q_move) ?_
    refine AOps.nil ?_
    refine AWp.block ?_
    refine AWp.loopR (α := Nat) [2, 4, 16, 17, 18, 19, 20, 21, 22, 23, 24, 25, 26, 27, 28, 29, 30, 31, 32, 33, 34, 35, 36] (fun i => [(16, i64 i)]) (fun i => []) (fun i => i ≤ m.qs.length ∧ (m.qs.take i).all qOk = true) (fun i => m.qs.length - i) 0 ?_ (Back.mk' (HasT.cons HasT.nil) HasH.nil) ?_
    · exact ⟨Nat.zero_le _, rfl⟩
    · rintro i ⟨hi, hI⟩
      refine AWp.seq ?_
      refine AWp.region ?_
      refine AOps.dec rfl rfl (q_lss) (fun h4_0 => ?_) (fun h4_0 => ?_)
      · skip
        refine AOps.nil ?_
        refine AWp.seq ?_
        refine AWp.cond_t rfl ?_
        refine AWp.skip ?_
        refine AWp.seq ?_
        refine AWp.block ?_
        refine AWp.seq ?_
        refine AWp.region ?_
        have hmem := getD_mem (l := m.qs) (i := i) (by omega)
        refine AOps.cons rfl rfl (q_ix) ?_
        refine AOps.cons rfl rfl (q_load) ?_
        refine AOps.cons rfl rfl (q_alloc 602) ?_
        refine AOps.cons rfl rfl (q_store) ?_
        refine AOps.nil ?_
        refine AWp.seq ?_
        refine AWp.region ?_
        refine AOps.cons rfl rfl (q_fa) ?_
        refine AOps.cons rfl rfl (q_load) ?_
        refine AOps.bool rfl rfl (q_call (0) (hc := (c_ciceroneref01_Can (m.qs.getD i default).nm (by have := n1 _ hmem; omega)))) (fun h6_2 => ?_) (fun h6_2 => ?_)
        · skip
          refine AOps.cons rfl rfl (q_not) ?_
          refine AOps.cons rfl rfl (q_move) ?_
          refine AOps.gcons rfl rfl rfl rfl rfl (q_fa) ?_
          refine AOps.gcons rfl rfl rfl rfl rfl (q_load) ?_
          refine AOps.gbool rfl rfl rfl rfl rfl (q_call (0) (hc := (c_rshort (m.qs.getD i default).ty))) (fun h6_7 => ?_) (fun h6_7 => ?_)
          · skip
            refine AOps.gcons rfl rfl rfl rfl rfl (q_not) ?_
            refine AOps.cons rfl rfl (q_pick) ?_
            refine AOps.cons rfl rfl (q_move) ?_
            refine AOps.gcons rfl rfl rfl rfl rfl (q_fa) ?_
            refine AOps.gcons rfl rfl rfl rfl rfl (q_load) ?_
            refine AOps.gbool rfl rfl rfl rfl rfl (q_call (0) (hc := (c_rshort (m.qs.getD i default).cs))) (fun h6_13 => ?_) (fun h6_13 => ?_)
            · skip
              refine AOps.gcons rfl rfl rfl rfl rfl (q_not) ?_
              refine AOps.cons rfl rfl (q_pick) ?_
              refine AOps.nil ?_
              refine AWp.cond_f rfl ?_
              refine AWp.skip ?_
              refine AWp.region ?_
              refine AOps.cons rfl rfl (q_add) ?_
              refine AOps.cons rfl rfl (q_move) ?_
              refine AOps.nil ?_
              refine ⟨i + 1, ?_, Back.mk' (HasT.cons HasT.nil) HasH.nil, ?_⟩
              · exact ⟨by omega, allOk_take (by omega) hI (by rw [qOk_eq]; generalize m.qs.getD i default = q at *; simp [*])⟩
              · first | omega | (simp; omega)
            · skip
              refine AOps.gcons rfl rfl rfl rfl rfl (q_not) ?_
              refine AOps.cons rfl rfl (q_pick) ?_
              refine AOps.nil ?_
              refine AWp.cond_t rfl ?_
              refine AWp.seq ?_
              refine AWp.region ?_
              refine AOps.cons rfl rfl (q_assign) ?_
              refine AOps.nil ?_
              refine AWp.ret ?_
              show Fin te Try.f24 _ _
              refine q_ret (0) [_] [_] ?_
              exact congrArg tf (by rw [canM_eq, allOk_no (p := qOk) (l := m.qs) (i := i) (by omega) (by rw [qOk_eq]; generalize m.qs.getD i default = q at *; simp [*]; try omega)]; simp)
          · skip
            refine AOps.gcons rfl rfl rfl rfl rfl (q_not) ?_
            refine AOps.cons rfl rfl (q_pick) ?_
            refine AOps.cons rfl rfl (q_move) ?_
            refine AOps.gskip rfl rfl rfl rfl rfl rfl rfl rfl ?_
            refine AOps.gskip rfl rfl rfl rfl rfl rfl rfl rfl ?_
            refine AOps.gskip rfl rfl rfl rfl rfl rfl rfl rfl ?_
            refine AOps.gskip rfl rfl rfl rfl rfl rfl rfl rfl ?_
            refine AOps.cons rfl rfl (q_pick) ?_
            refine AOps.nil ?_
            refine AWp.cond_t rfl ?_
            refine AWp.seq ?_
            refine AWp.region ?_
            refine AOps.cons rfl rfl (q_assign) ?_
            refine AOps.nil ?_
            refine AWp.ret ?_
            show Fin te Try.f24 _ _
            refine q_ret (0) [_] [_] ?_
            exact congrArg tf (by rw [canM_eq, allOk_no (p := qOk) (l := m.qs) (i := i) (by omega) (by rw [qOk_eq]; generalize m.qs.getD i default = q at *; simp [*]; try omega)]; simp)
        · skip
          refine AOps.cons rfl rfl (q_not) ?_
          refine AOps.cons rfl rfl (q_move) ?_
          refine AOps.gskip rfl rfl rfl rfl rfl rfl rfl rfl ?_
          refine AOps.gskip rfl rfl rfl rfl rfl rfl rfl rfl ?_
          refine AOps.gskip rfl rfl rfl rfl rfl rfl rfl rfl ?_
          refine AOps.gskip rfl rfl rfl rfl rfl rfl rfl rfl ?_
          refine AOps.cons rfl rfl (q_pick) ?_
          refine AOps.cons rfl rfl (q_move) ?_
          refine AOps.gskip rfl rfl rfl rfl rfl rfl rfl rfl ?_
          refine AOps.gskip rfl rfl rfl rfl rfl rfl rfl rfl ?_
          refine AOps.gskip rfl rfl rfl rfl rfl rfl rfl rfl ?_
          refine AOps.gskip rfl rfl rfl rfl rfl rfl rfl rfl ?_
          refine AOps.cons rfl rfl (q_pick) ?_
          refine AOps.nil ?_
          refine AWp.cond_t rfl ?_
          refine AWp.seq ?_
          refine AWp.region ?_
          refine AOps.cons rfl rfl (q_assign) ?_
          refine AOps.nil ?_
          refine AWp.ret ?_
          show Fin te Try.f24 _ _
          refine q_ret (0) [_] [_] ?_
          exact congrArg tf (by rw [canM_eq, allOk_no (p := qOk) (l := m.qs) (i := i) (by omega) (by rw [qOk_eq]; generalize m.qs.getD i default = q at *; simp [*]; try omega)]; simp)
      · skip
        refine AOps.nil ?_
        refine AWp.seq ?_
        refine AWp.cond_f rfl ?_
        refine AWp.exit ?_
        refine AWp.seq ?_
        refine AWp.seq ?_
        refine AWp.region ?_
        obtain rfl : i = m.qs.length := by omega
        rw [List.take_length] at hI
        refine AOps.cons rfl rfl (q_load) ?_
        refine AOps.cons rfl rfl (q_call (0) (hc := (c_ciceroneref04_all m h hO))) ?_
        refine AOps.cons rfl rfl (q_len) ?_
        refine AOps.cons rfl rfl (q_move) ?_
        refine AOps.nil ?_
        refine AWp.block ?_
        refine AWp.loopR (α := Nat) [2, 6, 40, 41, 42, 43, 44, 45, 46, 47, 48, 49, 50, 51, 52, 53, 54, 55, 56, 57, 58, 59, 60, 61, 62, 63, 64, 65, 66, 67, 68, 69, 70, 71, 72, 73, 74, 75, 76, 77, 78] (fun k => [(40, i64 k)]) (fun k => []) (fun k => k ≤ m.rrs.length ∧ (m.rrs.take k).all rOk = true) (fun k => m.rrs.length - k) 0 ?_ (Back.mk' (HasT.cons HasT.nil) HasH.nil) ?_
        · exact ⟨Nat.zero_le _, rfl⟩
        · rintro k ⟨hk, hK⟩
          refine AWp.seq ?_
          refine AWp.region ?_
          refine AOps.dec rfl rfl (q_lss) (fun h10_0 => ?_) (fun h10_0 => ?_)
          · skip
            refine AOps.nil ?_
            refine AWp.seq ?_
            refine AWp.cond_t rfl ?_
            refine AWp.skip ?_
            refine AWp.seq ?_
            refine AWp.block ?_
            refine AWp.seq ?_
            refine AWp.region ?_
            have hmem := getD_mem (l := m.rrs) (i := k) (by omega)
            refine AOps.cons rfl rfl (q_ix) ?_
            refine AOps.cons rfl rfl (q_load) ?_
            refine AOps.cons rfl rfl (q_alloc 1202) ?_
            refine AOps.cons rfl rfl (q_store) ?_
            refine AOps.nil ?_
            refine AWp.seq ?_
            refine AWp.region ?_
            refine AOps.cons rfl rfl (q_fa) ?_
            refine AOps.cons rfl rfl (q_load) ?_
            refine AOps.bool rfl rfl (q_call (0) (hc := (c_ciceroneref01_Can (m.rrs.getD k default).nm (by have := n2 _ hmem; omega)))) (fun h12_2 => ?_) (fun h12_2 => ?_)
            · skip
              refine AOps.cons rfl rfl (q_not) ?_
              refine AOps.cons rfl rfl (q_move) ?_
              refine AOps.gcons rfl rfl rfl rfl rfl (q_fa) ?_
              refine AOps.gcons rfl rfl rfl rfl rfl (q_load) ?_
              refine AOps.gbool rfl rfl rfl rfl rfl (q_call (0) (hc := (c_rshort (m.rrs.getD k default).ty))) (fun h12_7 => ?_) (fun h12_7 => ?_)
              · skip
                refine AOps.gcons rfl rfl rfl rfl rfl (q_not) ?_
                refine AOps.cons rfl rfl (q_pick) ?_
                refine AOps.cons rfl rfl (q_move) ?_
                refine AOps.gcons rfl rfl rfl rfl rfl (q_fa) ?_
                refine AOps.gcons rfl rfl rfl rfl rfl (q_load) ?_
                refine AOps.gbool rfl rfl rfl rfl rfl (q_call (0) (hc := (c_rshort (m.rrs.getD k default).cs))) (fun h12_13 => ?_) (fun h12_13 => ?_)
                · skip
                  refine AOps.gcons rfl rfl rfl rfl rfl (q_not) ?_
                  refine AOps.cons rfl rfl (q_pick) ?_
                  refine AOps.cons rfl rfl (q_move) ?_
                  refine AOps.gcons rfl rfl rfl rfl rfl (q_fa) ?_
                  refine AOps.gcons rfl rfl rfl rfl rfl (q_load) ?_
                  refine AOps.gdec rfl rfl rfl rfl rfl (q_lss) (fun h12_19 => ?_) (fun h12_19 => ?_)
                  · skip
                    refine AOps.cons rfl rfl (q_pick) ?_
                    refine AOps.cons rfl rfl (q_move) ?_
                    refine AOps.gskip rfl rfl rfl rfl rfl rfl rfl rfl ?_
                    refine AOps.gskip rfl rfl rfl rfl rfl rfl rfl rfl ?_
                    refine AOps.gskip rfl rfl rfl rfl rfl rfl rfl rfl ?_
                    refine AOps.cons rfl rfl (q_pick) ?_
                    refine AOps.cons rfl rfl (q_move) ?_
                    refine AOps.gskip rfl rfl rfl rfl rfl rfl rfl rfl ?_
                    refine AOps.gskip rfl rfl rfl rfl rfl rfl rfl rfl ?_
                    refine AOps.gskip rfl rfl rfl rfl rfl rfl rfl rfl ?_
                    refine AOps.gskip rfl rfl rfl rfl rfl rfl rfl rfl ?_
                    refine AOps.gskip rfl rfl rfl rfl rfl rfl rfl rfl ?_
                    refine AOps.gskip rfl rfl rfl rfl rfl rfl rfl rfl ?_
                    refine AOps.cons rfl rfl (q_pick) ?_
                    refine AOps.nil ?_
                    refine AWp.cond_t rfl ?_
                    refine AWp.seq ?_
                    refine AWp.region ?_
                    refine AOps.cons rfl rfl (q_assign) ?_
                    refine AOps.nil ?_
                    refine AWp.ret ?_
                    show Fin te Try.f24 _ _
                    refine q_ret (0) [_] [_] ?_
                    exact congrArg tf (by rw [canM_eq, allOk_no (p := rOk) (l := m.rrs) (i := k) (by omega) (by rw [rOk_eq]; (try simp only [Int.toNat_natCast] at *); generalize m.rrs.getD k default = q at *; simp [*]; try omega)]; simp)
                  · skip
                    refine AOps.cons rfl rfl (q_pick) ?_
                    refine AOps.cons rfl rfl (q_move) ?_
                    refine AOps.gcons rfl rfl rfl rfl rfl (q_fa) ?_
                    refine AOps.gcons rfl rfl rfl rfl rfl (q_load) ?_
                    refine AOps.gdec rfl rfl rfl rfl rfl (q_geq) (fun h12_24 => ?_) (fun h12_24 => ?_)
                    · skip
                      refine AOps.cons rfl rfl (q_pick) ?_
                      refine AOps.cons rfl rfl (q_move) ?_
                      refine AOps.gskip rfl rfl rfl rfl rfl rfl rfl rfl ?_
                      refine AOps.gskip rfl rfl rfl rfl rfl rfl rfl rfl ?_
                      refine AOps.gskip rfl rfl rfl rfl rfl rfl rfl rfl ?_
                      refine AOps.gskip rfl rfl rfl rfl rfl rfl rfl rfl ?_
                      refine AOps.gskip rfl rfl rfl rfl rfl rfl rfl rfl ?_
                      refine AOps.gskip rfl rfl rfl rfl rfl rfl rfl rfl ?_
                      refine AOps.cons rfl rfl (q_pick) ?_
                      refine AOps.nil ?_
                      refine AWp.cond_t rfl ?_
                      refine AWp.seq ?_
                      refine AWp.region ?_
                      refine AOps.cons rfl rfl (q_assign) ?_
                      refine AOps.nil ?_
                      refine AWp.ret ?_
                      show Fin te Try.f24 _ _
                      refine q_ret (0) [_] [_] ?_
                      exact congrArg tf (by rw [canM_eq, allOk_no (p := rOk) (l := m.rrs) (i := k) (by omega) (by rw [rOk_eq]; (try simp only [Int.toNat_natCast] at *); generalize m.rrs.getD k default = q at *; simp [*]; try omega)]; simp)
                    · skip
                      refine AOps.cons rfl rfl (q_pick) ?_
                      refine AOps.cons rfl rfl (q_move) ?_
                      refine AOps.gcons rfl rfl rfl rfl rfl (q_fa) ?_
                      refine AOps.gcons rfl rfl rfl rfl rfl (q_load) ?_
                      refine AOps.gcons rfl rfl rfl rfl rfl (q_fa) ?_
                      refine AOps.gcons rfl rfl rfl rfl rfl (q_load) ?_
                      refine AOps.gbool rfl rfl rfl rfl rfl (q_call (0) (hc := (c_ciceroneref03_Can (m.rrs.getD k default).ty (m.rrs.getD k default).da 0 (q5 _ hmem)))) (fun h12_31 => ?_) (fun h12_31 => ?_)
                      · skip
                        refine AOps.gcons rfl rfl rfl rfl rfl (q_not) ?_
                        refine AOps.cons rfl rfl (q_pick) ?_
                        refine AOps.nil ?_
                        refine AWp.cond_f rfl ?_
                        refine AWp.skip ?_
                        refine AWp.region ?_
                        refine AOps.cons rfl rfl (q_add) ?_
                        refine AOps.cons rfl rfl (q_move) ?_
                        refine AOps.nil ?_
                        refine ⟨k + 1, ?_, Back.mk' (HasT.cons HasT.nil) HasH.nil, ?_⟩
                        · exact ⟨by omega, allOk_take (by omega) hK (by rw [rOk_eq]; (try simp only [Int.toNat_natCast] at *); generalize m.rrs.getD k default = q at *; simp [*]; try omega)⟩
                        · first | omega | (simp; omega)
                      · skip
                        refine AOps.gcons rfl rfl rfl rfl rfl (q_not) ?_
                        refine AOps.cons rfl rfl (q_pick) ?_
                        refine AOps.nil ?_
                        refine AWp.cond_t rfl ?_
                        refine AWp.seq ?_
                        refine AWp.region ?_
                        refine AOps.cons rfl rfl (q_assign) ?_
                        refine AOps.nil ?_
                        refine AWp.ret ?_
                        show Fin te Try.f24 _ _
                        refine q_ret (0) [_] [_] ?_
                        exact congrArg tf (by rw [canM_eq, allOk_no (p := rOk) (l := m.rrs) (i := k) (by omega) (by rw [rOk_eq]; (try simp only [Int.toNat_natCast] at *); generalize m.rrs.getD k default = q at *; simp [*]; try omega)]; simp)
                · skip
                  refine AOps.gcons rfl rfl rfl rfl rfl (q_not) ?_
                  refine AOps.cons rfl rfl (q_pick) ?_
                  refine AOps.cons rfl rfl (q_move) ?_
                  refine AOps.gskip rfl rfl rfl rfl rfl rfl rfl rfl ?_
                  refine AOps.gskip rfl rfl rfl rfl rfl rfl rfl rfl ?_
                  refine AOps.gskip rfl rfl rfl rfl rfl rfl rfl rfl ?_
                  refine AOps.cons rfl rfl (q_pick) ?_
                  refine AOps.cons rfl rfl (q_move) ?_
                  refine AOps.gskip rfl rfl rfl rfl rfl rfl rfl rfl ?_
                  refine AOps.gskip rfl rfl rfl rfl rfl rfl rfl rfl ?_
                  refine AOps.gskip rfl rfl rfl rfl rfl rfl rfl rfl ?_
                  refine AOps.cons rfl rfl (q_pick) ?_
                  refine AOps.cons rfl rfl (q_move) ?_
                  refine AOps.gskip rfl rfl rfl rfl rfl rfl rfl rfl ?_
                  refine AOps.gskip rfl rfl rfl rfl rfl rfl rfl rfl ?_
                  refine AOps.gskip rfl rfl rfl rfl rfl rfl rfl rfl ?_
                  refine AOps.gskip rfl rfl rfl rfl rfl rfl rfl rfl ?_
                  refine AOps.gskip rfl rfl rfl rfl rfl rfl rfl rfl ?_
                  refine AOps.gskip rfl rfl rfl rfl rfl rfl rfl rfl ?_
                  refine AOps.cons rfl rfl (q_pick) ?_
                  refine AOps.nil ?_
                  refine AWp.cond_t rfl ?_
                  refine AWp.seq ?_
                  refine AWp.region ?_
                  refine AOps.cons rfl rfl (q_assign) ?_
                  refine AOps.nil ?_
                  refine AWp.ret ?_
                  show Fin te Try.f24 _ _
                  refine q_ret (0) [_] [_] ?_
                  exact congrArg tf (by rw [canM_eq, allOk_no (p := rOk) (l := m.rrs) (i := k) (by omega) (by rw [rOk_eq]; (try simp only [Int.toNat_natCast] at *); generalize m.rrs.getD k default = q at *; simp [*]; try omega)]; simp)
              · skip
                refine AOps.gcons rfl rfl rfl rfl rfl (q_not) ?_
                refine AOps.cons rfl rfl (q_pick) ?_
                refine AOps.cons rfl rfl (q_move) ?_
                refine AOps.gskip rfl rfl rfl rfl rfl rfl rfl rfl ?_
                refine AOps.gskip rfl rfl rfl rfl rfl rfl rfl rfl ?_
                refine AOps.gskip rfl rfl rfl rfl rfl rfl rfl rfl ?_
                refine AOps.gskip rfl rfl rfl rfl rfl rfl rfl rfl ?_
                refine AOps.cons rfl rfl (q_pick) ?_
                refine AOps.cons rfl rfl (q_move) ?_
                refine AOps.gskip rfl rfl rfl rfl rfl rfl rfl rfl ?_
                refine AOps.gskip rfl rfl rfl rfl rfl rfl rfl rfl ?_
                refine AOps.gskip rfl rfl rfl rfl rfl rfl rfl rfl ?_
                refine AOps.cons rfl rfl (q_pick) ?_
                refine AOps.cons rfl rfl (q_move) ?_
                refine AOps.gskip rfl rfl rfl rfl rfl rfl rfl rfl ?_
                refine AOps.gskip rfl rfl rfl rfl rfl rfl rfl rfl ?_
                refine AOps.gskip rfl rfl rfl rfl rfl rfl rfl rfl ?_
                refine AOps.cons rfl rfl (q_pick) ?_
                refine AOps.cons rfl rfl (q_move) ?_
                refine AOps.gskip rfl rfl rfl rfl rfl rfl rfl rfl ?_
                refine AOps.gskip rfl rfl rfl rfl rfl rfl rfl rfl ?_
                refine AOps.gskip rfl rfl rfl rfl rfl rfl rfl rfl ?_
                refine AOps.gskip rfl rfl rfl rfl rfl rfl rfl rfl ?_
                refine AOps.gskip rfl rfl rfl rfl rfl rfl rfl rfl ?_
                refine AOps.gskip rfl rfl rfl rfl rfl rfl rfl rfl ?_
                refine AOps.cons rfl rfl (q_pick) ?_
                refine AOps.nil ?_
                refine AWp.cond_t rfl ?_
                refine AWp.seq ?_
                refine AWp.region ?_
                refine AOps.cons rfl rfl (q_assign) ?_
                refine AOps.nil ?_
                refine AWp.ret ?_
                show Fin te Try.f24 _ _
                refine q_ret (0) [_] [_] ?_
                exact congrArg tf (by rw [canM_eq, allOk_no (p := rOk) (l := m.rrs) (i := k) (by omega) (by rw [rOk_eq]; (try simp only [Int.toNat_natCast] at *); generalize m.rrs.getD k default = q at *; simp [*]; try omega)]; simp)
            · skip
              refine AOps.cons rfl rfl (q_not) ?_
              refine AOps.cons rfl rfl (q_move) ?_
              refine AOps.gskip rfl rfl rfl rfl rfl rfl rfl rfl ?_
              refine AOps.gskip rfl rfl rfl rfl rfl rfl rfl rfl ?_
              refine AOps.gskip rfl rfl rfl rfl rfl rfl rfl rfl ?_
              refine AOps.gskip rfl rfl rfl rfl rfl rfl rfl rfl ?_
              refine AOps.cons rfl rfl (q_pick) ?_
              refine AOps.cons rfl rfl (q_move) ?_
              refine AOps.gskip rfl rfl rfl rfl rfl rfl rfl rfl ?_
              refine AOps.gskip rfl rfl rfl rfl rfl rfl rfl rfl ?_
              refine AOps.gskip rfl rfl rfl rfl rfl rfl rfl rfl ?_
              refine AOps.gskip rfl rfl rfl rfl rfl rfl rfl rfl ?_
              refine AOps.cons rfl rfl (q_pick) ?_
              refine AOps.cons rfl rfl (q_move) ?_
              refine AOps.gskip rfl rfl rfl rfl rfl rfl rfl rfl ?_
              refine AOps.gskip rfl rfl rfl rfl rfl rfl rfl rfl ?_
              refine AOps.gskip rfl rfl rfl rfl rfl rfl rfl rfl ?_
              refine AOps.cons rfl rfl (q_pick) ?_
              refine AOps.cons rfl rfl (q_move) ?_
              refine AOps.gskip rfl rfl rfl rfl rfl rfl rfl rfl ?_
              refine AOps.gskip rfl rfl rfl rfl rfl rfl rfl rfl ?_
              refine AOps.gskip rfl rfl rfl rfl rfl rfl rfl rfl ?_
              refine AOps.cons rfl rfl (q_pick) ?_
              refine AOps.cons rfl rfl (q_move) ?_
              refine AOps.gskip rfl rfl rfl rfl rfl rfl rfl rfl ?_
              refine AOps.gskip rfl rfl rfl rfl rfl rfl rfl rfl ?_
              refine AOps.gskip rfl rfl rfl rfl rfl rfl rfl rfl ?_
              refine AOps.gskip rfl rfl rfl rfl rfl rfl rfl rfl ?_
              refine AOps.gskip rfl rfl rfl rfl rfl rfl rfl rfl ?_
              refine AOps.gskip rfl rfl rfl rfl rfl rfl rfl rfl ?_
              refine AOps.cons rfl rfl (q_pick) ?_
              refine AOps.nil ?_
              refine AWp.cond_t rfl ?_
              refine AWp.seq ?_
              refine AWp.region ?_
              refine AOps.cons rfl rfl (q_assign) ?_
              refine AOps.nil ?_
              refine AWp.ret ?_
              show Fin te Try.f24 _ _
              refine q_ret (0) [_] [_] ?_
              exact congrArg tf (by rw [canM_eq, allOk_no (p := rOk) (l := m.rrs) (i := k) (by omega) (by rw [rOk_eq]; (try simp only [Int.toNat_natCast] at *); generalize m.rrs.getD k default = q at *; simp [*]; try omega)]; simp)
          · skip
            refine AOps.nil ?_
            refine AWp.seq ?_
            refine AWp.cond_f rfl ?_
            refine AWp.exit ?_
            refine AWp.seq ?_
            refine AWp.region ?_
            obtain rfl : k = m.rrs.length := by omega
            rw [List.take_length] at hK
            refine AOps.cons rfl rfl (q_assign) ?_
            refine AOps.nil ?_
            refine AWp.ret ?_
            show Fin te Try.f24 _ _
            refine q_ret (0) [_] [_] ?_
            exact congrArg tf (by rw [canM_eq, decide_eq_true hO, hI, hK]; rfl)
  · skip
    refine AWp.draws [⟨0, [1], [100], some 7, _, none⟩,
        ⟨1, [7], [100], some 8, _, none⟩,
        ⟨2, [1], [100], some 9, _, none⟩,
        ⟨3, [9], [], some 10, _, none⟩,
        ⟨4, [8, 10], [], some 11, _, none⟩,
        ⟨5, [11], [], some 12, _, none⟩]
      [⟨0, [1], [100], some 7, .any, none⟩,
          ⟨1, [7], [100], some 8, .any, none⟩,
          ⟨2, [1], [100], some 9, .any, none⟩,
          ⟨3, [9], [], some 10, .any, none⟩,
          ⟨4, [8, 10], [], some 11, .any, none⟩,
          ⟨5, [11], [], some 12, .any, none⟩]
      mixed_ok rfl (by kernel_rfl) ⟨DS.ok_over fun s0 => OpAt.go rfl rfl (q_fa),
          DS.ok_over fun s0 => OpAt.go rfl rfl (q_load),
          DS.ok_over fun s0 => OpAt.go rfl rfl (q_load),
          DS.ok_over fun s0 => OpAt.go rfl rfl (q_call (0) (hc := (c_ciceroneref04_counts m))),
          DS.ok_over fun s0 => OpAt.go rfl rfl ((OpOk.dec_f (q_call (0) (hc := (c_ciceroneref02_Can (toHd m.h) m.qs.length m.an.length m.au.length m.ad.length))) (hO))),
          DS.ok_over fun s0 => OpAt.go rfl rfl (q_not), trivial⟩ ?_
    dsimp only [final, DS.upd, AS.seto]
    refine AWp.cond_t rfl ?_
    refine AWp.seq ?_
    refine AWp.region ?_
    refine AOps.cons rfl rfl (q_assign) ?_
    refine AOps.nil ?_
    refine AWp.ret ?_
    show Fin te Try.f24 _ _
    refine q_ret (0) [_] [_] ?_
    exact congrArg tf (by rw [canM_eq, decide_eq_false hO]; rfl)

set_option maxRecDepth 20000 in
set_option maxHeartbeats 2000000 in
theorem c_rname (ls0 : List (List UInt8)) (w0 : Wr) (v0 : Nat) (hn : Nm ls0) (hw : WOk w0) (hb : w0.b.length ≤ 10000000000) (hml : w0.m.length ≤ 10000000000) : AC Try.prog 34 [.ptr 0 0 0, str (joinN ls0)] (hlook [(0, .box [.sl 1 (v0) 0 (w0.b).length 1, .sl 2 (w0.m.length) 0 (w0.m).length 2]), (1, .row (cl bc (w0.b)) 1 (v0)), (2, .row (cl plC (w0.m)) 2 (w0.m.length))]) (RetH (.tup []) [(0, .box [.sl 1 (v0 + nmC ls0 w0) 0 ((wrName ls0 w0).b).length 1, .sl 2 ((wrName ls0 w0).m.length) 0 ((wrName ls0 w0).m).length 2]), (1, .row (cl bc ((wrName ls0 w0).b)) 1 (v0 + nmC ls0 w0)), (2, .row (cl plC ((wrName ls0 w0).m)) 2 ((wrName ls0 w0).m.length))]) := by
  refine AC.intro te_ok (fn := Try.f34) ⟨Try.func34, rfl, rfl⟩ (Nat.le_of_ble_eq_true rfl) ?_
  refine AWp.seq ?_
  refine AWp.block ?_
  refine AWp.loopR (α := List (List UInt8) × Wr × Nat × Nat) [1, 5, 6, 7, 8, 9, 10, 11, 12, 13, 14, 15, 16, 17, 18, 19, 20, 21, 22, 23, 24, 25, 26, 27, 28, 29, 30, 31, 32, 33, 34, 35, 36, 37, 38, 39, 40, 41, 42, 43, 44, 45, 46, 47, 48, 49, 50, 51, 52, 53, 54, 55, 56, 57, 58, 59, 60, 61, 62, 63, 64, 65, 66, 67, 68, 69, 70, 71, 72, 73, 74, 75] (fun x_ => [(1, str (joinN (x_.1)))]) (fun x_ => [(0, .box [.sl 1 ((x_.2.2.1)) 0 ((x_.2.1).b).length 1, .sl 2 ((x_.2.2.2)) 0 ((x_.2.1).m).length 2]), (1, .row (cl bc ((x_.2.1).b)) 1 ((x_.2.2.1))), (2, .row (cl plC ((x_.2.1).m)) 2 ((x_.2.2.2)))]) (fun x_ => Nm (x_.1) ∧ WOk (x_.2.1) ∧ (x_.2.1).b.length + (joinN (x_.1)).length ≤ w0.b.length + 255 ∧ wrName (x_.1) (x_.2.1) = wrName ls0 w0 ∧ (x_.2.2.1) + nmC (x_.1) (x_.2.1) = v0 + nmC ls0 w0 ∧ (x_.2.2.2) = (x_.2.1).m.length ∧ (x_.2.2.2) + (joinN (x_.1)).length ≤ w0.m.length + 255) (fun x_ => (x_.1).length) (ls0, w0, v0, w0.m.length) ?_ (Back.mk' (HasT.cons HasT.nil) (HasH.cons (HasH.cons (HasH.cons HasH.nil)))) ?_
  · exact ⟨hn, hw, by have := hn.2; show w0.b.length + (joinN ls0).length ≤ _; omega, rfl, rfl, rfl, by have := hn.2; show w0.m.length + (joinN ls0).length ≤ _; omega⟩
  · rintro ⟨ls, w, v, u⟩ hI0
    change Nm ls ∧ WOk w ∧ w.b.length + (joinN ls).length ≤ w0.b.length + 255 ∧ wrName ls w = wrName ls0 w0 ∧ v + nmC ls w = v0 + nmC ls0 w0 ∧ u = w.m.length ∧ u + (joinN ls).length ≤ w0.m.length + 255 at hI0
    obtain ⟨hN, hW, hB, hE, hV, hu, hM⟩ := hI0
    refine AWp.as (s' := AS.over _ [1, 5, 6, 7, 8, 9, 10, 11, 12, 13, 14, 15, 16, 17, 18, 19, 20, 21, 22, 23, 24, 25, 26, 27, 28, 29, 30, 31, 32, 33, 34, 35, 36, 37, 38, 39, 40, 41, 42, 43, 44, 45, 46, 47, 48, 49, 50, 51, 52, 53, 54, 55, 56, 57, 58, 59, 60, 61, 62, 63, 64, 65, 66, 67, 68, 69, 70, 71, 72, 73, 74, 75] [(1, str (joinN ls))] [(0, .box [.sl 1 (v) 0 (w.b).length 1, .sl 2 (u) 0 (w.m).length 2]), (1, .row (cl bc (w.b)) 1 (v)), (2, .row (cl plC (w.m)) 2 (u))]) rfl ?_
    have h255 := hN.2
    refine AWp.seq ?_
    refine AWp.seq ?_
    refine AWp.region ?_
    refine AOps.cons rfl rfl (q_move) ?_
    refine AOps.dec rfl rfl (q_sneq) (fun h0_1 => ?_) (fun h0_1 => ?_)
    · skip
      refine AOps.nil ?_
      refine AWp.cond_t rfl ?_
      refine AWp.skip ?_
      refine AWp.block ?_
      refine AWp.seq ?_
      refine AWp.seq ?_
      refine AWp.region ?_
      obtain ⟨l, ls, rfl⟩ : ∃ l ls', ls = l :: ls' := by
        cases ls with
        | nil => exact absurd rfl h0_1
        | cons l ls' => exact ⟨l, ls', rfl⟩
      have hJ : (joinN (l :: ls)).length = l.length + 1 + (joinN ls).length := by rw [joinN_cons]; simp; omega
      have hN2 : Nm ls := Nm_tl hN
      refine AOps.cons rfl rfl (q_move) ?_
      refine AOps.cons rfl rfl (q_nil) ?_
      refine AOps.cons rfl rfl (q_fa) ?_
      refine AOps.cons rfl rfl (q_load) ?_
      refine AOps.cons rfl rfl (q_len) ?_
      refine AOps.cons rfl rfl (q_move) ?_
      refine AOps.nil ?_
      refine AWp.block ?_
      refine AWp.loopR (α := Nat) [5, 14, 15, 16, 17, 18, 19, 20, 21, 22, 23, 24, 25, 26, 27, 28, 29, 30, 31, 32, 33, 34] (fun i => [(14, i64 i)]) (fun i => []) (fun i => i ≤ w.m.length ∧ ∀ j, j < i → (w.m.getD j default).1 ≠ joinN (l :: ls)) (fun i => w.m.length - i) 0 ?_ (Back.mk' (HasT.cons HasT.nil) HasH.nil) ?_
      · exact ⟨Nat.zero_le _, fun j hj => by omega⟩
      · rintro i ⟨hi, hI⟩
        refine AWp.seq ?_
        refine AWp.region ?_
        refine AOps.dec rfl rfl (q_lss) (fun h2_0 => ?_) (fun h2_0 => ?_)
        · skip
          refine AOps.nil ?_
          refine AWp.seq ?_
          refine AWp.cond_t rfl ?_
          refine AWp.skip ?_
          refine AWp.seq ?_
          refine AWp.block ?_
          refine AWp.seq ?_
          refine AWp.region ?_
          refine AOps.cons rfl rfl (q_ix) ?_
          refine AOps.cons rfl rfl (q_load) ?_
          refine AOps.cons rfl rfl (q_alloc 402) ?_
          refine AOps.cons rfl rfl (q_store) ?_
          refine AOps.nil ?_
          refine AWp.seq ?_
          refine AWp.region ?_
          refine AOps.cons rfl rfl (q_fa) ?_
          refine AOps.cons rfl rfl (q_load) ?_
          refine AOps.cons rfl rfl (q_move) ?_
          refine AOps.dec rfl rfl (q_seql) (fun h4_3 => ?_) (fun h4_3 => ?_)
          · skip
            refine AOps.nil ?_
            refine AWp.cond_t rfl ?_
            refine AWp.seq ?_
            have hm : mget w.m (joinN (l :: ls)) = some (w.m.getD i default).2 := mget_hit (by omega) hI h4_3
            have ha := hW _ _ hm
            have ha2 : 0 ≤ (w.m.getD (i : Int).toNat default).2 ∧ (w.m.getD (i : Int).toNat default).2 < 16384 := ha
            have ht2 : (two (49152 + (w.m.getD (i : Int).toNat default).2)).length = 2 := rfl
            refine AWp.draws [⟨0, [0], [], some 22, _, none⟩,
                ⟨1, [0], [], some 23, _, none⟩,
                ⟨2, [23], [0], some 24, _, none⟩,
                ⟨3, [24], [0], some 25, _, none⟩,
                ⟨4, [25], [0], some 26, _, none⟩,
                ⟨5, [5], [402], some 27, _, none⟩,
                ⟨6, [27], [402], some 28, _, none⟩,
                ⟨7, [28], [], some 29, _, none⟩,
                ⟨8, [29], [], some 30, _, none⟩,
                ⟨9, [26, 30], [1], some 31, _, some (1, _)⟩,
                ⟨10, [22], [0], some 32, _, none⟩,
                ⟨11, [32], [0], some 33, _, none⟩,
                ⟨12, [31, 33], [0, 1], none, _, some (0, _)⟩]
              [⟨0, [0], [], some 22, .any, none⟩,
                  ⟨1, [0], [], some 23, .any, none⟩,
                  ⟨2, [23], [0], some 24, .any, none⟩,
                  ⟨3, [24], [0], some 25, .any, none⟩,
                  ⟨4, [25], [0], some 26, .any, none⟩,
                  ⟨5, [5], [402], some 27, .any, none⟩,
                  ⟨6, [27], [402], some 28, .any, none⟩,
                  ⟨7, [28], [], some 29, .any, none⟩,
                  ⟨8, [29], [], some 30, .any, none⟩,
                  ⟨9, [26, 30], [1], some 31, .any, some (1, .box [])⟩,
                  ⟨10, [22], [0], some 32, .any, none⟩,
                  ⟨11, [32], [0], some 33, .any, none⟩,
                  ⟨12, [31, 33], [0, 1], none, .any, some (0, .box [])⟩]
              mixed_ok rfl (by kernel_rfl) ⟨DS.ok_over fun s0 => OpAt.go rfl rfl (q_move),
                  DS.ok_over fun s0 => OpAt.go rfl rfl (q_move),
                  DS.ok_over fun s0 => OpAt.go rfl rfl (q_nil),
                  DS.ok_over fun s0 => OpAt.go rfl rfl (q_fa),
                  DS.ok_over fun s0 => OpAt.go rfl rfl (q_load),
                  DS.ok_over fun s0 => OpAt.go rfl rfl (q_fa),
                  DS.ok_over fun s0 => OpAt.go rfl rfl (q_load),
                  DS.ok_over fun s0 => OpAt.go rfl rfl (q_add),
                  DS.ok_over fun s0 => OpAt.go rfl rfl (q_call (0) (hc := (c_two (49152 + (w.m.getD i default).2)))),
                  DS.ok_over fun s0 => OpAt.go rfl rfl (q_app (hb := by rw [show ∀ n, (two n).length = 2 from fun _ => rfl]; simp; omega)),
                  DS.ok_over fun s0 => OpAt.go rfl rfl (q_nil),
                  DS.ok_over fun s0 => OpAt.go rfl rfl (q_fa),
                  DS.ok_over fun s0 => OpAt.go rfl rfl (q_store), trivial⟩ ?_
            dsimp only [final, DS.upd, AS.seto]
            refine AWp.ret ?_
            show Fin te Try.f34 _ _
            subst hu
            rw [← hE, ← hV, (wrName_hit hm).1, (wrName_hit hm).2]
            refine q_retH (0) [] [] [] [(_, _), (_, _), (_, _)] ?_
            rfl
          · skip
            refine AOps.nil ?_
            refine AWp.cond_f rfl ?_
            refine AWp.skip ?_
            refine AWp.region ?_
            refine AOps.cons rfl rfl (q_add) ?_
            refine AOps.cons rfl rfl (q_move) ?_
            refine AOps.nil ?_
            refine ⟨i + 1, ?_, Back.mk' (HasT.cons HasT.nil) HasH.nil, ?_⟩
            · refine ⟨by omega, fun j hj => ?_⟩
              rcases Nat.lt_or_ge j i with h | h
              · exact hI j h
              · obtain rfl : j = i := by omega
                exact h4_3
            · first | omega | (simp; omega)
        · skip
          refine AOps.nil ?_
          refine AWp.seq ?_
          refine AWp.cond_f rfl ?_
          refine AWp.exit ?_
          refine AWp.seq ?_
          refine AWp.seq ?_
          refine AWp.region ?_
          have hm : mget w.m (joinN (l :: ls)) = none := mget_all (fun j hj => hI j (by omega))
          refine AOps.cons rfl rfl (q_move) ?_
          refine AOps.cons rfl rfl (q_nil) ?_
          refine AOps.cons rfl rfl (q_fa) ?_
          refine AOps.cons rfl rfl (q_load) ?_
          refine AOps.cons rfl rfl (q_len) ?_
          refine AOps.dec rfl rfl (q_lss) (fun h7_5 => ?_) (fun h7_5 => ?_)
          · skip
            refine AOps.nil ?_
            refine AWp.cond_t rfl ?_
            have hput : w.put l ls = ⟨w.b ++ (byte (l.length : Int) :: l), w.m ++ [(joinN (l :: ls), (w.b.length : Int))]⟩ := by simp only [Wr.put, if_pos h7_5, mput_none hm]
            refine AWp.draws [⟨0, [0], [], some 41, _, none⟩,
                ⟨1, [0], [], some 42, _, none⟩,
                ⟨2, [42], [0], some 43, _, none⟩,
                ⟨3, [43], [0], some 44, _, none⟩,
                ⟨4, [44], [0], some 45, _, none⟩,
                ⟨5, [1], [], some 46, _, none⟩,
                ⟨6, [0], [], some 47, _, none⟩,
                ⟨7, [47], [0], some 48, _, none⟩,
                ⟨8, [48], [0], some 49, _, none⟩,
                ⟨9, [49], [0], some 50, _, none⟩,
                ⟨10, [50], [1], some 51, _, none⟩,
                ⟨11, [46, 51], [], some 52, _, none⟩,
                ⟨12, [52], [912], some 53, _, some (912, _)⟩,
                ⟨13, [45, 53], [2, 912], some 54, _, some (2, _)⟩,
                ⟨14, [41], [0], some 55, _, none⟩,
                ⟨15, [55], [0], some 56, _, none⟩,
                ⟨16, [54, 56], [0, 2], none, _, some (0, _)⟩]
              [⟨0, [0], [], some 41, .any, none⟩,
                  ⟨1, [0], [], some 42, .any, none⟩,
                  ⟨2, [42], [0], some 43, .any, none⟩,
                  ⟨3, [43], [0], some 44, .any, none⟩,
                  ⟨4, [44], [0], some 45, .any, none⟩,
                  ⟨5, [1], [], some 46, .any, none⟩,
                  ⟨6, [0], [], some 47, .any, none⟩,
                  ⟨7, [47], [0], some 48, .any, none⟩,
                  ⟨8, [48], [0], some 49, .any, none⟩,
                  ⟨9, [49], [0], some 50, .any, none⟩,
                  ⟨10, [50], [1], some 51, .any, none⟩,
                  ⟨11, [46, 51], [], some 52, .any, none⟩,
                  ⟨12, [52], [912], some 53, .any, some (912, .box [])⟩,
                  ⟨13, [45, 53], [2, 912], some 54, .any, some (2, .box [])⟩,
                  ⟨14, [41], [0], some 55, .any, none⟩,
                  ⟨15, [55], [0], some 56, .any, none⟩,
                  ⟨16, [54, 56], [0, 2], none, .any, some (0, .box [])⟩]
              mixed_ok rfl (by kernel_rfl) ⟨DS.ok_over fun s0 => OpAt.go rfl rfl (q_move),
                  DS.ok_over fun s0 => OpAt.go rfl rfl (q_move),
                  DS.ok_over fun s0 => OpAt.go rfl rfl (q_nil),
                  DS.ok_over fun s0 => OpAt.go rfl rfl (q_fa),
                  DS.ok_over fun s0 => OpAt.go rfl rfl (q_load),
                  DS.ok_over fun s0 => OpAt.go rfl rfl (q_move),
                  DS.ok_over fun s0 => OpAt.go rfl rfl (q_move),
                  DS.ok_over fun s0 => OpAt.go rfl rfl (q_nil),
                  DS.ok_over fun s0 => OpAt.go rfl rfl (q_fa),
                  DS.ok_over fun s0 => OpAt.go rfl rfl (q_load),
                  DS.ok_over fun s0 => OpAt.go rfl rfl (q_len),
                  DS.ok_over fun s0 => OpAt.go rfl rfl (q_build [(_, _), (_, _)]),
                  DS.ok_over fun s0 => OpAt.go rfl rfl (q_bs 912 plC [(joinN (l :: ls), (w.b.length : Int))] [(_, _)]),
                  DS.ok_over fun s0 => OpAt.go rfl rfl (q_app),
                  DS.ok_over fun s0 => OpAt.go rfl rfl (q_nil),
                  DS.ok_over fun s0 => OpAt.go rfl rfl (q_fa),
                  DS.ok_over fun s0 => OpAt.go rfl rfl (q_store), trivial⟩ ?_
            dsimp only [final, DS.upd, AS.seto]
            refine AWp.seq ?_
            refine AWp.region ?_
            refine AOps.cons rfl rfl (q_move) ?_
            refine AOps.cons rfl rfl (q_ixs) ?_
            refine AOps.cons rfl rfl (q_conv_8i) ?_
            refine AOps.cons rfl rfl (q_assign) ?_
            refine AOps.nil ?_
            refine AWp.seq ?_
            rw [lab_get hN.1]
            refine AWp.draws [⟨0, [0], [], some 60, _, none⟩,
                ⟨1, [0], [], some 61, _, none⟩,
                ⟨2, [61], [0], some 62, _, none⟩,
                ⟨3, [62], [0], some 63, _, none⟩,
                ⟨4, [63], [0], some 64, _, none⟩,
                ⟨5, [1], [], some 65, _, none⟩,
                ⟨6, [6], [], some 66, _, none⟩,
                ⟨7, [66], [], some 67, _, none⟩,
                ⟨8, [65, 67], [], some 68, _, none⟩,
                ⟨9, [64, 68], [1], some 69, _, some (1, _)⟩,
                ⟨10, [60], [0], some 70, _, none⟩,
                ⟨11, [70], [0], some 71, _, none⟩,
                ⟨12, [69, 71], [0, 1], none, _, some (0, _)⟩]
              [⟨0, [0], [], some 60, .any, none⟩,
                  ⟨1, [0], [], some 61, .any, none⟩,
                  ⟨2, [61], [0], some 62, .any, none⟩,
                  ⟨3, [62], [0], some 63, .any, none⟩,
                  ⟨4, [63], [0], some 64, .any, none⟩,
                  ⟨5, [1], [], some 65, .any, none⟩,
                  ⟨6, [6], [], some 66, .any, none⟩,
                  ⟨7, [66], [], some 67, .any, none⟩,
                  ⟨8, [65, 67], [], some 68, .any, none⟩,
                  ⟨9, [64, 68], [1], some 69, .any, some (1, .box [])⟩,
                  ⟨10, [60], [0], some 70, .any, none⟩,
                  ⟨11, [70], [0], some 71, .any, none⟩,
                  ⟨12, [69, 71], [0, 1], none, .any, some (0, .box [])⟩]
              mixed_ok rfl (by kernel_rfl) ⟨DS.ok_over fun s0 => OpAt.go rfl rfl (q_move),
                  DS.ok_over fun s0 => OpAt.go rfl rfl (q_move),
                  DS.ok_over fun s0 => OpAt.go rfl rfl (q_nil),
                  DS.ok_over fun s0 => OpAt.go rfl rfl (q_fa),
                  DS.ok_over fun s0 => OpAt.go rfl rfl (q_load),
                  DS.ok_over fun s0 => OpAt.go rfl rfl (q_move),
                  DS.ok_over fun s0 => OpAt.go rfl rfl (q_move),
                  DS.ok_over fun s0 => OpAt.go rfl rfl (q_add),
                  DS.ok_over fun s0 => OpAt.go rfl rfl (q_sls_hi),
                  DS.ok_over fun s0 => OpAt.go rfl rfl (q_app),
                  DS.ok_over fun s0 => OpAt.go rfl rfl (q_nil),
                  DS.ok_over fun s0 => OpAt.go rfl rfl (q_fa),
                  DS.ok_over fun s0 => OpAt.go rfl rfl (q_store), trivial⟩ ?_
            dsimp only [final, DS.upd, AS.seto]
            refine AWp.region ?_
            refine AOps.cons rfl rfl (q_move) ?_
            refine AOps.cons rfl rfl (q_move) ?_
            refine AOps.cons rfl rfl (q_add) ?_
            refine AOps.cons rfl rfl (q_sls_lo) ?_
            refine AOps.cons rfl rfl (q_assign) ?_
            refine AOps.nil ?_
            rw [lab_take, lab_drop]
            refine ⟨(ls, ⟨w.b ++ (byte (l.length : Int) :: l), w.m ++ [(joinN (l :: ls), (w.b.length : Int))]⟩, v + 1, u + 1), ?_, Back.mk' (HasT.cons HasT.nil) (HasH.cons (HasH.cons (HasH.cons HasH.nil))), ?_⟩
            · try dsimp only
              rw [← hput]
              refine ⟨hN2, hW.put l ls, ?_, by rw [← hE, (wrName_no hm).1], by rw [← hV, (wrName_no hm).2]; try omega, ?_, ?_⟩
              · simp only [List.length_append, List.length_cons]; omega
              · rw [List.length_append, hu]; rfl
              · omega
            · try dsimp only
              simp
          · skip
            refine AOps.nil ?_
            refine AWp.cond_f rfl ?_
            refine AWp.skip ?_
            refine AWp.seq ?_
            refine AWp.region ?_
            have hput : w.put l ls = ⟨w.b ++ (byte (l.length : Int) :: l), w.m⟩ := by simp only [Wr.put, if_neg h7_5]
            refine AOps.cons rfl rfl (q_move) ?_
            refine AOps.cons rfl rfl (q_ixs) ?_
            refine AOps.cons rfl rfl (q_conv_8i) ?_
            refine AOps.cons rfl rfl (q_assign) ?_
            refine AOps.nil ?_
            refine AWp.seq ?_
            rw [lab_get hN.1]
            refine AWp.draws [⟨0, [0], [], some 60, _, none⟩,
                ⟨1, [0], [], some 61, _, none⟩,
                ⟨2, [61], [0], some 62, _, none⟩,
                ⟨3, [62], [0], some 63, _, none⟩,
                ⟨4, [63], [0], some 64, _, none⟩,
                ⟨5, [1], [], some 65, _, none⟩,
                ⟨6, [6], [], some 66, _, none⟩,
                ⟨7, [66], [], some 67, _, none⟩,
                ⟨8, [65, 67], [], some 68, _, none⟩,
                ⟨9, [64, 68], [1], some 69, _, some (1, _)⟩,
                ⟨10, [60], [0], some 70, _, none⟩,
                ⟨11, [70], [0], some 71, _, none⟩,
                ⟨12, [69, 71], [0, 1], none, _, some (0, _)⟩]
              [⟨0, [0], [], some 60, .any, none⟩,
                  ⟨1, [0], [], some 61, .any, none⟩,
                  ⟨2, [61], [0], some 62, .any, none⟩,
                  ⟨3, [62], [0], some 63, .any, none⟩,
                  ⟨4, [63], [0], some 64, .any, none⟩,
                  ⟨5, [1], [], some 65, .any, none⟩,
                  ⟨6, [6], [], some 66, .any, none⟩,
                  ⟨7, [66], [], some 67, .any, none⟩,
                  ⟨8, [65, 67], [], some 68, .any, none⟩,
                  ⟨9, [64, 68], [1], some 69, .any, some (1, .box [])⟩,
                  ⟨10, [60], [0], some 70, .any, none⟩,
                  ⟨11, [70], [0], some 71, .any, none⟩,
                  ⟨12, [69, 71], [0, 1], none, .any, some (0, .box [])⟩]
              mixed_ok rfl (by kernel_rfl) ⟨DS.ok_over fun s0 => OpAt.go rfl rfl (q_move),
                  DS.ok_over fun s0 => OpAt.go rfl rfl (q_move),
                  DS.ok_over fun s0 => OpAt.go rfl rfl (q_nil),
                  DS.ok_over fun s0 => OpAt.go rfl rfl (q_fa),
                  DS.ok_over fun s0 => OpAt.go rfl rfl (q_load),
                  DS.ok_over fun s0 => OpAt.go rfl rfl (q_move),
                  DS.ok_over fun s0 => OpAt.go rfl rfl (q_move),
                  DS.ok_over fun s0 => OpAt.go rfl rfl (q_add),
                  DS.ok_over fun s0 => OpAt.go rfl rfl (q_sls_hi),
                  DS.ok_over fun s0 => OpAt.go rfl rfl (q_app),
                  DS.ok_over fun s0 => OpAt.go rfl rfl (q_nil),
                  DS.ok_over fun s0 => OpAt.go rfl rfl (q_fa),
                  DS.ok_over fun s0 => OpAt.go rfl rfl (q_store), trivial⟩ ?_
            dsimp only [final, DS.upd, AS.seto]
            refine AWp.region ?_
            refine AOps.cons rfl rfl (q_move) ?_
            refine AOps.cons rfl rfl (q_move) ?_
            refine AOps.cons rfl rfl (q_add) ?_
            refine AOps.cons rfl rfl (q_sls_lo) ?_
            refine AOps.cons rfl rfl (q_assign) ?_
            refine AOps.nil ?_
            rw [lab_take, lab_drop]
            refine ⟨(ls, ⟨w.b ++ (byte (l.length : Int) :: l), w.m⟩, v + 1, u), ?_, Back.mk' (HasT.cons HasT.nil) (HasH.cons (HasH.cons (HasH.cons HasH.nil))), ?_⟩
            · try dsimp only
              rw [← hput]
              refine ⟨hN2, hW.put l ls, ?_, by rw [← hE, (wrName_no hm).1], by rw [← hV, (wrName_no hm).2]; try omega, ?_, ?_⟩
              · simp only [List.length_append, List.length_cons]; omega
              · exact hu
              · omega
            · try dsimp only
              simp
    · skip
      refine AOps.nil ?_
      refine AWp.cond_f rfl ?_
      refine AWp.exit ?_
      refine AWp.region ?_
      obtain rfl : ls = [] := by
        cases ls with
        | nil => rfl
        | cons l ls' => exact absurd (by simpa using h0_1) joinN_ne
      refine AOps.cons rfl rfl (q_move) ?_
      refine AOps.cons rfl rfl (q_move) ?_
      refine AOps.cons rfl rfl (q_nil) ?_
      refine AOps.cons rfl rfl (q_fa) ?_
      refine AOps.cons rfl rfl (q_load) ?_
      refine AOps.cons rfl rfl (q_bs 1305 bc [0] [(_, _)]) ?_
      refine AOps.cons rfl rfl (q_app) ?_
      refine AOps.cons rfl rfl (q_nil) ?_
      refine AOps.cons rfl rfl (q_fa) ?_
      refine AOps.cons rfl rfl (q_store) ?_
      refine AOps.nil ?_
      show Fin te Try.f34 _ _
      subst hu
      rw [← hE, ← hV]
      refine q_retH (0) [] [] [] [(_, _), (_, _), (_, _)] ?_
      rfl

end Go.Proofs.Ytkfccjbihcbmiaa.Fw

/- Walks of layer 4: the reference's writer. -/
set_option linter.unusedVariables false
set_option linter.unusedSimpArgs false
namespace Go.Proofs.Ytkfccjbihcbmiaa.Fw
open Go.RowKit


theorem c_rnameC (n : List UInt8) (w : Wr) (v : Nat) (hn : canN n = true) (hw : WOk w) (hb : w.b.length ≤ 10000000000) (hml : w.m.length ≤ 10000000000) :
    AC Try.prog 34 [.ptr 0 0 0, str n] (hlook [(0, .box [.sl 1 v 0 w.b.length 1, .sl 2 w.m.length 0 w.m.length 2]), (1, .row (cl bc w.b) 1 v), (2, .row (cl plC w.m) 2 w.m.length)])
      (RetH (.tup []) [(0, .box [.sl 1 (v + nmC (labN n) w) 0 (wrName (labN n) w).b.length 1, .sl 2 (wrName (labN n) w).m.length 0 (wrName (labN n) w).m.length 2]), (1, .row (cl bc (wrName (labN n) w).b) 1 (v + nmC (labN n) w)), (2, .row (cl plC (wrName (labN n) w).m) 2 (wrName (labN n) w).m.length)]) := by
  have h := c_rname (labN n) w v (canN_nm hn).1 hw hb hml
  rw [(canN_nm hn).2] at h
  exact h
theorem mput_len (m : List (List UInt8 × Int)) (k : List UInt8) (v : Int) : (mput m k v).length ≤ m.length + 1 := by
  induction m with
  | nil => simp [mput]
  | cons p m ih => obtain ⟨a, b⟩ := p; simp only [mput]; split <;> simp <;> omega
theorem wrName_ml : ∀ {ls : List (List UInt8)} {w : Wr}, (wrName ls w).m.length ≤ w.m.length + ls.length
  | [], w => by simp [wrName]
  | l :: ls, w => by
    cases hm : mget w.m (joinN (l :: ls)) with
    | some a => rw [(wrName_hit hm).1]; simp
    | none =>
      rw [(wrName_no hm).1]
      have h1 := wrName_ml (ls := ls) (w := w.put l ls)
      have h2 : (w.put l ls).m.length ≤ w.m.length + 1 := by
        unfold Wr.put; dsimp only; split
        · exact mput_len _ _ _
        · omega
      simp only [List.length_cons]; omega
theorem nm_ml {n : List UInt8} (h : canN n = true) (w : Wr) : (wrName (labN n) w).m.length ≤ w.m.length + 255 := by
  have h1 := wrName_ml (ls := labN n) (w := w)
  have h2 := joinN_length (labN n)
  have h3 := (canN_nm h).1.2
  omega
theorem wrNames_ml : ∀ {L : List (List UInt8)} {w : Wr}, (∀ n ∈ L, canN n = true) → (wrNames L w).m.length ≤ w.m.length + 255 * L.length
  | [], w, _ => Nat.le_refl _
  | n :: L, w, hn => by
    have h1 := nm_ml (hn n (by simp)) w
    have h2 := wrNames_ml (L := L) (w := wrName (labN n) w) (fun x hx => hn x (by simp [hx]))
    simp only [wrNames, List.length_cons]; omega
theorem rOk_parts {r : Rr} (hr : rOk r = true) : (((canN r.nm = true ∧ twoB [r.ty, r.cs] = true) ∧ 0 ≤ r.ttl) ∧ r.ttl < 4294967296) ∧ canS r.ty r.da = true := by simpa [rOk] using hr
theorem wrRec_len {r : Rr} {w : Wr} (hr : rOk r = true) (hw : WOk w) : w.b.length ≤ (wrRec r w).b.length ∧ (wrRec r w).m.length ≤ w.m.length + 765 := by
  obtain ⟨⟨⟨⟨r1, r2⟩, r3⟩, r4⟩, r5⟩ := rOk_parts hr
  obtain ⟨a, b, c⟩ := wrName_ok (canN_nm r1).1 hw
  have h0 : (wrNum r w).b.length = (wrName (labN r.nm) w).b.length + 10 := by rw [wrNum, List.length_append, flat_two]; rfl
  have ha : WOk (⟨(wrNum r w).b ++ preD r.ty r.da, (wrNum r w).m⟩ : Wr) := a
  obtain ⟨d, e, f⟩ := wrNames_ok (data_ok r5).2.2.1 ha
  have g := wrNames_ml (w := ⟨(wrNum r w).b ++ preD r.ty r.da, (wrNum r w).m⟩) (data_ok r5).2.2.1
  have k := nm_ml r1 w
  have l := namS_le r.ty r.da
  constructor
  · rw [wrRec]
    show _ ≤ (setSz _ _).length
    rw [setSz_len, wrDat]
    show _ ≤ (_ ++ _ : List UInt8).length
    rw [List.length_append]
    have f2 : ((wrNum r w).b ++ preD r.ty r.da).length ≤ _ := f
    rw [List.length_append] at f2
    omega
  · have g2 : (wrRec r w).m.length ≤ (wrNum r w).m.length + 255 * (namS r.ty r.da).length := g
    have k2 : (wrNum r w).m.length ≤ w.m.length + 255 := k
    omega
theorem wrQ_ml {q : Qu} {w : Wr} (hq : canN q.nm = true) : (wrQ q w).m.length ≤ w.m.length + 255 := nm_ml hq w
theorem encR_false : ∀ (l : List Rr) (p : Wr × Bool), p.2 = false → (encR l p).2 = false
  | [], p, h => h
  | r :: l, p, h => by
    show (encR l (stepR p r)).2 = false
    rw [stepR, if_neg (by simp [h])]
    exact encR_false l p h
theorem encR_split (l : List Rr) (i : Nat) (p : Wr × Bool) : encR l p = encR (l.drop i) (encR (l.take i) p) := by
  conv => lhs; rw [← List.take_append_drop i l, encR, List.foldl_append]
  rfl
theorem two_app (x : List UInt8) (a b : Int) : x ++ two a ++ two b = x ++ [a, b].flatMap two := by simp
theorem nums_app (x : List UInt8) (r : Rr) : x ++ two r.ty ++ two r.cs ++ four r.ttl ++ [0, 0] = x ++ (rNums r).flatMap two := by
  have : two 0 = [0, 0] := by decide
  simp [rNums, four, this]

set_option maxRecDepth 20000 in
set_option maxHeartbeats 2000000 in
theorem c_rrec (r : Rr) (w0 : Wr) (v0 : Nat) (hr : rOk r = true) (hw : WOk w0) (hb : w0.b.length ≤ 1000000000) (hml : w0.m.length ≤ 1000000000) : AC Try.prog 37 [.ptr 0 0 0, .agg (rrc r)] (hlook [(0, .box [.sl 1 (v0) 0 (w0.b).length 1, .sl 2 (w0.m.length) 0 (w0.m).length 2]), (1, .row (cl bc (w0.b)) 1 (v0)), (2, .row (cl plC (w0.m)) 2 (w0.m.length))]) (RetH (tf (wrOk r w0)) [(0, .box [.sl 1 (v0 + recC2 r w0) 0 ((wrRec r w0).b).length 1, .sl 2 ((wrRec r w0).m.length) 0 ((wrRec r w0).m).length 2]), (1, .row (cl bc ((wrRec r w0).b)) 1 (v0 + recC2 r w0)), (2, .row (cl plC ((wrRec r w0).m)) 2 ((wrRec r w0).m.length))]) := by
  obtain ⟨⟨⟨⟨r1, r2⟩, r3⟩, r4⟩, r5⟩ := rOk_parts hr
  obtain ⟨d1, d2, d3, d4⟩ := data_ok r5
  obtain ⟨c1, c2, c3⟩ := wrName_ok (canN_nm r1).1 hw
  have c4 := (canN_nm r1).1.2
  have c5 := nm_ml r1 w0
  have d5 := namS_le r.ty r.da
  obtain ⟨w1, hw1⟩ : ∃ w, w = wrName (labN r.nm) w0 := ⟨_, rfl⟩
  have hwn : wrNum r w0 = ⟨w1.b ++ (rNums r).flatMap two, w1.m⟩ := by rw [hw1]; rfl
  rw [← hw1] at c1 c2 c3 c5
  refine AC.intro te_ok (fn := Try.f37) ⟨Try.func37, rfl, rfl⟩ (Nat.le_of_ble_eq_true rfl) ?_
  refine AWp.seq ?_
  refine AWp.region ?_
  refine AOps.cons rfl rfl (q_box 100) ?_
  refine AOps.cons rfl rfl (q_assign) ?_
  refine AOps.nil ?_
  refine AWp.seq ?_
  refine AWp.region ?_
  refine AOps.cons rfl rfl (q_move) ?_
  refine AOps.cons rfl rfl (q_fa) ?_
  refine AOps.cons rfl rfl (q_load) ?_
  refine AOps.cons rfl rfl (q_callB (0) [(0, 0), (1, 1), (2, 2)] [] [(_, _), (_, _), (_, _)] (hc := (c_rnameC r.nm w0 v0 r1 hw (by omega) (by omega)))) ?_
  refine AOps.nil ?_
  refine AWp.seq ?_
  rw [← hw1]
  refine AWp.draws [⟨0, [0], [], some 14, _, none⟩,
      ⟨1, [0], [], some 15, _, none⟩,
      ⟨2, [15], [0], some 16, _, none⟩,
      ⟨3, [16], [0], some 17, _, none⟩,
      ⟨4, [17], [0], some 18, _, none⟩,
      ⟨5, [3], [100], some 19, _, none⟩,
      ⟨6, [19], [100], some 20, _, none⟩,
      ⟨7, [20], [], some 21, _, none⟩,
      ⟨8, [18, 21], [1], some 22, _, some (1, _)⟩,
      ⟨9, [3], [100], some 23, _, none⟩,
      ⟨10, [23], [100], some 24, _, none⟩,
      ⟨11, [24], [], some 25, _, none⟩,
      ⟨12, [22, 25], [1], some 26, _, some (1, _)⟩,
      ⟨13, [3], [100], some 27, _, none⟩,
      ⟨14, [27], [100], some 28, _, none⟩,
      ⟨15, [28], [], some 29, _, none⟩,
      ⟨16, [26, 29], [1], some 30, _, some (1, _)⟩,
      ⟨17, [14], [0], some 31, _, none⟩,
      ⟨18, [31], [0], some 32, _, none⟩,
      ⟨19, [30, 32], [0, 1], none, _, some (0, _)⟩]
    [⟨0, [0], [], some 14, .any, none⟩,
        ⟨1, [0], [], some 15, .any, none⟩,
        ⟨2, [15], [0], some 16, .any, none⟩,
        ⟨3, [16], [0], some 17, .any, none⟩,
        ⟨4, [17], [0], some 18, .any, none⟩,
        ⟨5, [3], [100], some 19, .any, none⟩,
        ⟨6, [19], [100], some 20, .any, none⟩,
        ⟨7, [20], [], some 21, .any, none⟩,
        ⟨8, [18, 21], [1], some 22, .any, some (1, .box [])⟩,
        ⟨9, [3], [100], some 23, .any, none⟩,
        ⟨10, [23], [100], some 24, .any, none⟩,
        ⟨11, [24], [], some 25, .any, none⟩,
        ⟨12, [22, 25], [1], some 26, .any, some (1, .box [])⟩,
        ⟨13, [3], [100], some 27, .any, none⟩,
        ⟨14, [27], [100], some 28, .any, none⟩,
        ⟨15, [28], [], some 29, .any, none⟩,
        ⟨16, [26, 29], [1], some 30, .any, some (1, .box [])⟩,
        ⟨17, [14], [0], some 31, .any, none⟩,
        ⟨18, [31], [0], some 32, .any, none⟩,
        ⟨19, [30, 32], [0, 1], none, .any, some (0, .box [])⟩]
    mixed_ok rfl (by kernel_rfl) ⟨DS.ok_over fun s0 => OpAt.go rfl rfl (q_move),
        DS.ok_over fun s0 => OpAt.go rfl rfl (q_move),
        DS.ok_over fun s0 => OpAt.go rfl rfl (q_nil),
        DS.ok_over fun s0 => OpAt.go rfl rfl (q_fa),
        DS.ok_over fun s0 => OpAt.go rfl rfl (q_load),
        DS.ok_over fun s0 => OpAt.go rfl rfl (q_fa),
        DS.ok_over fun s0 => OpAt.go rfl rfl (q_load),
        DS.ok_over fun s0 => OpAt.go rfl rfl (q_call (0) (hc := (c_two r.ty))),
        DS.ok_over fun s0 => OpAt.go rfl rfl (q_app (hb := by rw [show ∀ n, (two n).length = 2 from fun _ => rfl]; simp; omega)),
        DS.ok_over fun s0 => OpAt.go rfl rfl (q_fa),
        DS.ok_over fun s0 => OpAt.go rfl rfl (q_load),
        DS.ok_over fun s0 => OpAt.go rfl rfl (q_call (0) (hc := (c_two r.cs))),
        DS.ok_over fun s0 => OpAt.go rfl rfl (q_app (hb := by rw [List.length_append, show ∀ n, (two n).length = 2 from fun _ => rfl, show ∀ n, (two n).length = 2 from fun _ => rfl]; simp; omega)),
        DS.ok_over fun s0 => OpAt.go rfl rfl (q_fa),
        DS.ok_over fun s0 => OpAt.go rfl rfl (q_load),
        DS.ok_over fun s0 => OpAt.go rfl rfl (q_call (0) (hc := (c_ciceroneref04_four r.ttl ⟨r3, by omega⟩))),
        DS.ok_over fun s0 => OpAt.go rfl rfl (q_app (hb := by rw [List.length_append, List.length_append, show ∀ n, (two n).length = 2 from fun _ => rfl, show ∀ n, (two n).length = 2 from fun _ => rfl, show ∀ n, (four n).length = 4 from fun _ => rfl]; simp; omega)),
        DS.ok_over fun s0 => OpAt.go rfl rfl (q_nil),
        DS.ok_over fun s0 => OpAt.go rfl rfl (q_fa),
        DS.ok_over fun s0 => OpAt.go rfl rfl (q_store), trivial⟩ ?_
  dsimp only [final, DS.upd, AS.seto]
  refine AWp.seq ?_
  refine AWp.region ?_
  obtain ⟨B0, hB0⟩ : ∃ b, b = w1.b ++ two r.ty ++ two r.cs ++ four r.ttl := ⟨_, rfl⟩
  rw [← hB0]
  have hB0l : B0.length = w1.b.length + 8 := by rw [hB0, List.length_append, List.length_append, List.length_append]; rfl
  refine AOps.cons rfl rfl (q_move) ?_
  refine AOps.cons rfl rfl (q_nil) ?_
  refine AOps.cons rfl rfl (q_fa) ?_
  refine AOps.cons rfl rfl (q_load) ?_
  refine AOps.cons rfl rfl (q_len) ?_
  refine AOps.cons rfl rfl (q_assign) ?_
  refine AOps.nil ?_
  refine AWp.seq ?_
  refine AWp.region ?_
  refine AOps.cons rfl rfl (q_move) ?_
  refine AOps.cons rfl rfl (q_move) ?_
  refine AOps.cons rfl rfl (q_nil) ?_
  refine AOps.cons rfl rfl (q_fa) ?_
  refine AOps.cons rfl rfl (q_load) ?_
  refine AOps.cons rfl rfl (q_bs 505 bc [0, 0] [(_, _), (_, _)]) ?_
  refine AOps.cons rfl rfl (q_app) ?_
  refine AOps.cons rfl rfl (q_nil) ?_
  refine AOps.cons rfl rfl (q_fa) ?_
  refine AOps.cons rfl rfl (q_store) ?_
  refine AOps.nil ?_
  refine AWp.seq ?_
  refine AWp.region ?_
  obtain ⟨B1, hB1⟩ : ∃ b, b = B0 ++ [0, 0] := ⟨_, rfl⟩
  rw [← hB1]
  have hB1w : w1.b ++ (rNums r).flatMap two = B1 := by rw [hB1, hB0, nums_app]
  rw [hB1w] at hwn
  have hBl : B1.length = B0.length + 2 := by rw [hB1, List.length_append]; rfl
  have hp : r.ty = 15 → preD r.ty r.da = r.da.take 2 ∧ (preD r.ty r.da).length = 2 := fun e => by rw [preD, if_pos e]; exact ⟨rfl, by rw [List.length_take]; have := d2 e; omega⟩
  have hq : r.ty ≠ 15 → preD r.ty r.da = [] := fun e => by rw [preD, if_neg e]
  have hd4 : (preD r.ty r.da).length + (namS r.ty r.da).flatten.length ≤ r.da.length := by have := d4.length_le; rw [List.length_append] at this; exact this
  refine AOps.cons rfl rfl (q_fa) ?_
  refine AOps.cons rfl rfl (q_load) ?_
  refine AOps.cons rfl rfl (q_assign) ?_
  refine AOps.nil ?_
  refine AWp.cutR (α := List UInt8 × List UInt8 × Nat) [6, 49, 50, 51, 52, 53, 54, 55, 56, 57, 58, 59, 60, 61, 62, 63] (fun x_ => [(6, .fz 0 (x_.2.1).length (cl bc (x_.2.1)))]) (fun x_ => [(0, .box [.sl 1 (x_.2.2) 0 (x_.1).length 1, .sl 2 w1.m.length 0 w1.m.length 2]), (1, .row (cl bc (x_.1)) 1 (x_.2.2))]) (fun x_ => (x_.1) = B1 ++ preD r.ty r.da ∧ (x_.2.1) = r.da.drop (preD r.ty r.da).length ∧ (x_.2.2) = v0 + nmC (labN r.nm) w0 + 4 + (if r.ty = 15 then 1 else 0)) ?_ ?_
  · skip
    refine AWp.seq ?_
    refine AWp.region ?_
    refine AOps.cons rfl rfl (q_fa) ?_
    refine AOps.cons rfl rfl (q_load) ?_
    refine AOps.dec rfl rfl (q_eql) (fun h6_2 => ?_) (fun h6_2 => ?_)
    · skip
      refine AOps.nil ?_
      refine AWp.cond_t rfl ?_
      refine AWp.seq ?_
      refine AWp.draws [⟨0, [0], [], some 52, _, none⟩,
          ⟨1, [0], [], some 53, _, none⟩,
          ⟨2, [53], [0], some 54, _, none⟩,
          ⟨3, [54], [0], some 55, _, none⟩,
          ⟨4, [55], [0], some 56, _, none⟩,
          ⟨5, [6], [], some 57, _, none⟩,
          ⟨6, [57], [], some 58, _, none⟩,
          ⟨7, [56, 58], [1], some 59, _, some (1, _)⟩,
          ⟨8, [52], [0], some 60, _, none⟩,
          ⟨9, [60], [0], some 61, _, none⟩,
          ⟨10, [59, 61], [0, 1], none, _, some (0, _)⟩]
        [⟨0, [0], [], some 52, .any, none⟩,
            ⟨1, [0], [], some 53, .any, none⟩,
            ⟨2, [53], [0], some 54, .any, none⟩,
            ⟨3, [54], [0], some 55, .any, none⟩,
            ⟨4, [55], [0], some 56, .any, none⟩,
            ⟨5, [6], [], some 57, .any, none⟩,
            ⟨6, [57], [], some 58, .any, none⟩,
            ⟨7, [56, 58], [1], some 59, .any, some (1, .box [])⟩,
            ⟨8, [52], [0], some 60, .any, none⟩,
            ⟨9, [60], [0], some 61, .any, none⟩,
            ⟨10, [59, 61], [0, 1], none, .any, some (0, .box [])⟩]
        mixed_ok rfl (by kernel_rfl) ⟨DS.ok_over fun s0 => OpAt.go rfl rfl (q_move),
            DS.ok_over fun s0 => OpAt.go rfl rfl (q_move),
            DS.ok_over fun s0 => OpAt.go rfl rfl (q_nil),
            DS.ok_over fun s0 => OpAt.go rfl rfl (q_fa),
            DS.ok_over fun s0 => OpAt.go rfl rfl (q_load),
            DS.ok_over fun s0 => OpAt.go rfl rfl (q_move),
            DS.ok_over fun s0 => OpAt.go rfl rfl (q_sl),
            DS.ok_over fun s0 => OpAt.go rfl rfl (q_app),
            DS.ok_over fun s0 => OpAt.go rfl rfl (q_nil),
            DS.ok_over fun s0 => OpAt.go rfl rfl (q_fa),
            DS.ok_over fun s0 => OpAt.go rfl rfl (q_store), trivial⟩ ?_
      dsimp only [final, DS.upd, AS.seto]
      refine AWp.region ?_
      refine AOps.cons rfl rfl (q_move) ?_
      refine AOps.cons rfl rfl (q_sl) ?_
      refine AOps.cons rfl rfl (q_assign) ?_
      refine AOps.nil ?_
      refine ⟨(B1 ++ r.da.take 2, r.da.drop 2, v0 + nmC (labN r.nm) w0 + 4 + 1), ?_, Back.mk' (HasT.cons HasT.nil) (HasH.cons (HasH.cons HasH.nil))⟩
      try dsimp only
      exact ⟨by rw [(hp h6_2).1], by rw [(hp h6_2).2], by rw [if_pos h6_2]⟩
    · skip
      refine AOps.nil ?_
      refine AWp.cond_f rfl ?_
      refine AWp.skip ?_
      refine ⟨(B1, r.da, v0 + nmC (labN r.nm) w0 + 4), ?_, Back.mk' (HasT.cons HasT.nil) (HasH.cons (HasH.cons HasH.nil))⟩
      try dsimp only
      exact ⟨by rw [hq h6_2]; simp, by rw [hq h6_2]; simp, by rw [if_neg h6_2]⟩
  · rintro ⟨b2, D, v2⟩ hC9
    change b2 = B1 ++ preD r.ty r.da ∧ D = r.da.drop (preD r.ty r.da).length ∧ v2 = v0 + nmC (labN r.nm) w0 + 4 + (if r.ty = 15 then 1 else 0) at hC9
    obtain ⟨hb2, hD2, hv2⟩ := hC9
    refine AWp.as (s' := AS.over _ [6, 49, 50, 51, 52, 53, 54, 55, 56, 57, 58, 59, 60, 61, 62, 63] [(6, .fz 0 D.length (cl bc D))] [(0, .box [.sl 1 v2 0 b2.length 1, .sl 2 w1.m.length 0 w1.m.length 2]), (1, .row (cl bc b2) 1 v2)]) rfl ?_
    refine AWp.seq ?_
    refine AWp.seq ?_
    refine AWp.region ?_
    refine AOps.cons rfl rfl (q_fa) ?_
    refine AOps.cons rfl rfl (q_load) ?_
    refine AOps.cons rfl rfl (q_fa) ?_
    refine AOps.cons rfl rfl (q_load) ?_
    refine AOps.cons rfl rfl (q_call (0) (hc := (c_ciceroneref03_Names r.ty r.da 0 (by omega)))) ?_
    refine AOps.cons rfl rfl (q_len) ?_
    refine AOps.cons rfl rfl (q_move) ?_
    refine AOps.nil ?_
    refine AWp.block ?_
    refine AWp.loopR (α := Nat × Wr × Nat × List UInt8) [6, 8, 70, 71, 72, 73, 74, 75, 76, 77, 78, 79, 80, 81] (fun x_ => [(70, i64 (x_.1)), (6, .fz 0 (x_.2.2.2).length (cl bc (x_.2.2.2)))]) (fun x_ => [(0, .box [.sl 1 ((x_.2.2.1)) 0 ((x_.2.1).b).length 1, .sl 2 ((x_.2.1).m.length) 0 ((x_.2.1).m).length 2]), (1, .row (cl bc ((x_.2.1).b)) 1 ((x_.2.2.1))), (2, .row (cl plC ((x_.2.1).m)) 2 ((x_.2.1).m.length))]) (fun x_ => (x_.1) ≤ (namS r.ty r.da).length ∧ (x_.2.1) = wrNames ((namS r.ty r.da).take (x_.1)) ⟨b2, w1.m⟩ ∧ (x_.2.2.1) = v2 + nmsC ((namS r.ty r.da).take (x_.1)) ⟨b2, w1.m⟩ ∧ (x_.2.2.2) = r.da.drop ((preD r.ty r.da).length + ((namS r.ty r.da).take (x_.1)).flatten.length) ∧ WOk (x_.2.1) ∧ (x_.2.1).b.length ≤ b2.length + 255 * (x_.1) ∧ b2.length ≤ (x_.2.1).b.length ∧ (x_.2.1).m.length ≤ w1.m.length + 255 * (x_.1)) (fun x_ => (namS r.ty r.da).length - (x_.1)) (0, ⟨b2, w1.m⟩, v2, D) ?_ (Back.mk' (HasT.cons (HasT.cons HasT.nil)) (HasH.cons (HasH.cons (HasH.cons HasH.nil)))) ?_
    · exact ⟨Nat.zero_le _, rfl, rfl, hD2, c1, Nat.le_refl _, Nat.le_refl _, Nat.le_refl _⟩
    · rintro ⟨i, w, v, D⟩ hI10
      change i ≤ (namS r.ty r.da).length ∧ w = wrNames ((namS r.ty r.da).take i) ⟨b2, w1.m⟩ ∧ v = v2 + nmsC ((namS r.ty r.da).take i) ⟨b2, w1.m⟩ ∧ D = r.da.drop ((preD r.ty r.da).length + ((namS r.ty r.da).take i).flatten.length) ∧ WOk w ∧ w.b.length ≤ b2.length + 255 * i ∧ b2.length ≤ w.b.length ∧ w.m.length ≤ w1.m.length + 255 * i at hI10
      obtain ⟨hi, hw, hv, hD, hW, hB, hB2, hM⟩ := hI10
      refine AWp.as (s' := AS.over _ [6, 8, 70, 71, 72, 73, 74, 75, 76, 77, 78, 79, 80, 81] [(70, i64 i), (6, .fz 0 D.length (cl bc D))] [(0, .box [.sl 1 (v) 0 (w.b).length 1, .sl 2 (w.m.length) 0 (w.m).length 2]), (1, .row (cl bc (w.b)) 1 (v)), (2, .row (cl plC (w.m)) 2 (w.m.length))]) rfl ?_
      have hDl := congrArg List.length hD
      rw [List.length_drop] at hDl
      have hbl := congrArg List.length hb2
      rw [List.length_append] at hbl
      refine AWp.seq ?_
      refine AWp.region ?_
      refine AOps.dec rfl rfl (q_lss) (fun h10_0 => ?_) (fun h10_0 => ?_)
      · skip
        refine AOps.nil ?_
        refine AWp.seq ?_
        refine AWp.cond_t rfl ?_
        refine AWp.skip ?_
        refine AWp.seq ?_
        refine AWp.block ?_
        refine AWp.seq ?_
        refine AWp.region ?_
        have hmem : (namS r.ty r.da).getD i default ∈ namS r.ty r.da := getD_mem (by omega)
        have hst := wrNames_step (L := namS r.ty r.da) (i := i) (by omega) ⟨b2, w1.m⟩
        have hfs := flat_step (L := namS r.ty r.da) (i := i) (by omega)
        obtain ⟨k1, k2, k3⟩ := wrName_ok (canN_nm (d3 _ hmem)).1 hW
        have k4 := (canN_nm (d3 _ hmem)).1.2
        have k6 := nm_ml (d3 _ hmem) w
        have k5 := flatten_take_le (namS r.ty r.da) (i + 1)
        have hgl : ((namS r.ty r.da)[i]?.getD default).length = ((namS r.ty r.da).getD i default).length := by rw [← List.getD_eq_getElem?_getD]
        have hgt : ((namS r.ty r.da).getD (i : Int).toNat default).length = ((namS r.ty r.da).getD i default).length := rfl
        refine AOps.cons rfl rfl (q_ix) ?_
        refine AOps.cons rfl rfl (q_load) ?_
        refine AOps.cons rfl rfl (q_assign) ?_
        refine AOps.nil ?_
        refine AWp.seq ?_
        refine AWp.region ?_
        refine AOps.cons rfl rfl (q_move) ?_
        refine AOps.cons rfl rfl (q_move) ?_
        refine AOps.cons rfl rfl (q_callB (0) [(0, 0), (1, 1), (2, 2)] [] [(_, _), (_, _), (_, _)] (hc := (c_rnameC ((namS r.ty r.da).getD i default) w v (d3 _ hmem) hW (by omega) (by omega)))) ?_
        refine AOps.nil ?_
        refine AWp.region ?_
        refine AOps.cons rfl rfl (q_move) ?_
        refine AOps.cons rfl rfl (q_move) ?_
        refine AOps.cons rfl rfl (q_len_str) ?_
        refine AOps.cons rfl rfl (q_sl) ?_
        refine AOps.cons rfl rfl (q_assign) ?_
        refine AOps.nil ?_
        refine AWp.region ?_
        refine AOps.cons rfl rfl (q_add) ?_
        refine AOps.cons rfl rfl (q_move) ?_
        refine AOps.nil ?_
        refine ⟨(i + 1, wrName (labN ((namS r.ty r.da).getD i default)) w, v + nmC (labN ((namS r.ty r.da).getD i default)) w, D.drop ((namS r.ty r.da).getD i default).length), ?_, Back.mk' (HasT.cons (HasT.cons HasT.nil)) (HasH.cons (HasH.cons (HasH.cons HasH.nil))), ?_⟩
        · try dsimp only
          exact ⟨by omega, by rw [hst.1, hw], by rw [hst.2, hv, hw]; omega, by rw [hfs, hD, List.drop_drop]; congr 1; omega, k1, by omega, by omega, by omega⟩
        · try dsimp only
          first | omega | (simp; omega)
      · skip
        refine AOps.nil ?_
        refine AWp.seq ?_
        refine AWp.cond_f rfl ?_
        refine AWp.exit ?_
        refine AWp.seq ?_
        refine AWp.region ?_
        obtain rfl : i = (namS r.ty r.da).length := by omega
        rw [List.take_length] at hv hD hw hDl
        have hwd : wrDat r (wrNum r w0) = ⟨w.b ++ D, w.m⟩ := by
          rw [hwn, wrDat]
          show Wr.mk ((wrNames (namS r.ty r.da) ⟨B1 ++ preD r.ty r.da, w1.m⟩).b ++ r.da.drop (dN r)) (wrNames (namS r.ty r.da) ⟨B1 ++ preD r.ty r.da, w1.m⟩).m = _
          rw [← hb2, ← hw, hD]; rfl
        have hr1 : (wrRec r w0).b = setSz (w.b ++ D) B1.length := by rw [wrRec, hwd, hwn]
        have hr2 : (wrRec r w0).m = w.m := by rw [wrRec, hwd]
        have hr3 : (wrRec r w0).b.length = (w.b ++ D).length := by rw [hr1, setSz_len]
        have hr4 : v0 + recC2 r w0 = v + 1 := by
          rw [recC2, hwn, hv, hv2]
          show v0 + (_ + 4 + _ + nmsC (namS r.ty r.da) ⟨B1 ++ preD r.ty r.da, w1.m⟩ + 1) = _
          rw [← hb2]; omega
        have hr5 : wrOk r w0 = decide (((w.b ++ D).length : Int) - B0.length - 2 ≤ 65535) := by rw [wrOk, hwd, hwn]; exact decide_eq_decide.2 (by show ((w.b ++ D).length : Int) - (B1.length : Int) < 65536 ↔ _; omega)
        refine AOps.cons rfl rfl (q_move) ?_
        refine AOps.cons rfl rfl (q_move) ?_
        refine AOps.cons rfl rfl (q_nil) ?_
        refine AOps.cons rfl rfl (q_fa) ?_
        refine AOps.cons rfl rfl (q_load) ?_
        refine AOps.cons rfl rfl (q_move) ?_
        refine AOps.cons rfl rfl (q_app) ?_
        refine AOps.cons rfl rfl (q_nil) ?_
        refine AOps.cons rfl rfl (q_fa) ?_
        refine AOps.cons rfl rfl (q_store) ?_
        refine AOps.nil ?_
        refine AWp.seq ?_
        refine AWp.region ?_
        refine AOps.cons rfl rfl (q_move) ?_
        refine AOps.cons rfl rfl (q_nil) ?_
        refine AOps.cons rfl rfl (q_fa) ?_
        refine AOps.cons rfl rfl (q_load) ?_
        refine AOps.cons rfl rfl (q_len) ?_
        refine AOps.cons rfl rfl (q_move) ?_
        refine AOps.cons rfl rfl (q_sub) ?_
        refine AOps.cons rfl rfl (q_sub) ?_
        refine AOps.cons rfl rfl (q_assign) ?_
        refine AOps.nil ?_
        refine AWp.seq ?_
        refine AWp.draws [⟨0, [0], [], some 99, _, none⟩,
            ⟨1, [99], [0], some 100, _, none⟩,
            ⟨2, [100], [0], some 101, _, none⟩,
            ⟨3, [101], [0], some 102, _, none⟩,
            ⟨4, [5], [], some 103, _, none⟩,
            ⟨5, [0], [], some 104, _, none⟩,
            ⟨6, [104], [0], some 105, _, none⟩,
            ⟨7, [105], [0], some 106, _, none⟩,
            ⟨8, [106], [0], some 107, _, none⟩,
            ⟨9, [5], [], some 108, _, none⟩,
            ⟨10, [108], [], some 109, _, none⟩,
            ⟨11, [9], [], some 110, _, none⟩,
            ⟨12, [110], [], some 111, _, none⟩,
            ⟨13, [111], [], some 112, _, none⟩,
            ⟨14, [9], [], some 113, _, none⟩,
            ⟨15, [113], [], some 114, _, none⟩,
            ⟨16, [102, 103], [1], some 115, _, none⟩,
            ⟨17, [112, 115], [1], none, _, some (1, _)⟩,
            ⟨18, [107, 109], [1], some 116, _, none⟩,
            ⟨19, [114, 116], [1], none, _, some (1, _)⟩]
          [⟨0, [0], [], some 99, .any, none⟩,
              ⟨1, [99], [0], some 100, .any, none⟩,
              ⟨2, [100], [0], some 101, .any, none⟩,
              ⟨3, [101], [0], some 102, .any, none⟩,
              ⟨4, [5], [], some 103, .any, none⟩,
              ⟨5, [0], [], some 104, .any, none⟩,
              ⟨6, [104], [0], some 105, .any, none⟩,
              ⟨7, [105], [0], some 106, .any, none⟩,
              ⟨8, [106], [0], some 107, .any, none⟩,
              ⟨9, [5], [], some 108, .any, none⟩,
              ⟨10, [108], [], some 109, .any, none⟩,
              ⟨11, [9], [], some 110, .any, none⟩,
              ⟨12, [110], [], some 111, .any, none⟩,
              ⟨13, [111], [], some 112, .any, none⟩,
              ⟨14, [9], [], some 113, .any, none⟩,
              ⟨15, [113], [], some 114, .any, none⟩,
              ⟨16, [102, 103], [1], some 115, .any, none⟩,
              ⟨17, [112, 115], [1], none, .any, some (1, .box [])⟩,
              ⟨18, [107, 109], [1], some 116, .any, none⟩,
              ⟨19, [114, 116], [1], none, .any, some (1, .box [])⟩]
          mixed_ok rfl (by kernel_rfl) ⟨DS.ok_over fun s0 => OpAt.go rfl rfl (q_move),
              DS.ok_over fun s0 => OpAt.go rfl rfl (q_nil),
              DS.ok_over fun s0 => OpAt.go rfl rfl (q_fa),
              DS.ok_over fun s0 => OpAt.go rfl rfl (q_load),
              DS.ok_over fun s0 => OpAt.go rfl rfl (q_move),
              DS.ok_over fun s0 => OpAt.go rfl rfl (q_move),
              DS.ok_over fun s0 => OpAt.go rfl rfl (q_nil),
              DS.ok_over fun s0 => OpAt.go rfl rfl (q_fa),
              DS.ok_over fun s0 => OpAt.go rfl rfl (q_load),
              DS.ok_over fun s0 => OpAt.go rfl rfl (q_move),
              DS.ok_over fun s0 => OpAt.go rfl rfl (q_add),
              DS.ok_over fun s0 => OpAt.go rfl rfl (q_move),
              DS.ok_over fun s0 => OpAt.go rfl rfl (q_shr 8),
              DS.ok_over fun s0 => OpAt.go rfl rfl (q_conv_u8),
              DS.ok_over fun s0 => OpAt.go rfl rfl (q_move),
              DS.ok_over fun s0 => OpAt.go rfl rfl (q_conv_u8),
              DS.ok_over fun s0 => OpAt.go rfl rfl (q_ix),
              DS.ok_over fun s0 => OpAt.go rfl rfl (q_store),
              DS.ok_over fun s0 => OpAt.go rfl rfl (q_ix),
              DS.ok_over fun s0 => OpAt.go rfl rfl (q_store), trivial⟩ ?_
        dsimp only [final, DS.upd, AS.seto]
        refine AWp.seq ?_
        refine AWp.region ?_
        refine AOps.cons rfl rfl (q_move) ?_
        refine AOps.cons rfl rfl (q_leq) ?_
        refine AOps.cons rfl rfl (q_assign) ?_
        refine AOps.nil ?_
        refine AWp.ret ?_
        show Fin te Try.f37 _ _
        rw [setSz_at hBl, hr3, hr1, hr2, hr4, hr5]
        refine q_retH (0) [] [_] [_] [(_, _), (_, _), (_, _)] ?_
        rfl


theorem enc_bad {m : Msg} {i : Nat} (h : canM m = true) (hb : (encR (m.rrs.take i) (encQ m.qs (hdW m), decide (((encQ m.qs (hdW m)).b.length : Int) ≤ 65535))).2 = false) : encB m = [] ∧ encE m = 42 := by
  have : (encW m).2 = false := by rw [encW, encR_split _ i]; exact encR_false _ _ hb
  rw [encB, encE, if_pos h, if_pos h, if_neg (by simp [this]), if_neg (by simp [this])]; exact ⟨rfl, rfl⟩
theorem step_bad {m : Msg} {i : Nat} {w : Wr} (hI : (i = 0 ∧ w = encQ m.qs (hdW m)) ∨ (encR (m.rrs.take i) (encQ m.qs (hdW m), decide (((encQ m.qs (hdW m)).b.length : Int) ≤ 65535)) = (w, true) ∧ w.b.length ≤ 65535)) (hi : i < m.rrs.length)
    (hb : wrOk (m.rrs.getD i default) w = false ∨ 65535 < ((wrRec (m.rrs.getD i default) w).b.length : Int)) : (encR (m.rrs.take (i + 1)) (encQ m.qs (hdW m), decide (((encQ m.qs (hdW m)).b.length : Int) ≤ 65535))).2 = false := by
  have h1 : (encR (m.rrs.take i) (encQ m.qs (hdW m), decide (((encQ m.qs (hdW m)).b.length : Int) ≤ 65535))).1 = w := by
    rcases hI with ⟨rfl, rfl⟩ | ⟨e, _⟩
    · rfl
    · rw [e]
  rw [encR_step hi, stepR]
  split
  · show (wrOk _ _ && decide _) = false
    rw [h1]
    rcases hb with h | h
    · rw [h]; rfl
    · rw [decide_eq_false (by omega), Bool.and_false]
  · rename_i h; simpa using h
theorem enc_good {m : Msg} {w : Wr} (h : canM m = true) (hb : encR m.rrs (encQ m.qs (hdW m), decide (((encQ m.qs (hdW m)).b.length : Int) ≤ 65535)) = (w, true)) : encB m = w.b ∧ encE m = 0 := by
  have : encW m = (w, true) := hb
  rw [encB, encE, if_pos h, if_pos h, this]; exact ⟨rfl, rfl⟩

set_option maxRecDepth 20000 in
set_option maxHeartbeats 2000000 in
theorem c_ciceroneref04_Encode (m : Msg) (h : MsgOk m) (hn : NmOk m) : AC Try.prog 13 [.agg (msgC m)] emp (Ret (.tup [.fz 0 (encB m).length (cl bc (encB m)), i64 (encE m)])) := by
  refine AC.intro te_ok (fn := Try.f13) ⟨Try.func13, rfl, rfl⟩ (Nat.le_of_ble_eq_true rfl) ?_
  refine AWp.seq ?_
  refine AWp.region ?_
  refine AOps.cons rfl rfl (q_box 100) ?_
  refine AOps.cons rfl rfl (q_nilz (0) bc) ?_
  refine AOps.cons rfl rfl (q_assign) ?_
  refine AOps.nil ?_
  refine AWp.seq ?_
  refine AWp.seq ?_
  refine AWp.region ?_
  refine AOps.cons rfl rfl (q_load) ?_
  refine AOps.bool rfl rfl (q_call (0) (hc := (c_ciceroneref04_Can m h hn))) (fun h1_1 => ?_) (fun h1_1 => ?_)
  · skip
    refine AOps.cons rfl rfl (q_not) ?_
    refine AOps.nil ?_
    refine AWp.cond_f rfl ?_
    refine AWp.skip ?_
    refine AWp.seq ?_
    refine AWp.region ?_
    obtain ⟨p1, p2, p3⟩ := canM_parts (m := m) h1_1
    have hW0 : WOk (hdW m) := fun k a h => by cases h
    have hz := hE_iff.2 p1
    have hbl : (hdW m).b.length = 12 := by
      show (hB (toHd m.h) m.qs.length m.an.length m.au.length m.ad.length).length = 12
      rw [hB_yes p1, Hd.bytes_length]
    obtain ⟨k1, k2, k3, k4⟩ := hdO_counts p1
    have hrl : m.rrs.length ≤ 196605 := by simp only [Msg.rrs, List.length_append]; omega
    refine AOps.cons rfl rfl (q_build []) ?_
    refine AOps.cons rfl rfl (q_box 401) ?_
    refine AOps.cons rfl rfl (q_assign) ?_
    refine AOps.nil ?_
    refine AWp.seq ?_
    refine AWp.draws [⟨0, [4], [], some 15, _, none⟩,
        ⟨1, [1], [100], some 16, _, none⟩,
        ⟨2, [16], [100], some 17, _, none⟩,
        ⟨3, [1], [100], some 18, _, none⟩,
        ⟨4, [18], [], some 19, _, none⟩,
        ⟨5, [17, 19], [5058], some 20, _, some (5058, _)⟩,
        ⟨6, [20], [], some 14, _, none⟩,
        ⟨7, [14], [5058], some 21, _, none⟩,
        ⟨8, [14], [5058], some 22, _, none⟩,
        ⟨9, [15], [401], some 23, _, none⟩,
        ⟨10, [23], [401], some 24, _, none⟩,
        ⟨11, [21, 24], [401], none, _, some (401, _)⟩]
      [⟨0, [4], [], some 15, .any, none⟩,
          ⟨1, [1], [100], some 16, .any, none⟩,
          ⟨2, [16], [100], some 17, .any, none⟩,
          ⟨3, [1], [100], some 18, .any, none⟩,
          ⟨4, [18], [], some 19, .any, none⟩,
          ⟨5, [17, 19], [5058], some 20, .any, some (5058, .box [])⟩,
          ⟨6, [20], [], some 14, .any, none⟩,
          ⟨7, [14], [5058], some 21, .any, none⟩,
          ⟨8, [14], [5058], some 22, .any, none⟩,
          ⟨9, [15], [401], some 23, .any, none⟩,
          ⟨10, [23], [401], some 24, .any, none⟩,
          ⟨11, [21, 24], [401], none, .any, some (401, .box [])⟩]
      mixed_ok rfl (by kernel_rfl) ⟨DS.ok_over fun s0 => OpAt.go rfl rfl (q_move),
          DS.ok_over fun s0 => OpAt.go rfl rfl (q_fa),
          DS.ok_over fun s0 => OpAt.go rfl rfl (q_load),
          DS.ok_over fun s0 => OpAt.go rfl rfl (q_load),
          DS.ok_over fun s0 => OpAt.go rfl rfl (q_call (0) (hc := (c_ciceroneref04_counts m))),
          DS.ok_over fun s0 => OpAt.go rfl rfl (q_callB (0) [] [(8, 5058)] [(_, _)] (hc := (co_ref02_Encode (toHd m.h) m.qs.length m.an.length m.au.length m.ad.length))),
          DS.ok_over fun s0 => OpAt.go rfl rfl (q_move),
          DS.ok_over fun s0 => OpAt.go rfl rfl (q_extract),
          DS.ok_over fun s0 => OpAt.go rfl rfl (q_extract),
          DS.ok_over fun s0 => OpAt.go rfl rfl (q_nil),
          DS.ok_over fun s0 => OpAt.go rfl rfl (q_fa),
          DS.ok_over fun s0 => OpAt.go rfl rfl (q_store), trivial⟩ ?_
    dsimp only [final, DS.upd, AS.seto]
    refine AWp.seq ?_
    refine AWp.seq ?_
    refine AWp.region ?_
    refine AOps.weak (Weak.nilcell 401 9000 1 2 plC) ?_
    refine AOps.cons rfl rfl (q_fa) ?_
    refine AOps.cons rfl rfl (q_load) ?_
    refine AOps.cons rfl rfl (q_len) ?_
    refine AOps.cons rfl rfl (q_move) ?_
    refine AOps.nil ?_
    refine AWp.block ?_
    refine AWp.loopR (α := Nat × Wr × Nat × Nat) [6, 28, 29, 30, 31, 32, 33, 34, 35, 36, 37, 38, 39, 40, 41, 42, 43, 44, 45, 46, 47, 48, 49, 50, 51] (fun x_ => [(28, i64 (x_.1))]) (fun x_ => [(401, .box [.sl 5058 ((x_.2.2.1)) 0 ((x_.2.1).b).length 1, .sl 9000 ((x_.2.2.2)) 0 ((x_.2.1).m).length 2]), (5058, .row (cl bc ((x_.2.1).b)) 1 ((x_.2.2.1))), (9000, .row (cl plC ((x_.2.1).m)) 2 ((x_.2.2.2)))]) (fun x_ => (x_.1) ≤ m.qs.length ∧ (x_.2.1) = encQ (m.qs.take (x_.1)) (hdW m) ∧ WOk (x_.2.1) ∧ (x_.2.1).b.length ≤ 12 + 259 * (x_.1) ∧ (x_.2.1).m.length ≤ 255 * (x_.1) ∧ (x_.2.2.2) = (x_.2.1).m.length) (fun x_ => m.qs.length - (x_.1)) (0, hdW m, 0, 0) ?_ (Back.mk' (HasT.cons HasT.nil) (HasH.cons (HasH.cons (HasH.cons HasH.nil)))) ?_
    · exact ⟨Nat.zero_le _, rfl, hW0, by show (hdW m).b.length ≤ _; omega, Nat.le_refl _, rfl⟩
    · rintro ⟨i, w, v, u⟩ hI6
      change i ≤ m.qs.length ∧ w = encQ (m.qs.take i) (hdW m) ∧ WOk w ∧ w.b.length ≤ 12 + 259 * i ∧ w.m.length ≤ 255 * i ∧ u = w.m.length at hI6
      obtain ⟨hi, hw, hW, hB, hM, hu⟩ := hI6
      refine AWp.as (s' := AS.over _ [6, 28, 29, 30, 31, 32, 33, 34, 35, 36, 37, 38, 39, 40, 41, 42, 43, 44, 45, 46, 47, 48, 49, 50, 51] [(28, i64 i)] [(401, .box [.sl 5058 (v) 0 (w.b).length 1, .sl 9000 (u) 0 (w.m).length 2]), (5058, .row (cl bc (w.b)) 1 (v)), (9000, .row (cl plC (w.m)) 2 (u))]) rfl ?_
      subst hu
      refine AWp.seq ?_
      refine AWp.region ?_
      refine AOps.dec rfl rfl (q_lss) (fun h6_0 => ?_) (fun h6_0 => ?_)
      · skip
        refine AOps.nil ?_
        refine AWp.seq ?_
        refine AWp.cond_t rfl ?_
        refine AWp.skip ?_
        refine AWp.seq ?_
        refine AWp.block ?_
        refine AWp.seq ?_
        refine AWp.region ?_
        have hq := wrQ_ok (p2 _ (getD_mem (i := i) (by omega))) hW
        have hqm := nm_ml hq.1 w
        have hst := encQ_step (l := m.qs) (i := i) (by omega) (hdW m)
        refine AOps.cons rfl rfl (q_ix) ?_
        refine AOps.cons rfl rfl (q_load) ?_
        refine AOps.cons rfl rfl (q_alloc 802) ?_
        refine AOps.cons rfl rfl (q_store) ?_
        refine AOps.nil ?_
        refine AWp.seq ?_
        refine AWp.region ?_
        refine AOps.cons rfl rfl (q_move) ?_
        refine AOps.cons rfl rfl (q_fa) ?_
        refine AOps.cons rfl rfl (q_load) ?_
        refine AOps.cons rfl rfl (q_callB (0) [(0, 401), (1, 5058), (2, 9000)] [] [(_, _), (_, _), (_, _)] (hc := (c_rnameC (m.qs.getD i default).nm w v hq.1 hW (by omega) (by omega)))) ?_
        refine AOps.nil ?_
        refine AWp.draws [⟨0, [4], [], some 36, _, none⟩,
            ⟨1, [4], [], some 37, _, none⟩,
            ⟨2, [37], [401], some 38, _, none⟩,
            ⟨3, [38], [401], some 39, _, none⟩,
            ⟨4, [39], [401], some 40, _, none⟩,
            ⟨5, [6], [802], some 41, _, none⟩,
            ⟨6, [41], [802], some 42, _, none⟩,
            ⟨7, [42], [], some 43, _, none⟩,
            ⟨8, [40, 43], [5058], some 44, _, some (5058, _)⟩,
            ⟨9, [6], [802], some 45, _, none⟩,
            ⟨10, [45], [802], some 46, _, none⟩,
            ⟨11, [46], [], some 47, _, none⟩,
            ⟨12, [44, 47], [5058], some 48, _, some (5058, _)⟩,
            ⟨13, [36], [401], some 49, _, none⟩,
            ⟨14, [49], [401], some 50, _, none⟩,
            ⟨15, [48, 50], [401, 5058], none, _, some (401, _)⟩]
          [⟨0, [4], [], some 36, .any, none⟩,
              ⟨1, [4], [], some 37, .any, none⟩,
              ⟨2, [37], [401], some 38, .any, none⟩,
              ⟨3, [38], [401], some 39, .any, none⟩,
              ⟨4, [39], [401], some 40, .any, none⟩,
              ⟨5, [6], [802], some 41, .any, none⟩,
              ⟨6, [41], [802], some 42, .any, none⟩,
              ⟨7, [42], [], some 43, .any, none⟩,
              ⟨8, [40, 43], [5058], some 44, .any, some (5058, .box [])⟩,
              ⟨9, [6], [802], some 45, .any, none⟩,
              ⟨10, [45], [802], some 46, .any, none⟩,
              ⟨11, [46], [], some 47, .any, none⟩,
              ⟨12, [44, 47], [5058], some 48, .any, some (5058, .box [])⟩,
              ⟨13, [36], [401], some 49, .any, none⟩,
              ⟨14, [49], [401], some 50, .any, none⟩,
              ⟨15, [48, 50], [401, 5058], none, .any, some (401, .box [])⟩]
          mixed_ok rfl (by kernel_rfl) ⟨DS.ok_over fun s0 => OpAt.go rfl rfl (q_move),
              DS.ok_over fun s0 => OpAt.go rfl rfl (q_move),
              DS.ok_over fun s0 => OpAt.go rfl rfl (q_nil),
              DS.ok_over fun s0 => OpAt.go rfl rfl (q_fa),
              DS.ok_over fun s0 => OpAt.go rfl rfl (q_load),
              DS.ok_over fun s0 => OpAt.go rfl rfl (q_fa),
              DS.ok_over fun s0 => OpAt.go rfl rfl (q_load),
              DS.ok_over fun s0 => OpAt.go rfl rfl (q_call (0) (hc := (c_two (m.qs.getD i default).ty))),
              DS.ok_over fun s0 => OpAt.go rfl rfl (q_app (hb := by rw [show ∀ n, (two n).length = 2 from fun _ => rfl]; simp only [Nat.mul_one]; omega)),
              DS.ok_over fun s0 => OpAt.go rfl rfl (q_fa),
              DS.ok_over fun s0 => OpAt.go rfl rfl (q_load),
              DS.ok_over fun s0 => OpAt.go rfl rfl (q_call (0) (hc := (c_two (m.qs.getD i default).cs))),
              DS.ok_over fun s0 => OpAt.go rfl rfl (q_app (hb := by rw [List.length_append, show ∀ n, (two n).length = 2 from fun _ => rfl, show ∀ n, (two n).length = 2 from fun _ => rfl]; simp only [Nat.mul_one]; omega)),
              DS.ok_over fun s0 => OpAt.go rfl rfl (q_nil),
              DS.ok_over fun s0 => OpAt.go rfl rfl (q_fa),
              DS.ok_over fun s0 => OpAt.go rfl rfl (q_store), trivial⟩ ?_
        dsimp only [final, DS.upd, AS.seto]
        refine AWp.region ?_
        refine AOps.cons rfl rfl (q_add) ?_
        refine AOps.cons rfl rfl (q_move) ?_
        refine AOps.nil ?_
        rw [two_app]
        refine ⟨(i + 1, wrQ (m.qs.getD i default) w, v + nmC (labN (m.qs.getD i default).nm) w + 2, (wrQ (m.qs.getD i default) w).m.length), ?_, Back.mk' (HasT.cons HasT.nil) (HasH.cons (HasH.cons (HasH.cons HasH.nil))), ?_⟩
        · try dsimp only
          exact ⟨by omega, by rw [hst, hw], hq.2.2.1, by have := hq.2.2.2.2; omega, by have : (wrQ (m.qs.getD i default) w).m.length ≤ w.m.length + 255 := hqm; omega, rfl⟩
        · try dsimp only
          first | omega | (simp; omega)
      · skip
        refine AOps.nil ?_
        refine AWp.seq ?_
        refine AWp.cond_f rfl ?_
        refine AWp.exit ?_
        refine AWp.seq ?_
        refine AWp.seq ?_
        refine AWp.region ?_
        obtain rfl : i = m.qs.length := by omega
        rw [List.take_length] at hw
        refine AOps.cons rfl rfl (q_load) ?_
        refine AOps.cons rfl rfl (q_call (0) (hc := (c_ciceroneref04_all m h p1))) ?_
        refine AOps.cons rfl rfl (q_len) ?_
        refine AOps.cons rfl rfl (q_move) ?_
        refine AOps.nil ?_
        refine AWp.block ?_
        refine AWp.loopR (α := Nat × Wr × Nat × Nat) [2, 3, 8, 55, 56, 57, 58, 59, 60, 61, 62, 63, 64, 65, 66, 67, 68, 69, 70, 71] (fun x_ => [(55, i64 (x_.1))]) (fun x_ => [(401, .box [.sl 5058 ((x_.2.2.1)) 0 ((x_.2.1).b).length 1, .sl 9000 ((x_.2.2.2)) 0 ((x_.2.1).m).length 2]), (5058, .row (cl bc ((x_.2.1).b)) 1 ((x_.2.2.1))), (9000, .row (cl plC ((x_.2.1).m)) 2 ((x_.2.2.2)))]) (fun x_ => (x_.1) ≤ m.rrs.length ∧ WOk (x_.2.1) ∧ (x_.2.1).m.length ≤ 255 * m.qs.length + 765 * (x_.1) ∧ (x_.2.2.2) = (x_.2.1).m.length ∧ (x_.2.1).b.length ≤ 20000000 ∧ (((x_.1) = 0 ∧ (x_.2.1) = encQ m.qs (hdW m)) ∨ (encR (m.rrs.take (x_.1)) (encQ m.qs (hdW m), decide (((encQ m.qs (hdW m)).b.length : Int) ≤ 65535)) = ((x_.2.1), true) ∧ (x_.2.1).b.length ≤ 65535))) (fun x_ => m.rrs.length - (x_.1)) (0, w, v, w.m.length) ?_ (Back.mk' (HasT.cons HasT.nil) (HasH.cons (HasH.cons (HasH.cons HasH.nil)))) ?_
        · exact ⟨Nat.zero_le _, hW, by show w.m.length ≤ _; omega, rfl, by show w.b.length ≤ _; omega, .inl ⟨rfl, hw⟩⟩
        · rintro ⟨i, w, v, u⟩ hI12
          change i ≤ m.rrs.length ∧ WOk w ∧ w.m.length ≤ 255 * m.qs.length + 765 * i ∧ u = w.m.length ∧ w.b.length ≤ 20000000 ∧ ((i = 0 ∧ w = encQ m.qs (hdW m)) ∨ (encR (m.rrs.take i) (encQ m.qs (hdW m), decide (((encQ m.qs (hdW m)).b.length : Int) ≤ 65535)) = (w, true) ∧ w.b.length ≤ 65535)) at hI12
          obtain ⟨hi, hW, hM, hu, hB, hI⟩ := hI12
          refine AWp.as (s' := AS.over _ [2, 3, 8, 55, 56, 57, 58, 59, 60, 61, 62, 63, 64, 65, 66, 67, 68, 69, 70, 71] [(55, i64 i)] [(401, .box [.sl 5058 (v) 0 (w.b).length 1, .sl 9000 (u) 0 (w.m).length 2]), (5058, .row (cl bc (w.b)) 1 (v)), (9000, .row (cl plC (w.m)) 2 (u))]) rfl ?_
          subst hu
          refine AWp.seq ?_
          refine AWp.region ?_
          refine AOps.dec rfl rfl (q_lss) (fun h12_0 => ?_) (fun h12_0 => ?_)
          · skip
            refine AOps.nil ?_
            refine AWp.seq ?_
            refine AWp.cond_t rfl ?_
            refine AWp.skip ?_
            refine AWp.seq ?_
            refine AWp.block ?_
            refine AWp.seq ?_
            refine AWp.region ?_
            have hr := p3 _ (getD_mem (l := m.rrs) (i := i) (by omega))
            have hst := encR_step (l := m.rrs) (i := i) (by omega) (encQ m.qs (hdW m), decide (((encQ m.qs (hdW m)).b.length : Int) ≤ 65535))
            rw [stepR] at hst
            obtain ⟨l1, l2⟩ := wrRec_len hr hW
            refine AOps.cons rfl rfl (q_ix) ?_
            refine AOps.cons rfl rfl (q_load) ?_
            refine AOps.cons rfl rfl (q_alloc 1402) ?_
            refine AOps.cons rfl rfl (q_store) ?_
            refine AOps.nil ?_
            refine AWp.seq ?_
            refine AWp.region ?_
            refine AOps.cons rfl rfl (q_move) ?_
            refine AOps.cons rfl rfl (q_load) ?_
            refine AOps.cons rfl rfl (q_callB (0) [(0, 401), (1, 5058), (2, 9000)] [] [(_, _), (_, _), (_, _)] (hc := (c_rrec (m.rrs.getD i default) w v hr hW (by omega) (by omega)))) ?_
            refine AOps.cons rfl rfl (q_not) ?_
            refine AOps.bool rfl rfl (q_move) (fun h14_4 => ?_) (fun h14_4 => ?_)
            · skip
              refine AOps.gskip rfl rfl rfl rfl rfl rfl rfl rfl ?_
              refine AOps.gskip rfl rfl rfl rfl rfl rfl rfl rfl ?_
              refine AOps.gskip rfl rfl rfl rfl rfl rfl rfl rfl ?_
              refine AOps.gskip rfl rfl rfl rfl rfl rfl rfl rfl ?_
              refine AOps.gskip rfl rfl rfl rfl rfl rfl rfl rfl ?_
              refine AOps.gskip rfl rfl rfl rfl rfl rfl rfl rfl ?_
              refine AOps.cons rfl rfl (q_pick) ?_
              refine AOps.nil ?_
              refine AWp.cond_t rfl ?_
              refine AWp.seq ?_
              refine AWp.region ?_
              refine AOps.cons rfl rfl (q_nilz (0) bc) ?_
              refine AOps.cons rfl rfl (q_assign) ?_
              refine AOps.nil ?_
              refine AWp.ret ?_
              show Fin te Try.f13 _ _
              refine q_ret (0) [_, _] [_, _] ?_
              obtain ⟨e1, e2⟩ := enc_bad h1_1 (step_bad hI (by omega) (.inl (by simpa using h14_4)))
              rw [e1, e2]; rfl
            · skip
              refine AOps.gcons rfl rfl rfl rfl rfl (q_move) ?_
              refine AOps.gcons rfl rfl rfl rfl rfl (q_nil) ?_
              refine AOps.gcons rfl rfl rfl rfl rfl (q_fa) ?_
              refine AOps.gcons rfl rfl rfl rfl rfl (q_load) ?_
              refine AOps.gcons rfl rfl rfl rfl rfl (q_len) ?_
              refine AOps.gdec rfl rfl rfl rfl rfl (q_gtr) (fun h14_10 => ?_) (fun h14_10 => ?_)
              · skip
                refine AOps.cons rfl rfl (q_pick) ?_
                refine AOps.nil ?_
                refine AWp.cond_t rfl ?_
                refine AWp.seq ?_
                refine AWp.region ?_
                refine AOps.cons rfl rfl (q_nilz (0) bc) ?_
                refine AOps.cons rfl rfl (q_assign) ?_
                refine AOps.nil ?_
                refine AWp.ret ?_
                show Fin te Try.f13 _ _
                refine q_ret (0) [_, _] [_, _] ?_
                obtain ⟨e1, e2⟩ := enc_bad h1_1 (step_bad hI (by omega) (.inr (by omega)))
                rw [e1, e2]; rfl
              · skip
                refine AOps.cons rfl rfl (q_pick) ?_
                refine AOps.nil ?_
                refine AWp.cond_f rfl ?_
                refine AWp.skip ?_
                refine AWp.region ?_
                refine AOps.cons rfl rfl (q_add) ?_
                refine AOps.cons rfl rfl (q_move) ?_
                refine AOps.nil ?_
                refine ⟨(i + 1, wrRec (m.rrs.getD i default) w, v + recC2 (m.rrs.getD i default) w, (wrRec (m.rrs.getD i default) w).m.length), ?_, Back.mk' (HasT.cons HasT.nil) (HasH.cons (HasH.cons (HasH.cons HasH.nil))), ?_⟩
                · try dsimp only
                  have hok : wrOk (m.rrs.getD i default) w = true := by simpa using h14_4
                  refine ⟨by omega, wrRec_ok hr hW, by omega, rfl, by omega, .inr ⟨?_, by omega⟩⟩
                  have hs : encR (m.rrs.take i) (encQ m.qs (hdW m), decide (((encQ m.qs (hdW m)).b.length : Int) ≤ 65535)) = (w, true) := by
                    rcases hI with ⟨e1, e2⟩ | e1
                    · subst e1; rw [← e2]; show (w, _) = _; rw [decide_eq_true (by omega)]
                    · exact e1.1
                  rw [hst, hs]
                  show (if true = true then (wrRec (m.rrs.getD i default) w, wrOk (m.rrs.getD i default) w && decide (((wrRec (m.rrs.getD i default) w).b.length : Int) ≤ 65535)) else (w, true)) = _
                  rw [if_pos rfl, hok, Bool.true_and, decide_eq_true (by omega)]
                · try dsimp only
                  first | omega | (simp; omega)
          · skip
            refine AOps.nil ?_
            refine AWp.seq ?_
            refine AWp.cond_f rfl ?_
            refine AWp.exit ?_
            refine AWp.seq ?_
            refine AWp.seq ?_
            refine AWp.region ?_
            obtain rfl : i = m.rrs.length := by omega
            rw [List.take_length] at hI
            refine AOps.cons rfl rfl (q_move) ?_
            refine AOps.cons rfl rfl (q_nil) ?_
            refine AOps.cons rfl rfl (q_fa) ?_
            refine AOps.cons rfl rfl (q_load) ?_
            refine AOps.cons rfl rfl (q_len) ?_
            refine AOps.dec rfl rfl (q_gtr) (fun h17_5 => ?_) (fun h17_5 => ?_)
            · skip
              refine AOps.nil ?_
              refine AWp.cond_t rfl ?_
              refine AWp.seq ?_
              refine AWp.region ?_
              refine AOps.cons rfl rfl (q_nilz (0) bc) ?_
              refine AOps.cons rfl rfl (q_assign) ?_
              refine AOps.nil ?_
              refine AWp.ret ?_
              show Fin te Try.f13 _ _
              refine q_ret (0) [_, _] [_, _] ?_
              rcases hI with ⟨g1, g2⟩ | ⟨g1, g2⟩
              · obtain ⟨e1, e2⟩ := enc_bad (i := 0) h1_1 (by show decide _ = false; rw [← g2, decide_eq_false (by omega)])
                rw [e1, e2]; rfl
              · omega
            · skip
              refine AOps.nil ?_
              refine AWp.cond_f rfl ?_
              refine AWp.skip ?_
              refine AWp.seq ?_
              refine AWp.region ?_
              refine AOps.cons rfl rfl (q_move) ?_
              refine AOps.cons rfl rfl (q_nil) ?_
              refine AOps.cons rfl rfl (q_fa) ?_
              refine AOps.cons rfl rfl (q_load) ?_
              refine AOps.cons rfl rfl (q_assign) ?_
              refine AOps.cons rfl rfl (q_assign) ?_
              refine AOps.nil ?_
              refine AWp.ret ?_
              show Fin te Try.f13 _ _
              refine q_ret (0) [_, _] [_, _] ?_
              have hg : encR m.rrs (encQ m.qs (hdW m), decide (((encQ m.qs (hdW m)).b.length : Int) ≤ 65535)) = (w, true) := by
                rcases hI with ⟨g1, g2⟩ | ⟨g1, g2⟩
                · rw [List.length_eq_zero_iff.1 g1, ← g2]; show (w, _) = _; rw [decide_eq_true (by omega)]
                · exact g1
              obtain ⟨e1, e2⟩ := enc_good h1_1 hg
              rw [e1, e2]; rfl
  · skip
    refine AOps.cons rfl rfl (q_not) ?_
    refine AOps.nil ?_
    refine AWp.cond_t rfl ?_
    refine AWp.seq ?_
    refine AWp.region ?_
    refine AOps.cons rfl rfl (q_nilz (0) bc) ?_
    refine AOps.cons rfl rfl (q_assign) ?_
    refine AOps.nil ?_
    refine AWp.ret ?_
    show Fin te Try.f13 _ _
    refine q_ret (0) [_, _] [_, _] ?_
    rw [encB, encE, h1_1]; rfl

end Go.Proofs.Ytkfccjbihcbmiaa.Fw

/- Q16: entries of a map literal; jumps back whose state is told by what changes. -/
set_option linter.unusedVariables false
set_option linter.unusedSimpArgs false
set_option linter.unusedSectionVars false
namespace Go.Proofs.Ytkfccjbihcbmiaa.Fw
open Go.RowKit
section rules
variable {n : Nat} {s : AS} {o : Oper} {d : Option Tmp} {Q : APost} {κ β : Type} [DecidableEq κ]
theorem q_insert {t kt et : TypeId} {x y z : Operand} {id : Nat} (K : MKey κ) {f : β → AV} {m : List (κ × β)} {k : κ} (v : β) {ti : TI} (ho : o.op = .insert t x y z := by exact rfl) (hx : s.ev x = .mp id 0 := by exact rfl) (hy : s.ev y = .v (K.kv k) := by exact rfl)
    (hob : s.h id = some (.map (me K f m)) := by exact rfl) (hz : s.ev z = f v := by exact rfl) (ht : te.get t = some ti := by exact rfl) (hk : ti.k = .map kt et := by exact rfl) (hkd : Try.prog.underlying kt = some K.d := by exact rfl)
    (hdd : o.dst = d := by conv => lhs; whnf) (hd : d.all (Nat.blt · n) = true := by exact rfl) : OpOk Try.prog n o s ((s.seth id (some (.map (me K f (mput m k v))))).put d (.v undef)) :=
  .chg hdd hd fun Λ w φ a hs => by
    obtain ⟨l, b, ents, clock, h1, h2, h3, h4, h5⟩ := map_at hs.hs hob
    have hxv := hs.ev x
    rw [hx] at hxv
    have e1 := rep_mp hxv h1 h3 h2
    have e2 := ev_v hs hy
    have e3 := hs.ev z
    rw [hz] at e3
    have hu := (te_ok.tells ht).map hk
    have hck := MapKept.run_checkKey (w := w) hkd (K.isKey k) false 9999
    rcases mfind m k with ⟨g1, g2, g3, _⟩ | ⟨j, p, g1, g2, g3, g4, g5, _⟩
    · have hf := MapKept.run_findKey (w := w) hkd (h5.none g2)
      have hc := Chg.map hs.hs h1 h2 h4 (.map (ents.push { key := K.kv k, val := a.eval z, born := clock }) (clock + 1))
      refine ⟨.skip, _, l, ?_, hc, ⟨b, _, _, h2, h3, (MapKept.heap_set h4).1, ?_, fun q r hq => ?_⟩, undef, .inr ⟨rfl, rfl⟩, .v⟩
      · simp [execOp, ho, e1, e2, Instr.mapUpdate, run_underlying hu, MapKept.run_getObj_map h4, hck, hf, Result.andThen, MapKept.run_setObj_map _ h4]
      · rw [g3]; simp [me, h5.size]
      · rw [g3, me, List.getElem?_map, Option.map_eq_some_iff] at hq
        obtain ⟨p, hp, rfl⟩ := hq
        by_cases hlt : q < m.length
        · rw [List.getElem?_append_left hlt] at hp
          obtain ⟨e, q1, q2, q3⟩ := h5.at' q p hp
          exact ⟨e, by rw [Array.getElem?_push, if_neg (by rw [h5.size]; omega)]; exact q1, q2, hc.rep q3⟩
        · rw [List.getElem?_append_right (by omega)] at hp
          have hq0 : q - m.length = 0 := by
            have := (List.getElem?_eq_some_iff.1 hp).1
            simp at this; omega
          rw [hq0] at hp
          simp at hp; subst hp
          exact ⟨{ key := K.kv k, val := a.eval z, born := clock }, by rw [Array.getElem?_push, if_pos (by rw [h5.size]; omega)], rfl, hc.rep e3⟩
    · obtain ⟨e, q1, q2, q3, q4⟩ := h5.some g1 g2 g3
      have hf := MapKept.run_findKey (w := w) hkd q4
      have hc := Chg.map hs.hs h1 h2 h4 (.map (ents.modify j fun e => { e with key := K.kv k, val := a.eval z }) clock)
      refine ⟨.skip, _, l, ?_, hc, ⟨b, _, _, h2, h3, (MapKept.heap_set h4).1, ?_, fun q r hq => ?_⟩, undef, .inr ⟨rfl, rfl⟩, .v⟩
      · simp [execOp, ho, e1, e2, Instr.mapUpdate, run_underlying hu, MapKept.run_getObj_map h4, hck, hf, Result.andThen, MapKept.run_setObj_map _ h4, q1, q2, Instr.keyThatStays, K.same]
      · rw [g5]; simp [me, h5.size]
      · rw [g5, me, List.getElem?_map, Option.map_eq_some_iff] at hq
        obtain ⟨p', hp, rfl⟩ := hq
        rw [List.getElem?_set] at hp
        by_cases hjq : j = q
        · subst hjq
          have hlt := (List.getElem?_eq_some_iff.1 g1).1
          simp [hlt] at hp; subst hp
          exact ⟨{ e with key := K.kv k, val := a.eval z }, by rw [Array.getElem?_modify, if_pos rfl, q1]; rfl, rfl, hc.rep e3⟩
        · rw [if_neg hjq] at hp
          obtain ⟨e', r1, r2, r3⟩ := h5.at' q p' hp
          exact ⟨e', by rw [Array.getElem?_modify, if_neg hjq]; exact r1, r2, hc.rep r3⟩
end rules
section jumpsR
variable {P : Program} {n : Nat} {Q : APost} {s : AS}
def AExit.jumpB (l : Nat) (J : AS → Prop) (Q : APost) : APost
  | .goto l', s' => l' = l ∧ J s'
  | e, s' => Q e s'
theorem AWp.jumpsR {α : Type} {c rest : Code} (l : Nat) (K : List Nat) (T : α → List (Nat × AV)) (H : α → List (Nat × AObj)) (I : α → Prop) (μ : α → Nat) (hf : findLabel c l = some (.seq .skip rest))
    (first : (∀ s', (∃ x, I x ∧ Back s s' K (T x) (H x)) → AWp P n (.seq (.label l) rest) (AExit.jumpTo l (fun x => s.over K (T x) (H x)) I Q) s') → AWp P n c (AExit.jumpTo l (fun x => s.over K (T x) (H x)) I Q) s)
    (pass : ∀ x, I x → AWp P n rest (AExit.jumpB l (fun s' => ∃ x', I x' ∧ Back s s' K (T x') (H x') ∧ μ x' < μ x) Q) (s.over K (T x) (H x))) : AWp P n (.scope c) Q s :=
  .dom fun hd => AWp.jumps l (fun x => s.over K (T x) (H x)) I μ hf (fun hj => first fun s' ⟨x, a, b⟩ => hj s' ⟨x, a, b.weak hd⟩) fun x hx => (pass x hx).mono fun e s' q => by
    cases e with
    | goto l' => obtain ⟨h1, x', h2, h3, h4⟩ := q; exact ⟨h1, x', h2, h3.weak hd, h4⟩
    | normal => exact q
    | exit id => exact q
    | ret => exact q
    | panic v => exact q
end jumpsR
section bad
/-- A call that panics: its result is told as what nothing is. -/
theorem AC.bad {f : FuncId} {A : List AV} {h : Heap} {po : Option Value} {r : AV} {hl : List (Nat × AObj)} {hp : Int → List (Nat × AObj)} {x : Value} (hx : po = some x) (hc : AC Try.prog f A h (RetP po r hl hp)) : AC Try.prog f A h (RetP po (.fz 0 1 []) (hp 0) hp) := by
  subst hx
  exact hc.mono fun e h' k => k
theorem AWp.bot {P : Program} {n d : Nat} {c : Code} {Q : APost} {s : AS} (h : s.t d = .fz 0 1 []) : AWp P n c Q s := by
  intro Λ w φ a hs
  have e := hs.ev (.tmp d)
  have e2 : s.ev (.tmp d) = .fz 0 1 [] := h
  rw [e2] at e
  generalize a.eval (.tmp d) = v at e
  exfalso
  cases e with
  | fz vf h1 h2 h3 h4 h5 h6 => exact absurd h6 (by simp)
theorem OpAtX.bot {P : Program} {n d i : Nat} {ops : Array Oper} {QP : Value → AS → Prop} {s s' : AS} (h : s.t d = .fz 0 1 []) : OpAtX P n ops QP i s s' := by
  intro Λ w φ a hs
  have e := hs.ev (.tmp d)
  have e2 : s.ev (.tmp d) = .fz 0 1 [] := h
  rw [e2] at e
  generalize a.eval (.tmp d) = v at e
  exfalso
  cases e with
  | fz vf h1 h2 h3 h4 h5 h6 => exact absurd h6 (by simp)
end bad
end Go.Proofs.Ytkfccjbihcbmiaa.Fw

/- Walks of layer 4: readers. -/
set_option linter.unusedVariables false
set_option linter.unusedSimpArgs false
namespace Go.Proofs.Ytkfccjbihcbmiaa.Fw
open Go.RowKit


def pE (e : Int) : Value := .iface 35 (.int .i64 e)
def pNo (c : Bool) (e : Int) : Option Value := if c then none else some (pE e)
theorem pNo_some {c : Bool} {e : Int} {x : Value} (h : pNo c e = some x) : c = false ∧ pE e = x := by
  cases c with
  | true => cases h
  | false => exact ⟨rfl, by simpa [pNo] using h⟩
theorem pNo_none {c : Bool} {e : Int} (h : pNo c e = none) : c = true := by
  cases c with
  | true => rfl
  | false => simp [pNo] at h
def perr {α : Type} : Except Int α → Option Value
  | .error e => some (pE e)
  | .ok _ => none
def resE {α : Type} [Inhabited α] : Except Int α → α
  | .error _ => default
  | .ok a => a
def kB (b : List UInt8) (i : Nat) : Nat := (b.getD i default).toNat
def toI (b : List UInt8) (i : Nat) : Nat := kB b i % 64 * 256 + kB b (i + 1)
theorem kB_lt (b : List UInt8) (i : Nat) : kB b i < 256 := (b.getD i default).toNat_lt
/-- A name's bytes from a place on, and the place behind it. -/
def rdN (b : List UInt8) (sh : Int) (p fi li : Nat) (bh : Option Nat) (n : List UInt8) : Except Int (List UInt8 × Nat) :=
  if h0 : li ≤ p then .error sh
  else if kB b p = 0 then (if n.length < 255 then .ok (n ++ [0], bh.getD (p + 1)) else .error 11)
  else if 192 ≤ kB b p then
    (if li ≤ p + 1 then .error sh
    else if h : toI b p < fi then rdN b sh (toI b p) (toI b p) b.length (some (bh.getD (p + 2))) n
    else .error 40)
  else if 64 ≤ kB b p then .error 10
  else if li < p + 1 + kB b p then .error sh
  else if (n ++ (b.take (p + 1 + kB b p)).drop p).length < 255 then rdN b sh (p + 1 + kB b p) fi li bh (n ++ (b.take (p + 1 + kB b p)).drop p)
  else .error 11
termination_by (fi, li - p)
decreasing_by
  · exact Prod.Lex.left _ _ h
  · exact Prod.Lex.right _ (by omega)
section rdN
variable {b : List UInt8} {sh : Int} {p fi li : Nat} {bh : Option Nat} {n : List UInt8}
theorem rdN_short (h : li ≤ p) : rdN b sh p fi li bh n = .error sh := by rw [rdN, dif_pos h]
theorem rdN_end (h : ¬ li ≤ p) (h1 : kB b p = 0) (h2 : n.length < 255) : rdN b sh p fi li bh n = .ok (n ++ [0], bh.getD (p + 1)) := by rw [rdN, dif_neg h, if_pos h1, if_pos h2]
theorem rdN_long0 (h : ¬ li ≤ p) (h1 : kB b p = 0) (h2 : ¬ n.length < 255) : rdN b sh p fi li bh n = .error 11 := by rw [rdN, dif_neg h, if_pos h1, if_neg h2]
theorem rdN_pshort (h : ¬ li ≤ p) (h1 : 192 ≤ kB b p) (h2 : li ≤ p + 1) : rdN b sh p fi li bh n = .error sh := by rw [rdN, dif_neg h, if_neg (by omega), if_pos h1, if_pos h2]
theorem rdN_pbad (h : ¬ li ≤ p) (h1 : 192 ≤ kB b p) (h2 : ¬ li ≤ p + 1) (h3 : ¬ toI b p < fi) : rdN b sh p fi li bh n = .error 40 := by rw [rdN, dif_neg h, if_neg (by omega), if_pos h1, if_neg h2, dif_neg h3]
theorem rdN_ptr (h : ¬ li ≤ p) (h1 : 192 ≤ kB b p) (h2 : ¬ li ≤ p + 1) (h3 : toI b p < fi) : rdN b sh p fi li bh n = rdN b sh (toI b p) (toI b p) b.length (some (bh.getD (p + 2))) n := by rw [rdN, dif_neg h, if_neg (by omega), if_pos h1, if_neg h2, dif_pos h3]
theorem rdN_label (h : ¬ li ≤ p) (h1 : 64 ≤ kB b p) (h2 : ¬ 192 ≤ kB b p) : rdN b sh p fi li bh n = .error 10 := by rw [rdN, dif_neg h, if_neg (by omega), if_neg h2, if_pos h1]
theorem rdN_lshort (h : ¬ li ≤ p) (h1 : kB b p ≠ 0) (h2 : ¬ 64 ≤ kB b p) (h3 : li < p + 1 + kB b p) : rdN b sh p fi li bh n = .error sh := by rw [rdN, dif_neg h, if_neg h1, if_neg (by omega), if_neg h2, if_pos h3]
theorem rdN_llong (h : ¬ li ≤ p) (h1 : kB b p ≠ 0) (h2 : ¬ 64 ≤ kB b p) (h3 : ¬ li < p + 1 + kB b p) (h4 : ¬ (n ++ (b.take (p + 1 + kB b p)).drop p).length < 255) : rdN b sh p fi li bh n = .error 11 := by rw [rdN, dif_neg h, if_neg h1, if_neg (by omega), if_neg h2, if_neg h3, if_neg h4]
theorem rdN_lab (h : ¬ li ≤ p) (h1 : kB b p ≠ 0) (h2 : ¬ 64 ≤ kB b p) (h3 : ¬ li < p + 1 + kB b p) (h4 : (n ++ (b.take (p + 1 + kB b p)).drop p).length < 255) : rdN b sh p fi li bh n = rdN b sh (p + 1 + kB b p) fi li bh (n ++ (b.take (p + 1 + kB b p)).drop p) := by rw [rdN, dif_neg h, if_neg h1, if_neg (by omega), if_neg h2, if_neg h3, if_pos h4]
end rdN
def bhI : Option Nat → Int
  | none => -1
  | some a => a
theorem bhI_neg {o : Option Nat} (h : bhI o < 0) : o = none := by
  cases o with
  | none => rfl
  | some a => simp only [bhI] at h; omega
theorem bhI_pos {o : Option Nat} (h : ¬ bhI o < 0) : ∃ a, o = some a := by
  cases o with
  | none => exact absurd (by decide) h
  | some a => exact ⟨a, rfl⟩
theorem and63 (k : Nat) : (((k : Int).toNat &&& (63 : Int).toNat : Nat) : Int) = ((k % 64 : Nat) : Int) := by
  rw [Int.toNat_natCast, show (63 : Int).toNat = 2 ^ 6 - 1 by decide, Nat.and_two_pow_sub_one_eq_mod]
theorem or_ptr (k : Nat) (q : UInt8) : ((((k % 64 : Nat) : Int) * 2 ^ 8).toNat ||| ((q.toNat : Int)).toNat : Nat) = k % 64 * 256 + q.toNat := by
  have hq := q.toNat_lt
  have e : (((k % 64 : Nat) : Int) * 2 ^ 8).toNat = 2 ^ 8 * (k % 64) := by omega
  rw [e, Int.toNat_natCast, ← Nat.two_pow_add_eq_or_of_lt (by omega : q.toNat < 2 ^ 8) (k % 64)]
  omega
theorem q_and63 {n : Nat} {s : AS} {o : Oper} {d : Option Tmp} {t u : TypeId} {x y : Operand} {k : Nat} (ho : o.op = .binOp .and t x y u := by exact rfl) (hx : s.ev x = i64 k := by exact rfl) (hy : s.ev y = i64 63 := by exact rfl) (hk : k < 256)
    (hdd : o.dst = d := by conv => lhs; whnf) (hd : d.all (Nat.blt · n) = true := by exact rfl) : OpOk Try.prog n o s (s.put d (i64 ((k % 64 : Nat) : Int))) := by
  rw [← and63]
  exact q_and ho hx hy (by omega) (by omega) hdd hd
theorem q_orp {n : Nat} {s : AS} {o : Oper} {d : Option Tmp} {t u : TypeId} {x y : Operand} {k : Nat} {q : UInt8} (ho : o.op = .binOp .or t x y u := by exact rfl) (hx : s.ev x = i64 (((k % 64 : Nat) : Int) * 2 ^ 8) := by exact rfl) (hy : s.ev y = i64 q.toNat := by exact rfl)
    (hdd : o.dst = d := by conv => lhs; whnf) (hd : d.all (Nat.blt · n) = true := by exact rfl) : OpOk Try.prog n o s (s.put d (i64 ((k % 64 * 256 + q.toNat : Nat) : Int))) := by
  have hq := q.toNat_lt
  rw [← or_ptr]
  exact q_or ho hx hy (by omega) (by omega) hdd hd

set_option maxRecDepth 20000 in
set_option maxHeartbeats 2000000 in
theorem c_wire_no (c : Bool) (e : Int) : AC Try.prog 68 [tf c, i64 e] (hlook []) (RetP (pNo c e) (.tup []) [] (fun k => [])) := by
  refine AC.intro te_ok (fn := Try.f68) ⟨Try.func68, rfl, rfl⟩ (Nat.le_of_ble_eq_true rfl) ?_
  refine AWp.seq ?_
  refine AWp.region ?_
  refine AOps.bool rfl rfl (q_move) (fun h0_0 => ?_) (fun h0_0 => ?_)
  · skip
    refine AOps.cons rfl rfl (q_not) ?_
    refine AOps.nil ?_
    refine AWp.cond_f rfl ?_
    refine AWp.skip ?_
    show Fin te Try.f68 _ _
    obtain rfl : c = true := by simpa using h0_0
    refine Fin.retP (by rfl) ?_
    refine q_retH (0) [] [] [] [] ?_
    rfl
  · skip
    refine AOps.cons rfl rfl (q_not) ?_
    refine AOps.nil ?_
    refine AWp.cond_t rfl ?_
    refine AWp.region ?_
    refine AOps.cons rfl rfl (q_move) ?_
    refine AOps.cons rfl rfl (q_mkif) ?_
    refine AOps.panic ?_
    show Post te Try.f68 _ (.panic _) _
    refine Post.panicH (0) (0) ?_ (by repeat' (first | exact trivial | exact lv_ok rfl | exact lv_sl rfl rfl | exact lv_ptr rfl rfl | exact lv_mp rfl rfl | exact lobj_row (fun _ => rfl) | refine lobj_box ?_ | refine ⟨rfl, ⟨_, rfl, ?_⟩, ?_⟩ | refine ⟨?_, ?_⟩)) rfl
    rw [show c = false by simpa using h0_0]; rfl

set_option maxRecDepth 20000 in
set_option maxHeartbeats 2000000 in
theorem c_rdname (b : List UInt8) (sh : Int) (p0 en : Nat) (hb : b.length ≤ 65535) (he : en ≤ b.length) (hp : p0 ≤ 100000) : AC Try.prog 70 [.ptr 0 0 0, i64 en, i64 sh] (hlook [(0, .box [.fz 0 b.length (cl bc b), i64 p0])]) (RetP (perr (rdN b sh p0 p0 en none [])) (str (resE (rdN b sh p0 p0 en none [])).1) [(0, .box [.fz 0 b.length (cl bc b), i64 (resE (rdN b sh p0 p0 en none [])).2])] (fun k => [(0, .box [.fz 0 b.length (cl bc b), i64 k])])) := by
  refine AC.intro te_ok (fn := Try.f70) ⟨Try.func70, rfl, rfl⟩ (Nat.le_of_ble_eq_true rfl) ?_
  refine AWp.seq ?_
  refine AWp.region ?_
  refine AOps.cons rfl rfl (q_assign) ?_
  refine AOps.nil ?_
  refine AWp.jumpsR (α := Nat × Nat × Nat × Option Nat × List UInt8 × Nat) 0 [6, 7, 8, 9, 10, 11, 12, 13, 14, 15, 16, 17, 18, 19, 20, 21, 22, 23, 24, 25, 26, 27, 28, 29, 30, 31, 32, 33, 34, 35, 36, 37, 38, 39, 40, 41, 42, 43, 44, 45, 46, 47, 48, 49, 50, 51, 52, 53, 54, 55, 56, 57, 58, 59, 60, 61, 62, 63, 64, 65, 66, 67, 68, 69, 70, 71, 72, 73, 74, 75, 76, 77, 78, 79, 80, 81, 82, 83, 84, 85, 86, 87, 88, 89, 90, 91, 92, 93, 94, 95, 96, 97, 98, 99, 100, 101, 102, 103, 104, 105, 106, 107, 108, 109, 110, 111, 112, 113, 114, 115, 116, 117, 118, 119, 120, 121, 122, 123] (fun x_ => [(8, i64 (x_.1)), (9, i64 (x_.2.1)), (10, i64 (x_.2.2.1)), (11, i64 (bhI (x_.2.2.2.1))), (7, .sl 200 (x_.2.2.2.2.2) 0 (x_.2.2.2.2.1).length 1)]) (fun x_ => [(200, .row (cl bc (x_.2.2.2.2.1)) 1 (x_.2.2.2.2.2))]) (fun x_ => rdN b sh (x_.1) (x_.2.1) (x_.2.2.1) (x_.2.2.2.1) (x_.2.2.2.2.1) = rdN b sh p0 p0 en none [] ∧ (x_.2.2.1) ≤ b.length ∧ (x_.2.2.2.2.1).length < 255 ∧ (x_.1) ≤ 200000 ∧ (x_.2.1) ≤ 100000) (fun x_ => (x_.2.1) * (b.length + 1) + ((x_.2.2.1) - (x_.1))) rfl (fun hj => ?_) ?_
  · skip
    refine AWp.seq ?_
    refine AWp.region ?_
    refine AOps.cons rfl rfl (q_nilrow 200 1 bc) ?_
    refine AOps.nil ?_
    refine AWp.seq ?_
    refine AWp.draws [⟨0, [0], [], some 14, _, none⟩,
        ⟨1, [14], [0], some 15, _, none⟩,
        ⟨2, [15], [0], some 16, _, none⟩,
        ⟨3, [16], [0], some 17, _, none⟩,
        ⟨4, [0], [], some 18, _, none⟩,
        ⟨5, [18], [0], some 19, _, none⟩,
        ⟨6, [19], [0], some 20, _, none⟩,
        ⟨7, [20], [0], some 21, _, none⟩,
        ⟨8, [1], [], some 22, _, none⟩,
        ⟨9, [17], [], some 8, _, none⟩,
        ⟨10, [21], [], some 9, _, none⟩,
        ⟨11, [22], [], some 10, _, none⟩,
        ⟨12, [], [], some 11, _, none⟩]
      [⟨0, [0], [], some 14, .any, none⟩,
          ⟨1, [14], [0], some 15, .any, none⟩,
          ⟨2, [15], [0], some 16, .any, none⟩,
          ⟨3, [16], [0], some 17, .any, none⟩,
          ⟨4, [0], [], some 18, .any, none⟩,
          ⟨5, [18], [0], some 19, .any, none⟩,
          ⟨6, [19], [0], some 20, .any, none⟩,
          ⟨7, [20], [0], some 21, .any, none⟩,
          ⟨8, [1], [], some 22, .any, none⟩,
          ⟨9, [17], [], some 8, .any, none⟩,
          ⟨10, [21], [], some 9, .any, none⟩,
          ⟨11, [22], [], some 10, .any, none⟩,
          ⟨12, [], [], some 11, .any, none⟩]
      mixed_ok rfl (by kernel_rfl) ⟨DS.ok_over fun s0 => OpAt.go rfl rfl (q_move),
          DS.ok_over fun s0 => OpAt.go rfl rfl (q_nil),
          DS.ok_over fun s0 => OpAt.go rfl rfl (q_fa),
          DS.ok_over fun s0 => OpAt.go rfl rfl (q_load),
          DS.ok_over fun s0 => OpAt.go rfl rfl (q_move),
          DS.ok_over fun s0 => OpAt.go rfl rfl (q_nil),
          DS.ok_over fun s0 => OpAt.go rfl rfl (q_fa),
          DS.ok_over fun s0 => OpAt.go rfl rfl (q_load),
          DS.ok_over fun s0 => OpAt.go rfl rfl (q_move),
          DS.ok_over fun s0 => OpAt.go rfl rfl (q_assign),
          DS.ok_over fun s0 => OpAt.go rfl rfl (q_assign),
          DS.ok_over fun s0 => OpAt.go rfl rfl (q_assign),
          DS.ok_over fun s0 => OpAt.go rfl rfl (q_assign), trivial⟩ ?_
    dsimp only [final, DS.upd, AS.seto]
    refine hj _ ⟨(p0, p0, en, none, [], 0), ?_, Back.mk' (HasT.cons (HasT.cons (HasT.cons (HasT.cons (HasT.cons HasT.nil))))) (HasH.cons HasH.nil)⟩
    exact ⟨rfl, he, by show 0 < 255; decide, by show p0 ≤ _; omega, hp⟩
  · rintro ⟨p, fi, li, bh, n, v⟩ hI
    change rdN b sh p fi li bh n = rdN b sh p0 p0 en none [] ∧ li ≤ b.length ∧ n.length < 255 ∧ p ≤ 200000 ∧ fi ≤ 100000 at hI
    obtain ⟨hE, hL, hN, hP, hF⟩ := hI
    refine AWp.as (s' := AS.over _ [6, 7, 8, 9, 10, 11, 12, 13, 14, 15, 16, 17, 18, 19, 20, 21, 22, 23, 24, 25, 26, 27, 28, 29, 30, 31, 32, 33, 34, 35, 36, 37, 38, 39, 40, 41, 42, 43, 44, 45, 46, 47, 48, 49, 50, 51, 52, 53, 54, 55, 56, 57, 58, 59, 60, 61, 62, 63, 64, 65, 66, 67, 68, 69, 70, 71, 72, 73, 74, 75, 76, 77, 78, 79, 80, 81, 82, 83, 84, 85, 86, 87, 88, 89, 90, 91, 92, 93, 94, 95, 96, 97, 98, 99, 100, 101, 102, 103, 104, 105, 106, 107, 108, 109, 110, 111, 112, 113, 114, 115, 116, 117, 118, 119, 120, 121, 122, 123] [(8, i64 p), (9, i64 fi), (10, i64 li), (11, i64 (bhI bh)), (7, .sl 200 v 0 n.length 1)] [(200, .row (cl bc n) 1 v)]) rfl ?_
    have hk256 := kB_lt b p
    refine AWp.seq ?_
    refine AWp.region ?_
    refine AOps.cons rfl rfl (q_move) ?_
    refine AOps.cons rfl rfl (q_move) ?_
    refine AOps.cons rfl rfl (q_lss) ?_
    refine AOps.cons rfl rfl (q_move) ?_
    refine AOps.callP (hp' := fun k => []) (0) [] [] [] (c_wire_no (decide ((p : Int) < (li : Int))) sh) (fun h3_4 => ?_) (fun x k h3_4 => ?_)
    · skip
      refine AOps.nil ?_
      refine AWp.seq ?_
      refine AWp.region ?_
      have g1 : ¬ li ≤ p := by have := pNo_none h3_4; simp at this; omega
      refine AOps.cons rfl rfl (q_move) ?_
      refine AOps.cons rfl rfl (q_nil) ?_
      refine AOps.cons rfl rfl (q_fa) ?_
      refine AOps.cons rfl rfl (q_load) ?_
      refine AOps.cons rfl rfl (q_move) ?_
      refine AOps.cons rfl rfl (q_ix) ?_
      refine AOps.cons rfl rfl (q_load) ?_
      refine AOps.cons rfl rfl (q_conv_8i) ?_
      refine AOps.cons rfl rfl (q_assign) ?_
      refine AOps.nil ?_
      refine AWp.seq ?_
      refine AWp.block ?_
      refine AWp.seq ?_
      refine AWp.region ?_
      rw [show (b.getD ((p : Nat) : Int).toNat default).toNat = kB b p from rfl]
      refine AOps.cons rfl rfl (q_move) ?_
      refine AOps.dec rfl rfl (q_eql) (fun h5_1 => ?_) (fun h5_1 => ?_)
      · skip
        refine AOps.cons rfl rfl (q_assign) ?_
        refine AOps.nil ?_
        refine AWp.cond_t rfl ?_
        refine AWp.seq ?_
        refine AWp.region ?_
        refine AOps.cons rfl rfl (q_move) ?_
        refine AOps.cons rfl rfl (q_len) ?_
        refine AOps.cons rfl rfl (q_lss) ?_
        refine AOps.callP (hp' := fun k => []) (0) [] [] [] (c_wire_no (decide ((n.length : Int) < 255)) 11) (fun h6_3 => ?_) (fun x k h6_3 => ?_)
        · skip
          refine AOps.nil ?_
          refine AWp.seq ?_
          refine AWp.seq ?_
          refine AWp.region ?_
          have g2 : n.length < 255 := hN
          have hk0 : kB b p = 0 := by omega
          refine AOps.cons rfl rfl (q_move) ?_
          refine AOps.dec rfl rfl (q_lss) (fun h7_1 => ?_) (fun h7_1 => ?_)
          · skip
            refine AOps.nil ?_
            refine AWp.cond_t rfl ?_
            refine AWp.region ?_
            obtain rfl := bhI_neg h7_1
            refine AOps.cons rfl rfl (q_move) ?_
            refine AOps.cons rfl rfl (q_add) ?_
            refine AOps.cons rfl rfl (q_assign) ?_
            refine AOps.nil ?_
            refine AWp.seq ?_
            refine AWp.region ?_
            refine AOps.cons rfl rfl (q_move) ?_
            refine AOps.cons rfl rfl (q_move) ?_
            refine AOps.cons rfl rfl (q_nil) ?_
            refine AOps.cons rfl rfl (q_fa) ?_
            refine AOps.cons rfl rfl (q_store) ?_
            refine AOps.nil ?_
            refine AWp.seq ?_
            refine AWp.region ?_
            refine AOps.cons rfl rfl (q_move) ?_
            refine AOps.cons rfl rfl (q_bs 1101 bc [0] [(_, _)]) ?_
            refine AOps.cons rfl rfl (q_app) ?_
            refine AOps.cons rfl rfl (q_conv_ls) ?_
            refine AOps.cons rfl rfl (q_assign) ?_
            refine AOps.nil ?_
            refine AWp.ret ?_
            show Fin te Try.f70 _ _
            rw [← hE, rdN_end g1 hk0 g2]
            refine Fin.retP (by rfl) ?_
            refine q_retH (0) [] [_] [_] [(_, _)] ?_
            rfl
          · skip
            refine AOps.nil ?_
            refine AWp.cond_f rfl ?_
            refine AWp.skip ?_
            refine AWp.seq ?_
            refine AWp.region ?_
            obtain ⟨a, rfl⟩ := bhI_pos h7_1
            refine AOps.cons rfl rfl (q_move) ?_
            refine AOps.cons rfl rfl (q_move) ?_
            refine AOps.cons rfl rfl (q_nil) ?_
            refine AOps.cons rfl rfl (q_fa) ?_
            refine AOps.cons rfl rfl (q_store) ?_
            refine AOps.nil ?_
            refine AWp.seq ?_
            refine AWp.region ?_
            refine AOps.cons rfl rfl (q_move) ?_
            refine AOps.cons rfl rfl (q_bs 1101 bc [0] [(_, _)]) ?_
            refine AOps.cons rfl rfl (q_app) ?_
            refine AOps.cons rfl rfl (q_conv_ls) ?_
            refine AOps.cons rfl rfl (q_assign) ?_
            refine AOps.nil ?_
            refine AWp.ret ?_
            show Fin te Try.f70 _ _
            rw [← hE, rdN_end g1 hk0 g2]
            refine Fin.retP (by rfl) ?_
            refine q_retH (0) [] [_] [_] [(_, _)] ?_
            rfl
        · skip
          show Post te Try.f70 _ (.panic _) _
          refine Post.panicH (0) (p0) ?_ (by repeat' (first | exact trivial | exact lv_ok rfl | exact lv_sl rfl rfl | exact lv_ptr rfl rfl | exact lv_mp rfl rfl | exact lobj_row (fun _ => rfl) | refine lobj_box ?_ | refine ⟨rfl, ⟨_, rfl, ?_⟩, ?_⟩ | refine ⟨?_, ?_⟩)) rfl
          obtain ⟨c1, rfl⟩ := pNo_some h6_3
          rw [← hE, rdN_long0 g1 (by omega) (by simp at c1; omega)]; rfl
      · skip
        refine AOps.cons rfl rfl (q_assign) ?_
        refine AOps.nil ?_
        refine AWp.cond_f rfl ?_
        refine AWp.seq ?_
        refine AWp.region ?_
        refine AOps.cons rfl rfl (q_move) ?_
        refine AOps.dec rfl rfl (q_geq) (fun h11_1 => ?_) (fun h11_1 => ?_)
        · skip
          refine AOps.cons rfl rfl (q_assign) ?_
          refine AOps.nil ?_
          refine AWp.cond_t rfl ?_
          refine AWp.seq ?_
          refine AWp.region ?_
          refine AOps.cons rfl rfl (q_move) ?_
          refine AOps.cons rfl rfl (q_add) ?_
          refine AOps.cons rfl rfl (q_move) ?_
          refine AOps.cons rfl rfl (q_lss) ?_
          refine AOps.cons rfl rfl (q_move) ?_
          refine AOps.callP (hp' := fun k => []) (0) [] [] [] (c_wire_no (decide ((p : Int) + 1 < (li : Int))) sh) (fun h12_5 => ?_) (fun x k h12_5 => ?_)
          · skip
            refine AOps.nil ?_
            refine AWp.seq ?_
            refine AWp.region ?_
            have g2 : ¬ li ≤ p + 1 := by have := pNo_none h12_5; simp at this; omega
            have hk : 192 ≤ kB b p := by omega
            refine AOps.cons rfl rfl (q_move) ?_
            refine AOps.cons rfl rfl (q_and63 (k := kB b p) (hk := hk256)) ?_
            refine AOps.cons rfl rfl (q_shl 8) ?_
            refine AOps.cons rfl rfl (q_move) ?_
            refine AOps.cons rfl rfl (q_nil) ?_
            refine AOps.cons rfl rfl (q_fa) ?_
            refine AOps.cons rfl rfl (q_load) ?_
            refine AOps.cons rfl rfl (q_move) ?_
            refine AOps.cons rfl rfl (q_add) ?_
            refine AOps.cons rfl rfl (q_ix) ?_
            refine AOps.cons rfl rfl (q_load) ?_
            refine AOps.cons rfl rfl (q_conv_8i) ?_
            refine AOps.cons rfl rfl (q_orp (k := kB b p)) ?_
            refine AOps.cons rfl rfl (q_assign) ?_
            refine AOps.nil ?_
            refine AWp.seq ?_
            refine AWp.region ?_
            rw [show (kB b p % 64 * 256 + (b.getD ((p : Int) + 1).toNat default).toNat : Nat) = toI b p from rfl]
            refine AOps.cons rfl rfl (q_move) ?_
            refine AOps.cons rfl rfl (q_move) ?_
            refine AOps.cons rfl rfl (q_lss) ?_
            refine AOps.callP (hp' := fun k => []) (0) [] [] [] (c_wire_no (decide ((toI b p : Int) < (fi : Int))) 40) (fun h14_3 => ?_) (fun x k h14_3 => ?_)
            · skip
              refine AOps.nil ?_
              refine AWp.seq ?_
              refine AWp.seq ?_
              refine AWp.region ?_
              have g3 : toI b p < fi := by have := pNo_none h14_3; simp at this; omega
              refine AOps.cons rfl rfl (q_move) ?_
              refine AOps.dec rfl rfl (q_lss) (fun h15_1 => ?_) (fun h15_1 => ?_)
              · skip
                refine AOps.nil ?_
                refine AWp.cond_t rfl ?_
                refine AWp.region ?_
                obtain rfl := bhI_neg h15_1
                refine AOps.cons rfl rfl (q_move) ?_
                refine AOps.cons rfl rfl (q_add) ?_
                refine AOps.cons rfl rfl (q_assign) ?_
                refine AOps.nil ?_
                refine AWp.seq ?_
                refine AWp.draws [⟨0, [13], [], some 85, _, none⟩,
                    ⟨1, [13], [], some 86, _, none⟩,
                    ⟨2, [0], [], some 87, _, none⟩,
                    ⟨3, [87], [0], some 88, _, none⟩,
                    ⟨4, [88], [0], some 89, _, none⟩,
                    ⟨5, [89], [0], some 90, _, none⟩,
                    ⟨6, [90], [], some 91, _, none⟩,
                    ⟨7, [85], [], some 8, _, none⟩,
                    ⟨8, [86], [], some 9, _, none⟩,
                    ⟨9, [91], [], some 10, _, none⟩]
                  [⟨0, [13], [], some 85, .any, none⟩,
                      ⟨1, [13], [], some 86, .any, none⟩,
                      ⟨2, [0], [], some 87, .any, none⟩,
                      ⟨3, [87], [0], some 88, .any, none⟩,
                      ⟨4, [88], [0], some 89, .any, none⟩,
                      ⟨5, [89], [0], some 90, .any, none⟩,
                      ⟨6, [90], [], some 91, .any, none⟩,
                      ⟨7, [85], [], some 8, .any, none⟩,
                      ⟨8, [86], [], some 9, .any, none⟩,
                      ⟨9, [91], [], some 10, .any, none⟩]
                  mixed_ok rfl (by kernel_rfl) ⟨DS.ok_over fun s0 => OpAt.go rfl rfl (q_move),
                      DS.ok_over fun s0 => OpAt.go rfl rfl (q_move),
                      DS.ok_over fun s0 => OpAt.go rfl rfl (q_move),
                      DS.ok_over fun s0 => OpAt.go rfl rfl (q_nil),
                      DS.ok_over fun s0 => OpAt.go rfl rfl (q_fa),
                      DS.ok_over fun s0 => OpAt.go rfl rfl (q_load),
                      DS.ok_over fun s0 => OpAt.go rfl rfl (q_len),
                      DS.ok_over fun s0 => OpAt.go rfl rfl (q_assign),
                      DS.ok_over fun s0 => OpAt.go rfl rfl (q_assign),
                      DS.ok_over fun s0 => OpAt.go rfl rfl (q_assign), trivial⟩ ?_
                dsimp only [final, DS.upd, AS.seto]
                refine AWp.goto ?_
                refine ⟨rfl, (toI b p, toI b p, b.length, some (p + 2), n, v), ?_, Back.mk' (HasT.cons (HasT.cons (HasT.cons (HasT.cons (HasT.cons HasT.nil))))) (HasH.cons HasH.nil), ?_⟩
                · try dsimp only
                  exact ⟨by rw [← hE, rdN_ptr g1 hk g2 g3]; rfl, Nat.le_refl _, hN, by omega, by omega⟩
                · try dsimp only
                  have := Nat.mul_le_mul_right (b.length + 1) (show toI b p + 1 ≤ fi by omega)
                  rw [Nat.succ_mul] at this; omega
              · skip
                refine AOps.nil ?_
                refine AWp.cond_f rfl ?_
                refine AWp.skip ?_
                refine AWp.seq ?_
                obtain ⟨a, rfl⟩ := bhI_pos h15_1
                refine AWp.draws [⟨0, [13], [], some 85, _, none⟩,
                    ⟨1, [13], [], some 86, _, none⟩,
                    ⟨2, [0], [], some 87, _, none⟩,
                    ⟨3, [87], [0], some 88, _, none⟩,
                    ⟨4, [88], [0], some 89, _, none⟩,
                    ⟨5, [89], [0], some 90, _, none⟩,
                    ⟨6, [90], [], some 91, _, none⟩,
                    ⟨7, [85], [], some 8, _, none⟩,
                    ⟨8, [86], [], some 9, _, none⟩,
                    ⟨9, [91], [], some 10, _, none⟩]
                  [⟨0, [13], [], some 85, .any, none⟩,
                      ⟨1, [13], [], some 86, .any, none⟩,
                      ⟨2, [0], [], some 87, .any, none⟩,
                      ⟨3, [87], [0], some 88, .any, none⟩,
                      ⟨4, [88], [0], some 89, .any, none⟩,
                      ⟨5, [89], [0], some 90, .any, none⟩,
                      ⟨6, [90], [], some 91, .any, none⟩,
                      ⟨7, [85], [], some 8, .any, none⟩,
                      ⟨8, [86], [], some 9, .any, none⟩,
                      ⟨9, [91], [], some 10, .any, none⟩]
                  mixed_ok rfl (by kernel_rfl) ⟨DS.ok_over fun s0 => OpAt.go rfl rfl (q_move),
                      DS.ok_over fun s0 => OpAt.go rfl rfl (q_move),
                      DS.ok_over fun s0 => OpAt.go rfl rfl (q_move),
                      DS.ok_over fun s0 => OpAt.go rfl rfl (q_nil),
                      DS.ok_over fun s0 => OpAt.go rfl rfl (q_fa),
                      DS.ok_over fun s0 => OpAt.go rfl rfl (q_load),
                      DS.ok_over fun s0 => OpAt.go rfl rfl (q_len),
                      DS.ok_over fun s0 => OpAt.go rfl rfl (q_assign),
                      DS.ok_over fun s0 => OpAt.go rfl rfl (q_assign),
                      DS.ok_over fun s0 => OpAt.go rfl rfl (q_assign), trivial⟩ ?_
                dsimp only [final, DS.upd, AS.seto]
                refine AWp.goto ?_
                refine ⟨rfl, (toI b p, toI b p, b.length, some a, n, v), ?_, Back.mk' (HasT.cons (HasT.cons (HasT.cons (HasT.cons (HasT.cons HasT.nil))))) (HasH.cons HasH.nil), ?_⟩
                · try dsimp only
                  exact ⟨by rw [← hE, rdN_ptr g1 hk g2 g3]; rfl, Nat.le_refl _, hN, by omega, by omega⟩
                · try dsimp only
                  have := Nat.mul_le_mul_right (b.length + 1) (show toI b p + 1 ≤ fi by omega)
                  rw [Nat.succ_mul] at this; omega
            · skip
              show Post te Try.f70 _ (.panic _) _
              refine Post.panicH (0) (p0) ?_ (by repeat' (first | exact trivial | exact lv_ok rfl | exact lv_sl rfl rfl | exact lv_ptr rfl rfl | exact lv_mp rfl rfl | exact lobj_row (fun _ => rfl) | refine lobj_box ?_ | refine ⟨rfl, ⟨_, rfl, ?_⟩, ?_⟩ | refine ⟨?_, ?_⟩)) rfl
              obtain ⟨c1, rfl⟩ := pNo_some h14_3
              rw [← hE, rdN_pbad g1 hk g2 (by simp at c1; omega)]; rfl
          · skip
            show Post te Try.f70 _ (.panic _) _
            refine Post.panicH (0) (p0) ?_ (by repeat' (first | exact trivial | exact lv_ok rfl | exact lv_sl rfl rfl | exact lv_ptr rfl rfl | exact lv_mp rfl rfl | exact lobj_row (fun _ => rfl) | refine lobj_box ?_ | refine ⟨rfl, ⟨_, rfl, ?_⟩, ?_⟩ | refine ⟨?_, ?_⟩)) rfl
            obtain ⟨c1, rfl⟩ := pNo_some h12_5
            rw [← hE, rdN_pshort g1 (by omega) (by simp at c1; omega)]; rfl
        · skip
          refine AOps.cons rfl rfl (q_assign) ?_
          refine AOps.nil ?_
          refine AWp.cond_f rfl ?_
          refine AWp.seq ?_
          refine AWp.region ?_
          refine AOps.cons rfl rfl (q_move) ?_
          refine AOps.dec rfl rfl (q_gtr) (fun h18_1 => ?_) (fun h18_1 => ?_)
          · skip
            refine AOps.cons rfl rfl (q_assign) ?_
            refine AOps.nil ?_
            refine AWp.cond_t rfl ?_
            refine AWp.region ?_
            refine AOps.cons rfl rfl (q_mkif) ?_
            refine AOps.panic ?_
            show Post te Try.f70 _ (.panic _) _
            refine Post.panicH (0) (p0) ?_ (by repeat' (first | exact trivial | exact lv_ok rfl | exact lv_sl rfl rfl | exact lv_ptr rfl rfl | exact lv_mp rfl rfl | exact lobj_row (fun _ => rfl) | refine lobj_box ?_ | refine ⟨rfl, ⟨_, rfl, ?_⟩, ?_⟩ | refine ⟨?_, ?_⟩)) rfl
            rw [← hE, rdN_label g1 (by omega) (by omega)]; rfl
          · skip
            refine AOps.cons rfl rfl (q_assign) ?_
            refine AOps.nil ?_
            refine AWp.cond_f rfl ?_
            refine AWp.skip ?_
            refine AWp.seq ?_
            refine AWp.region ?_
            have hk0 : kB b p ≠ 0 := by omega
            have hk1 : ¬ 64 ≤ kB b p := by omega
            refine AOps.cons rfl rfl (q_move) ?_
            refine AOps.cons rfl rfl (q_add) ?_
            refine AOps.cons rfl rfl (q_move) ?_
            refine AOps.cons rfl rfl (q_add) ?_
            refine AOps.cons rfl rfl (q_move) ?_
            refine AOps.cons rfl rfl (q_leq) ?_
            refine AOps.cons rfl rfl (q_move) ?_
            refine AOps.callP (hp' := fun k => []) (0) [] [] [] (c_wire_no (decide ((p : Int) + 1 + (kB b p : Int) ≤ (li : Int))) sh) (fun h20_7 => ?_) (fun x k h20_7 => ?_)
            · skip
              refine AOps.nil ?_
              refine AWp.seq ?_
              refine AWp.region ?_
              have g2 : ¬ li < p + 1 + kB b p := by have := pNo_none h20_7; simp at this; omega
              refine AOps.cons rfl rfl (q_move) ?_
              refine AOps.cons rfl rfl (q_move) ?_
              refine AOps.cons rfl rfl (q_nil) ?_
              refine AOps.cons rfl rfl (q_fa) ?_
              refine AOps.cons rfl rfl (q_load) ?_
              refine AOps.cons rfl rfl (q_move) ?_
              refine AOps.cons rfl rfl (q_move) ?_
              refine AOps.cons rfl rfl (q_add) ?_
              refine AOps.cons rfl rfl (q_move) ?_
              refine AOps.cons rfl rfl (q_add) ?_
              refine AOps.cons rfl rfl (q_sl) ?_
              refine AOps.cons rfl rfl (q_app) ?_
              refine AOps.cons rfl rfl (q_assign) ?_
              refine AOps.nil ?_
              refine AWp.seq ?_
              refine AWp.region ?_
              rw [show ((p : Int) + 1 + (kB b p : Int)).toNat = p + 1 + kB b p by omega, show ((p : Nat) : Int).toNat = p by omega]
              obtain ⟨N, hNN⟩ : ∃ N, N = n ++ (b.take (p + 1 + kB b p)).drop p := ⟨_, rfl⟩
              rw [← hNN]
              have hNl : N.length = n.length + (1 + kB b p) := by rw [hNN, List.length_append, List.length_drop, List.length_take]; omega
              refine AOps.cons rfl rfl (q_move) ?_
              refine AOps.cons rfl rfl (q_len) ?_
              refine AOps.cons rfl rfl (q_lss) ?_
              refine AOps.callP (hp' := fun k => []) (0) [] [] [] (c_wire_no (decide ((N.length : Int) < 255)) 11) (fun h22_3 => ?_) (fun x k h22_3 => ?_)
              · skip
                refine AOps.nil ?_
                refine AWp.seq ?_
                refine AWp.region ?_
                have g3 : N.length < 255 := by have := pNo_none h22_3; simp at this; omega
                refine AOps.cons rfl rfl (q_move) ?_
                refine AOps.cons rfl rfl (q_move) ?_
                refine AOps.cons rfl rfl (q_add) ?_
                refine AOps.cons rfl rfl (q_add) ?_
                refine AOps.cons rfl rfl (q_assign) ?_
                refine AOps.nil ?_
                refine AWp.goto ?_
                refine ⟨rfl, (p + 1 + kB b p, fi, li, bh, N, v + 1), ?_, Back.mk' (HasT.cons (HasT.cons (HasT.cons (HasT.cons (HasT.cons HasT.nil)))) (h1 := by exact i64_eq (by omega)) ) (HasH.cons HasH.nil), ?_⟩
                · try dsimp only
                  exact ⟨by rw [← hE, rdN_lab g1 hk0 hk1 g2 (by rw [← hNN]; omega), ← hNN], hL, by omega, by omega, hF⟩
                · try dsimp only
                  omega
              · skip
                show Post te Try.f70 _ (.panic _) _
                refine Post.panicH (0) (p0) ?_ (by repeat' (first | exact trivial | exact lv_ok rfl | exact lv_sl rfl rfl | exact lv_ptr rfl rfl | exact lv_mp rfl rfl | exact lobj_row (fun _ => rfl) | refine lobj_box ?_ | refine ⟨rfl, ⟨_, rfl, ?_⟩, ?_⟩ | refine ⟨?_, ?_⟩)) rfl
                obtain ⟨c1, rfl⟩ := pNo_some h22_3
                rw [← hE, rdN_llong g1 hk0 hk1 g2 (by rw [← hNN]; simp at c1; omega)]; rfl
            · skip
              show Post te Try.f70 _ (.panic _) _
              refine Post.panicH (0) (p0) ?_ (by repeat' (first | exact trivial | exact lv_ok rfl | exact lv_sl rfl rfl | exact lv_ptr rfl rfl | exact lv_mp rfl rfl | exact lobj_row (fun _ => rfl) | refine lobj_box ?_ | refine ⟨rfl, ⟨_, rfl, ?_⟩, ?_⟩ | refine ⟨?_, ?_⟩)) rfl
              obtain ⟨c1, rfl⟩ := pNo_some h20_7
              rw [← hE, rdN_lshort g1 hk0 hk1 (by simp at c1; omega)]; rfl
    · skip
      show Post te Try.f70 _ (.panic _) _
      refine Post.panicH (0) (p0) ?_ (by repeat' (first | exact trivial | exact lv_ok rfl | exact lv_sl rfl rfl | exact lv_ptr rfl rfl | exact lv_mp rfl rfl | exact lobj_row (fun _ => rfl) | refine lobj_box ?_ | refine ⟨rfl, ⟨_, rfl, ?_⟩, ?_⟩ | refine ⟨?_, ?_⟩)) rfl
      obtain ⟨c1, rfl⟩ := pNo_some h3_4
      rw [← hE, rdN_short (by simp at c1; omega)]; rfl

end Go.Proofs.Ytkfccjbihcbmiaa.Fw

/- Walks of layer 4: readers of numbers and of data. -/
set_option linter.unusedVariables false
set_option linter.unusedSimpArgs false
namespace Go.Proofs.Ytkfccjbihcbmiaa.Fw
open Go.RowKit


theorem perr_none {α : Type} {r : Except Int α} (h : perr r = none) : ∃ a, r = .ok a := by
  cases r with
  | error e => simp [perr] at h
  | ok a => exact ⟨a, rfl⟩
theorem perr_some {α : Type} {r : Except Int α} {x : Value} (h : perr r = some x) : ∃ e, r = .error e ∧ pE e = x := by
  cases r with
  | error e => exact ⟨e, rfl, by simpa [perr] using h⟩
  | ok a => simp [perr] at h
theorem rdN_ok {b : List UInt8} {sh : Int} : ∀ (p fi li : Nat) (bh : Option Nat) (n : List UInt8), ∀ {N : List UInt8} {P : Nat}, rdN b sh p fi li bh n = .ok (N, P) → N.length ≤ 255 ∧ (bh = none → p < P ∧ P ≤ li) ∧ (∀ a, bh = some a → P = a) := by
  intro p fi li bh n
  induction p, fi, li, bh, n using rdN.induct b with
  | case1 p fi li bh n h => intro N P e; rw [rdN_short h] at e; cases e
  | case2 p fi li bh n h h1 h2 =>
    intro N P e
    rw [rdN_end h h1 h2] at e; cases e
    refine ⟨by simp; omega, fun hb => by subst hb; simp; omega, fun a ha => by subst ha; rfl⟩
  | case3 p fi li bh n h h1 h2 => intro N P e; rw [rdN_long0 h h1 h2] at e; cases e
  | case4 p fi li bh n h h1 h2 h3 => intro N P e; rw [rdN_pshort h h2 h3] at e; cases e
  | case5 p fi li bh n h h1 h2 h3 h4 ih =>
    intro N P e
    rw [rdN_ptr h h2 h3 h4] at e
    obtain ⟨a, b1, c⟩ := ih e
    have hP := c _ rfl
    refine ⟨a, fun hb => ?_, fun x hx => ?_⟩
    · subst hb; rw [hP]; show p < p + 2 ∧ p + 2 ≤ li; omega
    · subst hx; rw [hP]; rfl
  | case6 p fi li bh n h h1 h2 h3 h4 => intro N P e; rw [rdN_pbad h h2 h3 h4] at e; cases e
  | case7 p fi li bh n h h1 h2 h3 => intro N P e; rw [rdN_label h h3 h2] at e; cases e
  | case8 p fi li bh n h h1 h2 h3 h4 => intro N P e; rw [rdN_lshort h h1 h3 h4] at e; cases e
  | case9 p fi li bh n h h1 h2 h3 h4 h5 ih =>
    intro N P e
    rw [rdN_lab h h1 h3 h4 h5] at e
    obtain ⟨a, b1, c⟩ := ih e
    exact ⟨a, fun hb => by have := b1 hb; omega, c⟩
  | case10 p fi li bh n h h1 h2 h3 h4 h5 => intro N P e; rw [rdN_llong h h1 h3 h4 h5] at e; cases e
def nV (l : List UInt8) : Nat := l.foldl (fun a x => a * 256 + x.toNat) 0
theorem nV_snoc (l : List UInt8) (x : UInt8) : nV (l ++ [x]) = nV l * 256 + x.toNat := by simp [nV, List.foldl_append]
theorem nV_lt' (l : List UInt8) (a : Nat) : l.foldl (fun a x => a * 256 + x.toNat) a < (a + 1) * 256 ^ l.length := by
  induction l generalizing a with
  | nil => simp
  | cons x l ih =>
    have h1 := ih (a * 256 + x.toNat)
    have h2 := x.toNat_lt
    have h3 : (a * 256 + x.toNat + 1) * 256 ^ l.length ≤ ((a + 1) * 256) * 256 ^ l.length := Nat.mul_le_mul_right _ (by omega)
    rw [List.foldl_cons, List.length_cons, Nat.pow_succ, Nat.mul_comm (256 ^ l.length) 256, ← Nat.mul_assoc]
    omega
theorem nV_lt (l : List UInt8) : nV l < 256 ^ l.length := by have := nV_lt' l 0; simpa [nV] using this
theorem nV_lt4 {l : List UInt8} (h : l.length ≤ 4) : nV l < 4294967296 :=
  Nat.lt_of_lt_of_le (nV_lt l) (Nat.le_trans (Nat.pow_le_pow_right (by decide) h) (by decide))
def bN (b : List UInt8) (i w : Nat) : Nat := nV ((b.take (i + w)).drop i)
theorem or_acc (a : Nat) (q : UInt8) : (((a : Int) * 2 ^ 8).toNat ||| ((q.toNat : Int)).toNat : Nat) = a * 256 + q.toNat := by
  have hq := q.toNat_lt
  have e : ((a : Int) * 2 ^ 8).toNat = 2 ^ 8 * a := by omega
  rw [e, Int.toNat_natCast, ← Nat.two_pow_add_eq_or_of_lt (by omega : q.toNat < 2 ^ 8) a]
  omega
theorem q_ora {n : Nat} {s : AS} {o : Oper} {d : Option Tmp} {t u : TypeId} {x y : Operand} {a : Nat} {q : UInt8} (ho : o.op = .binOp .or t x y u := by exact rfl) (hx : s.ev x = i64 ((a : Int) * 2 ^ 8) := by exact rfl) (hy : s.ev y = i64 q.toNat := by exact rfl) (ha : a < 4294967296)
    (hdd : o.dst = d := by conv => lhs; whnf) (hd : d.all (Nat.blt · n) = true := by exact rfl) : OpOk Try.prog n o s (s.put d (i64 ((a * 256 + q.toNat : Nat) : Int))) := by
  have hq := q.toNat_lt
  rw [← or_acc]
  exact q_or ho hx hy (by omega) (by omega) hdd hd
def nCnt (t : Int) : Nat := if t = 6 then 2 else if t = 2 ∨ t = 5 ∨ t = 12 ∨ t = 15 then 1 else 0
def mCnt : List (Int × Int) := mput (mput (mput (mput (mput [] 2 1) 5 1) 12 1) 15 1) 6 2
theorem nCnt_eq (t : Int) : (mget mCnt t).getD 0 = (nCnt t : Int) := by
  have e : mCnt = [(2, 1), (5, 1), (12, 1), (15, 1), (6, 2)] := rfl
  rw [e]
  unfold nCnt
  by_cases h6 : t = 6
  · subst h6; rfl
  · by_cases h : t = 2 ∨ t = 5 ∨ t = 12 ∨ t = 15
    · rw [if_neg h6, if_pos h]
      rcases h with rfl | rfl | rfl | rfl <;> rfl
    · rw [if_neg h6, if_neg h]
      simp only [not_or] at h
      simp [mget, Ne.symm h.1, Ne.symm h.2.1, Ne.symm h.2.2.1, Ne.symm h.2.2.2, Ne.symm h6]
def rdNs (b : List UInt8) (en : Nat) : Nat → List UInt8 → Nat → Except Int (List UInt8 × Nat)
  | 0, acc, p => .ok (acc, p)
  | k + 1, acc, p => match rdN b 30 p p en none [] with
    | .error e => .error e
    | .ok a => rdNs b en k (acc ++ a.1) a.2
def rdO (b : List UInt8) (t : Int) (en : Nat) : Except Int (List UInt8 × Nat) → Except Int (List UInt8)
  | .error e => .error e
  | .ok a => if canS t (a.1 ++ (b.take en).drop a.2) then .ok (a.1 ++ (b.take en).drop a.2) else .error 30
def rdD (b : List UInt8) (t : Int) (p en : Nat) : Except Int (List UInt8) :=
  if t = 15 ∧ en < p + 2 then .error 30
  else rdO b t en (rdNs b en (nCnt t) (if t = 15 then (b.take (p + 2)).drop p else []) (if t = 15 then p + 2 else p))
theorem rdNs_err {b : List UInt8} {en k : Nat} {acc : List UInt8} {p : Nat} {e : Int} (h : rdN b 30 p p en none [] = .error e) : rdNs b en (k + 1) acc p = .error e := by simp only [rdNs, h]
theorem rdNs_ok {b : List UInt8} {en k : Nat} {acc : List UInt8} {p : Nat} {a : List UInt8 × Nat} (h : rdN b 30 p p en none [] = .ok a) : rdNs b en (k + 1) acc p = rdNs b en k (acc ++ a.1) a.2 := by simp only [rdNs, h]
theorem rdD_go {b : List UInt8} {t : Int} {p en : Nat} (h : ¬ (t = 15 ∧ en < p + 2)) : rdD b t p en = rdO b t en (rdNs b en (nCnt t) (if t = 15 then (b.take (p + 2)).drop p else []) (if t = 15 then p + 2 else p)) := if_neg h

set_option maxRecDepth 20000 in
set_option maxHeartbeats 2000000 in
theorem c_rdnum (b : List UInt8) (p0 w : Nat) (hb : b.length ≤ 65535) (hp : p0 ≤ 200000) (hw : w ≤ 4) : AC Try.prog 71 [.ptr 0 0 0, i64 w] (hlook [(0, .box [.fz 0 b.length (cl bc b), i64 p0])]) (RetP (pNo (decide (p0 + w ≤ b.length)) 20) (i64 (bN b p0 w)) [(0, .box [.fz 0 b.length (cl bc b), i64 ((p0 + w : Nat) : Int)])] (fun k => [(0, .box [.fz 0 b.length (cl bc b), i64 k])])) := by
  refine AC.intro te_ok (fn := Try.f71) ⟨Try.func71, rfl, rfl⟩ (Nat.le_of_ble_eq_true rfl) ?_
  refine AWp.seq ?_
  refine AWp.region ?_
  refine AOps.cons rfl rfl (q_assign) ?_
  refine AOps.nil ?_
  refine AWp.seq ?_
  rcases hpo : pNo (decide ((w : Int) ≤ (b.length : Int) - (p0 : Int))) 20 with _ | xx
  · skip
    refine AWp.drawsX _ [⟨0, [0], [], some 8, _, none⟩,
        ⟨1, [8], [0], some 9, _, none⟩,
        ⟨2, [9], [0], some 10, _, none⟩,
        ⟨3, [10], [0], some 11, _, none⟩,
        ⟨4, [11], [], some 12, _, none⟩,
        ⟨5, [0], [], some 13, _, none⟩,
        ⟨6, [13], [0], some 14, _, none⟩,
        ⟨7, [14], [0], some 15, _, none⟩,
        ⟨8, [15], [0], some 16, _, none⟩,
        ⟨9, [12, 16], [], some 17, _, none⟩,
        ⟨10, [1], [], some 18, _, none⟩,
        ⟨11, [17, 18], [], some 19, _, none⟩,
        ⟨12, [19], [0, 1, 2, 3, 4, 5, 6, 7], some 20, _, none⟩]
      [⟨0, [0], [], some 8, .any, none⟩,
          ⟨1, [8], [0], some 9, .any, none⟩,
          ⟨2, [9], [0], some 10, .any, none⟩,
          ⟨3, [10], [0], some 11, .any, none⟩,
          ⟨4, [11], [], some 12, .any, none⟩,
          ⟨5, [0], [], some 13, .any, none⟩,
          ⟨6, [13], [0], some 14, .any, none⟩,
          ⟨7, [14], [0], some 15, .any, none⟩,
          ⟨8, [15], [0], some 16, .any, none⟩,
          ⟨9, [12, 16], [], some 17, .any, none⟩,
          ⟨10, [1], [], some 18, .any, none⟩,
          ⟨11, [17, 18], [], some 19, .any, none⟩,
          ⟨12, [19], [0, 1, 2, 3, 4, 5, 6, 7], some 20, .any, none⟩]
      mixed_ok rfl (by kernel_rfl) ⟨DS.okX_over fun s0 => (OpAt.go rfl rfl (q_move)).x,
          DS.okX_over fun s0 => (OpAt.go rfl rfl (q_nil)).x,
          DS.okX_over fun s0 => (OpAt.go rfl rfl (q_fa)).x,
          DS.okX_over fun s0 => (OpAt.go rfl rfl (q_load)).x,
          DS.okX_over fun s0 => (OpAt.go rfl rfl (q_len)).x,
          DS.okX_over fun s0 => (OpAt.go rfl rfl (q_move)).x,
          DS.okX_over fun s0 => (OpAt.go rfl rfl (q_nil)).x,
          DS.okX_over fun s0 => (OpAt.go rfl rfl (q_fa)).x,
          DS.okX_over fun s0 => (OpAt.go rfl rfl (q_load)).x,
          DS.okX_over fun s0 => (OpAt.go rfl rfl (q_sub)).x,
          DS.okX_over fun s0 => (OpAt.go rfl rfl (q_move)).x,
          DS.okX_over fun s0 => (OpAt.go rfl rfl (q_geq)).x,
          DS.okX_over fun s0 => at_callP (hp' := fun k => []) (0) [] [] [] (c_wire_no (decide ((w : Int) ≤ (b.length : Int) - (p0 : Int))) 20) (fun x k h1_12 => ?_), trivial⟩ ?_ (fun _ _ h => h)
    · skip
      exact absurd (hpo.symm.trans h1_12) (by simp)
    dsimp only [final, DS.upd, AS.seto]
    refine AWp.seq ?_
    refine AWp.region ?_
    have g1 : p0 + w ≤ b.length := by have := pNo_none hpo; simp at this; omega
    refine AOps.cons rfl rfl (q_assign) ?_
    refine AOps.nil ?_
    refine AWp.seq ?_
    refine AWp.seq ?_
    refine AWp.draws [⟨0, [0], [], some 21, _, none⟩,
        ⟨1, [21], [0], some 22, _, none⟩,
        ⟨2, [22], [0], some 23, _, none⟩,
        ⟨3, [23], [0], some 24, _, none⟩,
        ⟨4, [0], [], some 25, _, none⟩,
        ⟨5, [25], [0], some 26, _, none⟩,
        ⟨6, [26], [0], some 27, _, none⟩,
        ⟨7, [27], [0], some 28, _, none⟩,
        ⟨8, [0], [], some 29, _, none⟩,
        ⟨9, [29], [0], some 30, _, none⟩,
        ⟨10, [30], [0], some 31, _, none⟩,
        ⟨11, [31], [0], some 32, _, none⟩,
        ⟨12, [1], [], some 33, _, none⟩,
        ⟨13, [32, 33], [], some 34, _, none⟩,
        ⟨14, [24, 28, 34], [], some 35, _, none⟩,
        ⟨15, [35], [], some 36, _, none⟩,
        ⟨16, [], [], some 37, _, none⟩]
      [⟨0, [0], [], some 21, .any, none⟩,
          ⟨1, [21], [0], some 22, .any, none⟩,
          ⟨2, [22], [0], some 23, .any, none⟩,
          ⟨3, [23], [0], some 24, .any, none⟩,
          ⟨4, [0], [], some 25, .any, none⟩,
          ⟨5, [25], [0], some 26, .any, none⟩,
          ⟨6, [26], [0], some 27, .any, none⟩,
          ⟨7, [27], [0], some 28, .any, none⟩,
          ⟨8, [0], [], some 29, .any, none⟩,
          ⟨9, [29], [0], some 30, .any, none⟩,
          ⟨10, [30], [0], some 31, .any, none⟩,
          ⟨11, [31], [0], some 32, .any, none⟩,
          ⟨12, [1], [], some 33, .any, none⟩,
          ⟨13, [32, 33], [], some 34, .any, none⟩,
          ⟨14, [24, 28, 34], [], some 35, .any, none⟩,
          ⟨15, [35], [], some 36, .any, none⟩,
          ⟨16, [], [], some 37, .any, none⟩]
      mixed_ok rfl (by kernel_rfl) ⟨DS.ok_over fun s0 => OpAt.go rfl rfl (q_move),
          DS.ok_over fun s0 => OpAt.go rfl rfl (q_nil),
          DS.ok_over fun s0 => OpAt.go rfl rfl (q_fa),
          DS.ok_over fun s0 => OpAt.go rfl rfl (q_load),
          DS.ok_over fun s0 => OpAt.go rfl rfl (q_move),
          DS.ok_over fun s0 => OpAt.go rfl rfl (q_nil),
          DS.ok_over fun s0 => OpAt.go rfl rfl (q_fa),
          DS.ok_over fun s0 => OpAt.go rfl rfl (q_load),
          DS.ok_over fun s0 => OpAt.go rfl rfl (q_move),
          DS.ok_over fun s0 => OpAt.go rfl rfl (q_nil),
          DS.ok_over fun s0 => OpAt.go rfl rfl (q_fa),
          DS.ok_over fun s0 => OpAt.go rfl rfl (q_load),
          DS.ok_over fun s0 => OpAt.go rfl rfl (q_move),
          DS.ok_over fun s0 => OpAt.go rfl rfl (q_add),
          DS.ok_over fun s0 => OpAt.go rfl rfl (q_sl),
          DS.ok_over fun s0 => OpAt.go rfl rfl (q_len),
          DS.ok_over fun s0 => OpAt.go rfl rfl (q_move), trivial⟩ ?_
    dsimp only [final, DS.upd, AS.seto]
    rw [show ((p0 : Int) + (w : Int)).toNat = p0 + w by omega, show ((p0 : Nat) : Int).toNat = p0 by omega]
    refine AWp.block ?_
    refine AWp.loopR (α := Nat) [5, 7, 37, 38, 39, 40, 41, 42, 43, 44, 45, 46] (fun i => [(37, i64 i), (5, i64 (nV (((b.take (p0 + w)).drop p0).take i)))]) (fun i => []) (fun i => i ≤ w) (fun i => w - i) 0 ?_ (Back.mk' (HasT.cons (HasT.cons HasT.nil)) HasH.nil) ?_
    · exact Nat.zero_le _
    · rintro i hi
      have hSl : ((b.take (p0 + w)).drop p0).length = w := by rw [List.length_drop, List.length_take]; omega
      have hv : nV (((b.take (p0 + w)).drop p0).take i) < 4294967296 := nV_lt4 (by rw [List.length_take]; omega)
      refine AWp.seq ?_
      refine AWp.region ?_
      refine AOps.dec rfl rfl (q_lss) (fun h4_0 => ?_) (fun h4_0 => ?_)
      · skip
        refine AOps.nil ?_
        refine AWp.seq ?_
        refine AWp.cond_t rfl ?_
        refine AWp.skip ?_
        refine AWp.seq ?_
        refine AWp.block ?_
        refine AWp.seq ?_
        refine AWp.region ?_
        refine AOps.cons rfl rfl (q_ix) ?_
        refine AOps.cons rfl rfl (q_load) ?_
        refine AOps.cons rfl rfl (q_assign) ?_
        refine AOps.nil ?_
        refine AWp.region ?_
        refine AOps.cons rfl rfl (q_move) ?_
        refine AOps.cons rfl rfl (q_shl 8) ?_
        refine AOps.cons rfl rfl (q_move) ?_
        refine AOps.cons rfl rfl (q_conv_8i) ?_
        refine AOps.cons rfl rfl (q_ora (ha := hv)) ?_
        refine AOps.cons rfl rfl (q_assign) ?_
        refine AOps.nil ?_
        refine AWp.region ?_
        refine AOps.cons rfl rfl (q_add) ?_
        refine AOps.cons rfl rfl (q_move) ?_
        refine AOps.nil ?_
        refine ⟨i + 1, ?_, Back.mk' (HasT.cons (HasT.cons HasT.nil (h1 := by exact i64_eq (by rw [take_step' (by omega), nV_snoc]; rfl)) )) HasH.nil, ?_⟩
        · first | assumption | omega | decide | (simp; omega) | (simp [*]; done)
        · first | omega | (simp; omega)
      · skip
        refine AOps.nil ?_
        refine AWp.seq ?_
        refine AWp.cond_f rfl ?_
        refine AWp.exit ?_
        refine AWp.seq ?_
        refine AWp.region ?_
        refine AOps.cons rfl rfl (q_move) ?_
        refine AOps.cons rfl rfl (q_nil) ?_
        refine AOps.cons rfl rfl (q_fa) ?_
        refine AOps.cons rfl rfl (q_load) ?_
        refine AOps.cons rfl rfl (q_move) ?_
        refine AOps.cons rfl rfl (q_add) ?_
        refine AOps.cons rfl rfl (q_nil) ?_
        refine AOps.cons rfl rfl (q_fa) ?_
        refine AOps.cons rfl rfl (q_store) ?_
        refine AOps.nil ?_
        refine AWp.seq ?_
        refine AWp.region ?_
        refine AOps.cons rfl rfl (q_move) ?_
        refine AOps.cons rfl rfl (q_assign) ?_
        refine AOps.nil ?_
        refine AWp.ret ?_
        show Fin te Try.f71 _ _
        obtain rfl : i = w := by omega
        rw [decide_eq_true g1]
        have hSi : ((b.take (p0 + i)).drop p0).take i = (b.take (p0 + i)).drop p0 := List.take_of_length_le (by omega)
        rw [hSi]
        refine Fin.retP (by rfl) ?_
        refine q_retH (0) [] [_] [_] [(_, _)] ?_
        rfl
  · skip
    refine AWp.drawsX _ [⟨0, [0], [], some 8, _, none⟩,
        ⟨1, [8], [0], some 9, _, none⟩,
        ⟨2, [9], [0], some 10, _, none⟩,
        ⟨3, [10], [0], some 11, _, none⟩,
        ⟨4, [11], [], some 12, _, none⟩,
        ⟨5, [0], [], some 13, _, none⟩,
        ⟨6, [13], [0], some 14, _, none⟩,
        ⟨7, [14], [0], some 15, _, none⟩,
        ⟨8, [15], [0], some 16, _, none⟩,
        ⟨9, [12, 16], [], some 17, _, none⟩,
        ⟨10, [1], [], some 18, _, none⟩,
        ⟨11, [17, 18], [], some 19, _, none⟩,
        ⟨12, [19], [0, 1, 2, 3, 4, 5, 6, 7], some 20, _, none⟩]
      [⟨0, [0], [], some 8, .any, none⟩,
          ⟨1, [8], [0], some 9, .any, none⟩,
          ⟨2, [9], [0], some 10, .any, none⟩,
          ⟨3, [10], [0], some 11, .any, none⟩,
          ⟨4, [11], [], some 12, .any, none⟩,
          ⟨5, [0], [], some 13, .any, none⟩,
          ⟨6, [13], [0], some 14, .any, none⟩,
          ⟨7, [14], [0], some 15, .any, none⟩,
          ⟨8, [15], [0], some 16, .any, none⟩,
          ⟨9, [12, 16], [], some 17, .any, none⟩,
          ⟨10, [1], [], some 18, .any, none⟩,
          ⟨11, [17, 18], [], some 19, .any, none⟩,
          ⟨12, [19], [0, 1, 2, 3, 4, 5, 6, 7], some 20, .any, none⟩]
      mixed_ok rfl (by kernel_rfl) ⟨DS.okX_over fun s0 => (OpAt.go rfl rfl (q_move)).x,
          DS.okX_over fun s0 => (OpAt.go rfl rfl (q_nil)).x,
          DS.okX_over fun s0 => (OpAt.go rfl rfl (q_fa)).x,
          DS.okX_over fun s0 => (OpAt.go rfl rfl (q_load)).x,
          DS.okX_over fun s0 => (OpAt.go rfl rfl (q_len)).x,
          DS.okX_over fun s0 => (OpAt.go rfl rfl (q_move)).x,
          DS.okX_over fun s0 => (OpAt.go rfl rfl (q_nil)).x,
          DS.okX_over fun s0 => (OpAt.go rfl rfl (q_fa)).x,
          DS.okX_over fun s0 => (OpAt.go rfl rfl (q_load)).x,
          DS.okX_over fun s0 => (OpAt.go rfl rfl (q_sub)).x,
          DS.okX_over fun s0 => (OpAt.go rfl rfl (q_move)).x,
          DS.okX_over fun s0 => (OpAt.go rfl rfl (q_geq)).x,
          DS.okX_over fun s0 => at_callP (hp' := fun k => []) (0) [] [] [] (AC.bad hpo (c_wire_no (decide ((w : Int) ≤ (b.length : Int) - (p0 : Int))) 20)) (fun x k h1_12 => ?_), trivial⟩ ?_ (fun _ _ h => h)
    · skip
      show Post te Try.f71 _ (.panic _) _
      refine Post.panicH (0) (p0) ?_ (by repeat' (first | exact trivial | exact lv_ok rfl | exact lv_sl rfl rfl | exact lv_ptr rfl rfl | exact lv_mp rfl rfl | exact lobj_row (fun _ => rfl) | refine lobj_box ?_ | refine ⟨rfl, ⟨_, rfl, ?_⟩, ?_⟩ | refine ⟨?_, ?_⟩)) rfl
      obtain ⟨c1, rfl⟩ := pNo_some h1_12
      rw [decide_eq_false (by simp at c1; omega)]; rfl
    dsimp only [final, DS.upd, AS.seto]
    exact AWp.bot (d := 20) rfl

end Go.Proofs.Ytkfccjbihcbmiaa.Fw

/- Walks of layer 4: readers of data and of records. -/
set_option linter.unusedVariables false
set_option linter.unusedSimpArgs false
namespace Go.Proofs.Ytkfccjbihcbmiaa.Fw
open Go.RowKit


theorem resE_ok {α : Type} [Inhabited α] (a : α) : resE (.ok a) = a := rfl
theorem rdN_ok0 {b : List UInt8} {sh : Int} {p li : Nat} {a : List UInt8 × Nat} (h : rdN b sh p p li none [] = .ok a) : a.1.length ≤ 255 ∧ p < a.2 ∧ a.2 ≤ li := by
  obtain ⟨N, P⟩ := a
  obtain ⟨h1, h2, _⟩ := rdN_ok _ _ _ _ _ h
  exact ⟨h1, (h2 rfl).1, (h2 rfl).2⟩
theorem pNo_if {c c' : Bool} {e : Int} (h : c = c') : pNo c e = pNo c' e := by rw [h]
theorem nCnt_le (t : Int) : nCnt t ≤ 2 := by unfold nCnt; split <;> (try split) <;> omega
/-- A record from a place on. -/
def rdR2 (b : List UInt8) (n : List UInt8) (q : Nat) : Except Int (List UInt8) → Except Int (Rr × Nat)
  | .error e => .error e
  | .ok d => .ok (⟨n, bN b q 2, bN b (q + 2) 2, bN b (q + 4) 4, d⟩, q + 10 + bN b (q + 8) 2)
def rdR1 (b : List UInt8) : Except Int (List UInt8 × Nat) → Except Int (Rr × Nat)
  | .error e => .error e
  | .ok a => if b.length < a.2 + 10 ∨ b.length < a.2 + 10 + bN b (a.2 + 8) 2 then .error 20 else rdR2 b a.1 a.2 (rdD b (bN b a.2 2) (a.2 + 10) (a.2 + 10 + bN b (a.2 + 8) 2))
def rdR (b : List UInt8) (p : Nat) : Except Int (Rr × Nat) := rdR1 b (rdN b 20 p p b.length none [])
theorem rdR_bad {b : List UInt8} {p : Nat} {a : List UInt8 × Nat} (h : rdN b 20 p p b.length none [] = .ok a) (h1 : b.length < a.2 + 10 ∨ b.length < a.2 + 10 + bN b (a.2 + 8) 2) : rdR b p = .error 20 := by rw [rdR, h, rdR1, if_pos h1]
theorem rdR_go {b : List UInt8} {p : Nat} {a : List UInt8 × Nat} (h : rdN b 20 p p b.length none [] = .ok a) (h1 : ¬ b.length < a.2 + 10) (h2 : ¬ b.length < a.2 + 10 + bN b (a.2 + 8) 2) : rdR b p = rdR2 b a.1 a.2 (rdD b (bN b a.2 2) (a.2 + 10) (a.2 + 10 + bN b (a.2 + 8) 2)) := by rw [rdR, h, rdR1, if_neg (by omega)]
theorem bN_lt {b : List UInt8} {i w : Nat} (h : w ≤ 4) : bN b i w < 4294967296 := nV_lt4 (by rw [List.length_drop, List.length_take]; omega)
theorem bN_lt2 {b : List UInt8} {i : Nat} : bN b i 2 < 65536 := by
  have h := nV_lt ((b.take (i + 2)).drop i)
  have h2 : ((b.take (i + 2)).drop i).length ≤ 2 := by rw [List.length_drop, List.length_take]; omega
  have h3 : 256 ^ ((b.take (i + 2)).drop i).length ≤ 256 ^ 2 := Nat.pow_le_pow_right (by decide) h2
  exact Nat.lt_of_lt_of_le h h3

set_option maxRecDepth 20000 in
set_option maxHeartbeats 2000000 in
theorem c_rddata (b : List UInt8) (t : Int) (p0 en : Nat) (hb : b.length ≤ 65535) (he : en ≤ b.length) (hp : p0 ≤ en) : AC Try.prog 93 [.ptr 0 0 0, i64 t, i64 en] (hlook [(0, .box [.fz 0 b.length (cl bc b), i64 p0])]) (RetP (perr (rdD b t p0 en)) (.fz 0 (resE (rdD b t p0 en)).length (cl bc (resE (rdD b t p0 en)))) [(0, .box [.fz 0 b.length (cl bc b), i64 en])] (fun k => [(0, .box [.fz 0 b.length (cl bc b), i64 k])])) := by
  have hc2 := nCnt_le t
  refine AC.intro te_ok (fn := Try.f93) ⟨Try.func93, rfl, rfl⟩ (Nat.le_of_ble_eq_true rfl) ?_
  refine AWp.seq ?_
  refine AWp.region ?_
  refine AOps.cons rfl rfl (q_nilz (0) bc) ?_
  refine AOps.nil ?_
  refine AWp.seq ?_
  refine AWp.region ?_
  refine AOps.cons rfl rfl (q_nilrow 200 1 bc) ?_
  refine AOps.nil ?_
  refine AWp.seq ?_
  refine AWp.region ?_
  refine AOps.cons rfl rfl (q_makeMap 300 MInt (fun b : Int => i64 b)) ?_
  refine AOps.cons rfl rfl (q_insert MInt (f := fun b : Int => i64 b) (m := ([] : List (Int × Int))) 1) ?_
  refine AOps.cons rfl rfl (q_insert MInt (f := fun b : Int => i64 b) (m := mput [] 2 1) 1) ?_
  refine AOps.cons rfl rfl (q_insert MInt (f := fun b : Int => i64 b) (m := mput (mput [] 2 1) 5 1) 1) ?_
  refine AOps.cons rfl rfl (q_insert MInt (f := fun b : Int => i64 b) (m := mput (mput (mput [] 2 1) 5 1) 12 1) 1) ?_
  refine AOps.cons rfl rfl (q_insert MInt (f := fun b : Int => i64 b) (m := mput (mput (mput (mput [] 2 1) 5 1) 12 1) 15 1) 2) ?_
  refine AOps.cons rfl rfl (q_move) ?_
  refine AOps.cons rfl rfl (q_assign) ?_
  refine AOps.nil ?_
  refine AWp.cutR (α := List UInt8 × Nat × Nat) [7, 11, 12, 13, 14, 15, 16, 17, 18, 19, 20, 21, 22, 23, 24, 25, 26, 27, 28, 29, 30, 31, 32, 33, 34, 35, 36, 37, 38, 39, 40, 41, 42, 43] (fun x_ => [(7, .sl 200 (x_.2.2) 0 (x_.1).length 1)]) (fun x_ => [(0, .box [.fz 0 b.length (cl bc b), i64 (x_.2.1)]), (200, .row (cl bc (x_.1)) 1 (x_.2.2))]) (fun x_ => (x_.1) = (if t = 15 then (b.take (p0 + 2)).drop p0 else []) ∧ (x_.2.1) = (if t = 15 then p0 + 2 else p0) ∧ ¬ (t = 15 ∧ en < p0 + 2) ∧ (x_.1).length ≤ 2 ∧ (x_.2.1) ≤ en) ?_ ?_
  · skip
    refine AWp.seq ?_
    refine AWp.region ?_
    refine AOps.cons rfl rfl (q_move) ?_
    refine AOps.dec rfl rfl (q_eql) (fun h3_1 => ?_) (fun h3_1 => ?_)
    · skip
      refine AOps.nil ?_
      refine AWp.cond_t rfl ?_
      refine AWp.seq ?_
      refine AWp.region ?_
      refine AOps.cons rfl rfl (q_move) ?_
      refine AOps.cons rfl rfl (q_move) ?_
      refine AOps.cons rfl rfl (q_nil) ?_
      refine AOps.cons rfl rfl (q_fa) ?_
      refine AOps.cons rfl rfl (q_load) ?_
      refine AOps.cons rfl rfl (q_sub) ?_
      refine AOps.cons rfl rfl (q_geq) ?_
      refine AOps.callP (hp' := fun k => []) (0) [] [] [] (c_wire_no (decide (2 ≤ (en : Int) - (p0 : Int))) 30) (fun h4_7 => ?_) (fun x k h4_7 => ?_)
      · skip
        refine AOps.nil ?_
        refine AWp.seq ?_
        have g1 : ¬ en < p0 + 2 := by have := pNo_none h4_7; simp at this; omega
        refine AWp.draws [⟨0, [7], [], some 21, _, none⟩,
            ⟨1, [0], [], some 22, _, none⟩,
            ⟨2, [22], [0], some 23, _, none⟩,
            ⟨3, [23], [0], some 24, _, none⟩,
            ⟨4, [24], [0], some 25, _, none⟩,
            ⟨5, [0], [], some 26, _, none⟩,
            ⟨6, [26], [0], some 27, _, none⟩,
            ⟨7, [27], [0], some 28, _, none⟩,
            ⟨8, [28], [0], some 29, _, none⟩,
            ⟨9, [0], [], some 30, _, none⟩,
            ⟨10, [30], [0], some 31, _, none⟩,
            ⟨11, [31], [0], some 32, _, none⟩,
            ⟨12, [32], [0], some 33, _, none⟩,
            ⟨13, [33], [], some 34, _, none⟩,
            ⟨14, [25, 29, 34], [], some 35, _, none⟩,
            ⟨15, [21, 35], [200], some 36, _, some (200, _)⟩,
            ⟨16, [36], [], some 7, _, none⟩]
          [⟨0, [7], [], some 21, .any, none⟩,
              ⟨1, [0], [], some 22, .any, none⟩,
              ⟨2, [22], [0], some 23, .any, none⟩,
              ⟨3, [23], [0], some 24, .any, none⟩,
              ⟨4, [24], [0], some 25, .any, none⟩,
              ⟨5, [0], [], some 26, .any, none⟩,
              ⟨6, [26], [0], some 27, .any, none⟩,
              ⟨7, [27], [0], some 28, .any, none⟩,
              ⟨8, [28], [0], some 29, .any, none⟩,
              ⟨9, [0], [], some 30, .any, none⟩,
              ⟨10, [30], [0], some 31, .any, none⟩,
              ⟨11, [31], [0], some 32, .any, none⟩,
              ⟨12, [32], [0], some 33, .any, none⟩,
              ⟨13, [33], [], some 34, .any, none⟩,
              ⟨14, [25, 29, 34], [], some 35, .any, none⟩,
              ⟨15, [21, 35], [200], some 36, .any, some (200, .box [])⟩,
              ⟨16, [36], [], some 7, .any, none⟩]
          mixed_ok rfl (by kernel_rfl) ⟨DS.ok_over fun s0 => OpAt.go rfl rfl (q_move),
              DS.ok_over fun s0 => OpAt.go rfl rfl (q_move),
              DS.ok_over fun s0 => OpAt.go rfl rfl (q_nil),
              DS.ok_over fun s0 => OpAt.go rfl rfl (q_fa),
              DS.ok_over fun s0 => OpAt.go rfl rfl (q_load),
              DS.ok_over fun s0 => OpAt.go rfl rfl (q_move),
              DS.ok_over fun s0 => OpAt.go rfl rfl (q_nil),
              DS.ok_over fun s0 => OpAt.go rfl rfl (q_fa),
              DS.ok_over fun s0 => OpAt.go rfl rfl (q_load),
              DS.ok_over fun s0 => OpAt.go rfl rfl (q_move),
              DS.ok_over fun s0 => OpAt.go rfl rfl (q_nil),
              DS.ok_over fun s0 => OpAt.go rfl rfl (q_fa),
              DS.ok_over fun s0 => OpAt.go rfl rfl (q_load),
              DS.ok_over fun s0 => OpAt.go rfl rfl (q_add),
              DS.ok_over fun s0 => OpAt.go rfl rfl (q_sl),
              DS.ok_over fun s0 => OpAt.go rfl rfl (q_app),
              DS.ok_over fun s0 => OpAt.go rfl rfl (q_assign), trivial⟩ ?_
        dsimp only [final, DS.upd, AS.seto]
        refine AWp.region ?_
        refine AOps.cons rfl rfl (q_move) ?_
        refine AOps.cons rfl rfl (q_nil) ?_
        refine AOps.cons rfl rfl (q_fa) ?_
        refine AOps.cons rfl rfl (q_load) ?_
        refine AOps.cons rfl rfl (q_add) ?_
        refine AOps.cons rfl rfl (q_nil) ?_
        refine AOps.cons rfl rfl (q_fa) ?_
        refine AOps.cons rfl rfl (q_store) ?_
        refine AOps.nil ?_
        rw [show ((p0 : Int) + 2).toNat = p0 + 2 by omega, show ((p0 : Nat) : Int).toNat = p0 by omega]
        refine ⟨((b.take (p0 + 2)).drop p0, p0 + 2, 1), ?_, Back.mk' (HasT.cons HasT.nil) (HasH.cons (HasH.cons HasH.nil))⟩
        try dsimp only
        exact ⟨by rw [if_pos h3_1], by rw [if_pos h3_1], by omega, by rw [List.length_drop, List.length_take]; omega, by omega⟩
      · skip
        show Post te Try.f93 _ (.panic _) _
        refine Post.panicH (0) (p0) ?_ (by repeat' (first | exact trivial | exact lv_ok rfl | exact lv_sl rfl rfl | exact lv_ptr rfl rfl | exact lv_mp rfl rfl | exact lobj_row (fun _ => rfl) | refine lobj_box ?_ | refine ⟨rfl, ⟨_, rfl, ?_⟩, ?_⟩ | refine ⟨?_, ?_⟩)) rfl
        obtain ⟨c1, rfl⟩ := pNo_some h4_7
        rw [rdD, if_pos ⟨h3_1, by simp at c1; omega⟩]; rfl
    · skip
      refine AOps.nil ?_
      refine AWp.cond_f rfl ?_
      refine AWp.skip ?_
      refine ⟨([], p0, 0), ?_, Back.mk' (HasT.cons HasT.nil) (HasH.cons (HasH.cons HasH.nil))⟩
      try dsimp only
      exact ⟨by rw [if_neg h3_1], by rw [if_neg h3_1], by omega, by simp, hp⟩
  · rintro ⟨acc, p, v⟩ hC7
    change acc = (if t = 15 then (b.take (p0 + 2)).drop p0 else []) ∧ p = (if t = 15 then p0 + 2 else p0) ∧ ¬ (t = 15 ∧ en < p0 + 2) ∧ acc.length ≤ 2 ∧ p ≤ en at hC7
    obtain ⟨ha0, hp1, hg, hal, hpe⟩ := hC7
    refine AWp.as (s' := AS.over _ [7, 11, 12, 13, 14, 15, 16, 17, 18, 19, 20, 21, 22, 23, 24, 25, 26, 27, 28, 29, 30, 31, 32, 33, 34, 35, 36, 37, 38, 39, 40, 41, 42, 43] [(7, .sl 200 v 0 acc.length 1)] [(0, .box [.fz 0 b.length (cl bc b), i64 p]), (200, .row (cl bc acc) 1 v)]) rfl ?_
    refine AWp.seq ?_
    refine AWp.seq ?_
    refine AWp.region ?_
    refine AOps.cons rfl rfl (q_move) ?_
    refine AOps.cons rfl rfl (q_move) ?_
    refine AOps.cons rfl rfl (q_lookup MInt (f := fun b : Int => i64 b) (m := mCnt)) ?_
    rw [nCnt_eq]
    refine AOps.cons rfl rfl (q_move) ?_
    refine AOps.nil ?_
    refine AWp.block ?_
    refine AWp.loopR (α := Nat × List UInt8 × Nat × Nat) [7, 47, 48, 49, 50, 51, 52, 53, 54] (fun x_ => [(47, i64 (x_.1)), (7, .sl 200 (x_.2.2.2) 0 (x_.2.1).length 1)]) (fun x_ => [(0, .box [.fz 0 b.length (cl bc b), i64 (x_.2.2.1)]), (200, .row (cl bc (x_.2.1)) 1 (x_.2.2.2))]) (fun x_ => (x_.1) ≤ nCnt t ∧ rdNs b en (nCnt t - (x_.1)) (x_.2.1) (x_.2.2.1) = rdNs b en (nCnt t) (if t = 15 then (b.take (p0 + 2)).drop p0 else []) (if t = 15 then p0 + 2 else p0) ∧ (x_.2.1).length ≤ 2 + 255 * (x_.1) ∧ (x_.2.2.1) ≤ en) (fun x_ => nCnt t - (x_.1)) (0, acc, p, v) ?_ (Back.mk' (HasT.cons (HasT.cons HasT.nil)) (HasH.cons (HasH.cons HasH.nil))) ?_
    · exact ⟨Nat.zero_le _, by show rdNs b en (nCnt t - 0) acc p = _; rw [ha0, hp1]; rfl, hal, hpe⟩
    · rintro ⟨i, ac, p, v⟩ hI8
      change i ≤ nCnt t ∧ rdNs b en (nCnt t - i) ac p = rdNs b en (nCnt t) (if t = 15 then (b.take (p0 + 2)).drop p0 else []) (if t = 15 then p0 + 2 else p0) ∧ ac.length ≤ 2 + 255 * i ∧ p ≤ en at hI8
      obtain ⟨hi, hE, hal, hpe⟩ := hI8
      refine AWp.as (s' := AS.over _ [7, 47, 48, 49, 50, 51, 52, 53, 54] [(47, i64 i), (7, .sl 200 v 0 ac.length 1)] [(0, .box [.fz 0 b.length (cl bc b), i64 p]), (200, .row (cl bc ac) 1 v)]) rfl ?_
      refine AWp.seq ?_
      refine AWp.region ?_
      refine AOps.dec rfl rfl (q_lss) (fun h8_0 => ?_) (fun h8_0 => ?_)
      · skip
        refine AOps.nil ?_
        refine AWp.seq ?_
        refine AWp.cond_t rfl ?_
        refine AWp.skip ?_
        refine AWp.seq ?_
        refine AWp.block ?_
        refine AWp.region ?_
        refine AOps.cons rfl rfl (q_move) ?_
        refine AOps.cons rfl rfl (q_move) ?_
        refine AOps.cons rfl rfl (q_move) ?_
        refine AOps.callP (hp' := fun k => [(0, .box [_, i64 k])]) (0) [(0, 0)] [] [(_, _)] (c_rdname b 30 p en hb he (by omega)) (fun h9_3 => ?_) (fun x k h9_3 => ?_)
        · skip
          obtain ⟨a, ha⟩ := perr_none h9_3
          obtain ⟨n1, n2, n3⟩ := rdN_ok0 ha
          rw [ha]
          dsimp only [resE]
          refine AOps.cons rfl rfl (q_app) ?_
          refine AOps.cons rfl rfl (q_assign) ?_
          refine AOps.nil ?_
          refine AWp.region ?_
          refine AOps.cons rfl rfl (q_add) ?_
          refine AOps.cons rfl rfl (q_move) ?_
          refine AOps.nil ?_
          refine ⟨(i + 1, ac ++ a.1, a.2, v + 1), ?_, Back.mk' (HasT.cons (HasT.cons HasT.nil)) (HasH.cons (HasH.cons HasH.nil)), ?_⟩
          · try dsimp only
            refine ⟨by omega, ?_, by rw [List.length_append]; omega, n3⟩
            rw [← hE, show nCnt t - i = (nCnt t - (i + 1)) + 1 by omega, rdNs_ok ha]
          · try dsimp only
            first | omega | (simp; omega)
        · skip
          show Post te Try.f93 _ (.panic _) _
          refine Post.panicH (0) (k) ?_ (by repeat' (first | exact trivial | exact lv_ok rfl | exact lv_sl rfl rfl | exact lv_ptr rfl rfl | exact lv_mp rfl rfl | exact lobj_row (fun _ => rfl) | refine lobj_box ?_ | refine ⟨rfl, ⟨_, rfl, ?_⟩, ?_⟩ | refine ⟨?_, ?_⟩)) rfl
          obtain ⟨e, he1, rfl⟩ := perr_some h9_3
          rw [rdD_go hg, ← hE, show nCnt t - i = (nCnt t - (i + 1)) + 1 by omega, rdNs_err he1]; rfl
      · skip
        refine AOps.nil ?_
        refine AWp.seq ?_
        refine AWp.cond_f rfl ?_
        refine AWp.exit ?_
        refine AWp.seq ?_
        obtain rfl : i = nCnt t := by omega
        rw [Nat.sub_self] at hE
        have hE2 := hE.symm
        rw [rdNs] at hE2
        refine AWp.draws [⟨0, [7], [], some 55, _, none⟩,
            ⟨1, [0], [], some 56, _, none⟩,
            ⟨2, [56], [0], some 57, _, none⟩,
            ⟨3, [57], [0], some 58, _, none⟩,
            ⟨4, [58], [0], some 59, _, none⟩,
            ⟨5, [0], [], some 60, _, none⟩,
            ⟨6, [60], [0], some 61, _, none⟩,
            ⟨7, [61], [0], some 62, _, none⟩,
            ⟨8, [62], [0], some 63, _, none⟩,
            ⟨9, [2], [], some 64, _, none⟩,
            ⟨10, [59, 63, 64], [], some 65, _, none⟩,
            ⟨11, [55, 65], [200], some 66, _, some (200, _)⟩,
            ⟨12, [66], [], some 7, _, none⟩]
          [⟨0, [7], [], some 55, .any, none⟩,
              ⟨1, [0], [], some 56, .any, none⟩,
              ⟨2, [56], [0], some 57, .any, none⟩,
              ⟨3, [57], [0], some 58, .any, none⟩,
              ⟨4, [58], [0], some 59, .any, none⟩,
              ⟨5, [0], [], some 60, .any, none⟩,
              ⟨6, [60], [0], some 61, .any, none⟩,
              ⟨7, [61], [0], some 62, .any, none⟩,
              ⟨8, [62], [0], some 63, .any, none⟩,
              ⟨9, [2], [], some 64, .any, none⟩,
              ⟨10, [59, 63, 64], [], some 65, .any, none⟩,
              ⟨11, [55, 65], [200], some 66, .any, some (200, .box [])⟩,
              ⟨12, [66], [], some 7, .any, none⟩]
          mixed_ok rfl (by kernel_rfl) ⟨DS.ok_over fun s0 => OpAt.go rfl rfl (q_move),
              DS.ok_over fun s0 => OpAt.go rfl rfl (q_move),
              DS.ok_over fun s0 => OpAt.go rfl rfl (q_nil),
              DS.ok_over fun s0 => OpAt.go rfl rfl (q_fa),
              DS.ok_over fun s0 => OpAt.go rfl rfl (q_load),
              DS.ok_over fun s0 => OpAt.go rfl rfl (q_move),
              DS.ok_over fun s0 => OpAt.go rfl rfl (q_nil),
              DS.ok_over fun s0 => OpAt.go rfl rfl (q_fa),
              DS.ok_over fun s0 => OpAt.go rfl rfl (q_load),
              DS.ok_over fun s0 => OpAt.go rfl rfl (q_move),
              DS.ok_over fun s0 => OpAt.go rfl rfl (q_sl),
              DS.ok_over fun s0 => OpAt.go rfl rfl (q_app),
              DS.ok_over fun s0 => OpAt.go rfl rfl (q_assign), trivial⟩ ?_
        dsimp only [final, DS.upd, AS.seto]
        rw [show ((en : Nat) : Int).toNat = en by omega, show ((p : Nat) : Int).toNat = p by omega]
        refine AWp.seq ?_
        refine AWp.region ?_
        refine AOps.cons rfl rfl (q_move) ?_
        refine AOps.cons rfl rfl (q_move) ?_
        refine AOps.cons rfl rfl (q_nil) ?_
        refine AOps.cons rfl rfl (q_fa) ?_
        refine AOps.cons rfl rfl (q_store) ?_
        refine AOps.nil ?_
        refine AWp.seq ?_
        refine AWp.region ?_
        refine AOps.cons rfl rfl (q_move) ?_
        refine AOps.cons rfl rfl (q_move) ?_
        refine AOps.cons rfl rfl (q_call (0) (hc := (c_CanA t (ac ++ (b.take en).drop p) 1 (by rw [List.length_append, List.length_drop, List.length_take]; omega)))) ?_
        refine AOps.callP (hp' := fun k => []) (0) [] [] [] (c_wire_no (canS t (ac ++ (b.take en).drop p)) 30) (fun h13_3 => ?_) (fun x k h13_3 => ?_)
        · skip
          refine AOps.nil ?_
          refine AWp.seq ?_
          refine AWp.region ?_
          have g4 : canS t (ac ++ (b.take en).drop p) = true := pNo_none h13_3
          refine AOps.cons rfl rfl (q_move) ?_
          refine AOps.cons rfl rfl (q_assign) ?_
          refine AOps.nil ?_
          refine AWp.ret ?_
          show Fin te Try.f93 _ _
          rw [rdD_go hg, hE2, rdO, if_pos g4]
          refine Fin.retP (by rfl) ?_
          refine q_retH (0) [] [_] [_] [(_, _)] ?_
          rfl
        · skip
          show Post te Try.f93 _ (.panic _) _
          refine Post.panicH (0) (en) ?_ (by repeat' (first | exact trivial | exact lv_ok rfl | exact lv_sl rfl rfl | exact lv_ptr rfl rfl | exact lv_mp rfl rfl | exact lobj_row (fun _ => rfl) | refine lobj_box ?_ | refine ⟨rfl, ⟨_, rfl, ?_⟩, ?_⟩ | refine ⟨?_, ?_⟩)) rfl
          obtain ⟨c1, rfl⟩ := pNo_some h13_3
          rw [rdD_go hg, hE2, rdO, if_neg (by rw [c1]; simp)]; rfl

set_option maxRecDepth 20000 in
set_option maxHeartbeats 2000000 in
theorem c_rdrec (b : List UInt8) (p0 : Nat) (hb : b.length ≤ 65535) (hp : p0 ≤ 100000) : AC Try.prog 72 [.ptr 0 0 0] (hlook [(0, .box [.fz 0 b.length (cl bc b), i64 p0])]) (RetP (perr (rdR b p0)) (.agg (rrc (resE (rdR b p0)).1)) [(0, .box [.fz 0 b.length (cl bc b), i64 (resE (rdR b p0)).2])] (fun k => [(0, .box [.fz 0 b.length (cl bc b), i64 k])])) := by
  refine AC.intro te_ok (fn := Try.f72) ⟨Try.func72, rfl, rfl⟩ (Nat.le_of_ble_eq_true rfl) ?_
  refine AWp.seq ?_
  refine AWp.region ?_
  refine AOps.cons rfl rfl (q_alloc 100) ?_
  refine AOps.nil ?_
  refine AWp.seq ?_
  refine AWp.region ?_
  refine AOps.cons rfl rfl (q_move) ?_
  refine AOps.cons rfl rfl (q_move) ?_
  refine AOps.cons rfl rfl (q_nil) ?_
  refine AOps.cons rfl rfl (q_fa) ?_
  refine AOps.cons rfl rfl (q_load) ?_
  refine AOps.cons rfl rfl (q_len) ?_
  refine AOps.callP (hp' := fun k => [(0, .box [_, i64 k])]) (0) [(0, 0)] [] [(_, _)] (c_rdname b 20 p0 b.length hb (Nat.le_refl _) hp) (fun h1_6 => ?_) (fun x k h1_6 => ?_)
  · skip
    obtain ⟨a, ha⟩ := perr_none h1_6
    obtain ⟨n1, n2, n3⟩ := rdN_ok0 ha
    rw [ha]
    dsimp only [resE]
    have hsz := bN_lt2 (b := b) (i := a.2 + 8)
    refine AOps.cons rfl rfl (q_build [(_, _)]) ?_
    refine AOps.cons rfl rfl (q_alloc 208) ?_
    refine AOps.cons rfl rfl (q_store) ?_
    refine AOps.nil ?_
    refine AWp.seq ?_
    refine AWp.region ?_
    refine AOps.cons rfl rfl (q_move) ?_
    refine AOps.callP (hp' := fun k => [(0, .box [_, i64 k])]) (0) [(0, 0)] [] [(_, _)] (c_rdnum b a.2 2 hb (by omega) (by omega)) (fun h2_1 => ?_) (fun x k h2_1 => ?_)
    · skip
      refine AOps.cons rfl rfl (q_move) ?_
      refine AOps.callP (hp' := fun k => [(0, .box [_, i64 k])]) (0) [(0, 0)] [] [(_, _)] (c_rdnum b (a.2 + 2) 2 hb (by omega) (by omega)) (fun h2_3 => ?_) (fun x k h2_3 => ?_)
      · skip
        refine AOps.cons rfl rfl (q_move) ?_
        refine AOps.callP (hp' := fun k => [(0, .box [_, i64 k])]) (0) [(0, 0)] [] [(_, _)] (c_rdnum b (a.2 + 4) 4 hb (by omega) (by omega)) (fun h2_5 => ?_) (fun x k h2_5 => ?_)
        · skip
          refine AOps.cons rfl rfl (q_fa) ?_
          refine AOps.cons rfl rfl (q_store) ?_
          refine AOps.cons rfl rfl (q_fa) ?_
          refine AOps.cons rfl rfl (q_store) ?_
          refine AOps.cons rfl rfl (q_fa) ?_
          refine AOps.cons rfl rfl (q_store) ?_
          refine AOps.nil ?_
          refine AWp.seq ?_
          refine AWp.region ?_
          refine AOps.cons rfl rfl (q_move) ?_
          refine AOps.callP (hp' := fun k => [(0, .box [_, i64 k])]) (0) [(0, 0)] [] [(_, _)] (c_rdnum b (a.2 + 8) 2 hb (by omega) (by omega)) (fun h3_1 => ?_) (fun x k h3_1 => ?_)
          · skip
            have g1 : ¬ b.length < a.2 + 10 := by have := pNo_none h3_1; simp at this; omega
            refine AOps.cons rfl rfl (q_assign) ?_
            refine AOps.nil ?_
            refine AWp.seq ?_
            rcases hpo : pNo (decide (((bN b (a.2 + 8) 2 : Nat) : Int) ≤ (b.length : Int) - ((a.2 + 10 : Nat) : Int))) 20 with _ | xx
            · skip
              refine AWp.drawsX _ [⟨0, [0], [], some 24, _, none⟩,
                  ⟨1, [24], [0], some 25, _, none⟩,
                  ⟨2, [25], [0], some 26, _, none⟩,
                  ⟨3, [26], [0], some 27, _, none⟩,
                  ⟨4, [27], [], some 28, _, none⟩,
                  ⟨5, [0], [], some 29, _, none⟩,
                  ⟨6, [29], [0], some 30, _, none⟩,
                  ⟨7, [30], [0], some 31, _, none⟩,
                  ⟨8, [31], [0], some 32, _, none⟩,
                  ⟨9, [28, 32], [], some 33, _, none⟩,
                  ⟨10, [4], [], some 34, _, none⟩,
                  ⟨11, [33, 34], [], some 35, _, none⟩,
                  ⟨12, [35], [0, 1, 2, 3, 4, 5, 6, 7], some 36, _, none⟩]
                [⟨0, [0], [], some 24, .any, none⟩,
                    ⟨1, [24], [0], some 25, .any, none⟩,
                    ⟨2, [25], [0], some 26, .any, none⟩,
                    ⟨3, [26], [0], some 27, .any, none⟩,
                    ⟨4, [27], [], some 28, .any, none⟩,
                    ⟨5, [0], [], some 29, .any, none⟩,
                    ⟨6, [29], [0], some 30, .any, none⟩,
                    ⟨7, [30], [0], some 31, .any, none⟩,
                    ⟨8, [31], [0], some 32, .any, none⟩,
                    ⟨9, [28, 32], [], some 33, .any, none⟩,
                    ⟨10, [4], [], some 34, .any, none⟩,
                    ⟨11, [33, 34], [], some 35, .any, none⟩,
                    ⟨12, [35], [0, 1, 2, 3, 4, 5, 6, 7], some 36, .any, none⟩]
                mixed_ok rfl (by kernel_rfl) ⟨DS.okX_over fun s0 => (OpAt.go rfl rfl (q_move)).x,
                    DS.okX_over fun s0 => (OpAt.go rfl rfl (q_nil)).x,
                    DS.okX_over fun s0 => (OpAt.go rfl rfl (q_fa)).x,
                    DS.okX_over fun s0 => (OpAt.go rfl rfl (q_load)).x,
                    DS.okX_over fun s0 => (OpAt.go rfl rfl (q_len)).x,
                    DS.okX_over fun s0 => (OpAt.go rfl rfl (q_move)).x,
                    DS.okX_over fun s0 => (OpAt.go rfl rfl (q_nil)).x,
                    DS.okX_over fun s0 => (OpAt.go rfl rfl (q_fa)).x,
                    DS.okX_over fun s0 => (OpAt.go rfl rfl (q_load)).x,
                    DS.okX_over fun s0 => (OpAt.go rfl rfl (q_sub)).x,
                    DS.okX_over fun s0 => (OpAt.go rfl rfl (q_move)).x,
                    DS.okX_over fun s0 => (OpAt.go rfl rfl (q_geq)).x,
                    DS.okX_over fun s0 => at_callP (hp' := fun k => []) (0) [] [] [] (c_wire_no (decide (((bN b (a.2 + 8) 2 : Nat) : Int) ≤ (b.length : Int) - ((a.2 + 10 : Nat) : Int))) 20) (fun x k h4_12 => ?_), trivial⟩ ?_ (fun _ _ h => h)
              · skip
                exact absurd (hpo.symm.trans h4_12) (by simp)
              dsimp only [final, DS.upd, AS.seto]
              refine AWp.seq ?_
              have g2 : ¬ b.length < a.2 + 10 + bN b (a.2 + 8) 2 := by have := pNo_none hpo; simp at this; omega
              rcases hpo : perr (rdD b (bN b a.2 2) (a.2 + 10) (a.2 + 10 + bN b (a.2 + 8) 2)) with _ | xx
              · skip
                refine AWp.drawsX _ [⟨0, [0], [], some 37, _, none⟩,
                    ⟨1, [3], [208], some 38, _, none⟩,
                    ⟨2, [38], [208], some 39, _, none⟩,
                    ⟨3, [0], [], some 40, _, none⟩,
                    ⟨4, [40], [0], some 41, _, none⟩,
                    ⟨5, [41], [0], some 42, _, none⟩,
                    ⟨6, [42], [0], some 43, _, none⟩,
                    ⟨7, [4], [], some 44, _, none⟩,
                    ⟨8, [43, 44], [], some 45, _, none⟩,
                    ⟨9, [37, 39, 45], [0, 1, 2, 3, 4, 5, 6, 7], some 46, _, some (0, _)⟩,
                    ⟨10, [3], [208], some 47, _, none⟩,
                    ⟨11, [46, 47], [208], none, _, some (208, _)⟩]
                  [⟨0, [0], [], some 37, .any, none⟩,
                      ⟨1, [3], [208], some 38, .any, none⟩,
                      ⟨2, [38], [208], some 39, .any, none⟩,
                      ⟨3, [0], [], some 40, .any, none⟩,
                      ⟨4, [40], [0], some 41, .any, none⟩,
                      ⟨5, [41], [0], some 42, .any, none⟩,
                      ⟨6, [42], [0], some 43, .any, none⟩,
                      ⟨7, [4], [], some 44, .any, none⟩,
                      ⟨8, [43, 44], [], some 45, .any, none⟩,
                      ⟨9, [37, 39, 45], [0, 1, 2, 3, 4, 5, 6, 7], some 46, .any, some (0, .box [])⟩,
                      ⟨10, [3], [208], some 47, .any, none⟩,
                      ⟨11, [46, 47], [208], none, .any, some (208, .box [])⟩]
                  mixed_ok rfl (by kernel_rfl) ⟨DS.okX_over fun s0 => (OpAt.go rfl rfl (q_move)).x,
                      DS.okX_over fun s0 => (OpAt.go rfl rfl (q_fa)).x,
                      DS.okX_over fun s0 => (OpAt.go rfl rfl (q_load)).x,
                      DS.okX_over fun s0 => (OpAt.go rfl rfl (q_move)).x,
                      DS.okX_over fun s0 => (OpAt.go rfl rfl (q_nil)).x,
                      DS.okX_over fun s0 => (OpAt.go rfl rfl (q_fa)).x,
                      DS.okX_over fun s0 => (OpAt.go rfl rfl (q_load)).x,
                      DS.okX_over fun s0 => (OpAt.go rfl rfl (q_move)).x,
                      DS.okX_over fun s0 => (OpAt.go rfl rfl (q_add)).x,
                      DS.okX_over fun s0 => at_callP (hp' := fun k => [(0, .box [_, i64 k])]) (0) [(0, 0)] [] [(_, _)] (c_rddata b (bN b a.2 2) (a.2 + 10) (a.2 + 10 + bN b (a.2 + 8) 2) hb (by omega) (by omega)) (fun x k h5_9 => ?_),
                      DS.okX_over fun s0 => (OpAt.go rfl rfl (q_fa)).x,
                      DS.okX_over fun s0 => (OpAt.go rfl rfl (q_store)).x, trivial⟩ ?_ (fun _ _ h => h)
                · skip
                  exact absurd (hpo.symm.trans h5_9) (by simp)
                dsimp only [final, DS.upd, AS.seto]
                refine AWp.seq ?_
                refine AWp.region ?_
                obtain ⟨dd, hd⟩ := perr_none hpo
                rw [hd]
                dsimp only [resE]
                refine AOps.cons rfl rfl (q_load) ?_
                refine AOps.cons rfl rfl (q_store) ?_
                refine AOps.nil ?_
                refine AWp.ret ?_
                show Fin te Try.f72 _ _
                rw [rdR_go ha g1 g2, hd]
                refine Fin.retP (by rfl) ?_
                refine q_retH (0) [] [_] [_] [(_, _)] ?_
                rfl
              · skip
                refine AWp.drawsX _ [⟨0, [0], [], some 37, _, none⟩,
                    ⟨1, [3], [208], some 38, _, none⟩,
                    ⟨2, [38], [208], some 39, _, none⟩,
                    ⟨3, [0], [], some 40, _, none⟩,
                    ⟨4, [40], [0], some 41, _, none⟩,
                    ⟨5, [41], [0], some 42, _, none⟩,
                    ⟨6, [42], [0], some 43, _, none⟩,
                    ⟨7, [4], [], some 44, _, none⟩,
                    ⟨8, [43, 44], [], some 45, _, none⟩,
                    ⟨9, [37, 39, 45], [0, 1, 2, 3, 4, 5, 6, 7], some 46, _, some (0, _)⟩,
                    ⟨10, [3], [208], some 47, _, none⟩,
                    ⟨11, [46, 47], [208], none, .fz 0 1 [], some (208, .box [])⟩]
                  [⟨0, [0], [], some 37, .any, none⟩,
                      ⟨1, [3], [208], some 38, .any, none⟩,
                      ⟨2, [38], [208], some 39, .any, none⟩,
                      ⟨3, [0], [], some 40, .any, none⟩,
                      ⟨4, [40], [0], some 41, .any, none⟩,
                      ⟨5, [41], [0], some 42, .any, none⟩,
                      ⟨6, [42], [0], some 43, .any, none⟩,
                      ⟨7, [4], [], some 44, .any, none⟩,
                      ⟨8, [43, 44], [], some 45, .any, none⟩,
                      ⟨9, [37, 39, 45], [0, 1, 2, 3, 4, 5, 6, 7], some 46, .any, some (0, .box [])⟩,
                      ⟨10, [3], [208], some 47, .any, none⟩,
                      ⟨11, [46, 47], [208], none, .any, some (208, .box [])⟩]
                  mixed_ok rfl (by kernel_rfl) ⟨DS.okX_over fun s0 => (OpAt.go rfl rfl (q_move)).x,
                      DS.okX_over fun s0 => (OpAt.go rfl rfl (q_fa)).x,
                      DS.okX_over fun s0 => (OpAt.go rfl rfl (q_load)).x,
                      DS.okX_over fun s0 => (OpAt.go rfl rfl (q_move)).x,
                      DS.okX_over fun s0 => (OpAt.go rfl rfl (q_nil)).x,
                      DS.okX_over fun s0 => (OpAt.go rfl rfl (q_fa)).x,
                      DS.okX_over fun s0 => (OpAt.go rfl rfl (q_load)).x,
                      DS.okX_over fun s0 => (OpAt.go rfl rfl (q_move)).x,
                      DS.okX_over fun s0 => (OpAt.go rfl rfl (q_add)).x,
                      DS.okX_over fun s0 => at_callP (hp' := fun k => [(0, .box [_, i64 k])]) (0) [(0, 0)] [] [(_, _)] (AC.bad hpo (c_rddata b (bN b a.2 2) (a.2 + 10) (a.2 + 10 + bN b (a.2 + 8) 2) hb (by omega) (by omega))) (fun x k h5_9 => ?_),
                      DS.okX_over fun s0 => (OpAt.go rfl rfl (q_fa)).x,
                      DS.okX_over fun s0 => OpAtX.bot (d := 46) rfl, trivial⟩ ?_ (fun _ _ h => h)
                · skip
                  show Post te Try.f72 _ (.panic _) _
                  refine Post.panicH (0) (k) ?_ (by repeat' (first | exact trivial | exact lv_ok rfl | exact lv_sl rfl rfl | exact lv_ptr rfl rfl | exact lv_mp rfl rfl | exact lobj_row (fun _ => rfl) | refine lobj_box ?_ | refine ⟨rfl, ⟨_, rfl, ?_⟩, ?_⟩ | refine ⟨?_, ?_⟩)) rfl
                  obtain ⟨e, he1, rfl⟩ := perr_some h5_9
                  rw [rdR_go ha g1 g2, he1]; rfl
                dsimp only [final, DS.upd, AS.seto]
                exact AWp.bot (d := 46) rfl
            · skip
              refine AWp.drawsX _ [⟨0, [0], [], some 24, _, none⟩,
                  ⟨1, [24], [0], some 25, _, none⟩,
                  ⟨2, [25], [0], some 26, _, none⟩,
                  ⟨3, [26], [0], some 27, _, none⟩,
                  ⟨4, [27], [], some 28, _, none⟩,
                  ⟨5, [0], [], some 29, _, none⟩,
                  ⟨6, [29], [0], some 30, _, none⟩,
                  ⟨7, [30], [0], some 31, _, none⟩,
                  ⟨8, [31], [0], some 32, _, none⟩,
                  ⟨9, [28, 32], [], some 33, _, none⟩,
                  ⟨10, [4], [], some 34, _, none⟩,
                  ⟨11, [33, 34], [], some 35, _, none⟩,
                  ⟨12, [35], [0, 1, 2, 3, 4, 5, 6, 7], some 36, _, none⟩]
                [⟨0, [0], [], some 24, .any, none⟩,
                    ⟨1, [24], [0], some 25, .any, none⟩,
                    ⟨2, [25], [0], some 26, .any, none⟩,
                    ⟨3, [26], [0], some 27, .any, none⟩,
                    ⟨4, [27], [], some 28, .any, none⟩,
                    ⟨5, [0], [], some 29, .any, none⟩,
                    ⟨6, [29], [0], some 30, .any, none⟩,
                    ⟨7, [30], [0], some 31, .any, none⟩,
                    ⟨8, [31], [0], some 32, .any, none⟩,
                    ⟨9, [28, 32], [], some 33, .any, none⟩,
                    ⟨10, [4], [], some 34, .any, none⟩,
                    ⟨11, [33, 34], [], some 35, .any, none⟩,
                    ⟨12, [35], [0, 1, 2, 3, 4, 5, 6, 7], some 36, .any, none⟩]
                mixed_ok rfl (by kernel_rfl) ⟨DS.okX_over fun s0 => (OpAt.go rfl rfl (q_move)).x,
                    DS.okX_over fun s0 => (OpAt.go rfl rfl (q_nil)).x,
                    DS.okX_over fun s0 => (OpAt.go rfl rfl (q_fa)).x,
                    DS.okX_over fun s0 => (OpAt.go rfl rfl (q_load)).x,
                    DS.okX_over fun s0 => (OpAt.go rfl rfl (q_len)).x,
                    DS.okX_over fun s0 => (OpAt.go rfl rfl (q_move)).x,
                    DS.okX_over fun s0 => (OpAt.go rfl rfl (q_nil)).x,
                    DS.okX_over fun s0 => (OpAt.go rfl rfl (q_fa)).x,
                    DS.okX_over fun s0 => (OpAt.go rfl rfl (q_load)).x,
                    DS.okX_over fun s0 => (OpAt.go rfl rfl (q_sub)).x,
                    DS.okX_over fun s0 => (OpAt.go rfl rfl (q_move)).x,
                    DS.okX_over fun s0 => (OpAt.go rfl rfl (q_geq)).x,
                    DS.okX_over fun s0 => at_callP (hp' := fun k => []) (0) [] [] [] (AC.bad hpo (c_wire_no (decide (((bN b (a.2 + 8) 2 : Nat) : Int) ≤ (b.length : Int) - ((a.2 + 10 : Nat) : Int))) 20)) (fun x k h4_12 => ?_), trivial⟩ ?_ (fun _ _ h => h)
              · skip
                show Post te Try.f72 _ (.panic _) _
                refine Post.panicH (0) (((a.2 + 10 : Nat) : Int)) ?_ (by repeat' (first | exact trivial | exact lv_ok rfl | exact lv_sl rfl rfl | exact lv_ptr rfl rfl | exact lv_mp rfl rfl | exact lobj_row (fun _ => rfl) | refine lobj_box ?_ | refine ⟨rfl, ⟨_, rfl, ?_⟩, ?_⟩ | refine ⟨?_, ?_⟩)) rfl
                obtain ⟨c1, rfl⟩ := pNo_some h4_12
                rw [rdR_bad ha (by simp at c1; omega)]; rfl
              dsimp only [final, DS.upd, AS.seto]
              exact AWp.bot (d := 36) rfl
          · skip
            show Post te Try.f72 _ (.panic _) _
            refine Post.panicH (0) (k) ?_ (by repeat' (first | exact trivial | exact lv_ok rfl | exact lv_sl rfl rfl | exact lv_ptr rfl rfl | exact lv_mp rfl rfl | exact lobj_row (fun _ => rfl) | refine lobj_box ?_ | refine ⟨rfl, ⟨_, rfl, ?_⟩, ?_⟩ | refine ⟨?_, ?_⟩)) rfl
            obtain ⟨c1, rfl⟩ := pNo_some h3_1
            rw [rdR_bad ha (by simp at c1; omega)]; rfl
        · skip
          show Post te Try.f72 _ (.panic _) _
          refine Post.panicH (0) (k) ?_ (by repeat' (first | exact trivial | exact lv_ok rfl | exact lv_sl rfl rfl | exact lv_ptr rfl rfl | exact lv_mp rfl rfl | exact lobj_row (fun _ => rfl) | refine lobj_box ?_ | refine ⟨rfl, ⟨_, rfl, ?_⟩, ?_⟩ | refine ⟨?_, ?_⟩)) rfl
          obtain ⟨c1, rfl⟩ := pNo_some h2_5
          rw [rdR_bad ha (by simp at c1; omega)]; rfl
      · skip
        show Post te Try.f72 _ (.panic _) _
        refine Post.panicH (0) (k) ?_ (by repeat' (first | exact trivial | exact lv_ok rfl | exact lv_sl rfl rfl | exact lv_ptr rfl rfl | exact lv_mp rfl rfl | exact lobj_row (fun _ => rfl) | refine lobj_box ?_ | refine ⟨rfl, ⟨_, rfl, ?_⟩, ?_⟩ | refine ⟨?_, ?_⟩)) rfl
        obtain ⟨c1, rfl⟩ := pNo_some h2_3
        rw [rdR_bad ha (by simp at c1; omega)]; rfl
    · skip
      show Post te Try.f72 _ (.panic _) _
      refine Post.panicH (0) (k) ?_ (by repeat' (first | exact trivial | exact lv_ok rfl | exact lv_sl rfl rfl | exact lv_ptr rfl rfl | exact lv_mp rfl rfl | exact lobj_row (fun _ => rfl) | refine lobj_box ?_ | refine ⟨rfl, ⟨_, rfl, ?_⟩, ?_⟩ | refine ⟨?_, ?_⟩)) rfl
      obtain ⟨c1, rfl⟩ := pNo_some h2_1
      rw [rdR_bad ha (by simp at c1; omega)]; rfl
  · skip
    show Post te Try.f72 _ (.panic _) _
    refine Post.panicH (0) (k) ?_ (by repeat' (first | exact trivial | exact lv_ok rfl | exact lv_sl rfl rfl | exact lv_ptr rfl rfl | exact lv_mp rfl rfl | exact lobj_row (fun _ => rfl) | refine lobj_box ?_ | refine ⟨rfl, ⟨_, rfl, ?_⟩, ?_⟩ | refine ⟨?_, ?_⟩)) rfl
    obtain ⟨e, he1, rfl⟩ := perr_some h1_6
    rw [rdR, he1]; rfl

end Go.Proofs.Ytkfccjbihcbmiaa.Fw

