/- The texts V04e, L04p, one behind the other: what the walks and plain laws need; conditions stand with each theorem. -/
import Derived.Test.YtkfccjbihcbmiaaCat4
/- Walks of layer 4: a message is written. -/
set_option linter.unusedVariables false
set_option linter.unusedSimpArgs false
namespace Go.Proofs.Ytkfccjbihcbmiaa.Fw
open Go.RowKit


theorem wrNames_ok : ∀ {L : List (List UInt8)} {w : Wr}, (∀ n ∈ L, canN n = true) → WOk w → WOk (wrNames L w) ∧ (wrNames L w).b.length ≤ w.b.length + 255 * L.length ∧ w.b.length ≤ (wrNames L w).b.length
  | [], w, _, hw => ⟨hw, Nat.le_refl _, Nat.le_refl _⟩
  | n :: L, w, hn, hw => by
    obtain ⟨a, b, c⟩ := wrName_ok (canN_nm (hn n (by simp))).1 hw
    have d := (canN_nm (hn n (by simp))).1.2
    obtain ⟨e, f, g⟩ := wrNames_ok (L := L) (fun x hx => hn x (by simp [hx])) a
    simp only [wrNames, List.length_cons]
    exact ⟨e, by omega, by omega⟩
theorem wrRec_ok {r : Rr} {w : Wr} (hr : rOk r = true) (hw : WOk w) : WOk (wrRec r w) := by
  obtain ⟨⟨⟨⟨r1, r2⟩, r3⟩, r4⟩, r5⟩ : (((canN r.nm = true ∧ twoB [r.ty, r.cs] = true) ∧ 0 ≤ r.ttl) ∧ r.ttl < 4294967296) ∧ canS r.ty r.da = true := by simpa [rOk] using hr
  have h1 := (wrName_ok (canN_nm r1).1 hw).1
  exact (wrNames_ok (data_ok r5).2.2.1 (w := ⟨(wrNum r w).b ++ preD r.ty r.da, (wrNum r w).m⟩) h1).1
def wrQ (q : Qu) (w : Wr) : Wr := ⟨(wrName (labN q.nm) w).b ++ [q.ty, q.cs].flatMap two, (wrName (labN q.nm) w).m⟩
theorem wrQ_ok {q : Qu} {w : Wr} (hq : qOk q = true) (hw : WOk w) : canN q.nm = true ∧ WOk (wrName (labN q.nm) w) ∧ WOk (wrQ q w) ∧ (wrName (labN q.nm) w).b.length ≤ w.b.length + 255 ∧ (wrQ q w).b.length ≤ w.b.length + 259 := by
  have hc : canN q.nm = true := by unfold qOk at hq; simp only [Bool.and_eq_true] at hq; exact hq.1
  obtain ⟨a, b, c⟩ := wrName_ok (canN_nm hc).1 hw
  have d := (canN_nm hc).1.2
  refine ⟨hc, a, a, by omega, ?_⟩
  rw [wrQ, List.length_append, flat_two]
  simp only [List.length_cons, List.length_nil]; omega
def encQ (qs : List Qu) (w : Wr) : Wr := qs.foldl (fun w q => wrQ q w) w
def stepR (p : Wr × Bool) (r : Rr) : Wr × Bool := if p.2 then (wrRec r p.1, wrOk r p.1 && decide (((wrRec r p.1).b.length : Int) ≤ 65535)) else p
def encR (rs : List Rr) (p : Wr × Bool) : Wr × Bool := rs.foldl stepR p
theorem encQ_step {l : List Qu} {i : Nat} (h : i < l.length) (w : Wr) : encQ (l.take (i + 1)) w = wrQ (l.getD i default) (encQ (l.take i) w) := by
  rw [take_step' h, encQ, List.foldl_append]; rfl
theorem encR_step {l : List Rr} {i : Nat} (h : i < l.length) (p : Wr × Bool) : encR (l.take (i + 1)) p = stepR (encR (l.take i) p) (l.getD i default) := by
  rw [take_step' h, encR, List.foldl_append]; rfl
def hdW (m : Msg) : Wr := ⟨hB (toHd m.h) m.qs.length m.an.length m.au.length m.ad.length, []⟩
def encW (m : Msg) : Wr × Bool := encR m.rrs (encQ m.qs (hdW m), decide (((encQ m.qs (hdW m)).b.length : Int) ≤ 65535))
def encB (m : Msg) : List UInt8 := if canM m then (if (encW m).2 then (encW m).1.b else []) else []
def encE (m : Msg) : Int := if canM m then (if (encW m).2 then 0 else 42) else 1
theorem canM_parts {m : Msg} (h : canM m = true) : hdO m ∧ (∀ q ∈ m.qs, qOk q = true) ∧ ∀ r ∈ m.rrs, rOk r = true := by
  rw [canM, any_nall, any_nall] at h
  simp only [Bool.and_eq_true, decide_eq_true_eq, List.all_eq_true] at h
  exact ⟨h.1.1, h.1.2, h.2⟩

set_option maxRecDepth 20000 in
set_option maxHeartbeats 2000000 in
theorem c_wire_Encode (m : Msg) (h : MsgOk m) (hn : NmOk m) : AC Try.prog 11 [.agg (msgC m)] emp (Ret (.tup [.fz 0 (encB m).length (cl bc (encB m)), i64 (encE m)])) := by
  refine AC.intro te_ok (fn := Try.f11) ⟨Try.func11, rfl, rfl⟩ (Nat.le_of_ble_eq_true rfl) ?_
  refine AWp.seq ?_
  refine AWp.region ?_
  refine AOps.cons rfl rfl (q_box 100) ?_
  refine AOps.cons rfl rfl (q_nilz (0) bc) ?_
  refine AOps.cons rfl rfl (q_assign) ?_
  refine AOps.nil ?_
  refine AWp.seq ?_
  refine AWp.seq ?_
  refine AWp.region ?_
  refine AOps.cons rfl rfl (q_load) ?_
  refine AOps.bool rfl rfl (q_call (0) (hc := (c_wire_Can m h hn))) (fun h1_1 => ?_) (fun h1_1 => ?_)
  · skip
    refine AOps.cons rfl rfl (q_not) ?_
    refine AOps.nil ?_
    refine AWp.cond_f rfl ?_
    refine AWp.skip ?_
    refine AWp.seq ?_
    have hW0 : WOk (hdW m) := fun k a h => by cases h
    obtain ⟨p1, p2, p3⟩ := canM_parts (m := m) h1_1
    have hz := hE_iff.2 p1
    have hbl : (hdW m).b.length = 12 := by
      show (hB (toHd m.h) m.qs.length m.an.length m.au.length m.ad.length).length = 12
      rw [hB_yes p1, Hd.bytes_length]
    obtain ⟨k1, k2, k3, k4⟩ := hdO_counts p1
    have hrl : m.rrs.length ≤ 196605 := by simp only [Msg.rrs, List.length_append]; omega
    refine AWp.draws [⟨0, [1], [100], some 16, _, none⟩,
        ⟨1, [16], [100], some 17, _, none⟩,
        ⟨2, [1], [100], some 18, _, none⟩,
        ⟨3, [18], [], some 19, _, none⟩,
        ⟨4, [17, 19], [4048], some 20, _, some (4048, _)⟩,
        ⟨5, [20], [], some 15, _, none⟩,
        ⟨6, [15], [4048], some 21, _, none⟩,
        ⟨7, [15], [4048], some 22, _, none⟩,
        ⟨8, [21], [], some 4, _, none⟩,
        ⟨9, [22], [], some 5, _, none⟩]
      [⟨0, [1], [100], some 16, .any, none⟩,
          ⟨1, [16], [100], some 17, .any, none⟩,
          ⟨2, [1], [100], some 18, .any, none⟩,
          ⟨3, [18], [], some 19, .any, none⟩,
          ⟨4, [17, 19], [4048], some 20, .any, some (4048, .box [])⟩,
          ⟨5, [20], [], some 15, .any, none⟩,
          ⟨6, [15], [4048], some 21, .any, none⟩,
          ⟨7, [15], [4048], some 22, .any, none⟩,
          ⟨8, [21], [], some 4, .any, none⟩,
          ⟨9, [22], [], some 5, .any, none⟩]
      mixed_ok rfl (by kernel_rfl) ⟨DS.ok_over fun s0 => OpAt.go rfl rfl (q_fa),
          DS.ok_over fun s0 => OpAt.go rfl rfl (q_load),
          DS.ok_over fun s0 => OpAt.go rfl rfl (q_load),
          DS.ok_over fun s0 => OpAt.go rfl rfl (q_call (0) (hc := (c_wire_counts m))),
          DS.ok_over fun s0 => OpAt.go rfl rfl (q_callB (0) [] [(8, 4048)] [(_, _)] (hobj := by repeat' (first | exact trivial | exact lv_ok rfl | exact lv_sl rfl rfl | exact lv_ptr rfl rfl | exact lv_mp rfl rfl | exact lobj_row (fun _ => rfl) | exact lobj_me (fun _ => rfl) | refine lobj_box ?_ | refine ⟨rfl, ⟨_, rfl, ?_⟩, ?_⟩ | refine ⟨?_, ?_⟩)) (hB := by repeat' (first | exact trivial | exact hb_rowc (lv := 0) (fun _ => rfl) | exact hb_me (lv := 0) (fun _ => rfl) | exact rfl | refine ⟨rfl, rfl, ?_, ?_⟩)) (hL := by repeat' (first | exact trivial | exact hl_row (fun _ => rfl) | exact hl_me (fun _ => rfl) | exact ⟨rfl, rfl⟩ | refine ⟨?_, ?_⟩)) (hc := (co_header_Encode (toHd m.h) m.qs.length m.an.length m.au.length m.ad.length))),
          DS.ok_over fun s0 => OpAt.go rfl rfl (q_move),
          DS.ok_over fun s0 => OpAt.go rfl rfl (q_extract),
          DS.ok_over fun s0 => OpAt.go rfl rfl (q_extract),
          DS.ok_over fun s0 => OpAt.go rfl rfl (q_assign),
          DS.ok_over fun s0 => OpAt.go rfl rfl (q_assign), trivial⟩ ?_
    dsimp only [final, DS.upd, AS.seto]
    refine AWp.seq ?_
    refine AWp.seq ?_
    refine AWp.region ?_
    refine AOps.cons rfl rfl (q_move) ?_
    refine AOps.dec rfl rfl (q_neq) (fun h4_1 => ?_) (fun h4_1 => ?_)
    · exfalso; exact h4_1 hz
    · skip
      refine AOps.nil ?_
      refine AWp.cond_f rfl ?_
      refine AWp.skip ?_
      refine AWp.seq ?_
      refine AWp.region ?_
      refine AOps.cons rfl rfl (q_move) ?_
      refine AOps.cons rfl rfl (q_makeMap 701 MStr (fun b : Int => i64 b)) ?_
      refine AOps.cons rfl rfl (q_build [(_, _), (_, _)]) ?_
      refine AOps.cons rfl rfl (q_box 703) ?_
      refine AOps.cons rfl rfl (q_assign) ?_
      refine AOps.nil ?_
      refine AWp.seq ?_
      refine AWp.seq ?_
      refine AWp.region ?_
      refine AOps.cons rfl rfl (q_fa) ?_
      refine AOps.cons rfl rfl (q_load) ?_
      refine AOps.cons rfl rfl (q_len) ?_
      refine AOps.cons rfl rfl (q_move) ?_
      refine AOps.nil ?_
      refine AWp.block ?_
      refine AWp.loopR (α := Nat × Wr × Nat) [8, 33, 34, 35, 36, 37, 38, 39, 40, 41, 42, 43, 44, 45, 46, 47, 48] (fun x_ => [(33, i64 (x_.1))]) (fun x_ => [(703, .box [.sl 4048 ((x_.2.2)) 0 ((x_.2.1).b).length 1, .mp 701 0]), (4048, .row (cl bc ((x_.2.1).b)) 1 ((x_.2.2))), (701, .map (me MStr (fun b : Int => i64 b) ((x_.2.1).m)))]) (fun x_ => (x_.1) ≤ m.qs.length ∧ (x_.2.1) = encQ (m.qs.take (x_.1)) (hdW m) ∧ WOk (x_.2.1) ∧ (x_.2.1).b.length ≤ 12 + 259 * (x_.1)) (fun x_ => m.qs.length - (x_.1)) (0, hdW m, 0) ?_ (Back.mk' (HasT.cons HasT.nil) (HasH.cons (HasH.cons (HasH.cons HasH.nil (h2 := by exact objIn_me (fun _ => rfl)) )))) ?_
      · exact ⟨Nat.zero_le _, rfl, hW0, by show (hdW m).b.length ≤ _; omega⟩
      · rintro ⟨i, w, v⟩ hI8
        change i ≤ m.qs.length ∧ w = encQ (m.qs.take i) (hdW m) ∧ WOk w ∧ w.b.length ≤ 12 + 259 * i at hI8
        obtain ⟨hi, hw, hW, hB⟩ := hI8
        refine AWp.as (s' := AS.over _ [8, 33, 34, 35, 36, 37, 38, 39, 40, 41, 42, 43, 44, 45, 46, 47, 48] [(33, i64 i)] [(703, .box [.sl 4048 (v) 0 (w.b).length 1, .mp 701 0]), (4048, .row (cl bc (w.b)) 1 (v)), (701, .map (me MStr (fun b : Int => i64 b) (w.m)))]) rfl ?_
        refine AWp.seq ?_
        refine AWp.region ?_
        refine AOps.dec rfl rfl (q_lss) (fun h8_0 => ?_) (fun h8_0 => ?_)
        · skip
          refine AOps.nil ?_
          refine AWp.seq ?_
          refine AWp.cond_t rfl ?_
          refine AWp.skip ?_
          refine AWp.seq ?_
          refine AWp.block ?_
          refine AWp.seq ?_
          refine AWp.region ?_
          have hq := wrQ_ok (p2 _ (getD_mem (i := i) (by omega))) hW
          have hst := encQ_step (l := m.qs) (i := i) (by omega) (hdW m)
          refine AOps.cons rfl rfl (q_ix) ?_
          refine AOps.cons rfl rfl (q_load) ?_
          refine AOps.cons rfl rfl (q_alloc 1002) ?_
          refine AOps.cons rfl rfl (q_store) ?_
          refine AOps.nil ?_
          refine AWp.seq ?_
          refine AWp.region ?_
          refine AOps.cons rfl rfl (q_move) ?_
          refine AOps.cons rfl rfl (q_fa) ?_
          refine AOps.cons rfl rfl (q_load) ?_
          refine AOps.cons rfl rfl (q_callB (0) [(0, 703), (1, 4048), (2, 701)] [] [(_, _), (_, _), (_, _)] (hobj := by repeat' (first | exact trivial | exact lv_ok rfl | exact lv_sl rfl rfl | exact lv_ptr rfl rfl | exact lv_mp rfl rfl | exact lobj_row (fun _ => rfl) | exact lobj_me (fun _ => rfl) | refine lobj_box ?_ | refine ⟨rfl, ⟨_, rfl, ?_⟩, ?_⟩ | refine ⟨?_, ?_⟩)) (hB := by repeat' (first | exact trivial | exact hb_rowc (lv := 0) (fun _ => rfl) | exact hb_me (lv := 0) (fun _ => rfl) | exact rfl | refine ⟨rfl, rfl, ?_, ?_⟩)) (hL := by repeat' (first | exact trivial | exact hl_row (fun _ => rfl) | exact hl_me (fun _ => rfl) | exact ⟨rfl, rfl⟩ | refine ⟨?_, ?_⟩)) (hc := (c_wnameC (m.qs.getD i default).nm w v hq.1 hW (by omega)))) ?_
          refine AOps.nil ?_
          refine AWp.region ?_
          refine AOps.cons rfl rfl (q_move) ?_
          refine AOps.cons rfl rfl (q_fa) ?_
          refine AOps.cons rfl rfl (q_load) ?_
          refine AOps.cons rfl rfl (q_fa) ?_
          refine AOps.cons rfl rfl (q_load) ?_
          refine AOps.cons rfl rfl (q_bs 1205 ic [_, _] [(_, _), (_, _)]) ?_
          refine AOps.cons rfl rfl (q_callB (0) [(0, 703), (1, 4048), (2, 701)] [] [(_, _), (_, _), (_, _)] (hobj := by repeat' (first | exact trivial | exact lv_ok rfl | exact lv_sl rfl rfl | exact lv_ptr rfl rfl | exact lv_mp rfl rfl | exact lobj_row (fun _ => rfl) | exact lobj_me (fun _ => rfl) | refine lobj_box ?_ | refine ⟨rfl, ⟨_, rfl, ?_⟩, ?_⟩ | refine ⟨?_, ?_⟩)) (hB := by repeat' (first | exact trivial | exact hb_rowc (lv := 0) (fun _ => rfl) | exact hb_me (lv := 0) (fun _ => rfl) | exact rfl | refine ⟨rfl, rfl, ?_, ?_⟩)) (hL := by repeat' (first | exact trivial | exact hl_row (fun _ => rfl) | exact hl_me (fun _ => rfl) | exact ⟨rfl, rfl⟩ | refine ⟨?_, ?_⟩)) (hc := (c_short (wrName (labN (m.qs.getD i default).nm) w).b (wrName (labN (m.qs.getD i default).nm) w).m (v + nmC (labN (m.qs.getD i default).nm) w) [(m.qs.getD i default).ty, (m.qs.getD i default).cs] 1 (by show _ + 2 * 2 ≤ _; omega)))) ?_
          refine AOps.nil ?_
          refine AWp.region ?_
          refine AOps.cons rfl rfl (q_add) ?_
          refine AOps.cons rfl rfl (q_move) ?_
          refine AOps.nil ?_
          refine ⟨(i + 1, wrQ (m.qs.getD i default) w, v + nmC (labN (m.qs.getD i default).nm) w + 2), ?_, Back.mk' (HasT.cons HasT.nil) (HasH.cons (HasH.cons (HasH.cons HasH.nil (h2 := by exact objIn_me (fun _ => rfl)) ))), ?_⟩
          · try dsimp only
            exact ⟨by omega, by rw [hst, hw], hq.2.2.1, by have := hq.2.2.2.2; omega⟩
          · try dsimp only
            first | omega | (simp; omega)
        · skip
          refine AOps.nil ?_
          refine AWp.seq ?_
          refine AWp.cond_f rfl ?_
          refine AWp.exit ?_
          refine AWp.seq ?_
          refine AWp.region ?_
          obtain rfl : i = m.qs.length := by omega
          rw [List.take_length] at hw
          refine AOps.cons rfl rfl (q_move) ?_
          refine AOps.cons rfl rfl (q_nil) ?_
          refine AOps.cons rfl rfl (q_fa) ?_
          refine AOps.cons rfl rfl (q_load) ?_
          refine AOps.cons rfl rfl (q_len) ?_
          refine AOps.cons rfl rfl (q_leq) ?_
          refine AOps.cons rfl rfl (q_assign) ?_
          refine AOps.nil ?_
          refine AWp.seq ?_
          refine AWp.seq ?_
          refine AWp.region ?_
          refine AOps.cons rfl rfl (q_fa) ?_
          refine AOps.cons rfl rfl (q_load) ?_
          refine AOps.cons rfl rfl (q_fa) ?_
          refine AOps.cons rfl rfl (q_load) ?_
          refine AOps.cons rfl rfl (q_fa) ?_
          refine AOps.cons rfl rfl (q_load) ?_
          refine AOps.cons rfl rfl (q_bs 1506 (lc 0 rrc) [m.an, m.au, m.ad] [(_, _), (_, _), (_, _)]) ?_
          refine AOps.cons rfl rfl (q_call (0) (hc := (c_Concat_rr [m.an, m.au, m.ad] 1 (by simp) (by simp; omega)))) ?_
          refine AOps.cons rfl rfl (q_len) ?_
          refine AOps.cons rfl rfl (q_move) ?_
          rw [rrs_flat]
          refine AOps.nil ?_
          refine AWp.block ?_
          refine AWp.loopR (α := Nat × Wr × Nat × Bool) [9, 11, 64, 65, 66, 67, 68, 69, 70, 71, 72, 73, 74, 75, 76, 77, 78, 79, 80, 81, 82] (fun x_ => [(64, i64 (x_.1)), (9, tf (x_.2.2.2))]) (fun x_ => [(703, .box [.sl 4048 ((x_.2.2.1)) 0 ((x_.2.1).b).length 1, .mp 701 0]), (4048, .row (cl bc ((x_.2.1).b)) 1 ((x_.2.2.1))), (701, .map (me MStr (fun b : Int => i64 b) ((x_.2.1).m)))]) (fun x_ => (x_.1) ≤ m.rrs.length ∧ ((x_.2.1), (x_.2.2.2)) = encR (m.rrs.take (x_.1)) (encQ m.qs (hdW m), decide (((encQ m.qs (hdW m)).b.length : Int) ≤ 65535)) ∧ WOk (x_.2.1) ∧ ((x_.2.2.2) = true → ((x_.2.1).b.length : Int) ≤ 65535)) (fun x_ => m.rrs.length - (x_.1)) (0, w, v, decide ((w.b.length : Int) ≤ 65535)) ?_ (Back.mk' (HasT.cons (HasT.cons HasT.nil)) (HasH.cons (HasH.cons (HasH.cons HasH.nil (h2 := by exact objIn_me (fun _ => rfl)) )))) ?_
          · exact ⟨Nat.zero_le _, by rw [hw]; rfl, hW, fun h => by simpa using h⟩
          · rintro ⟨i, w, v, f⟩ hI15
            change i ≤ m.rrs.length ∧ (w, f) = encR (m.rrs.take i) (encQ m.qs (hdW m), decide (((encQ m.qs (hdW m)).b.length : Int) ≤ 65535)) ∧ WOk w ∧ (f = true → (w.b.length : Int) ≤ 65535) at hI15
            obtain ⟨hi, hw, hW, hF⟩ := hI15
            refine AWp.as (s' := AS.over _ [9, 11, 64, 65, 66, 67, 68, 69, 70, 71, 72, 73, 74, 75, 76, 77, 78, 79, 80, 81, 82] [(64, i64 i), (9, tf f)] [(703, .box [.sl 4048 (v) 0 (w.b).length 1, .mp 701 0]), (4048, .row (cl bc (w.b)) 1 (v)), (701, .map (me MStr (fun b : Int => i64 b) (w.m)))]) rfl ?_
            refine AWp.seq ?_
            refine AWp.region ?_
            refine AOps.dec rfl rfl (q_lss) (fun h15_0 => ?_) (fun h15_0 => ?_)
            · skip
              refine AOps.nil ?_
              refine AWp.seq ?_
              refine AWp.cond_t rfl ?_
              refine AWp.skip ?_
              refine AWp.seq ?_
              refine AWp.block ?_
              refine AWp.seq ?_
              refine AWp.region ?_
              have hr := p3 _ (getD_mem (l := m.rrs) (i := i) (by omega))
              have hst := encR_step (l := m.rrs) (i := i) (by omega) (encQ m.qs (hdW m), decide (((encQ m.qs (hdW m)).b.length : Int) ≤ 65535))
              rw [← hw, stepR] at hst
              dsimp only at hst
              refine AOps.cons rfl rfl (q_ix) ?_
              refine AOps.cons rfl rfl (q_load) ?_
              refine AOps.cons rfl rfl (q_alloc 1702) ?_
              refine AOps.cons rfl rfl (q_store) ?_
              refine AOps.nil ?_
              refine AWp.region ?_
              refine AOps.bool rfl rfl (q_move) (fun h17_0 => ?_) (fun h17_0 => ?_)
              · skip
                refine AOps.cons rfl rfl (q_move) ?_
                refine AOps.gcons rfl rfl rfl rfl rfl (q_move) ?_
                refine AOps.gcons rfl rfl rfl rfl rfl (q_load) ?_
                refine AOps.gcons rfl rfl rfl rfl rfl (q_callB (0) [(0, 703), (1, 4048), (2, 701)] [] [(_, _), (_, _), (_, _)] (hobj := by repeat' (first | exact trivial | exact lv_ok rfl | exact lv_sl rfl rfl | exact lv_ptr rfl rfl | exact lv_mp rfl rfl | exact lobj_row (fun _ => rfl) | exact lobj_me (fun _ => rfl) | refine lobj_box ?_ | refine ⟨rfl, ⟨_, rfl, ?_⟩, ?_⟩ | refine ⟨?_, ?_⟩)) (hB := by repeat' (first | exact trivial | exact hb_rowc (lv := 0) (fun _ => rfl) | exact hb_me (lv := 0) (fun _ => rfl) | exact rfl | refine ⟨rfl, rfl, ?_, ?_⟩)) (hL := by repeat' (first | exact trivial | exact hl_row (fun _ => rfl) | exact hl_me (fun _ => rfl) | exact ⟨rfl, rfl⟩ | refine ⟨?_, ?_⟩)) (hc := (c_wrec (m.rrs.getD i default) w v hr hW (by have := hF h17_0; omega)))) ?_
                refine AOps.cons rfl rfl (q_pick) ?_
                refine AOps.bool rfl rfl (q_move) (fun h17_6 => ?_) (fun h17_6 => ?_)
                · skip
                  refine AOps.gcons rfl rfl rfl rfl rfl (q_move) ?_
                  refine AOps.gcons rfl rfl rfl rfl rfl (q_nil) ?_
                  refine AOps.gcons rfl rfl rfl rfl rfl (q_fa) ?_
                  refine AOps.gcons rfl rfl rfl rfl rfl (q_load) ?_
                  refine AOps.gcons rfl rfl rfl rfl rfl (q_len) ?_
                  refine AOps.gcons rfl rfl rfl rfl rfl (q_leq) ?_
                  refine AOps.cons rfl rfl (q_pick) ?_
                  refine AOps.cons rfl rfl (q_assign) ?_
                  refine AOps.nil ?_
                  refine AWp.region ?_
                  refine AOps.cons rfl rfl (q_add) ?_
                  refine AOps.cons rfl rfl (q_move) ?_
                  refine AOps.nil ?_
                  refine ⟨(i + 1, wrRec (m.rrs.getD i default) w, v + recC (m.rrs.getD i default) w, decide (((wrRec (m.rrs.getD i default) w).b.length : Int) ≤ 65535)), ?_, Back.mk' (HasT.cons (HasT.cons HasT.nil)) (HasH.cons (HasH.cons (HasH.cons HasH.nil (h2 := by exact objIn_me (fun _ => rfl)) ))), ?_⟩
                  · try dsimp only
                    exact ⟨by omega, by rw [hst, if_pos h17_0, h17_6, Bool.true_and], wrRec_ok hr hW, fun h => by simpa using h⟩
                  · try dsimp only
                    first | omega | (simp; omega)
                · skip
                  refine AOps.gskip rfl rfl rfl rfl rfl rfl rfl rfl ?_
                  refine AOps.gskip rfl rfl rfl rfl rfl rfl rfl rfl ?_
                  refine AOps.gskip rfl rfl rfl rfl rfl rfl rfl rfl ?_
                  refine AOps.gskip rfl rfl rfl rfl rfl rfl rfl rfl ?_
                  refine AOps.gskip rfl rfl rfl rfl rfl rfl rfl rfl ?_
                  refine AOps.gskip rfl rfl rfl rfl rfl rfl rfl rfl ?_
                  refine AOps.cons rfl rfl (q_pick) ?_
                  refine AOps.cons rfl rfl (q_assign) ?_
                  refine AOps.nil ?_
                  refine AWp.region ?_
                  refine AOps.cons rfl rfl (q_add) ?_
                  refine AOps.cons rfl rfl (q_move) ?_
                  refine AOps.nil ?_
                  refine ⟨(i + 1, wrRec (m.rrs.getD i default) w, v + recC (m.rrs.getD i default) w, false), ?_, Back.mk' (HasT.cons (HasT.cons HasT.nil)) (HasH.cons (HasH.cons (HasH.cons HasH.nil (h2 := by exact objIn_me (fun _ => rfl)) ))), ?_⟩
                  · try dsimp only
                    exact ⟨by omega, by rw [hst, if_pos h17_0, h17_6]; rfl, wrRec_ok hr hW, fun h => by cases h⟩
                  · try dsimp only
                    first | omega | (simp; omega)
              · skip
                refine AOps.cons rfl rfl (q_move) ?_
                refine AOps.gskip rfl rfl rfl rfl rfl rfl rfl rfl ?_
                refine AOps.gskip rfl rfl rfl rfl rfl rfl rfl rfl ?_
                refine AOps.gskip rfl rfl rfl rfl rfl rfl rfl rfl ?_
                refine AOps.cons rfl rfl (q_pick) ?_
                refine AOps.cons rfl rfl (q_move) ?_
                refine AOps.gskip rfl rfl rfl rfl rfl rfl rfl rfl ?_
                refine AOps.gskip rfl rfl rfl rfl rfl rfl rfl rfl ?_
                refine AOps.gskip rfl rfl rfl rfl rfl rfl rfl rfl ?_
                refine AOps.gskip rfl rfl rfl rfl rfl rfl rfl rfl ?_
                refine AOps.gskip rfl rfl rfl rfl rfl rfl rfl rfl ?_
                refine AOps.gskip rfl rfl rfl rfl rfl rfl rfl rfl ?_
                refine AOps.cons rfl rfl (q_pick) ?_
                refine AOps.cons rfl rfl (q_assign) ?_
                refine AOps.nil ?_
                refine AWp.region ?_
                refine AOps.cons rfl rfl (q_add) ?_
                refine AOps.cons rfl rfl (q_move) ?_
                refine AOps.nil ?_
                refine ⟨(i + 1, w, v, false), ?_, Back.mk' (HasT.cons (HasT.cons HasT.nil)) (HasH.cons (HasH.cons (HasH.cons HasH.nil (h2 := by exact objIn_me (fun _ => rfl)) ))), ?_⟩
                · try dsimp only
                  exact ⟨by omega, by rw [hst, if_neg (by simp [h17_0]), h17_0], hW, fun h => by cases h⟩
                · try dsimp only
                  first | omega | (simp; omega)
            · skip
              refine AOps.nil ?_
              refine AWp.seq ?_
              refine AWp.cond_f rfl ?_
              refine AWp.exit ?_
              refine AWp.seq ?_
              refine AWp.seq ?_
              refine AWp.region ?_
              obtain rfl : i = m.rrs.length := by omega
              rw [List.take_length] at hw
              have hew : encW m = (w, f) := hw.symm
              refine AOps.bool rfl rfl (q_move) (fun h19_0 => ?_) (fun h19_0 => ?_)
              · skip
                refine AOps.cons rfl rfl (q_not) ?_
                refine AOps.nil ?_
                refine AWp.cond_f rfl ?_
                refine AWp.skip ?_
                refine AWp.seq ?_
                refine AWp.region ?_
                refine AOps.cons rfl rfl (q_move) ?_
                refine AOps.cons rfl rfl (q_nil) ?_
                refine AOps.cons rfl rfl (q_fa) ?_
                refine AOps.cons rfl rfl (q_load) ?_
                refine AOps.cons rfl rfl (q_assign) ?_
                refine AOps.cons rfl rfl (q_assign) ?_
                refine AOps.nil ?_
                refine AWp.ret ?_
                show Fin te Try.f11 _ _
                refine q_ret (0) [_, _] [_, _] ?_
                rw [encB, encE, h1_1, hew, h19_0]; rfl
              · skip
                refine AOps.cons rfl rfl (q_not) ?_
                refine AOps.nil ?_
                refine AWp.cond_t rfl ?_
                refine AWp.seq ?_
                refine AWp.region ?_
                refine AOps.cons rfl rfl (q_nilz (0) bc) ?_
                refine AOps.cons rfl rfl (q_assign) ?_
                refine AOps.nil ?_
                refine AWp.ret ?_
                show Fin te Try.f11 _ _
                refine q_ret (0) [_, _] [_, _] ?_
                rw [encB, encE, h1_1, hew, h19_0]; rfl
  · skip
    refine AOps.cons rfl rfl (q_not) ?_
    refine AOps.nil ?_
    refine AWp.cond_t rfl ?_
    refine AWp.seq ?_
    refine AWp.region ?_
    refine AOps.cons rfl rfl (q_nilz (0) bc) ?_
    refine AOps.cons rfl rfl (q_assign) ?_
    refine AOps.nil ?_
    refine AWp.ret ?_
    show Fin te Try.f11 _ _
    refine q_ret (0) [_, _] [_, _] ?_
    rw [encB, encE, h1_1]; rfl

end Go.Proofs.Ytkfccjbihcbmiaa.Fw

/- Layer 4: pointers. -/
set_option linter.unusedVariables false
set_option linter.unusedSimpArgs false
namespace Go.Proofs.Ytkfccjbihcbmiaa.Fw
open Go.RowKit


def hd0 : Hdr := ⟨0, false, 0, false, false, false, false, 0⟩
def qP (n : List UInt8) : Qu := ⟨n, 1, 1⟩
def rP (n d : List UInt8) : Rr := ⟨n, 300, 1, 0, d⟩
def mP (n : List UInt8) (k : Nat) (d : List UInt8) : Msg := ⟨hd0, [qP n], List.replicate k (rP n d), [], []⟩
def own (ls : List (List UInt8)) : Nat := if ls = [] then 1 else 2
theorem can_300 {d : List UInt8} (h : d.length ≤ 40) : canS 300 d = true ∧ namS 300 d = [] := by
  rw [canS_ne (by omega), namS_ne (by omega)]; exact canR_other (by omega) (by omega)
theorem rOk_P {n d : List UInt8} (hn : canN n = true) (h : d.length ≤ 40) : rOk (rP n d) = true := by
  show (canN n && twoB [300, 1] && !decide ((0 : Int) < 0) && !decide ((4294967296 : Int) ≤ 0) && canS 300 d) = true
  rw [hn, (can_300 h).1]; decide
theorem canM_P {n d : List UInt8} {k : Nat} (hn : canN n = true) (h : d.length ≤ 40) (hk : k ≤ 19) : canM (mP n k d) = true := by
  rw [canM, any_nall, any_nall]
  have h1 : hdO (mP n k d) := by
    refine ⟨(by decide : (0 : Int) ≤ 0 ∧ (0 : Int) ≤ 65535), (by decide : (0 : Int) ≤ 0 ∧ (0 : Int) ≤ 15), (by decide : (0 : Int) ≤ 0 ∧ (0 : Int) ≤ 15), (by decide : (0 : Int) ≤ ((1 : Nat) : Int) ∧ ((1 : Nat) : Int) ≤ 65535), ⟨by omega, ?_⟩, (by decide : (0 : Int) ≤ ((0 : Nat) : Int) ∧ ((0 : Nat) : Int) ≤ 65535), (by decide : (0 : Int) ≤ ((0 : Nat) : Int) ∧ ((0 : Nat) : Int) ≤ 65535)⟩
    show ((List.replicate k (rP n d)).length : Int) ≤ 65535
    rw [List.length_replicate]; omega
  rw [decide_eq_true h1, Bool.true_and, Bool.and_eq_true, List.all_eq_true, List.all_eq_true]
  constructor
  · intro q hq
    have : q = qP n := by simpa [mP] using hq
    subst this
    show (canN n && twoB [1, 1]) = true
    rw [hn]; decide
  · intro r hr
    have : r = rP n d := by
      have hr2 : r ∈ List.replicate k (rP n d) := by simpa [mP, Msg.rrs] using hr
      exact List.eq_of_mem_replicate hr2
    subst this
    exact rOk_P hn h
theorem fresh : ∀ {ls : List (List UInt8)} {w : Wr}, Nm ls → (∀ K, (mget w.m K).isSome = true → (joinN ls).length < K.length) → (wrName ls w).b.length = w.b.length + (joinN ls).length ∧ ∀ K, (joinN ls).length < K.length → mget (wrName ls w).m K = mget w.m K
  | [], w, _, _ => ⟨by simp [wrName, joinN_nil], fun K _ => rfl⟩
  | l :: ls, w, hn, hf => by
    have hm : mget w.m (joinN (l :: ls)) = none := by
      cases hq : mget w.m (joinN (l :: ls)) with
      | none => rfl
      | some a => have := hf _ (by rw [hq]; rfl); omega
    have hle := joinN_le (l := l) (ls := ls)
    have hJ : (joinN (l :: ls)).length = l.length + 1 + (joinN ls).length := by rw [joinN_cons]; simp; omega
    have hp : ∀ K, mget (w.put l ls).m K = if (joinN (l :: ls) = K ∧ (w.b.length : Int) < 16384) then some (w.b.length : Int) else mget w.m K := by
      intro K
      unfold Wr.put
      by_cases h : (w.b.length : Int) < 16384
      · rw [if_pos h, mget_put]; by_cases e : joinN (l :: ls) = K <;> simp [e, h]
      · simp only [if_neg h, h, and_false, if_false]
    have hpl : (w.put l ls).b.length = w.b.length + (l.length + 1) := by simp [Wr.put]
    obtain ⟨a, b⟩ := fresh (w := w.put l ls) (Nm_tl hn) (by
      intro K hK
      rw [hp] at hK
      split at hK
      · rename_i hh; rw [← hh.1]; exact hle
      · have := hf K hK; omega)
    rw [(wrName_no hm).1]
    refine ⟨by omega, fun K hK => ?_⟩
    rw [b K (by omega), hp, if_neg]
    rintro ⟨e, _⟩
    rw [e] at hK; omega
theorem fresh_at {l : List UInt8} {ls : List (List UInt8)} {w : Wr} (hn : Nm (l :: ls)) (hf : ∀ K, (mget w.m K).isSome = true → (joinN (l :: ls)).length < K.length) (hb : (w.b.length : Int) < 16384) : mget (wrName (l :: ls) w).m (joinN (l :: ls)) = some (w.b.length : Int) := by
  have hm : mget w.m (joinN (l :: ls)) = none := by
    cases hq : mget w.m (joinN (l :: ls)) with
    | none => rfl
    | some a => have := hf _ (by rw [hq]; rfl); omega
  have hle := joinN_le (l := l) (ls := ls)
  have hpm : (w.put l ls).m = mput w.m (joinN (l :: ls)) (w.b.length : Int) := by simp only [Wr.put, if_pos hb]
  rw [(wrName_no hm).1, (fresh (w := w.put l ls) (Nm_tl hn) (by
      intro K hK
      rw [hpm, mget_put] at hK
      split at hK
      · rename_i hh; rw [← hh]; exact hle
      · have := hf K hK; omega)).2 _ hle, hpm, mget_put, if_pos rfl]
theorem hit_len {ls : List (List UInt8)} {w : Wr} (h : ls ≠ [] → ∃ a, mget w.m (joinN ls) = some a) : (wrName ls w).b.length = w.b.length + own ls ∧ (wrName ls w).m = w.m := by
  cases ls with
  | nil => exact ⟨by simp [wrName, own], rfl⟩
  | cons l ls =>
    obtain ⟨a, ha⟩ := h (by simp)
    rw [(wrName_hit ha).1]
    refine ⟨?_, rfl⟩
    show (w.b ++ two (49152 + a)).length = _
    rw [List.length_append, own, if_neg (by simp)]; rfl
theorem rec_P {ls : List (List UInt8)} {d : List UInt8} {w : Wr} (hn : Nm ls) (hd : d.length ≤ 40) (h : ls ≠ [] → ∃ a, mget w.m (joinN ls) = some a) :
    (wrRec (rP (joinN ls) d) w).b.length = w.b.length + (own ls + 10 + d.length) ∧ (wrRec (rP (joinN ls) d) w).m = w.m ∧ wrOk (rP (joinN ls) d) w = true := by
  obtain ⟨a, b⟩ := hit_len h
  have hl : labN (rP (joinN ls) d).nm = ls := hn.lab
  have e1 : wrNum (rP (joinN ls) d) w = ⟨(wrName ls w).b ++ (rNums (rP (joinN ls) d)).flatMap two, (wrName ls w).m⟩ := by rw [wrNum, hl]
  have e2 : (wrNum (rP (joinN ls) d) w).b.length = w.b.length + own ls + 10 := by
    rw [e1]; show ((wrName ls w).b ++ _).length = _
    rw [List.length_append, flat_two, a]; rfl
  have e3 : wrDat (rP (joinN ls) d) (wrNum (rP (joinN ls) d) w) = ⟨(wrNum (rP (joinN ls) d) w).b ++ d, w.m⟩ := by
    have n1 : namS (rP (joinN ls) d).ty (rP (joinN ls) d).da = [] := (can_300 hd).2
    have n2 : preD (rP (joinN ls) d).ty (rP (joinN ls) d).da = [] := by rw [preD, if_neg (by show ¬ (300 : Int) = 15; decide)]
    rw [wrDat, dN, n1, n2, e1, b]
    simp [wrNames]; rfl
  refine ⟨?_, ?_, ?_⟩
  · rw [wrRec, e3]
    show (setSz _ _).length = _
    rw [setSz_len, List.length_append, e2]; omega
  · rw [wrRec, e3]
  · rw [wrOk, e3]
    show decide (((_ ++ d).length : Int) - _ < 65536) = true
    rw [List.length_append]
    exact decide_eq_true (by omega)
theorem encR_P {ls : List (List UInt8)} {d : List UInt8} (hn : Nm ls) (hd : d.length ≤ 40) : ∀ (k : Nat) (w : Wr), (ls ≠ [] → ∃ a, mget w.m (joinN ls) = some a) → w.b.length + k * (own ls + 10 + d.length) ≤ 65535 →
    ∃ w', encR (List.replicate k (rP (joinN ls) d)) (w, true) = (w', true) ∧ w'.b.length = w.b.length + k * (own ls + 10 + d.length)
  | 0, w, _, _ => ⟨w, rfl, by omega⟩
  | k + 1, w, h, hb => by
    obtain ⟨a, b, c⟩ := rec_P (w := w) hn hd h
    have hs : (k + 1) * (own ls + 10 + d.length) = k * (own ls + 10 + d.length) + (own ls + 10 + d.length) := Nat.succ_mul _ _
    obtain ⟨w', e1, e2⟩ := encR_P hn hd k (wrRec (rP (joinN ls) d) w) (by rw [b]; exact h) (by omega)
    refine ⟨w', ?_, by omega⟩
    rw [List.replicate_succ, ← e1]
    show encR _ (if true = true then (wrRec (rP (joinN ls) d) w, wrOk (rP (joinN ls) d) w && decide (((wrRec (rP (joinN ls) d) w).b.length : Int) ≤ 65535)) else (w, true)) = _
    rw [if_pos rfl, c, Bool.true_and, decide_eq_true (by omega)]
theorem enc_P {ls : List (List UInt8)} {d : List UInt8} {k : Nat} (hn : Nm ls) (hd : d.length ≤ 40) (hk : k ≤ 19) : encE (mP (joinN ls) k d) = 0 ∧ (encB (mP (joinN ls) k d)).length = 12 + (joinN ls).length + 4 + k * (own ls + 10 + d.length) := by
  have hc := canM_P (k := k) hn.can hd hk
  have hO := (canM_parts hc).1
  have h255 := hn.2
  have hw0 : (hdW (mP (joinN ls) k d)).b.length = 12 := by
    show (hB (toHd (mP (joinN ls) k d).h) _ _ _ _).length = 12
    rw [hB_yes hO, Hd.bytes_length]
  have hf : ∀ K, (mget (hdW (mP (joinN ls) k d)).m K).isSome = true → (joinN ls).length < K.length := fun K h => by cases h
  obtain ⟨f1, f2⟩ := fresh hn hf
  have eq1 : encQ (mP (joinN ls) k d).qs (hdW (mP (joinN ls) k d)) = ⟨(wrName ls (hdW (mP (joinN ls) k d))).b ++ [(1 : Int), 1].flatMap two, (wrName ls (hdW (mP (joinN ls) k d))).m⟩ := by
    show wrQ (qP (joinN ls)) _ = _
    rw [wrQ]; show Wr.mk ((wrName (labN (joinN ls)) _).b ++ _) (wrName (labN (joinN ls)) _).m = _
    rw [hn.lab]; rfl
  have el : (encQ (mP (joinN ls) k d).qs (hdW (mP (joinN ls) k d))).b.length = 12 + (joinN ls).length + 4 := by
    rw [eq1]; show (_ ++ _ : List UInt8).length = _
    rw [List.length_append, f1, hw0]; rfl
  have ho : own ls ≤ 2 := by unfold own; split <;> omega
  have hm : k * (own ls + 10 + d.length) ≤ 19 * 52 := Nat.mul_le_mul hk (by omega)
  obtain ⟨w', e1, e2⟩ := encR_P hn hd k (encQ (mP (joinN ls) k d).qs (hdW (mP (joinN ls) k d))) (by
    intro hne
    cases ls with
    | nil => exact absurd rfl hne
    | cons l ls => rw [eq1]; exact ⟨_, fresh_at hn hf (by omega)⟩) (by omega)
  have eW : encW (mP (joinN ls) k d) = (w', true) := by
    rw [encW, decide_eq_true (by omega)]
    rw [show (mP (joinN ls) k d).rrs = List.replicate k (rP (joinN ls) d) by simp [mP, Msg.rrs]]
    exact e1
  rw [encE, encB, if_pos hc, if_pos hc, eW]
  exact ⟨rfl, by show w'.b.length = _; omega⟩
theorem mP_ok {ls : List (List UInt8)} {d : List UInt8} {k : Nat} (hn : Nm ls) (hd : d.length ≤ 40) (hk : k ≤ 19) : MsgOk (mP (joinN ls) k d) ∧ NmOk (mP (joinN ls) k d) := by
  have h255 := hn.2
  have h1 : (List.replicate k (rP (joinN ls) d)).length = k := List.length_replicate
  have h2 : ∀ x ∈ List.replicate k (rP (joinN ls) d), x = rP (joinN ls) d := fun x hx => List.eq_of_mem_replicate hx
  refine ⟨⟨by show 1 * 32 ≤ _; omega, ⟨by show (List.replicate k _).length * 64 ≤ _; omega, fun x hx => ?_⟩, ⟨by show 0 * 64 ≤ _; omega, fun x hx => by cases hx⟩, ⟨by show 0 * 64 ≤ _; omega, fun x hx => by cases hx⟩⟩, ?_, ?_⟩
  · rw [h2 x hx]; show d.length ≤ _; omega
  · intro x hx
    have : x = qP (joinN ls) := by simpa [mP] using hx
    rw [this]; show (joinN ls).length ≤ _; omega
  · intro x hx
    have hx2 : x ∈ List.replicate k (rP (joinN ls) d) := by simpa [mP, Msg.rrs] using hx
    rw [h2 x hx2]; show (joinN ls).length ≤ _; omega
theorem root_iff {ls : List (List UInt8)} : (joinN ls = [0]) ↔ ls = [] := by
  constructor
  · intro h
    cases ls with
    | nil => rfl
    | cons l ls =>
      have h1 := congrArg List.length h
      have h2 := joinN_length ls
      rw [joinN_cons] at h1; simp at h1; rw [h1.2] at h2; simp at h2
  · rintro rfl; rfl

set_option maxRecDepth 20000 in
set_option maxHeartbeats 2000000 in
theorem c_ciceronelaw04_WirePoints (a : List UInt8) (c : Int) (data : List UInt8) (ha : a.length ≤ 140737488351232) (hd : data.length ≤ 140737488351232) : AC Try.prog 3 [.fz 0 a.length (cl bc a), i64 c, .fz 0 data.length (cl bc data)] emp (Ret (tf true)) := by
  obtain ⟨ls, hN, eN, hN4⟩ := plain_nm a
  refine AC.intro te_ok (fn := Try.f3) ⟨Try.func3, rfl, rfl⟩ (Nat.le_of_ble_eq_true rfl) ?_
  refine AWp.seq ?_
  refine AWp.region ?_
  refine AOps.cons rfl rfl (q_assign) ?_
  refine AOps.nil ?_
  refine AWp.seq ?_
  refine AWp.region ?_
  refine AOps.cons rfl rfl (q_move) ?_
  refine AOps.cons rfl rfl (q_call (0) (hc := (c_ciceroneplain_Name a 0 ha))) ?_
  refine AOps.cons rfl rfl (q_assign) ?_
  refine AOps.nil ?_
  refine AWp.seq ?_
  refine AWp.region ?_
  rw [eN]
  have h255 := hN.2
  refine AOps.cons rfl rfl (q_move) ?_
  refine AOps.cons rfl rfl (q_conv_u64) ?_
  refine AOps.cons rfl rfl (q_rem) ?_
  refine AOps.cons rfl rfl (q_conv_i64) ?_
  refine AOps.cons rfl rfl (q_assign) ?_
  refine AOps.nil ?_
  refine AWp.seq ?_
  refine AWp.region ?_
  obtain ⟨k, hk, hk2⟩ : ∃ k : Nat, (c % 18446744073709551616) % 20 = (k : Int) ∧ k ≤ 19 := ⟨((c % 18446744073709551616) % 20).toNat, by omega, by omega⟩
  rw [hk]
  refine AOps.cons rfl rfl (q_move) ?_
  refine AOps.cons rfl rfl (q_move) ?_
  refine AOps.cons rfl rfl (q_len) ?_
  refine AOps.cons rfl rfl (q_min) ?_
  refine AOps.cons rfl rfl (q_sl) ?_
  refine AOps.cons rfl rfl (q_assign) ?_
  refine AOps.nil ?_
  refine AWp.seq ?_
  refine AWp.region ?_
  obtain ⟨D, hD⟩ : ∃ D, D = data.take (min (data.length : Int) 40).toNat := ⟨_, rfl⟩
  have hDl : D.length ≤ 40 := by rw [hD, List.length_take]; omega
  rw [← hD]
  clear hD
  have hok := mP_ok hN hDl hk2
  obtain ⟨hE1, hE2⟩ := enc_P hN hDl hk2
  refine AOps.cons rfl rfl (q_move) ?_
  refine AOps.cons rfl rfl (q_build [(_, _), (_, _), (_, _)]) ?_
  refine AOps.cons rfl rfl (q_bs 502 quc [qP (joinN ls)] [(_, _)]) ?_
  refine AOps.cons rfl rfl (q_build [(_, _)]) ?_
  refine AOps.cons rfl rfl (q_alloc 504) ?_
  refine AOps.cons rfl rfl (q_store) ?_
  refine AOps.nil ?_
  refine AWp.seq ?_
  refine AWp.seq ?_
  refine AWp.region ?_
  refine AOps.cons rfl rfl (q_move) ?_
  refine AOps.cons rfl rfl (q_move) ?_
  refine AOps.weak (Weak.nilcell 504 700 9 5 rrc) ?_
  refine AOps.nil ?_
  refine AWp.block ?_
  refine AWp.loopR (α := Nat × List Rr × Nat) [28, 29, 30, 31, 32, 33, 34, 35, 36, 37, 38] (fun x_ => [(28, i64 (x_.1))]) (fun x_ => [(504, .box [i64 0, tf false, i64 0, tf false, tf false, tf false, tf false, i64 0, .sl 502 0 0 ([qP (joinN ls)] : List Qu).length 3, .sl 700 (x_.2.2) 0 (x_.2.1).length 5, .v (.slice none 0 0), .v (.slice none 0 0)]), (700, .row (cl rrc (x_.2.1)) 5 (x_.2.2)), (502, .row (cl quc [qP (joinN ls)]) 3 0)]) (fun x_ => (x_.1) ≤ k ∧ (x_.2.1) = List.replicate (x_.1) (rP (joinN ls) D)) (fun x_ => k - (x_.1)) (0, [], 0) ?_ (Back.mk' (HasT.cons HasT.nil) (HasH.cons (HasH.cons (HasH.cons HasH.nil)))) ?_
  · exact ⟨Nat.zero_le _, rfl⟩
  · rintro ⟨i, acc, v⟩ hI6
    change i ≤ k ∧ acc = List.replicate i (rP (joinN ls) D) at hI6
    obtain ⟨hi, hacc⟩ := hI6
    refine AWp.as (s' := AS.over _ [28, 29, 30, 31, 32, 33, 34, 35, 36, 37, 38] [(28, i64 i)] [(504, .box [i64 0, tf false, i64 0, tf false, tf false, tf false, tf false, i64 0, .sl 502 0 0 ([qP (joinN ls)] : List Qu).length 3, .sl 700 v 0 acc.length 5, .v (.slice none 0 0), .v (.slice none 0 0)]), (700, .row (cl rrc acc) 5 v), (502, .row (cl quc [qP (joinN ls)]) 3 0)]) rfl ?_
    have hal := congrArg List.length hacc
    rw [List.length_replicate] at hal
    refine AWp.seq ?_
    refine AWp.region ?_
    refine AOps.dec rfl rfl (q_lss) (fun h6_0 => ?_) (fun h6_0 => ?_)
    · skip
      refine AOps.nil ?_
      refine AWp.seq ?_
      refine AWp.cond_t rfl ?_
      refine AWp.skip ?_
      refine AWp.seq ?_
      refine AWp.block ?_
      refine AWp.region ?_
      refine AOps.cons rfl rfl (q_fa) ?_
      refine AOps.cons rfl rfl (q_load) ?_
      refine AOps.cons rfl rfl (q_move) ?_
      refine AOps.cons rfl rfl (q_move) ?_
      refine AOps.cons rfl rfl (q_build [(_, _), (_, _), (_, _), (_, _)]) ?_
      refine AOps.cons rfl rfl (q_bs 805 rrc [rP (joinN ls) D] [(_, _)]) ?_
      refine AOps.cons rfl rfl (q_app) ?_
      refine AOps.cons rfl rfl (q_fa) ?_
      refine AOps.cons rfl rfl (q_store) ?_
      refine AOps.nil ?_
      refine AWp.region ?_
      refine AOps.cons rfl rfl (q_add) ?_
      refine AOps.cons rfl rfl (q_move) ?_
      refine AOps.nil ?_
      refine ⟨(i + 1, acc ++ [rP (joinN ls) D], v + 1), ?_, Back.mk' (HasT.cons HasT.nil) (HasH.cons (HasH.cons (HasH.cons HasH.nil))), ?_⟩
      · try dsimp only
        exact ⟨by omega, by rw [hacc, List.replicate_succ']⟩
      · try dsimp only
        first | omega | (simp; omega)
    · skip
      refine AOps.nil ?_
      refine AWp.seq ?_
      refine AWp.cond_f rfl ?_
      refine AWp.exit ?_
      refine AWp.seq ?_
      refine AWp.region ?_
      obtain rfl : i = k := by omega
      subst hacc
      refine AOps.weak (Weak.full 0 [] (t := [(1, i64 i), (2, .fz 0 D.length (cl bc D)), (7, str (joinN ls)), (8, .ptr 504 0 0)]) (hl := [(504, .box [i64 0, tf false, i64 0, tf false, tf false, tf false, tf false, i64 0, .fz 0 ([qP (joinN ls)] : List Qu).length (cl quc [qP (joinN ls)]), .fz 0 (List.replicate i (rP (joinN ls) D)).length (cl rrc (List.replicate i (rP (joinN ls) D))), .fz 0 ([] : List Rr).length (cl rrc []), .fz 0 ([] : List Rr).length (cl rrc [])])])) ?_
      refine AOps.cons rfl rfl (q_assign) ?_
      refine AOps.nil ?_
      refine AWp.seq ?_
      refine AWp.seq ?_
      refine AWp.region ?_
      refine AOps.cons rfl rfl (q_move) ?_
      refine AOps.dec rfl rfl (q_seql) (fun h10_1 => ?_) (fun h10_1 => ?_)
      · skip
        refine AOps.nil ?_
        refine AWp.cond_t rfl ?_
        refine AWp.region ?_
        refine AOps.cons rfl rfl (q_assign) ?_
        refine AOps.nil ?_
        refine AWp.seq ?_
        refine AWp.region ?_
        refine AOps.cons rfl rfl (q_load) ?_
        refine AOps.cons rfl rfl (q_call (0) (hc := (c_wire_Encode (mP (joinN ls) i D) hok.1 hok.2))) ?_
        refine AOps.cons rfl rfl (q_move) ?_
        refine AOps.cons rfl rfl (q_extract) ?_
        refine AOps.cons rfl rfl (q_extract) ?_
        refine AOps.cons rfl rfl (q_assign) ?_
        refine AOps.cons rfl rfl (q_assign) ?_
        refine AOps.nil ?_
        refine AWp.seq ?_
        refine AWp.region ?_
        rw [hE1]
        have ho : own ls = 1 := by rw [own, if_pos (root_iff.1 h10_1)]
        rw [ho] at hE2
        have hm : (i : Int) * (1 + 10 + (D.length : Int)) = ((i * (1 + 10 + D.length) : Nat) : Int) := by push_cast; rfl
        have hmb : i * (1 + 10 + D.length) ≤ 19 * 52 := Nat.mul_le_mul hk2 (by omega)
        refine AOps.cons rfl rfl (q_move) ?_
        refine AOps.cons rfl rfl ((OpOk.dec_t (q_eql) (rfl))) ?_
        refine AOps.cons rfl rfl (q_move) ?_
        refine AOps.gcons rfl rfl rfl rfl rfl (q_move) ?_
        refine AOps.gcons rfl rfl rfl rfl rfl (q_len) ?_
        refine AOps.gcons rfl rfl rfl rfl rfl (q_move) ?_
        refine AOps.gcons rfl rfl rfl rfl rfl (q_len_str) ?_
        refine AOps.gcons rfl rfl rfl rfl rfl (q_add) ?_
        refine AOps.gcons rfl rfl rfl rfl rfl (q_add) ?_
        refine AOps.gcons rfl rfl rfl rfl rfl (q_move) ?_
        refine AOps.gcons rfl rfl rfl rfl rfl (q_move) ?_
        refine AOps.gcons rfl rfl rfl rfl rfl (q_add) ?_
        refine AOps.gcons rfl rfl rfl rfl rfl (q_move) ?_
        refine AOps.gcons rfl rfl rfl rfl rfl (q_len) ?_
        refine AOps.gcons rfl rfl rfl rfl rfl (q_add) ?_
        refine AOps.gcons rfl rfl rfl rfl rfl (q_mul (h1 := by rw [hm]; omega) (h2 := by rw [hm]; omega)) ?_
        refine AOps.gcons rfl rfl rfl rfl rfl (q_add) ?_
        refine AOps.gcons rfl rfl rfl rfl rfl ((OpOk.dec_t (q_eql) (by rw [hm, hE2]; omega))) ?_
        refine AOps.cons rfl rfl (q_pick) ?_
        refine AOps.cons rfl rfl (q_move) ?_
        refine AOps.gcons rfl rfl rfl rfl rfl (q_move) ?_
        refine AOps.gcons rfl rfl rfl rfl rfl ((OpOk.bool_is (c := true) (q_call (0) (hc := (c_ciceroneref01_Can (joinN ls) (by omega)))) (hN.can))) ?_
        refine AOps.cons rfl rfl (q_pick) ?_
        refine AOps.cons rfl rfl (q_assign) ?_
        refine AOps.nil ?_
        refine AWp.ret ?_
        show Fin te Try.f3 _ _
        refine q_ret (0) [_] [_] ?_
        rfl
      · skip
        refine AOps.nil ?_
        refine AWp.cond_f rfl ?_
        refine AWp.skip ?_
        refine AWp.seq ?_
        refine AWp.region ?_
        refine AOps.cons rfl rfl (q_load) ?_
        refine AOps.cons rfl rfl (q_call (0) (hc := (c_wire_Encode (mP (joinN ls) i D) hok.1 hok.2))) ?_
        refine AOps.cons rfl rfl (q_move) ?_
        refine AOps.cons rfl rfl (q_extract) ?_
        refine AOps.cons rfl rfl (q_extract) ?_
        refine AOps.cons rfl rfl (q_assign) ?_
        refine AOps.cons rfl rfl (q_assign) ?_
        refine AOps.nil ?_
        refine AWp.seq ?_
        refine AWp.region ?_
        rw [hE1]
        have ho : own ls = 2 := by rw [own, if_neg (fun e => h10_1 (root_iff.2 e))]
        rw [ho] at hE2
        have hm : (i : Int) * (2 + 10 + (D.length : Int)) = ((i * (2 + 10 + D.length) : Nat) : Int) := by push_cast; rfl
        have hmb : i * (2 + 10 + D.length) ≤ 19 * 52 := Nat.mul_le_mul hk2 (by omega)
        refine AOps.cons rfl rfl (q_move) ?_
        refine AOps.cons rfl rfl ((OpOk.dec_t (q_eql) (rfl))) ?_
        refine AOps.cons rfl rfl (q_move) ?_
        refine AOps.gcons rfl rfl rfl rfl rfl (q_move) ?_
        refine AOps.gcons rfl rfl rfl rfl rfl (q_len) ?_
        refine AOps.gcons rfl rfl rfl rfl rfl (q_move) ?_
        refine AOps.gcons rfl rfl rfl rfl rfl (q_len_str) ?_
        refine AOps.gcons rfl rfl rfl rfl rfl (q_add) ?_
        refine AOps.gcons rfl rfl rfl rfl rfl (q_add) ?_
        refine AOps.gcons rfl rfl rfl rfl rfl (q_move) ?_
        refine AOps.gcons rfl rfl rfl rfl rfl (q_move) ?_
        refine AOps.gcons rfl rfl rfl rfl rfl (q_add) ?_
        refine AOps.gcons rfl rfl rfl rfl rfl (q_move) ?_
        refine AOps.gcons rfl rfl rfl rfl rfl (q_len) ?_
        refine AOps.gcons rfl rfl rfl rfl rfl (q_add) ?_
        refine AOps.gcons rfl rfl rfl rfl rfl (q_mul (h1 := by rw [hm]; omega) (h2 := by rw [hm]; omega)) ?_
        refine AOps.gcons rfl rfl rfl rfl rfl (q_add) ?_
        refine AOps.gcons rfl rfl rfl rfl rfl ((OpOk.dec_t (q_eql) (by rw [hm, hE2]; omega))) ?_
        refine AOps.cons rfl rfl (q_pick) ?_
        refine AOps.cons rfl rfl (q_move) ?_
        refine AOps.gcons rfl rfl rfl rfl rfl (q_move) ?_
        refine AOps.gcons rfl rfl rfl rfl rfl ((OpOk.bool_is (c := true) (q_call (0) (hc := (c_ciceroneref01_Can (joinN ls) (by omega)))) (hN.can))) ?_
        refine AOps.cons rfl rfl (q_pick) ?_
        refine AOps.cons rfl rfl (q_assign) ?_
        refine AOps.nil ?_
        refine AWp.ret ?_
        show Fin te Try.f3 _ _
        refine q_ret (0) [_] [_] ?_
        rfl

end Go.Proofs.Ytkfccjbihcbmiaa.Fw

