/- The texts V04f, V04g, M2, M3, L05t, one behind the other: what the walks and plain laws need; conditions stand with each theorem. -/
import Derived.Test.YtkfccjbihcbmiaaCat4
set_option linter.unusedVariables false
set_option linter.unusedSimpArgs false
namespace Go.Proofs.Ytkfccjbihcbmiaa.Fw
open Go.RowKit
def plC (p : List UInt8 × Int) : List AV := [str p.1, i64 p.2]
def four (n : Int) : List UInt8 := two (n / 2 ^ 16) ++ two (lowW n)
theorem mget_hit {m : List (List UInt8 × Int)} {n : List UInt8} : ∀ {i : Nat}, i < m.length → (∀ j, j < i → (m.getD j default).1 ≠ n) → (m.getD i default).1 = n → mget m n = some (m.getD i default).2 := by
  induction m with
  | nil => intro i h; simp at h
  | cons p m ih =>
    obtain ⟨a, b⟩ := p
    intro i hi hj he
    cases i with
    | zero =>
      have he' : a = n := he
      rw [mget, if_pos he']; rfl
    | succ i =>
      have h0 : a ≠ n := hj 0 (by omega)
      rw [mget, if_neg h0]
      exact ih (by simpa using hi) (fun j hj2 => by have := hj (j + 1) (by omega); simpa using this) (by simpa using he)
theorem mget_all {m : List (List UInt8 × Int)} {n : List UInt8} (h : ∀ j, j < m.length → (m.getD j default).1 ≠ n) : mget m n = none := by
  apply mget_none
  intro hm
  obtain ⟨p, hp, e⟩ := List.mem_map.1 hm
  obtain ⟨j, hj, e2⟩ := List.mem_iff_getElem.1 hp
  apply h j hj
  rw [List.getD_eq_getElem?_getD, List.getElem?_eq_getElem hj]
  show (m[j]).1 = n
  rw [e2, e]
theorem mput_none {m : List (List UInt8 × Int)} {n : List UInt8} {v : Int} (h : mget m n = none) : mput m n v = m ++ [(n, v)] := by
  rcases mfind m n with ⟨_, _, h3, _⟩ | h2
  · exact h3 v
  · obtain ⟨i, p, h3⟩ := h2
    simp_all
theorem lab_get {l : List UInt8} {ls : List (List UInt8)} (g : GoodN (l :: ls)) : ((joinN (l :: ls)).getD (0 : Int).toNat 0).toNat = l.length := by
  rw [joinN_cons]
  show (byte (l.length : Int)).toNat = l.length
  exact byte_len g.head.2
theorem lab_take {l : List UInt8} {ls : List (List UInt8)} : (joinN (l :: ls)).take ((1 : Int) + (l.length : Int)).toNat = byte (l.length : Int) :: l := by
  rw [show ((1 : Int) + (l.length : Int)).toNat = l.length + 1 by omega, joinN_cons]; simp
theorem lab_drop {l : List UInt8} {ls : List (List UInt8)} : (joinN (l :: ls)).drop ((1 : Int) + (l.length : Int)).toNat = joinN ls := by
  rw [show ((1 : Int) + (l.length : Int)).toNat = l.length + 1 by omega, joinN_cons]; simp
theorem joinN_ne {l : List UInt8} {ls : List (List UInt8)} : joinN (l :: ls) ≠ [0] := fun h => by
  have := root_iff.1 h; cases this
theorem setSz_at {b : List UInt8} {n a : Nat} (h : n = a + 2) : (b.set (a : Int).toNat (byte (((b.length : Int) - a - 2) / 2 ^ 8))).set ((a : Int) + 1).toNat (byte ((b.length : Int) - a - 2)) = setSz b n := by
  subst h
  unfold setSz
  rw [show (((a + 2 : Nat) : Int) - 2).toNat = (a : Int).toNat by omega, show (((a + 2 : Nat) : Int) - 1).toNat = ((a : Int) + 1).toNat by omega, show (b.length : Int) - ((a + 2 : Nat) : Int) = (b.length : Int) - a - 2 by omega]
def recC2 (r : Rr) (w : Wr) : Nat := nmC (labN r.nm) w + 4 + (if r.ty = 15 then 1 else 0) + nmsC (namS r.ty r.da) ⟨(wrNum r w).b ++ preD r.ty r.da, (wrNum r w).m⟩ + 1
theorem allOk_take {α : Type} [Inhabited α] {p : α → Bool} {l : List α} {i : Nat} (h : i < l.length) (h1 : (l.take i).all p = true) (h2 : p (l.getD i default) = true) : (l.take (i + 1)).all p = true := by
  rw [take_step' h, List.all_append, h1, List.all_cons, List.all_nil, h2]; rfl
theorem allOk_no {α : Type} [Inhabited α] {p : α → Bool} {l : List α} {i : Nat} (h : i < l.length) (h2 : p (l.getD i default) = false) : l.all p = false := by
  rw [List.all_eq_false]; exact ⟨_, getD_mem h, by rw [h2]; simp⟩
theorem canM_eq (m : Msg) : canM m = (decide (hdO m) && m.qs.all qOk && m.rrs.all rOk) := by rw [canM, any_nall, any_nall]
theorem qOk_eq (q : Qu) : qOk q = (canN q.nm && (decide (0 ≤ q.ty ∧ q.ty ≤ 65535) && decide (0 ≤ q.cs ∧ q.cs ≤ 65535))) := by
  rw [qOk, twoB_two]; simp [shB]
theorem rOk_eq (r : Rr) : rOk r = (canN r.nm && (decide (0 ≤ r.ty ∧ r.ty ≤ 65535) && decide (0 ≤ r.cs ∧ r.cs ≤ 65535)) && !decide (r.ttl < 0) && !decide (4294967296 ≤ r.ttl) && canS r.ty r.da) := by
  rw [rOk, twoB_two]; simp [shB]
set_option maxRecDepth 20000 in
set_option maxHeartbeats 2000000 in
theorem co_two (n : Int) : AC Try.prog 35 [i64 n] (hlook []) (RetH (.sl 8 0 0 (two n).length 1) [(8, .row (cl bc (two n)) 1 0)]) := by
 refine AC.intro te_ok (fn := Try.f35) ⟨Try.func35, rfl, rfl⟩ (Nat.le_of_ble_eq_true rfl) ?_
 refine AWp.seq ?_
 refine AWp.region ?_
 refine AOps.cons rfl rfl (q_assign) ?_
 refine AOps.nil ?_
 refine AWp.seq ?_
 refine AWp.region ?_
 refine AOps.cons rfl rfl (q_move) ?_
 refine AOps.cons rfl rfl (q_shr 8) ?_
 refine AOps.cons rfl rfl (q_conv_u8) ?_
 refine AOps.cons rfl rfl (q_move) ?_
 refine AOps.cons rfl rfl (q_conv_u8) ?_
 refine AOps.cons rfl rfl (q_bs 8 bc [_, _] [(_, _), (_, _)]) ?_
 refine AOps.cons rfl rfl (q_assign) ?_
 refine AOps.nil ?_
 refine AWp.ret ?_
 show Fin te Try.f35 _ _
 refine q_retH (0) [8] [_] [.sl 8 0 0 _ 1] [(8, .row (cl bc _) 1 0)] ?_
 rfl
set_option maxRecDepth 20000 in
set_option maxHeartbeats 2000000 in
theorem c_two (n : Int) : AC Try.prog 35 [i64 n] emp (Ret (.fz 0 (two n).length (cl bc (two n)))) := by
 refine AC.intro te_ok (fn := Try.f35) ⟨Try.func35, rfl, rfl⟩ (Nat.le_of_ble_eq_true rfl) ?_
 refine AWp.seq ?_
 refine AWp.region ?_
 refine AOps.cons rfl rfl (q_assign) ?_
 refine AOps.nil ?_
 refine AWp.seq ?_
 refine AWp.region ?_
 refine AOps.cons rfl rfl (q_move) ?_
 refine AOps.cons rfl rfl (q_shr 8) ?_
 refine AOps.cons rfl rfl (q_conv_u8) ?_
 refine AOps.cons rfl rfl (q_move) ?_
 refine AOps.cons rfl rfl (q_conv_u8) ?_
 refine AOps.cons rfl rfl (q_bs 205 bc [_, _] [(_, _), (_, _)]) ?_
 refine AOps.cons rfl rfl (q_assign) ?_
 refine AOps.nil ?_
 refine AWp.ret ?_
 show Fin te Try.f35 _ _
 refine q_ret (0) [_] [_] ?_
 rfl
set_option maxRecDepth 20000 in
set_option maxHeartbeats 2000000 in
theorem c_ciceroneref04_four (n : Int) (h : 0 ≤ n ∧ n ≤ 9223372036854775807) : AC Try.prog 66 [i64 n] emp (Ret (.fz 0 (four n).length (cl bc (four n)))) := by
 have t1 : (two (n / 2 ^ 16)).length = 2 := rfl
 have t2 : (two (lowW n)).length = 2 := rfl
 have t3 : (two (n / 65536)).length = 2 := rfl
 refine AC.intro te_ok (fn := Try.f66) ⟨Try.func66, rfl, rfl⟩ (Nat.le_of_ble_eq_true rfl) ?_
 refine AWp.seq ?_
 refine AWp.region ?_
 refine AOps.cons rfl rfl (q_assign) ?_
 refine AOps.nil ?_
 refine AWp.seq ?_
 refine AWp.region ?_
 refine AOps.cons rfl rfl (q_move) ?_
 refine AOps.cons rfl rfl (q_shr 16) ?_
 refine AOps.cons rfl rfl (q_callB (0) [] [(8, 2028)] [(_, _)] (hc := (co_two (n / 2 ^ 16)))) ?_
 refine AOps.cons rfl rfl (q_move) ?_
 refine AOps.cons rfl rfl (q_and) ?_
 refine AOps.cons rfl rfl (q_call (0) (hc := (c_two (lowW n)))) ?_
 refine AOps.cons rfl rfl (q_app) ?_
 refine AOps.cons rfl rfl (q_assign) ?_
 refine AOps.nil ?_
 refine AWp.ret ?_
 show Fin te Try.f66 _ _
 refine q_ret (0) [_] [_] ?_
 rfl
set_option maxRecDepth 20000 in
set_option maxHeartbeats 2000000 in
theorem c_rshort (n : Int) : AC Try.prog 58 [i64 n] emp (Ret (tf (decide (0 ≤ n ∧ n ≤ 65535)))) := by
 refine AC.intro te_ok (fn := Try.f58) ⟨Try.func58, rfl, rfl⟩ (Nat.le_of_ble_eq_true rfl) ?_
 refine AWp.seq ?_
 refine AWp.region ?_
 refine AOps.cons rfl rfl (q_assign) ?_
 refine AOps.nil ?_
 refine AWp.seq ?_
 refine AWp.region ?_
 refine AOps.cons rfl rfl (q_move) ?_
 refine AOps.dec rfl rfl (q_geq) (fun h1_1 => ?_) (fun h1_1 => ?_)
 ·
  refine AOps.cons rfl rfl (q_move) ?_
  refine AOps.gcons rfl rfl rfl rfl rfl (q_move) ?_
  refine AOps.gcons rfl rfl rfl rfl rfl (q_leq) ?_
  refine AOps.cons rfl rfl (q_pick) ?_
  refine AOps.cons rfl rfl (q_assign) ?_
  refine AOps.nil ?_
  refine AWp.ret ?_
  show Fin te Try.f58 _ _
  refine q_ret (0) [_] [_] ?_
  exact congrArg tf (by simp [*])
 ·
  refine AOps.cons rfl rfl (q_move) ?_
  refine AOps.gskip rfl rfl rfl rfl rfl rfl rfl rfl ?_
  refine AOps.gskip rfl rfl rfl rfl rfl rfl rfl rfl ?_
  refine AOps.cons rfl rfl (q_pick) ?_
  refine AOps.cons rfl rfl (q_assign) ?_
  refine AOps.nil ?_
  refine AWp.ret ?_
  show Fin te Try.f58 _ _
  refine q_ret (0) [_] [_] ?_
  exact congrArg tf (by simp [*]; try omega)
set_option maxRecDepth 20000 in
set_option maxHeartbeats 2000000 in
theorem c_ciceroneref04_counts (m : Msg) : AC Try.prog 33 [.agg (msgC m)] emp (Ret (.agg [i64 m.qs.length, i64 m.an.length, i64 m.au.length, i64 m.ad.length])) := by
 refine AC.intro te_ok (fn := Try.f33) ⟨Try.func33, rfl, rfl⟩ (Nat.le_of_ble_eq_true rfl) ?_
 refine AWp.seq ?_
 refine AWp.region ?_
 refine AOps.cons rfl rfl (q_box 100) ?_
 refine AOps.cons rfl rfl (q_alloc 101) ?_
 refine AOps.nil ?_
 refine AWp.seq ?_
 refine AWp.region ?_
 refine AOps.cons rfl rfl (q_fa) ?_
 refine AOps.cons rfl rfl (q_load) ?_
 refine AOps.cons rfl rfl (q_len) ?_
 refine AOps.cons rfl rfl (q_fa) ?_
 refine AOps.cons rfl rfl (q_load) ?_
 refine AOps.cons rfl rfl (q_len) ?_
 refine AOps.cons rfl rfl (q_fa) ?_
 refine AOps.cons rfl rfl (q_load) ?_
 refine AOps.cons rfl rfl (q_len) ?_
 refine AOps.cons rfl rfl (q_fa) ?_
 refine AOps.cons rfl rfl (q_load) ?_
 refine AOps.cons rfl rfl (q_len) ?_
 refine AOps.cons rfl rfl (q_buildA ic [_, _, _, _] [(_, _), (_, _), (_, _), (_, _)]) ?_
 refine AOps.cons rfl rfl (q_store) ?_
 refine AOps.nil ?_
 refine AWp.ret ?_
 show Fin te Try.f33 _ _
 refine q_ret (0) [_] [_] ?_
 rfl
set_option maxRecDepth 20000 in
set_option maxHeartbeats 2000000 in
theorem c_ciceroneref04_all (m : Msg) (h : MsgOk m) (hO : hdO m) : AC Try.prog 36 [.agg (msgC m)] emp (Ret (.fz 0 m.rrs.length (cl rrc m.rrs))) := by
 obtain ⟨q1, q2, q3, q4⟩ := id h
 obtain ⟨k1, k2, k3, k4⟩ := hdO_counts hO
 refine AC.intro te_ok (fn := Try.f36) ⟨Try.func36, rfl, rfl⟩ (Nat.le_of_ble_eq_true rfl) ?_
 refine AWp.seq ?_
 refine AWp.region ?_
 refine AOps.cons rfl rfl (q_box 100) ?_
 refine AOps.cons rfl rfl (q_assign) ?_
 refine AOps.nil ?_
 refine AWp.seq ?_
 refine AWp.draws [⟨0, [], [200], some 3, _, some (200, _)⟩,
     ⟨1, [1], [100], some 4, _, none⟩,
     ⟨2, [4], [100], some 5, _, none⟩,
     ⟨3, [3, 5], [200], some 6, _, some (200, _)⟩,
     ⟨4, [1], [100], some 7, _, none⟩,
     ⟨5, [7], [100], some 8, _, none⟩,
     ⟨6, [6, 8], [200], some 9, _, some (200, _)⟩,
     ⟨7, [1], [100], some 10, _, none⟩,
     ⟨8, [10], [100], some 11, _, none⟩,
     ⟨9, [9, 11], [200], some 12, _, some (200, _)⟩,
     ⟨10, [12], [], some 2, _, none⟩]
  [⟨0, [], [200], some 3, .any, some (200, .box [])⟩,
      ⟨1, [1], [100], some 4, .any, none⟩,
      ⟨2, [4], [100], some 5, .any, none⟩,
      ⟨3, [3, 5], [200], some 6, .any, some (200, .box [])⟩,
      ⟨4, [1], [100], some 7, .any, none⟩,
      ⟨5, [7], [100], some 8, .any, none⟩,
      ⟨6, [6, 8], [200], some 9, .any, some (200, .box [])⟩,
      ⟨7, [1], [100], some 10, .any, none⟩,
      ⟨8, [10], [100], some 11, .any, none⟩,
      ⟨9, [9, 11], [200], some 12, .any, some (200, .box [])⟩,
      ⟨10, [12], [], some 2, .any, none⟩]
  mixed_ok rfl (by kernel_rfl) ⟨DS.ok_over fun s0 => OpAt.go rfl rfl (q_bs 200 rrc [] []),
      DS.ok_over fun s0 => OpAt.go rfl rfl (q_fa),
      DS.ok_over fun s0 => OpAt.go rfl rfl (q_load),
      DS.ok_over fun s0 => OpAt.go rfl rfl (q_app),
      DS.ok_over fun s0 => OpAt.go rfl rfl (q_fa),
      DS.ok_over fun s0 => OpAt.go rfl rfl (q_load),
      DS.ok_over fun s0 => OpAt.go rfl rfl (q_app),
      DS.ok_over fun s0 => OpAt.go rfl rfl (q_fa),
      DS.ok_over fun s0 => OpAt.go rfl rfl (q_load),
      DS.ok_over fun s0 => OpAt.go rfl rfl (q_app),
      DS.ok_over fun s0 => OpAt.go rfl rfl (q_assign), trivial⟩ ?_
 dsimp only [final, DS.upd, AS.seto]
 refine AWp.ret ?_
 show Fin te Try.f36 _ _
 rw [Msg.rrs]
 refine q_ret (0) [_] [_] ?_
 rfl
set_option maxRecDepth 20000 in
set_option maxHeartbeats 2000000 in
theorem c_ciceroneref04_Can (m : Msg) (h : MsgOk m) (hn : NmOk m) : AC Try.prog 24 [.agg (msgC m)] emp (Ret (tf (canM m))) := by
 obtain ⟨q1, q2, q3, q4⟩ := id h
 obtain ⟨n1, n2⟩ := id hn
 have q5 := rrs_da h
 refine AC.intro te_ok (fn := Try.f24) ⟨Try.func24, rfl, rfl⟩ (Nat.le_of_ble_eq_true rfl) ?_
 refine AWp.seq ?_
 refine AWp.region ?_
 refine AOps.cons rfl rfl (q_box 100) ?_
 refine AOps.cons rfl rfl (q_assign) ?_
 refine AOps.nil ?_
 refine AWp.seq ?_
 refine AWp.seq ?_
 by_cases hO : hdO m
 ·
  refine AWp.draws [⟨0, [1], [100], some 7, _, none⟩,
      ⟨1, [7], [100], some 8, _, none⟩,
      ⟨2, [1], [100], some 9, _, none⟩,
      ⟨3, [9], [], some 10, _, none⟩,
      ⟨4, [8, 10], [], some 11, _, none⟩,
      ⟨5, [11], [], some 12, _, none⟩]
   [⟨0, [1], [100], some 7, .any, none⟩,
       ⟨1, [7], [100], some 8, .any, none⟩,
       ⟨2, [1], [100], some 9, .any, none⟩,
       ⟨3, [9], [], some 10, .any, none⟩,
       ⟨4, [8, 10], [], some 11, .any, none⟩,
       ⟨5, [11], [], some 12, .any, none⟩]
   mixed_ok rfl (by kernel_rfl) ⟨DS.ok_over fun s0 => OpAt.go rfl rfl (q_fa),
       DS.ok_over fun s0 => OpAt.go rfl rfl (q_load),
       DS.ok_over fun s0 => OpAt.go rfl rfl (q_load),
       DS.ok_over fun s0 => OpAt.go rfl rfl (q_call (0) (hc := (c_ciceroneref04_counts m))),
       DS.ok_over fun s0 => OpAt.go rfl rfl ((OpOk.dec_t (q_call (0) (hc := (c_ciceroneref02_Can (toHd m.h) m.qs.length m.an.length m.au.length m.ad.length))) (hO))),
       DS.ok_over fun s0 => OpAt.go rfl rfl (q_not), trivial⟩ ?_
  dsimp only [final, DS.upd, AS.seto]
  refine AWp.cond_f rfl ?_
  refine AWp.skip ?_
  refine AWp.seq ?_
  refine AWp.seq ?_
  refine AWp.region ?_
  obtain ⟨k1, k2, k3, k4⟩ := hdO_counts hO
  have hrl : m.rrs.length ≤ 196605 := by simp only [Msg.rrs, List.length_append]; omega
  refine AOps.cons rfl rfl (q_fa) ?_
  refine AOps.cons rfl rfl (q_load) ?_
  refine AOps.cons rfl rfl (q_len) ?_
  refine AOps.cons rfl rfl (q_move) ?_
  refine AOps.nil ?_
  refine AWp.block ?_
  refine AWp.loopR (α := Nat) [2, 4, 16, 17, 18, 19, 20, 21, 22, 23, 24, 25, 26, 27, 28, 29, 30, 31, 32, 33, 34, 35, 36] (fun i => [(16, i64 i)]) (fun i => []) (fun i => i ≤ m.qs.length ∧ (m.qs.take i).all qOk = true) (fun i => m.qs.length - i) 0 ?_ (Back.mk' (HasT.cons HasT.nil) HasH.nil) ?_
  ·
   exact ⟨Nat.zero_le _, rfl⟩
  ·
   rintro i ⟨hi, hI⟩
   refine AWp.seq ?_
   refine AWp.region ?_
   refine AOps.dec rfl rfl (q_lss) (fun h4_0 => ?_) (fun h4_0 => ?_)
   ·
    refine AOps.nil ?_
    refine AWp.seq ?_
    refine AWp.cond_t rfl ?_
    refine AWp.skip ?_
    refine AWp.seq ?_
    refine AWp.block ?_
    refine AWp.seq ?_
    refine AWp.region ?_
    have hmem := getD_mem (l := m.qs) (i := i) (by omega)
    refine AOps.cons rfl rfl (q_ix) ?_
    refine AOps.cons rfl rfl (q_load) ?_
    refine AOps.cons rfl rfl (q_alloc 602) ?_
    refine AOps.cons rfl rfl (q_store) ?_
    refine AOps.nil ?_
    refine AWp.seq ?_
    refine AWp.region ?_
    refine AOps.cons rfl rfl (q_fa) ?_
    refine AOps.cons rfl rfl (q_load) ?_
    refine AOps.bool rfl rfl (q_call (0) (hc := (c_ciceroneref01_Can (m.qs.getD i default).nm (by have := n1 _ hmem; omega)))) (fun h6_2 => ?_) (fun h6_2 => ?_)
    ·
     refine AOps.cons rfl rfl (q_not) ?_
     refine AOps.cons rfl rfl (q_move) ?_
     refine AOps.gcons rfl rfl rfl rfl rfl (q_fa) ?_
     refine AOps.gcons rfl rfl rfl rfl rfl (q_load) ?_
     refine AOps.gbool rfl rfl rfl rfl rfl (q_call (0) (hc := (c_rshort (m.qs.getD i default).ty))) (fun h6_7 => ?_) (fun h6_7 => ?_)
     ·
      refine AOps.gcons rfl rfl rfl rfl rfl (q_not) ?_
      refine AOps.cons rfl rfl (q_pick) ?_
      refine AOps.cons rfl rfl (q_move) ?_
      refine AOps.gcons rfl rfl rfl rfl rfl (q_fa) ?_
      refine AOps.gcons rfl rfl rfl rfl rfl (q_load) ?_
      refine AOps.gbool rfl rfl rfl rfl rfl (q_call (0) (hc := (c_rshort (m.qs.getD i default).cs))) (fun h6_13 => ?_) (fun h6_13 => ?_)
      ·
       refine AOps.gcons rfl rfl rfl rfl rfl (q_not) ?_
       refine AOps.cons rfl rfl (q_pick) ?_
       refine AOps.nil ?_
       refine AWp.cond_f rfl ?_
       refine AWp.skip ?_
       refine AWp.region ?_
       refine AOps.cons rfl rfl (q_add) ?_
       refine AOps.cons rfl rfl (q_move) ?_
       refine AOps.nil ?_
       refine ⟨i + 1, ?_, Back.mk' (HasT.cons HasT.nil) HasH.nil, ?_⟩
       ·
        exact ⟨by omega, allOk_take (by omega) hI (by rw [qOk_eq]; generalize m.qs.getD i default = q at *; simp [*])⟩
       ·
        first | omega | (simp; omega)
      ·
       refine AOps.gcons rfl rfl rfl rfl rfl (q_not) ?_
       refine AOps.cons rfl rfl (q_pick) ?_
       refine AOps.nil ?_
       refine AWp.cond_t rfl ?_
       refine AWp.seq ?_
       refine AWp.region ?_
       refine AOps.cons rfl rfl (q_assign) ?_
       refine AOps.nil ?_
       refine AWp.ret ?_
       show Fin te Try.f24 _ _
       refine q_ret (0) [_] [_] ?_
       exact congrArg tf (by rw [canM_eq, allOk_no (p := qOk) (l := m.qs) (i := i) (by omega) (by rw [qOk_eq]; generalize m.qs.getD i default = q at *; simp [*]; try omega)]; simp)
     ·
      refine AOps.gcons rfl rfl rfl rfl rfl (q_not) ?_
      refine AOps.cons rfl rfl (q_pick) ?_
      refine AOps.cons rfl rfl (q_move) ?_
      refine AOps.gskip rfl rfl rfl rfl rfl rfl rfl rfl ?_
      refine AOps.gskip rfl rfl rfl rfl rfl rfl rfl rfl ?_
      refine AOps.gskip rfl rfl rfl rfl rfl rfl rfl rfl ?_
      refine AOps.gskip rfl rfl rfl rfl rfl rfl rfl rfl ?_
      refine AOps.cons rfl rfl (q_pick) ?_
      refine AOps.nil ?_
      refine AWp.cond_t rfl ?_
      refine AWp.seq ?_
      refine AWp.region ?_
      refine AOps.cons rfl rfl (q_assign) ?_
      refine AOps.nil ?_
      refine AWp.ret ?_
      show Fin te Try.f24 _ _
      refine q_ret (0) [_] [_] ?_
      exact congrArg tf (by rw [canM_eq, allOk_no (p := qOk) (l := m.qs) (i := i) (by omega) (by rw [qOk_eq]; generalize m.qs.getD i default = q at *; simp [*]; try omega)]; simp)
    ·
     refine AOps.cons rfl rfl (q_not) ?_
     refine AOps.cons rfl rfl (q_move) ?_
     refine AOps.gskip rfl rfl rfl rfl rfl rfl rfl rfl ?_
     refine AOps.gskip rfl rfl rfl rfl rfl rfl rfl rfl ?_
     refine AOps.gskip rfl rfl rfl rfl rfl rfl rfl rfl ?_
     refine AOps.gskip rfl rfl rfl rfl rfl rfl rfl rfl ?_
     refine AOps.cons rfl rfl (q_pick) ?_
     refine AOps.cons rfl rfl (q_move) ?_
     refine AOps.gskip rfl rfl rfl rfl rfl rfl rfl rfl ?_
     refine AOps.gskip rfl rfl rfl rfl rfl rfl rfl rfl ?_
     refine AOps.gskip rfl rfl rfl rfl rfl rfl rfl rfl ?_
     refine AOps.gskip rfl rfl rfl rfl rfl rfl rfl rfl ?_
     refine AOps.cons rfl rfl (q_pick) ?_
     refine AOps.nil ?_
     refine AWp.cond_t rfl ?_
     refine AWp.seq ?_
     refine AWp.region ?_
     refine AOps.cons rfl rfl (q_assign) ?_
     refine AOps.nil ?_
     refine AWp.ret ?_
     show Fin te Try.f24 _ _
     refine q_ret (0) [_] [_] ?_
     exact congrArg tf (by rw [canM_eq, allOk_no (p := qOk) (l := m.qs) (i := i) (by omega) (by rw [qOk_eq]; generalize m.qs.getD i default = q at *; simp [*]; try omega)]; simp)
   ·
    refine AOps.nil ?_
    refine AWp.seq ?_
    refine AWp.cond_f rfl ?_
    refine AWp.exit ?_
    refine AWp.seq ?_
    refine AWp.seq ?_
    refine AWp.region ?_
    obtain rfl : i = m.qs.length := by omega
    rw [List.take_length] at hI
    refine AOps.cons rfl rfl (q_load) ?_
    refine AOps.cons rfl rfl (q_call (0) (hc := (c_ciceroneref04_all m h hO))) ?_
    refine AOps.cons rfl rfl (q_len) ?_
    refine AOps.cons rfl rfl (q_move) ?_
    refine AOps.nil ?_
    refine AWp.block ?_
    refine AWp.loopR (α := Nat) [2, 6, 40, 41, 42, 43, 44, 45, 46, 47, 48, 49, 50, 51, 52, 53, 54, 55, 56, 57, 58, 59, 60, 61, 62, 63, 64, 65, 66, 67, 68, 69, 70, 71, 72, 73, 74, 75, 76, 77, 78] (fun k => [(40, i64 k)]) (fun k => []) (fun k => k ≤ m.rrs.length ∧ (m.rrs.take k).all rOk = true) (fun k => m.rrs.length - k) 0 ?_ (Back.mk' (HasT.cons HasT.nil) HasH.nil) ?_
    ·
     exact ⟨Nat.zero_le _, rfl⟩
    ·
     rintro k ⟨hk, hK⟩
     refine AWp.seq ?_
     refine AWp.region ?_
     refine AOps.dec rfl rfl (q_lss) (fun h10_0 => ?_) (fun h10_0 => ?_)
     ·
      refine AOps.nil ?_
      refine AWp.seq ?_
      refine AWp.cond_t rfl ?_
      refine AWp.skip ?_
      refine AWp.seq ?_
      refine AWp.block ?_
      refine AWp.seq ?_
      refine AWp.region ?_
      have hmem := getD_mem (l := m.rrs) (i := k) (by omega)
      refine AOps.cons rfl rfl (q_ix) ?_
      refine AOps.cons rfl rfl (q_load) ?_
      refine AOps.cons rfl rfl (q_alloc 1202) ?_
      refine AOps.cons rfl rfl (q_store) ?_
      refine AOps.nil ?_
      refine AWp.seq ?_
      refine AWp.region ?_
      refine AOps.cons rfl rfl (q_fa) ?_
      refine AOps.cons rfl rfl (q_load) ?_
      refine AOps.bool rfl rfl (q_call (0) (hc := (c_ciceroneref01_Can (m.rrs.getD k default).nm (by have := n2 _ hmem; omega)))) (fun h12_2 => ?_) (fun h12_2 => ?_)
      ·
       refine AOps.cons rfl rfl (q_not) ?_
       refine AOps.cons rfl rfl (q_move) ?_
       refine AOps.gcons rfl rfl rfl rfl rfl (q_fa) ?_
       refine AOps.gcons rfl rfl rfl rfl rfl (q_load) ?_
       refine AOps.gbool rfl rfl rfl rfl rfl (q_call (0) (hc := (c_rshort (m.rrs.getD k default).ty))) (fun h12_7 => ?_) (fun h12_7 => ?_)
       ·
        refine AOps.gcons rfl rfl rfl rfl rfl (q_not) ?_
        refine AOps.cons rfl rfl (q_pick) ?_
        refine AOps.cons rfl rfl (q_move) ?_
        refine AOps.gcons rfl rfl rfl rfl rfl (q_fa) ?_
        refine AOps.gcons rfl rfl rfl rfl rfl (q_load) ?_
        refine AOps.gbool rfl rfl rfl rfl rfl (q_call (0) (hc := (c_rshort (m.rrs.getD k default).cs))) (fun h12_13 => ?_) (fun h12_13 => ?_)
        ·
         refine AOps.gcons rfl rfl rfl rfl rfl (q_not) ?_
         refine AOps.cons rfl rfl (q_pick) ?_
         refine AOps.cons rfl rfl (q_move) ?_
         refine AOps.gcons rfl rfl rfl rfl rfl (q_fa) ?_
         refine AOps.gcons rfl rfl rfl rfl rfl (q_load) ?_
         refine AOps.gdec rfl rfl rfl rfl rfl (q_lss) (fun h12_19 => ?_) (fun h12_19 => ?_)
         ·
          refine AOps.cons rfl rfl (q_pick) ?_
          refine AOps.cons rfl rfl (q_move) ?_
          refine AOps.gskip rfl rfl rfl rfl rfl rfl rfl rfl ?_
          refine AOps.gskip rfl rfl rfl rfl rfl rfl rfl rfl ?_
          refine AOps.gskip rfl rfl rfl rfl rfl rfl rfl rfl ?_
          refine AOps.cons rfl rfl (q_pick) ?_
          refine AOps.cons rfl rfl (q_move) ?_
          refine AOps.gskip rfl rfl rfl rfl rfl rfl rfl rfl ?_
          refine AOps.gskip rfl rfl rfl rfl rfl rfl rfl rfl ?_
          refine AOps.gskip rfl rfl rfl rfl rfl rfl rfl rfl ?_
          refine AOps.gskip rfl rfl rfl rfl rfl rfl rfl rfl ?_
          refine AOps.gskip rfl rfl rfl rfl rfl rfl rfl rfl ?_
          refine AOps.gskip rfl rfl rfl rfl rfl rfl rfl rfl ?_
          refine AOps.cons rfl rfl (q_pick) ?_
          refine AOps.nil ?_
          refine AWp.cond_t rfl ?_
          refine AWp.seq ?_
          refine AWp.region ?_
          refine AOps.cons rfl rfl (q_assign) ?_
          refine AOps.nil ?_
          refine AWp.ret ?_
          show Fin te Try.f24 _ _
          refine q_ret (0) [_] [_] ?_
          exact congrArg tf (by rw [canM_eq, allOk_no (p := rOk) (l := m.rrs) (i := k) (by omega) (by rw [rOk_eq]; (try simp only [Int.toNat_natCast] at *); generalize m.rrs.getD k default = q at *; simp [*]; try omega)]; simp)
         ·
          refine AOps.cons rfl rfl (q_pick) ?_
          refine AOps.cons rfl rfl (q_move) ?_
          refine AOps.gcons rfl rfl rfl rfl rfl (q_fa) ?_
          refine AOps.gcons rfl rfl rfl rfl rfl (q_load) ?_
          refine AOps.gdec rfl rfl rfl rfl rfl (q_geq) (fun h12_24 => ?_) (fun h12_24 => ?_)
          ·
           refine AOps.cons rfl rfl (q_pick) ?_
           refine AOps.cons rfl rfl (q_move) ?_
           refine AOps.gskip rfl rfl rfl rfl rfl rfl rfl rfl ?_
           refine AOps.gskip rfl rfl rfl rfl rfl rfl rfl rfl ?_
           refine AOps.gskip rfl rfl rfl rfl rfl rfl rfl rfl ?_
           refine AOps.gskip rfl rfl rfl rfl rfl rfl rfl rfl ?_
           refine AOps.gskip rfl rfl rfl rfl rfl rfl rfl rfl ?_
           refine AOps.gskip rfl rfl rfl rfl rfl rfl rfl rfl ?_
           refine AOps.cons rfl rfl (q_pick) ?_
           refine AOps.nil ?_
           refine AWp.cond_t rfl ?_
           refine AWp.seq ?_
           refine AWp.region ?_
           refine AOps.cons rfl rfl (q_assign) ?_
           refine AOps.nil ?_
           refine AWp.ret ?_
           show Fin te Try.f24 _ _
           refine q_ret (0) [_] [_] ?_
           exact congrArg tf (by rw [canM_eq, allOk_no (p := rOk) (l := m.rrs) (i := k) (by omega) (by rw [rOk_eq]; (try simp only [Int.toNat_natCast] at *); generalize m.rrs.getD k default = q at *; simp [*]; try omega)]; simp)
          ·
           refine AOps.cons rfl rfl (q_pick) ?_
           refine AOps.cons rfl rfl (q_move) ?_
           refine AOps.gcons rfl rfl rfl rfl rfl (q_fa) ?_
           refine AOps.gcons rfl rfl rfl rfl rfl (q_load) ?_
           refine AOps.gcons rfl rfl rfl rfl rfl (q_fa) ?_
           refine AOps.gcons rfl rfl rfl rfl rfl (q_load) ?_
           refine AOps.gbool rfl rfl rfl rfl rfl (q_call (0) (hc := (c_ciceroneref03_Can (m.rrs.getD k default).ty (m.rrs.getD k default).da 0 (q5 _ hmem)))) (fun h12_31 => ?_) (fun h12_31 => ?_)
           ·
            refine AOps.gcons rfl rfl rfl rfl rfl (q_not) ?_
            refine AOps.cons rfl rfl (q_pick) ?_
            refine AOps.nil ?_
            refine AWp.cond_f rfl ?_
            refine AWp.skip ?_
            refine AWp.region ?_
            refine AOps.cons rfl rfl (q_add) ?_
            refine AOps.cons rfl rfl (q_move) ?_
            refine AOps.nil ?_
            refine ⟨k + 1, ?_, Back.mk' (HasT.cons HasT.nil) HasH.nil, ?_⟩
            ·
             exact ⟨by omega, allOk_take (by omega) hK (by rw [rOk_eq]; (try simp only [Int.toNat_natCast] at *); generalize m.rrs.getD k default = q at *; simp [*]; try omega)⟩
            ·
             first | omega | (simp; omega)
           ·
            refine AOps.gcons rfl rfl rfl rfl rfl (q_not) ?_
            refine AOps.cons rfl rfl (q_pick) ?_
            refine AOps.nil ?_
            refine AWp.cond_t rfl ?_
            refine AWp.seq ?_
            refine AWp.region ?_
            refine AOps.cons rfl rfl (q_assign) ?_
            refine AOps.nil ?_
            refine AWp.ret ?_
            show Fin te Try.f24 _ _
            refine q_ret (0) [_] [_] ?_
            exact congrArg tf (by rw [canM_eq, allOk_no (p := rOk) (l := m.rrs) (i := k) (by omega) (by rw [rOk_eq]; (try simp only [Int.toNat_natCast] at *); generalize m.rrs.getD k default = q at *; simp [*]; try omega)]; simp)
        ·
         refine AOps.gcons rfl rfl rfl rfl rfl (q_not) ?_
         refine AOps.cons rfl rfl (q_pick) ?_
         refine AOps.cons rfl rfl (q_move) ?_
         refine AOps.gskip rfl rfl rfl rfl rfl rfl rfl rfl ?_
         refine AOps.gskip rfl rfl rfl rfl rfl rfl rfl rfl ?_
         refine AOps.gskip rfl rfl rfl rfl rfl rfl rfl rfl ?_
         refine AOps.cons rfl rfl (q_pick) ?_
         refine AOps.cons rfl rfl (q_move) ?_
         refine AOps.gskip rfl rfl rfl rfl rfl rfl rfl rfl ?_
         refine AOps.gskip rfl rfl rfl rfl rfl rfl rfl rfl ?_
         refine AOps.gskip rfl rfl rfl rfl rfl rfl rfl rfl ?_
         refine AOps.cons rfl rfl (q_pick) ?_
         refine AOps.cons rfl rfl (q_move) ?_
         refine AOps.gskip rfl rfl rfl rfl rfl rfl rfl rfl ?_
         refine AOps.gskip rfl rfl rfl rfl rfl rfl rfl rfl ?_
         refine AOps.gskip rfl rfl rfl rfl rfl rfl rfl rfl ?_
         refine AOps.gskip rfl rfl rfl rfl rfl rfl rfl rfl ?_
         refine AOps.gskip rfl rfl rfl rfl rfl rfl rfl rfl ?_
         refine AOps.gskip rfl rfl rfl rfl rfl rfl rfl rfl ?_
         refine AOps.cons rfl rfl (q_pick) ?_
         refine AOps.nil ?_
         refine AWp.cond_t rfl ?_
         refine AWp.seq ?_
         refine AWp.region ?_
         refine AOps.cons rfl rfl (q_assign) ?_
         refine AOps.nil ?_
         refine AWp.ret ?_
         show Fin te Try.f24 _ _
         refine q_ret (0) [_] [_] ?_
         exact congrArg tf (by rw [canM_eq, allOk_no (p := rOk) (l := m.rrs) (i := k) (by omega) (by rw [rOk_eq]; (try simp only [Int.toNat_natCast] at *); generalize m.rrs.getD k default = q at *; simp [*]; try omega)]; simp)
       ·
        refine AOps.gcons rfl rfl rfl rfl rfl (q_not) ?_
        refine AOps.cons rfl rfl (q_pick) ?_
        refine AOps.cons rfl rfl (q_move) ?_
        refine AOps.gskip rfl rfl rfl rfl rfl rfl rfl rfl ?_
        refine AOps.gskip rfl rfl rfl rfl rfl rfl rfl rfl ?_
        refine AOps.gskip rfl rfl rfl rfl rfl rfl rfl rfl ?_
        refine AOps.gskip rfl rfl rfl rfl rfl rfl rfl rfl ?_
        refine AOps.cons rfl rfl (q_pick) ?_
        refine AOps.cons rfl rfl (q_move) ?_
        refine AOps.gskip rfl rfl rfl rfl rfl rfl rfl rfl ?_
        refine AOps.gskip rfl rfl rfl rfl rfl rfl rfl rfl ?_
        refine AOps.gskip rfl rfl rfl rfl rfl rfl rfl rfl ?_
        refine AOps.cons rfl rfl (q_pick) ?_
        refine AOps.cons rfl rfl (q_move) ?_
        refine AOps.gskip rfl rfl rfl rfl rfl rfl rfl rfl ?_
        refine AOps.gskip rfl rfl rfl rfl rfl rfl rfl rfl ?_
        refine AOps.gskip rfl rfl rfl rfl rfl rfl rfl rfl ?_
        refine AOps.cons rfl rfl (q_pick) ?_
        refine AOps.cons rfl rfl (q_move) ?_
        refine AOps.gskip rfl rfl rfl rfl rfl rfl rfl rfl ?_
        refine AOps.gskip rfl rfl rfl rfl rfl rfl rfl rfl ?_
        refine AOps.gskip rfl rfl rfl rfl rfl rfl rfl rfl ?_
        refine AOps.gskip rfl rfl rfl rfl rfl rfl rfl rfl ?_
        refine AOps.gskip rfl rfl rfl rfl rfl rfl rfl rfl ?_
        refine AOps.gskip rfl rfl rfl rfl rfl rfl rfl rfl ?_
        refine AOps.cons rfl rfl (q_pick) ?_
        refine AOps.nil ?_
        refine AWp.cond_t rfl ?_
        refine AWp.seq ?_
        refine AWp.region ?_
        refine AOps.cons rfl rfl (q_assign) ?_
        refine AOps.nil ?_
        refine AWp.ret ?_
        show Fin te Try.f24 _ _
        refine q_ret (0) [_] [_] ?_
        exact congrArg tf (by rw [canM_eq, allOk_no (p := rOk) (l := m.rrs) (i := k) (by omega) (by rw [rOk_eq]; (try simp only [Int.toNat_natCast] at *); generalize m.rrs.getD k default = q at *; simp [*]; try omega)]; simp)
      ·
       refine AOps.cons rfl rfl (q_not) ?_
       refine AOps.cons rfl rfl (q_move) ?_
       refine AOps.gskip rfl rfl rfl rfl rfl rfl rfl rfl ?_
       refine AOps.gskip rfl rfl rfl rfl rfl rfl rfl rfl ?_
       refine AOps.gskip rfl rfl rfl rfl rfl rfl rfl rfl ?_
       refine AOps.gskip rfl rfl rfl rfl rfl rfl rfl rfl ?_
       refine AOps.cons rfl rfl (q_pick) ?_
       refine AOps.cons rfl rfl (q_move) ?_
       refine AOps.gskip rfl rfl rfl rfl rfl rfl rfl rfl ?_
       refine AOps.gskip rfl rfl rfl rfl rfl rfl rfl rfl ?_
       refine AOps.gskip rfl rfl rfl rfl rfl rfl rfl rfl ?_
       refine AOps.gskip rfl rfl rfl rfl rfl rfl rfl rfl ?_
       refine AOps.cons rfl rfl (q_pick) ?_
       refine AOps.cons rfl rfl (q_move) ?_
       refine AOps.gskip rfl rfl rfl rfl rfl rfl rfl rfl ?_
       refine AOps.gskip rfl rfl rfl rfl rfl rfl rfl rfl ?_
       refine AOps.gskip rfl rfl rfl rfl rfl rfl rfl rfl ?_
       refine AOps.cons rfl rfl (q_pick) ?_
       refine AOps.cons rfl rfl (q_move) ?_
       refine AOps.gskip rfl rfl rfl rfl rfl rfl rfl rfl ?_
       refine AOps.gskip rfl rfl rfl rfl rfl rfl rfl rfl ?_
       refine AOps.gskip rfl rfl rfl rfl rfl rfl rfl rfl ?_
       refine AOps.cons rfl rfl (q_pick) ?_
       refine AOps.cons rfl rfl (q_move) ?_
       refine AOps.gskip rfl rfl rfl rfl rfl rfl rfl rfl ?_
       refine AOps.gskip rfl rfl rfl rfl rfl rfl rfl rfl ?_
       refine AOps.gskip rfl rfl rfl rfl rfl rfl rfl rfl ?_
       refine AOps.gskip rfl rfl rfl rfl rfl rfl rfl rfl ?_
       refine AOps.gskip rfl rfl rfl rfl rfl rfl rfl rfl ?_
       refine AOps.gskip rfl rfl rfl rfl rfl rfl rfl rfl ?_
       refine AOps.cons rfl rfl (q_pick) ?_
       refine AOps.nil ?_
       refine AWp.cond_t rfl ?_
       refine AWp.seq ?_
       refine AWp.region ?_
       refine AOps.cons rfl rfl (q_assign) ?_
       refine AOps.nil ?_
       refine AWp.ret ?_
       show Fin te Try.f24 _ _
       refine q_ret (0) [_] [_] ?_
       exact congrArg tf (by rw [canM_eq, allOk_no (p := rOk) (l := m.rrs) (i := k) (by omega) (by rw [rOk_eq]; (try simp only [Int.toNat_natCast] at *); generalize m.rrs.getD k default = q at *; simp [*]; try omega)]; simp)
     ·
      refine AOps.nil ?_
      refine AWp.seq ?_
      refine AWp.cond_f rfl ?_
      refine AWp.exit ?_
      refine AWp.seq ?_
      refine AWp.region ?_
      obtain rfl : k = m.rrs.length := by omega
      rw [List.take_length] at hK
      refine AOps.cons rfl rfl (q_assign) ?_
      refine AOps.nil ?_
      refine AWp.ret ?_
      show Fin te Try.f24 _ _
      refine q_ret (0) [_] [_] ?_
      exact congrArg tf (by rw [canM_eq, decide_eq_true hO, hI, hK]; rfl)
 ·
  refine AWp.draws [⟨0, [1], [100], some 7, _, none⟩,
      ⟨1, [7], [100], some 8, _, none⟩,
      ⟨2, [1], [100], some 9, _, none⟩,
      ⟨3, [9], [], some 10, _, none⟩,
      ⟨4, [8, 10], [], some 11, _, none⟩,
      ⟨5, [11], [], some 12, _, none⟩]
   [⟨0, [1], [100], some 7, .any, none⟩,
       ⟨1, [7], [100], some 8, .any, none⟩,
       ⟨2, [1], [100], some 9, .any, none⟩,
       ⟨3, [9], [], some 10, .any, none⟩,
       ⟨4, [8, 10], [], some 11, .any, none⟩,
       ⟨5, [11], [], some 12, .any, none⟩]
   mixed_ok rfl (by kernel_rfl) ⟨DS.ok_over fun s0 => OpAt.go rfl rfl (q_fa),
       DS.ok_over fun s0 => OpAt.go rfl rfl (q_load),
       DS.ok_over fun s0 => OpAt.go rfl rfl (q_load),
       DS.ok_over fun s0 => OpAt.go rfl rfl (q_call (0) (hc := (c_ciceroneref04_counts m))),
       DS.ok_over fun s0 => OpAt.go rfl rfl ((OpOk.dec_f (q_call (0) (hc := (c_ciceroneref02_Can (toHd m.h) m.qs.length m.an.length m.au.length m.ad.length))) (hO))),
       DS.ok_over fun s0 => OpAt.go rfl rfl (q_not), trivial⟩ ?_
  dsimp only [final, DS.upd, AS.seto]
  refine AWp.cond_t rfl ?_
  refine AWp.seq ?_
  refine AWp.region ?_
  refine AOps.cons rfl rfl (q_assign) ?_
  refine AOps.nil ?_
  refine AWp.ret ?_
  show Fin te Try.f24 _ _
  refine q_ret (0) [_] [_] ?_
  exact congrArg tf (by rw [canM_eq, decide_eq_false hO]; rfl)
set_option maxRecDepth 20000 in
set_option maxHeartbeats 2000000 in
theorem c_rname (ls0 : List (List UInt8)) (w0 : Wr) (v0 : Nat) (hn : Nm ls0) (hw : WOk w0) (hb : w0.b.length ≤ 10000000000) (hml : w0.m.length ≤ 10000000000) : AC Try.prog 34 [.ptr 0 0 0, str (joinN ls0)] (hlook [(0, .box [.sl 1 (v0) 0 (w0.b).length 1, .sl 2 (w0.m.length) 0 (w0.m).length 2]), (1, .row (cl bc (w0.b)) 1 (v0)), (2, .row (cl plC (w0.m)) 2 (w0.m.length))]) (RetH (.tup []) [(0, .box [.sl 1 (v0 + nmC ls0 w0) 0 ((wrName ls0 w0).b).length 1, .sl 2 ((wrName ls0 w0).m.length) 0 ((wrName ls0 w0).m).length 2]), (1, .row (cl bc ((wrName ls0 w0).b)) 1 (v0 + nmC ls0 w0)), (2, .row (cl plC ((wrName ls0 w0).m)) 2 ((wrName ls0 w0).m.length))]) := by
 refine AC.intro te_ok (fn := Try.f34) ⟨Try.func34, rfl, rfl⟩ (Nat.le_of_ble_eq_true rfl) ?_
 refine AWp.seq ?_
 refine AWp.block ?_
 refine AWp.loopR (α := List (List UInt8) × Wr × Nat × Nat) [1, 5, 6, 7, 8, 9, 10, 11, 12, 13, 14, 15, 16, 17, 18, 19, 20, 21, 22, 23, 24, 25, 26, 27, 28, 29, 30, 31, 32, 33, 34, 35, 36, 37, 38, 39, 40, 41, 42, 43, 44, 45, 46, 47, 48, 49, 50, 51, 52, 53, 54, 55, 56, 57, 58, 59, 60, 61, 62, 63, 64, 65, 66, 67, 68, 69, 70, 71, 72, 73, 74, 75] (fun x_ => [(1, str (joinN (x_.1)))]) (fun x_ => [(0, .box [.sl 1 ((x_.2.2.1)) 0 ((x_.2.1).b).length 1, .sl 2 ((x_.2.2.2)) 0 ((x_.2.1).m).length 2]), (1, .row (cl bc ((x_.2.1).b)) 1 ((x_.2.2.1))), (2, .row (cl plC ((x_.2.1).m)) 2 ((x_.2.2.2)))]) (fun x_ => Nm (x_.1) ∧ WOk (x_.2.1) ∧ (x_.2.1).b.length + (joinN (x_.1)).length ≤ w0.b.length + 255 ∧ wrName (x_.1) (x_.2.1) = wrName ls0 w0 ∧ (x_.2.2.1) + nmC (x_.1) (x_.2.1) = v0 + nmC ls0 w0 ∧ (x_.2.2.2) = (x_.2.1).m.length ∧ (x_.2.2.2) + (joinN (x_.1)).length ≤ w0.m.length + 255) (fun x_ => (x_.1).length) (ls0, w0, v0, w0.m.length) ?_ (Back.mk' (HasT.cons HasT.nil) (HasH.cons (HasH.cons (HasH.cons HasH.nil)))) ?_
 ·
  exact ⟨hn, hw, by have := hn.2; show w0.b.length + (joinN ls0).length ≤ _; omega, rfl, rfl, rfl, by have := hn.2; show w0.m.length + (joinN ls0).length ≤ _; omega⟩
 ·
  rintro ⟨ls, w, v, u⟩ hI0
  change Nm ls ∧ WOk w ∧ w.b.length + (joinN ls).length ≤ w0.b.length + 255 ∧ wrName ls w = wrName ls0 w0 ∧ v + nmC ls w = v0 + nmC ls0 w0 ∧ u = w.m.length ∧ u + (joinN ls).length ≤ w0.m.length + 255 at hI0
  obtain ⟨hN, hW, hB, hE, hV, hu, hM⟩ := hI0
  refine AWp.as (s' := AS.over _ [1, 5, 6, 7, 8, 9, 10, 11, 12, 13, 14, 15, 16, 17, 18, 19, 20, 21, 22, 23, 24, 25, 26, 27, 28, 29, 30, 31, 32, 33, 34, 35, 36, 37, 38, 39, 40, 41, 42, 43, 44, 45, 46, 47, 48, 49, 50, 51, 52, 53, 54, 55, 56, 57, 58, 59, 60, 61, 62, 63, 64, 65, 66, 67, 68, 69, 70, 71, 72, 73, 74, 75] [(1, str (joinN ls))] [(0, .box [.sl 1 (v) 0 (w.b).length 1, .sl 2 (u) 0 (w.m).length 2]), (1, .row (cl bc (w.b)) 1 (v)), (2, .row (cl plC (w.m)) 2 (u))]) rfl ?_
  have h255 := hN.2
  refine AWp.seq ?_
  refine AWp.seq ?_
  refine AWp.region ?_
  refine AOps.cons rfl rfl (q_move) ?_
  refine AOps.dec rfl rfl (q_sneq) (fun h0_1 => ?_) (fun h0_1 => ?_)
  ·
   refine AOps.nil ?_
   refine AWp.cond_t rfl ?_
   refine AWp.skip ?_
   refine AWp.block ?_
   refine AWp.seq ?_
   refine AWp.seq ?_
   refine AWp.region ?_
   obtain ⟨l, ls, rfl⟩ : ∃ l ls', ls = l :: ls' := by
     cases ls with
     | nil => exact absurd rfl h0_1
     | cons l ls' => exact ⟨l, ls', rfl⟩
   have hJ : (joinN (l :: ls)).length = l.length + 1 + (joinN ls).length := by rw [joinN_cons]; simp; omega
   have hN2 : Nm ls := Nm_tl hN
   refine AOps.cons rfl rfl (q_move) ?_
   refine AOps.cons rfl rfl (q_nil) ?_
   refine AOps.cons rfl rfl (q_fa) ?_
   refine AOps.cons rfl rfl (q_load) ?_
   refine AOps.cons rfl rfl (q_len) ?_
   refine AOps.cons rfl rfl (q_move) ?_
   refine AOps.nil ?_
   refine AWp.block ?_
   refine AWp.loopR (α := Nat) [5, 14, 15, 16, 17, 18, 19, 20, 21, 22, 23, 24, 25, 26, 27, 28, 29, 30, 31, 32, 33, 34] (fun i => [(14, i64 i)]) (fun i => []) (fun i => i ≤ w.m.length ∧ ∀ j, j < i → (w.m.getD j default).1 ≠ joinN (l :: ls)) (fun i => w.m.length - i) 0 ?_ (Back.mk' (HasT.cons HasT.nil) HasH.nil) ?_
   ·
    exact ⟨Nat.zero_le _, fun j hj => by omega⟩
   ·
    rintro i ⟨hi, hI⟩
    refine AWp.seq ?_
    refine AWp.region ?_
    refine AOps.dec rfl rfl (q_lss) (fun h2_0 => ?_) (fun h2_0 => ?_)
    ·
     refine AOps.nil ?_
     refine AWp.seq ?_
     refine AWp.cond_t rfl ?_
     refine AWp.skip ?_
     refine AWp.seq ?_
     refine AWp.block ?_
     refine AWp.seq ?_
     refine AWp.region ?_
     refine AOps.cons rfl rfl (q_ix) ?_
     refine AOps.cons rfl rfl (q_load) ?_
     refine AOps.cons rfl rfl (q_alloc 402) ?_
     refine AOps.cons rfl rfl (q_store) ?_
     refine AOps.nil ?_
     refine AWp.seq ?_
     refine AWp.region ?_
     refine AOps.cons rfl rfl (q_fa) ?_
     refine AOps.cons rfl rfl (q_load) ?_
     refine AOps.cons rfl rfl (q_move) ?_
     refine AOps.dec rfl rfl (q_seql) (fun h4_3 => ?_) (fun h4_3 => ?_)
     ·
      refine AOps.nil ?_
      refine AWp.cond_t rfl ?_
      refine AWp.seq ?_
      have hm : mget w.m (joinN (l :: ls)) = some (w.m.getD i default).2 := mget_hit (by omega) hI h4_3
      have ha := hW _ _ hm
      have ha2 : 0 ≤ (w.m.getD (i : Int).toNat default).2 ∧ (w.m.getD (i : Int).toNat default).2 < 16384 := ha
      have ht2 : (two (49152 + (w.m.getD (i : Int).toNat default).2)).length = 2 := rfl
      refine AWp.draws [⟨0, [0], [], some 22, _, none⟩,
          ⟨1, [0], [], some 23, _, none⟩,
          ⟨2, [23], [0], some 24, _, none⟩,
          ⟨3, [24], [0], some 25, _, none⟩,
          ⟨4, [25], [0], some 26, _, none⟩,
          ⟨5, [5], [402], some 27, _, none⟩,
          ⟨6, [27], [402], some 28, _, none⟩,
          ⟨7, [28], [], some 29, _, none⟩,
          ⟨8, [29], [], some 30, _, none⟩,
          ⟨9, [26, 30], [1], some 31, _, some (1, _)⟩,
          ⟨10, [22], [0], some 32, _, none⟩,
          ⟨11, [32], [0], some 33, _, none⟩,
          ⟨12, [31, 33], [0, 1], none, _, some (0, _)⟩]
       [⟨0, [0], [], some 22, .any, none⟩,
           ⟨1, [0], [], some 23, .any, none⟩,
           ⟨2, [23], [0], some 24, .any, none⟩,
           ⟨3, [24], [0], some 25, .any, none⟩,
           ⟨4, [25], [0], some 26, .any, none⟩,
           ⟨5, [5], [402], some 27, .any, none⟩,
           ⟨6, [27], [402], some 28, .any, none⟩,
           ⟨7, [28], [], some 29, .any, none⟩,
           ⟨8, [29], [], some 30, .any, none⟩,
           ⟨9, [26, 30], [1], some 31, .any, some (1, .box [])⟩,
           ⟨10, [22], [0], some 32, .any, none⟩,
           ⟨11, [32], [0], some 33, .any, none⟩,
           ⟨12, [31, 33], [0, 1], none, .any, some (0, .box [])⟩]
       mixed_ok rfl (by kernel_rfl) ⟨DS.ok_over fun s0 => OpAt.go rfl rfl (q_move),
           DS.ok_over fun s0 => OpAt.go rfl rfl (q_move),
           DS.ok_over fun s0 => OpAt.go rfl rfl (q_nil),
           DS.ok_over fun s0 => OpAt.go rfl rfl (q_fa),
           DS.ok_over fun s0 => OpAt.go rfl rfl (q_load),
           DS.ok_over fun s0 => OpAt.go rfl rfl (q_fa),
           DS.ok_over fun s0 => OpAt.go rfl rfl (q_load),
           DS.ok_over fun s0 => OpAt.go rfl rfl (q_add),
           DS.ok_over fun s0 => OpAt.go rfl rfl (q_call (0) (hc := (c_two (49152 + (w.m.getD i default).2)))),
           DS.ok_over fun s0 => OpAt.go rfl rfl (q_app (hb := by rw [show ∀ n, (two n).length = 2 from fun _ => rfl]; simp; omega)),
           DS.ok_over fun s0 => OpAt.go rfl rfl (q_nil),
           DS.ok_over fun s0 => OpAt.go rfl rfl (q_fa),
           DS.ok_over fun s0 => OpAt.go rfl rfl (q_store), trivial⟩ ?_
      dsimp only [final, DS.upd, AS.seto]
      refine AWp.ret ?_
      show Fin te Try.f34 _ _
      subst hu
      rw [← hE, ← hV, (wrName_hit hm).1, (wrName_hit hm).2]
      refine q_retH (0) [] [] [] [(_, _), (_, _), (_, _)] ?_
      rfl
     ·
      refine AOps.nil ?_
      refine AWp.cond_f rfl ?_
      refine AWp.skip ?_
      refine AWp.region ?_
      refine AOps.cons rfl rfl (q_add) ?_
      refine AOps.cons rfl rfl (q_move) ?_
      refine AOps.nil ?_
      refine ⟨i + 1, ?_, Back.mk' (HasT.cons HasT.nil) HasH.nil, ?_⟩
      ·
       refine ⟨by omega, fun j hj => ?_⟩
       rcases Nat.lt_or_ge j i with h | h
       · exact hI j h
       · obtain rfl : j = i := by omega
         exact h4_3
      ·
       first | omega | (simp; omega)
    ·
     refine AOps.nil ?_
     refine AWp.seq ?_
     refine AWp.cond_f rfl ?_
     refine AWp.exit ?_
     refine AWp.seq ?_
     refine AWp.seq ?_
     refine AWp.region ?_
     have hm : mget w.m (joinN (l :: ls)) = none := mget_all (fun j hj => hI j (by omega))
     refine AOps.cons rfl rfl (q_move) ?_
     refine AOps.cons rfl rfl (q_nil) ?_
     refine AOps.cons rfl rfl (q_fa) ?_
     refine AOps.cons rfl rfl (q_load) ?_
     refine AOps.cons rfl rfl (q_len) ?_
     refine AOps.dec rfl rfl (q_lss) (fun h7_5 => ?_) (fun h7_5 => ?_)
     ·
      refine AOps.nil ?_
      refine AWp.cond_t rfl ?_
      have hput : w.put l ls = ⟨w.b ++ (byte (l.length : Int) :: l), w.m ++ [(joinN (l :: ls), (w.b.length : Int))]⟩ := by simp only [Wr.put, if_pos h7_5, mput_none hm]
      refine AWp.draws [⟨0, [0], [], some 41, _, none⟩,
          ⟨1, [0], [], some 42, _, none⟩,
          ⟨2, [42], [0], some 43, _, none⟩,
          ⟨3, [43], [0], some 44, _, none⟩,
          ⟨4, [44], [0], some 45, _, none⟩,
          ⟨5, [1], [], some 46, _, none⟩,
          ⟨6, [0], [], some 47, _, none⟩,
          ⟨7, [47], [0], some 48, _, none⟩,
          ⟨8, [48], [0], some 49, _, none⟩,
          ⟨9, [49], [0], some 50, _, none⟩,
          ⟨10, [50], [1], some 51, _, none⟩,
          ⟨11, [46, 51], [], some 52, _, none⟩,
          ⟨12, [52], [912], some 53, _, some (912, _)⟩,
          ⟨13, [45, 53], [2, 912], some 54, _, some (2, _)⟩,
          ⟨14, [41], [0], some 55, _, none⟩,
          ⟨15, [55], [0], some 56, _, none⟩,
          ⟨16, [54, 56], [0, 2], none, _, some (0, _)⟩]
       [⟨0, [0], [], some 41, .any, none⟩,
           ⟨1, [0], [], some 42, .any, none⟩,
           ⟨2, [42], [0], some 43, .any, none⟩,
           ⟨3, [43], [0], some 44, .any, none⟩,
           ⟨4, [44], [0], some 45, .any, none⟩,
           ⟨5, [1], [], some 46, .any, none⟩,
           ⟨6, [0], [], some 47, .any, none⟩,
           ⟨7, [47], [0], some 48, .any, none⟩,
           ⟨8, [48], [0], some 49, .any, none⟩,
           ⟨9, [49], [0], some 50, .any, none⟩,
           ⟨10, [50], [1], some 51, .any, none⟩,
           ⟨11, [46, 51], [], some 52, .any, none⟩,
           ⟨12, [52], [912], some 53, .any, some (912, .box [])⟩,
           ⟨13, [45, 53], [2, 912], some 54, .any, some (2, .box [])⟩,
           ⟨14, [41], [0], some 55, .any, none⟩,
           ⟨15, [55], [0], some 56, .any, none⟩,
           ⟨16, [54, 56], [0, 2], none, .any, some (0, .box [])⟩]
       mixed_ok rfl (by kernel_rfl) ⟨DS.ok_over fun s0 => OpAt.go rfl rfl (q_move),
           DS.ok_over fun s0 => OpAt.go rfl rfl (q_move),
           DS.ok_over fun s0 => OpAt.go rfl rfl (q_nil),
           DS.ok_over fun s0 => OpAt.go rfl rfl (q_fa),
           DS.ok_over fun s0 => OpAt.go rfl rfl (q_load),
           DS.ok_over fun s0 => OpAt.go rfl rfl (q_move),
           DS.ok_over fun s0 => OpAt.go rfl rfl (q_move),
           DS.ok_over fun s0 => OpAt.go rfl rfl (q_nil),
           DS.ok_over fun s0 => OpAt.go rfl rfl (q_fa),
           DS.ok_over fun s0 => OpAt.go rfl rfl (q_load),
           DS.ok_over fun s0 => OpAt.go rfl rfl (q_len),
           DS.ok_over fun s0 => OpAt.go rfl rfl (q_build [(_, _), (_, _)]),
           DS.ok_over fun s0 => OpAt.go rfl rfl (q_bs 912 plC [(joinN (l :: ls), (w.b.length : Int))] [(_, _)]),
           DS.ok_over fun s0 => OpAt.go rfl rfl (q_app),
           DS.ok_over fun s0 => OpAt.go rfl rfl (q_nil),
           DS.ok_over fun s0 => OpAt.go rfl rfl (q_fa),
           DS.ok_over fun s0 => OpAt.go rfl rfl (q_store), trivial⟩ ?_
      dsimp only [final, DS.upd, AS.seto]
      refine AWp.seq ?_
      refine AWp.region ?_
      refine AOps.cons rfl rfl (q_move) ?_
      refine AOps.cons rfl rfl (q_ixs) ?_
      refine AOps.cons rfl rfl (q_conv_8i) ?_
      refine AOps.cons rfl rfl (q_assign) ?_
      refine AOps.nil ?_
      refine AWp.seq ?_
      rw [lab_get hN.1]
      refine AWp.draws [⟨0, [0], [], some 60, _, none⟩,
          ⟨1, [0], [], some 61, _, none⟩,
          ⟨2, [61], [0], some 62, _, none⟩,
          ⟨3, [62], [0], some 63, _, none⟩,
          ⟨4, [63], [0], some 64, _, none⟩,
          ⟨5, [1], [], some 65, _, none⟩,
          ⟨6, [6], [], some 66, _, none⟩,
          ⟨7, [66], [], some 67, _, none⟩,
          ⟨8, [65, 67], [], some 68, _, none⟩,
          ⟨9, [64, 68], [1], some 69, _, some (1, _)⟩,
          ⟨10, [60], [0], some 70, _, none⟩,
          ⟨11, [70], [0], some 71, _, none⟩,
          ⟨12, [69, 71], [0, 1], none, _, some (0, _)⟩]
       [⟨0, [0], [], some 60, .any, none⟩,
           ⟨1, [0], [], some 61, .any, none⟩,
           ⟨2, [61], [0], some 62, .any, none⟩,
           ⟨3, [62], [0], some 63, .any, none⟩,
           ⟨4, [63], [0], some 64, .any, none⟩,
           ⟨5, [1], [], some 65, .any, none⟩,
           ⟨6, [6], [], some 66, .any, none⟩,
           ⟨7, [66], [], some 67, .any, none⟩,
           ⟨8, [65, 67], [], some 68, .any, none⟩,
           ⟨9, [64, 68], [1], some 69, .any, some (1, .box [])⟩,
           ⟨10, [60], [0], some 70, .any, none⟩,
           ⟨11, [70], [0], some 71, .any, none⟩,
           ⟨12, [69, 71], [0, 1], none, .any, some (0, .box [])⟩]
       mixed_ok rfl (by kernel_rfl) ⟨DS.ok_over fun s0 => OpAt.go rfl rfl (q_move),
           DS.ok_over fun s0 => OpAt.go rfl rfl (q_move),
           DS.ok_over fun s0 => OpAt.go rfl rfl (q_nil),
           DS.ok_over fun s0 => OpAt.go rfl rfl (q_fa),
           DS.ok_over fun s0 => OpAt.go rfl rfl (q_load),
           DS.ok_over fun s0 => OpAt.go rfl rfl (q_move),
           DS.ok_over fun s0 => OpAt.go rfl rfl (q_move),
           DS.ok_over fun s0 => OpAt.go rfl rfl (q_add),
           DS.ok_over fun s0 => OpAt.go rfl rfl (q_sls_hi),
           DS.ok_over fun s0 => OpAt.go rfl rfl (q_app),
           DS.ok_over fun s0 => OpAt.go rfl rfl (q_nil),
           DS.ok_over fun s0 => OpAt.go rfl rfl (q_fa),
           DS.ok_over fun s0 => OpAt.go rfl rfl (q_store), trivial⟩ ?_
      dsimp only [final, DS.upd, AS.seto]
      refine AWp.region ?_
      refine AOps.cons rfl rfl (q_move) ?_
      refine AOps.cons rfl rfl (q_move) ?_
      refine AOps.cons rfl rfl (q_add) ?_
      refine AOps.cons rfl rfl (q_sls_lo) ?_
      refine AOps.cons rfl rfl (q_assign) ?_
      refine AOps.nil ?_
      rw [lab_take, lab_drop]
      refine ⟨(ls, ⟨w.b ++ (byte (l.length : Int) :: l), w.m ++ [(joinN (l :: ls), (w.b.length : Int))]⟩, v + 1, u + 1), ?_, Back.mk' (HasT.cons HasT.nil) (HasH.cons (HasH.cons (HasH.cons HasH.nil))), ?_⟩
      ·
       try dsimp only
       rw [← hput]
       refine ⟨hN2, hW.put l ls, ?_, by rw [← hE, (wrName_no hm).1], by rw [← hV, (wrName_no hm).2]; try omega, ?_, ?_⟩
       · simp only [List.length_append, List.length_cons]; omega
       · rw [List.length_append, hu]; rfl
       · omega
      ·
       try dsimp only
       simp
     ·
      refine AOps.nil ?_
      refine AWp.cond_f rfl ?_
      refine AWp.skip ?_
      refine AWp.seq ?_
      refine AWp.region ?_
      have hput : w.put l ls = ⟨w.b ++ (byte (l.length : Int) :: l), w.m⟩ := by simp only [Wr.put, if_neg h7_5]
      refine AOps.cons rfl rfl (q_move) ?_
      refine AOps.cons rfl rfl (q_ixs) ?_
      refine AOps.cons rfl rfl (q_conv_8i) ?_
      refine AOps.cons rfl rfl (q_assign) ?_
      refine AOps.nil ?_
      refine AWp.seq ?_
      rw [lab_get hN.1]
      refine AWp.draws [⟨0, [0], [], some 60, _, none⟩,
          ⟨1, [0], [], some 61, _, none⟩,
          ⟨2, [61], [0], some 62, _, none⟩,
          ⟨3, [62], [0], some 63, _, none⟩,
          ⟨4, [63], [0], some 64, _, none⟩,
          ⟨5, [1], [], some 65, _, none⟩,
          ⟨6, [6], [], some 66, _, none⟩,
          ⟨7, [66], [], some 67, _, none⟩,
          ⟨8, [65, 67], [], some 68, _, none⟩,
          ⟨9, [64, 68], [1], some 69, _, some (1, _)⟩,
          ⟨10, [60], [0], some 70, _, none⟩,
          ⟨11, [70], [0], some 71, _, none⟩,
          ⟨12, [69, 71], [0, 1], none, _, some (0, _)⟩]
       [⟨0, [0], [], some 60, .any, none⟩,
           ⟨1, [0], [], some 61, .any, none⟩,
           ⟨2, [61], [0], some 62, .any, none⟩,
           ⟨3, [62], [0], some 63, .any, none⟩,
           ⟨4, [63], [0], some 64, .any, none⟩,
           ⟨5, [1], [], some 65, .any, none⟩,
           ⟨6, [6], [], some 66, .any, none⟩,
           ⟨7, [66], [], some 67, .any, none⟩,
           ⟨8, [65, 67], [], some 68, .any, none⟩,
           ⟨9, [64, 68], [1], some 69, .any, some (1, .box [])⟩,
           ⟨10, [60], [0], some 70, .any, none⟩,
           ⟨11, [70], [0], some 71, .any, none⟩,
           ⟨12, [69, 71], [0, 1], none, .any, some (0, .box [])⟩]
       mixed_ok rfl (by kernel_rfl) ⟨DS.ok_over fun s0 => OpAt.go rfl rfl (q_move),
           DS.ok_over fun s0 => OpAt.go rfl rfl (q_move),
           DS.ok_over fun s0 => OpAt.go rfl rfl (q_nil),
           DS.ok_over fun s0 => OpAt.go rfl rfl (q_fa),
           DS.ok_over fun s0 => OpAt.go rfl rfl (q_load),
           DS.ok_over fun s0 => OpAt.go rfl rfl (q_move),
           DS.ok_over fun s0 => OpAt.go rfl rfl (q_move),
           DS.ok_over fun s0 => OpAt.go rfl rfl (q_add),
           DS.ok_over fun s0 => OpAt.go rfl rfl (q_sls_hi),
           DS.ok_over fun s0 => OpAt.go rfl rfl (q_app),
           DS.ok_over fun s0 => OpAt.go rfl rfl (q_nil),
           DS.ok_over fun s0 => OpAt.go rfl rfl (q_fa),
           DS.ok_over fun s0 => OpAt.go rfl rfl (q_store), trivial⟩ ?_
      dsimp only [final, DS.upd, AS.seto]
      refine AWp.region ?_
      refine AOps.cons rfl rfl (q_move) ?_
      refine AOps.cons rfl rfl (q_move) ?_
      refine AOps.cons rfl rfl (q_add) ?_
      refine AOps.cons rfl rfl (q_sls_lo) ?_
      refine AOps.cons rfl rfl (q_assign) ?_
      refine AOps.nil ?_
      rw [lab_take, lab_drop]
      refine ⟨(ls, ⟨w.b ++ (byte (l.length : Int) :: l), w.m⟩, v + 1, u), ?_, Back.mk' (HasT.cons HasT.nil) (HasH.cons (HasH.cons (HasH.cons HasH.nil))), ?_⟩
      ·
       try dsimp only
       rw [← hput]
       refine ⟨hN2, hW.put l ls, ?_, by rw [← hE, (wrName_no hm).1], by rw [← hV, (wrName_no hm).2]; try omega, ?_, ?_⟩
       · simp only [List.length_append, List.length_cons]; omega
       · exact hu
       · omega
      ·
       try dsimp only
       simp
  ·
   refine AOps.nil ?_
   refine AWp.cond_f rfl ?_
   refine AWp.exit ?_
   refine AWp.region ?_
   obtain rfl : ls = [] := by
     cases ls with
     | nil => rfl
     | cons l ls' => exact absurd (by simpa using h0_1) joinN_ne
   refine AOps.cons rfl rfl (q_move) ?_
   refine AOps.cons rfl rfl (q_move) ?_
   refine AOps.cons rfl rfl (q_nil) ?_
   refine AOps.cons rfl rfl (q_fa) ?_
   refine AOps.cons rfl rfl (q_load) ?_
   refine AOps.cons rfl rfl (q_bs 1305 bc [0] [(_, _)]) ?_
   refine AOps.cons rfl rfl (q_app) ?_
   refine AOps.cons rfl rfl (q_nil) ?_
   refine AOps.cons rfl rfl (q_fa) ?_
   refine AOps.cons rfl rfl (q_store) ?_
   refine AOps.nil ?_
   show Fin te Try.f34 _ _
   subst hu
   rw [← hE, ← hV]
   refine q_retH (0) [] [] [] [(_, _), (_, _), (_, _)] ?_
   rfl
end Go.Proofs.Ytkfccjbihcbmiaa.Fw


set_option linter.unusedVariables false
set_option linter.unusedSimpArgs false
namespace Go.Proofs.Ytkfccjbihcbmiaa.Fw
open Go.RowKit
theorem c_rnameC (n : List UInt8) (w : Wr) (v : Nat) (hn : canN n = true) (hw : WOk w) (hb : w.b.length ≤ 10000000000) (hml : w.m.length ≤ 10000000000) :
    AC Try.prog 34 [.ptr 0 0 0, str n] (hlook [(0, .box [.sl 1 v 0 w.b.length 1, .sl 2 w.m.length 0 w.m.length 2]), (1, .row (cl bc w.b) 1 v), (2, .row (cl plC w.m) 2 w.m.length)])
      (RetH (.tup []) [(0, .box [.sl 1 (v + nmC (labN n) w) 0 (wrName (labN n) w).b.length 1, .sl 2 (wrName (labN n) w).m.length 0 (wrName (labN n) w).m.length 2]), (1, .row (cl bc (wrName (labN n) w).b) 1 (v + nmC (labN n) w)), (2, .row (cl plC (wrName (labN n) w).m) 2 (wrName (labN n) w).m.length)]) := by
  have h := c_rname (labN n) w v (canN_nm hn).1 hw hb hml
  rw [(canN_nm hn).2] at h
  exact h
theorem mput_len (m : List (List UInt8 × Int)) (k : List UInt8) (v : Int) : (mput m k v).length ≤ m.length + 1 := by
  induction m with
  | nil => simp [mput]
  | cons p m ih => obtain ⟨a, b⟩ := p; simp only [mput]; split <;> simp <;> omega
theorem wrName_ml : ∀ {ls : List (List UInt8)} {w : Wr}, (wrName ls w).m.length ≤ w.m.length + ls.length
  | [], w => by simp [wrName]
  | l :: ls, w => by
    cases hm : mget w.m (joinN (l :: ls)) with
    | some a => rw [(wrName_hit hm).1]; simp
    | none =>
      rw [(wrName_no hm).1]
      have h1 := wrName_ml (ls := ls) (w := w.put l ls)
      have h2 : (w.put l ls).m.length ≤ w.m.length + 1 := by
        unfold Wr.put; dsimp only; split
        · exact mput_len _ _ _
        · omega
      simp only [List.length_cons]; omega
theorem nm_ml {n : List UInt8} (h : canN n = true) (w : Wr) : (wrName (labN n) w).m.length ≤ w.m.length + 255 := by
  have h1 := wrName_ml (ls := labN n) (w := w)
  have h2 := joinN_length (labN n)
  have h3 := (canN_nm h).1.2
  omega
theorem wrNames_ml : ∀ {L : List (List UInt8)} {w : Wr}, (∀ n ∈ L, canN n = true) → (wrNames L w).m.length ≤ w.m.length + 255 * L.length
  | [], w, _ => Nat.le_refl _
  | n :: L, w, hn => by
    have h1 := nm_ml (hn n (by simp)) w
    have h2 := wrNames_ml (L := L) (w := wrName (labN n) w) (fun x hx => hn x (by simp [hx]))
    simp only [wrNames, List.length_cons]; omega
theorem rOk_parts {r : Rr} (hr : rOk r = true) : (((canN r.nm = true ∧ twoB [r.ty, r.cs] = true) ∧ 0 ≤ r.ttl) ∧ r.ttl < 4294967296) ∧ canS r.ty r.da = true := by simpa [rOk] using hr
theorem wrRec_len {r : Rr} {w : Wr} (hr : rOk r = true) (hw : WOk w) : w.b.length ≤ (wrRec r w).b.length ∧ (wrRec r w).m.length ≤ w.m.length + 765 := by
  obtain ⟨⟨⟨⟨r1, r2⟩, r3⟩, r4⟩, r5⟩ := rOk_parts hr
  obtain ⟨a, b, c⟩ := wrName_ok (canN_nm r1).1 hw
  have h0 : (wrNum r w).b.length = (wrName (labN r.nm) w).b.length + 10 := by rw [wrNum, List.length_append, flat_two]; rfl
  have ha : WOk (⟨(wrNum r w).b ++ preD r.ty r.da, (wrNum r w).m⟩ : Wr) := a
  obtain ⟨d, e, f⟩ := wrNames_ok (data_ok r5).2.2.1 ha
  have g := wrNames_ml (w := ⟨(wrNum r w).b ++ preD r.ty r.da, (wrNum r w).m⟩) (data_ok r5).2.2.1
  have k := nm_ml r1 w
  have l := namS_le r.ty r.da
  constructor
  · rw [wrRec]
    show _ ≤ (setSz _ _).length
    rw [setSz_len, wrDat]
    show _ ≤ (_ ++ _ : List UInt8).length
    rw [List.length_append]
    have f2 : ((wrNum r w).b ++ preD r.ty r.da).length ≤ _ := f
    rw [List.length_append] at f2
    omega
  · have g2 : (wrRec r w).m.length ≤ (wrNum r w).m.length + 255 * (namS r.ty r.da).length := g
    have k2 : (wrNum r w).m.length ≤ w.m.length + 255 := k
    omega
theorem encR_false : ∀ (l : List Rr) (p : Wr × Bool), p.2 = false → (encR l p).2 = false
  | [], p, h => h
  | r :: l, p, h => by
    show (encR l (stepR p r)).2 = false
    rw [stepR, if_neg (by simp [h])]
    exact encR_false l p h
theorem encR_split (l : List Rr) (i : Nat) (p : Wr × Bool) : encR l p = encR (l.drop i) (encR (l.take i) p) := by
  conv => lhs; rw [← List.take_append_drop i l, encR, List.foldl_append]
  rfl
theorem two_app (x : List UInt8) (a b : Int) : x ++ two a ++ two b = x ++ [a, b].flatMap two := by simp
theorem nums_app (x : List UInt8) (r : Rr) : x ++ two r.ty ++ two r.cs ++ four r.ttl ++ [0, 0] = x ++ (rNums r).flatMap two := by
  have : two 0 = [0, 0] := by decide
  simp [rNums, four, this]
set_option maxRecDepth 20000 in
set_option maxHeartbeats 2000000 in
theorem c_rrec (r : Rr) (w0 : Wr) (v0 : Nat) (hr : rOk r = true) (hw : WOk w0) (hb : w0.b.length ≤ 1000000000) (hml : w0.m.length ≤ 1000000000) : AC Try.prog 37 [.ptr 0 0 0, .agg (rrc r)] (hlook [(0, .box [.sl 1 (v0) 0 (w0.b).length 1, .sl 2 (w0.m.length) 0 (w0.m).length 2]), (1, .row (cl bc (w0.b)) 1 (v0)), (2, .row (cl plC (w0.m)) 2 (w0.m.length))]) (RetH (tf (wrOk r w0)) [(0, .box [.sl 1 (v0 + recC2 r w0) 0 ((wrRec r w0).b).length 1, .sl 2 ((wrRec r w0).m.length) 0 ((wrRec r w0).m).length 2]), (1, .row (cl bc ((wrRec r w0).b)) 1 (v0 + recC2 r w0)), (2, .row (cl plC ((wrRec r w0).m)) 2 ((wrRec r w0).m.length))]) := by
 obtain ⟨⟨⟨⟨r1, r2⟩, r3⟩, r4⟩, r5⟩ := rOk_parts hr
 obtain ⟨d1, d2, d3, d4⟩ := data_ok r5
 obtain ⟨c1, c2, c3⟩ := wrName_ok (canN_nm r1).1 hw
 have c4 := (canN_nm r1).1.2
 have c5 := nm_ml r1 w0
 have d5 := namS_le r.ty r.da
 obtain ⟨w1, hw1⟩ : ∃ w, w = wrName (labN r.nm) w0 := ⟨_, rfl⟩
 have hwn : wrNum r w0 = ⟨w1.b ++ (rNums r).flatMap two, w1.m⟩ := by rw [hw1]; rfl
 rw [← hw1] at c1 c2 c3 c5
 refine AC.intro te_ok (fn := Try.f37) ⟨Try.func37, rfl, rfl⟩ (Nat.le_of_ble_eq_true rfl) ?_
 refine AWp.seq ?_
 refine AWp.region ?_
 refine AOps.cons rfl rfl (q_box 100) ?_
 refine AOps.cons rfl rfl (q_assign) ?_
 refine AOps.nil ?_
 refine AWp.seq ?_
 refine AWp.region ?_
 refine AOps.cons rfl rfl (q_move) ?_
 refine AOps.cons rfl rfl (q_fa) ?_
 refine AOps.cons rfl rfl (q_load) ?_
 refine AOps.cons rfl rfl (q_callB (0) [(0, 0), (1, 1), (2, 2)] [] [(_, _), (_, _), (_, _)] (hc := (c_rnameC r.nm w0 v0 r1 hw (by omega) (by omega)))) ?_
 refine AOps.nil ?_
 refine AWp.seq ?_
 rw [← hw1]
 refine AWp.draws [⟨0, [0], [], some 14, _, none⟩,
     ⟨1, [0], [], some 15, _, none⟩,
     ⟨2, [15], [0], some 16, _, none⟩,
     ⟨3, [16], [0], some 17, _, none⟩,
     ⟨4, [17], [0], some 18, _, none⟩,
     ⟨5, [3], [100], some 19, _, none⟩,
     ⟨6, [19], [100], some 20, _, none⟩,
     ⟨7, [20], [], some 21, _, none⟩,
     ⟨8, [18, 21], [1], some 22, _, some (1, _)⟩,
     ⟨9, [3], [100], some 23, _, none⟩,
     ⟨10, [23], [100], some 24, _, none⟩,
     ⟨11, [24], [], some 25, _, none⟩,
     ⟨12, [22, 25], [1], some 26, _, some (1, _)⟩,
     ⟨13, [3], [100], some 27, _, none⟩,
     ⟨14, [27], [100], some 28, _, none⟩,
     ⟨15, [28], [], some 29, _, none⟩,
     ⟨16, [26, 29], [1], some 30, _, some (1, _)⟩,
     ⟨17, [14], [0], some 31, _, none⟩,
     ⟨18, [31], [0], some 32, _, none⟩,
     ⟨19, [30, 32], [0, 1], none, _, some (0, _)⟩]
  [⟨0, [0], [], some 14, .any, none⟩,
      ⟨1, [0], [], some 15, .any, none⟩,
      ⟨2, [15], [0], some 16, .any, none⟩,
      ⟨3, [16], [0], some 17, .any, none⟩,
      ⟨4, [17], [0], some 18, .any, none⟩,
      ⟨5, [3], [100], some 19, .any, none⟩,
      ⟨6, [19], [100], some 20, .any, none⟩,
      ⟨7, [20], [], some 21, .any, none⟩,
      ⟨8, [18, 21], [1], some 22, .any, some (1, .box [])⟩,
      ⟨9, [3], [100], some 23, .any, none⟩,
      ⟨10, [23], [100], some 24, .any, none⟩,
      ⟨11, [24], [], some 25, .any, none⟩,
      ⟨12, [22, 25], [1], some 26, .any, some (1, .box [])⟩,
      ⟨13, [3], [100], some 27, .any, none⟩,
      ⟨14, [27], [100], some 28, .any, none⟩,
      ⟨15, [28], [], some 29, .any, none⟩,
      ⟨16, [26, 29], [1], some 30, .any, some (1, .box [])⟩,
      ⟨17, [14], [0], some 31, .any, none⟩,
      ⟨18, [31], [0], some 32, .any, none⟩,
      ⟨19, [30, 32], [0, 1], none, .any, some (0, .box [])⟩]
  mixed_ok rfl (by kernel_rfl) ⟨DS.ok_over fun s0 => OpAt.go rfl rfl (q_move),
      DS.ok_over fun s0 => OpAt.go rfl rfl (q_move),
      DS.ok_over fun s0 => OpAt.go rfl rfl (q_nil),
      DS.ok_over fun s0 => OpAt.go rfl rfl (q_fa),
      DS.ok_over fun s0 => OpAt.go rfl rfl (q_load),
      DS.ok_over fun s0 => OpAt.go rfl rfl (q_fa),
      DS.ok_over fun s0 => OpAt.go rfl rfl (q_load),
      DS.ok_over fun s0 => OpAt.go rfl rfl (q_call (0) (hc := (c_two r.ty))),
      DS.ok_over fun s0 => OpAt.go rfl rfl (q_app (hb := by rw [show ∀ n, (two n).length = 2 from fun _ => rfl]; simp; omega)),
      DS.ok_over fun s0 => OpAt.go rfl rfl (q_fa),
      DS.ok_over fun s0 => OpAt.go rfl rfl (q_load),
      DS.ok_over fun s0 => OpAt.go rfl rfl (q_call (0) (hc := (c_two r.cs))),
      DS.ok_over fun s0 => OpAt.go rfl rfl (q_app (hb := by rw [List.length_append, show ∀ n, (two n).length = 2 from fun _ => rfl, show ∀ n, (two n).length = 2 from fun _ => rfl]; simp; omega)),
      DS.ok_over fun s0 => OpAt.go rfl rfl (q_fa),
      DS.ok_over fun s0 => OpAt.go rfl rfl (q_load),
      DS.ok_over fun s0 => OpAt.go rfl rfl (q_call (0) (hc := (c_ciceroneref04_four r.ttl ⟨r3, by omega⟩))),
      DS.ok_over fun s0 => OpAt.go rfl rfl (q_app (hb := by rw [List.length_append, List.length_append, show ∀ n, (two n).length = 2 from fun _ => rfl, show ∀ n, (two n).length = 2 from fun _ => rfl, show ∀ n, (four n).length = 4 from fun _ => rfl]; simp; omega)),
      DS.ok_over fun s0 => OpAt.go rfl rfl (q_nil),
      DS.ok_over fun s0 => OpAt.go rfl rfl (q_fa),
      DS.ok_over fun s0 => OpAt.go rfl rfl (q_store), trivial⟩ ?_
 dsimp only [final, DS.upd, AS.seto]
 refine AWp.seq ?_
 refine AWp.region ?_
 obtain ⟨B0, hB0⟩ : ∃ b, b = w1.b ++ two r.ty ++ two r.cs ++ four r.ttl := ⟨_, rfl⟩
 rw [← hB0]
 have hB0l : B0.length = w1.b.length + 8 := by rw [hB0, List.length_append, List.length_append, List.length_append]; rfl
 refine AOps.cons rfl rfl (q_move) ?_
 refine AOps.cons rfl rfl (q_nil) ?_
 refine AOps.cons rfl rfl (q_fa) ?_
 refine AOps.cons rfl rfl (q_load) ?_
 refine AOps.cons rfl rfl (q_len) ?_
 refine AOps.cons rfl rfl (q_assign) ?_
 refine AOps.nil ?_
 refine AWp.seq ?_
 refine AWp.region ?_
 refine AOps.cons rfl rfl (q_move) ?_
 refine AOps.cons rfl rfl (q_move) ?_
 refine AOps.cons rfl rfl (q_nil) ?_
 refine AOps.cons rfl rfl (q_fa) ?_
 refine AOps.cons rfl rfl (q_load) ?_
 refine AOps.cons rfl rfl (q_bs 505 bc [0, 0] [(_, _), (_, _)]) ?_
 refine AOps.cons rfl rfl (q_app) ?_
 refine AOps.cons rfl rfl (q_nil) ?_
 refine AOps.cons rfl rfl (q_fa) ?_
 refine AOps.cons rfl rfl (q_store) ?_
 refine AOps.nil ?_
 refine AWp.seq ?_
 refine AWp.region ?_
 obtain ⟨B1, hB1⟩ : ∃ b, b = B0 ++ [0, 0] := ⟨_, rfl⟩
 rw [← hB1]
 have hB1w : w1.b ++ (rNums r).flatMap two = B1 := by rw [hB1, hB0, nums_app]
 rw [hB1w] at hwn
 have hBl : B1.length = B0.length + 2 := by rw [hB1, List.length_append]; rfl
 have hp : r.ty = 15 → preD r.ty r.da = r.da.take 2 ∧ (preD r.ty r.da).length = 2 := fun e => by rw [preD, if_pos e]; exact ⟨rfl, by rw [List.length_take]; have := d2 e; omega⟩
 have hq : r.ty ≠ 15 → preD r.ty r.da = [] := fun e => by rw [preD, if_neg e]
 have hd4 : (preD r.ty r.da).length + (namS r.ty r.da).flatten.length ≤ r.da.length := by have := d4.length_le; rw [List.length_append] at this; exact this
 refine AOps.cons rfl rfl (q_fa) ?_
 refine AOps.cons rfl rfl (q_load) ?_
 refine AOps.cons rfl rfl (q_assign) ?_
 refine AOps.nil ?_
 refine AWp.cutR (α := List UInt8 × List UInt8 × Nat) [6, 49, 50, 51, 52, 53, 54, 55, 56, 57, 58, 59, 60, 61, 62, 63] (fun x_ => [(6, .fz 0 (x_.2.1).length (cl bc (x_.2.1)))]) (fun x_ => [(0, .box [.sl 1 (x_.2.2) 0 (x_.1).length 1, .sl 2 w1.m.length 0 w1.m.length 2]), (1, .row (cl bc (x_.1)) 1 (x_.2.2))]) (fun x_ => (x_.1) = B1 ++ preD r.ty r.da ∧ (x_.2.1) = r.da.drop (preD r.ty r.da).length ∧ (x_.2.2) = v0 + nmC (labN r.nm) w0 + 4 + (if r.ty = 15 then 1 else 0)) ?_ ?_
 ·
  refine AWp.seq ?_
  refine AWp.region ?_
  refine AOps.cons rfl rfl (q_fa) ?_
  refine AOps.cons rfl rfl (q_load) ?_
  refine AOps.dec rfl rfl (q_eql) (fun h6_2 => ?_) (fun h6_2 => ?_)
  ·
   refine AOps.nil ?_
   refine AWp.cond_t rfl ?_
   refine AWp.seq ?_
   refine AWp.draws [⟨0, [0], [], some 52, _, none⟩,
       ⟨1, [0], [], some 53, _, none⟩,
       ⟨2, [53], [0], some 54, _, none⟩,
       ⟨3, [54], [0], some 55, _, none⟩,
       ⟨4, [55], [0], some 56, _, none⟩,
       ⟨5, [6], [], some 57, _, none⟩,
       ⟨6, [57], [], some 58, _, none⟩,
       ⟨7, [56, 58], [1], some 59, _, some (1, _)⟩,
       ⟨8, [52], [0], some 60, _, none⟩,
       ⟨9, [60], [0], some 61, _, none⟩,
       ⟨10, [59, 61], [0, 1], none, _, some (0, _)⟩]
    [⟨0, [0], [], some 52, .any, none⟩,
        ⟨1, [0], [], some 53, .any, none⟩,
        ⟨2, [53], [0], some 54, .any, none⟩,
        ⟨3, [54], [0], some 55, .any, none⟩,
        ⟨4, [55], [0], some 56, .any, none⟩,
        ⟨5, [6], [], some 57, .any, none⟩,
        ⟨6, [57], [], some 58, .any, none⟩,
        ⟨7, [56, 58], [1], some 59, .any, some (1, .box [])⟩,
        ⟨8, [52], [0], some 60, .any, none⟩,
        ⟨9, [60], [0], some 61, .any, none⟩,
        ⟨10, [59, 61], [0, 1], none, .any, some (0, .box [])⟩]
    mixed_ok rfl (by kernel_rfl) ⟨DS.ok_over fun s0 => OpAt.go rfl rfl (q_move),
        DS.ok_over fun s0 => OpAt.go rfl rfl (q_move),
        DS.ok_over fun s0 => OpAt.go rfl rfl (q_nil),
        DS.ok_over fun s0 => OpAt.go rfl rfl (q_fa),
        DS.ok_over fun s0 => OpAt.go rfl rfl (q_load),
        DS.ok_over fun s0 => OpAt.go rfl rfl (q_move),
        DS.ok_over fun s0 => OpAt.go rfl rfl (q_sl),
        DS.ok_over fun s0 => OpAt.go rfl rfl (q_app),
        DS.ok_over fun s0 => OpAt.go rfl rfl (q_nil),
        DS.ok_over fun s0 => OpAt.go rfl rfl (q_fa),
        DS.ok_over fun s0 => OpAt.go rfl rfl (q_store), trivial⟩ ?_
   dsimp only [final, DS.upd, AS.seto]
   refine AWp.region ?_
   refine AOps.cons rfl rfl (q_move) ?_
   refine AOps.cons rfl rfl (q_sl) ?_
   refine AOps.cons rfl rfl (q_assign) ?_
   refine AOps.nil ?_
   refine ⟨(B1 ++ r.da.take 2, r.da.drop 2, v0 + nmC (labN r.nm) w0 + 4 + 1), ?_, Back.mk' (HasT.cons HasT.nil) (HasH.cons (HasH.cons HasH.nil))⟩
   try dsimp only
   exact ⟨by rw [(hp h6_2).1], by rw [(hp h6_2).2], by rw [if_pos h6_2]⟩
  ·
   refine AOps.nil ?_
   refine AWp.cond_f rfl ?_
   refine AWp.skip ?_
   refine ⟨(B1, r.da, v0 + nmC (labN r.nm) w0 + 4), ?_, Back.mk' (HasT.cons HasT.nil) (HasH.cons (HasH.cons HasH.nil))⟩
   try dsimp only
   exact ⟨by rw [hq h6_2]; simp, by rw [hq h6_2]; simp, by rw [if_neg h6_2]⟩
 ·
  rintro ⟨b2, D, v2⟩ hC9
  change b2 = B1 ++ preD r.ty r.da ∧ D = r.da.drop (preD r.ty r.da).length ∧ v2 = v0 + nmC (labN r.nm) w0 + 4 + (if r.ty = 15 then 1 else 0) at hC9
  obtain ⟨hb2, hD2, hv2⟩ := hC9
  refine AWp.as (s' := AS.over _ [6, 49, 50, 51, 52, 53, 54, 55, 56, 57, 58, 59, 60, 61, 62, 63] [(6, .fz 0 D.length (cl bc D))] [(0, .box [.sl 1 v2 0 b2.length 1, .sl 2 w1.m.length 0 w1.m.length 2]), (1, .row (cl bc b2) 1 v2)]) rfl ?_
  refine AWp.seq ?_
  refine AWp.seq ?_
  refine AWp.region ?_
  refine AOps.cons rfl rfl (q_fa) ?_
  refine AOps.cons rfl rfl (q_load) ?_
  refine AOps.cons rfl rfl (q_fa) ?_
  refine AOps.cons rfl rfl (q_load) ?_
  refine AOps.cons rfl rfl (q_call (0) (hc := (c_ciceroneref03_Names r.ty r.da 0 (by omega)))) ?_
  refine AOps.cons rfl rfl (q_len) ?_
  refine AOps.cons rfl rfl (q_move) ?_
  refine AOps.nil ?_
  refine AWp.block ?_
  refine AWp.loopR (α := Nat × Wr × Nat × List UInt8) [6, 8, 70, 71, 72, 73, 74, 75, 76, 77, 78, 79, 80, 81] (fun x_ => [(70, i64 (x_.1)), (6, .fz 0 (x_.2.2.2).length (cl bc (x_.2.2.2)))]) (fun x_ => [(0, .box [.sl 1 ((x_.2.2.1)) 0 ((x_.2.1).b).length 1, .sl 2 ((x_.2.1).m.length) 0 ((x_.2.1).m).length 2]), (1, .row (cl bc ((x_.2.1).b)) 1 ((x_.2.2.1))), (2, .row (cl plC ((x_.2.1).m)) 2 ((x_.2.1).m.length))]) (fun x_ => (x_.1) ≤ (namS r.ty r.da).length ∧ (x_.2.1) = wrNames ((namS r.ty r.da).take (x_.1)) ⟨b2, w1.m⟩ ∧ (x_.2.2.1) = v2 + nmsC ((namS r.ty r.da).take (x_.1)) ⟨b2, w1.m⟩ ∧ (x_.2.2.2) = r.da.drop ((preD r.ty r.da).length + ((namS r.ty r.da).take (x_.1)).flatten.length) ∧ WOk (x_.2.1) ∧ (x_.2.1).b.length ≤ b2.length + 255 * (x_.1) ∧ b2.length ≤ (x_.2.1).b.length ∧ (x_.2.1).m.length ≤ w1.m.length + 255 * (x_.1)) (fun x_ => (namS r.ty r.da).length - (x_.1)) (0, ⟨b2, w1.m⟩, v2, D) ?_ (Back.mk' (HasT.cons (HasT.cons HasT.nil)) (HasH.cons (HasH.cons (HasH.cons HasH.nil)))) ?_
  ·
   exact ⟨Nat.zero_le _, rfl, rfl, hD2, c1, Nat.le_refl _, Nat.le_refl _, Nat.le_refl _⟩
  ·
   rintro ⟨i, w, v, D⟩ hI10
   change i ≤ (namS r.ty r.da).length ∧ w = wrNames ((namS r.ty r.da).take i) ⟨b2, w1.m⟩ ∧ v = v2 + nmsC ((namS r.ty r.da).take i) ⟨b2, w1.m⟩ ∧ D = r.da.drop ((preD r.ty r.da).length + ((namS r.ty r.da).take i).flatten.length) ∧ WOk w ∧ w.b.length ≤ b2.length + 255 * i ∧ b2.length ≤ w.b.length ∧ w.m.length ≤ w1.m.length + 255 * i at hI10
   obtain ⟨hi, hw, hv, hD, hW, hB, hB2, hM⟩ := hI10
   refine AWp.as (s' := AS.over _ [6, 8, 70, 71, 72, 73, 74, 75, 76, 77, 78, 79, 80, 81] [(70, i64 i), (6, .fz 0 D.length (cl bc D))] [(0, .box [.sl 1 (v) 0 (w.b).length 1, .sl 2 (w.m.length) 0 (w.m).length 2]), (1, .row (cl bc (w.b)) 1 (v)), (2, .row (cl plC (w.m)) 2 (w.m.length))]) rfl ?_
   have hDl := congrArg List.length hD
   rw [List.length_drop] at hDl
   have hbl := congrArg List.length hb2
   rw [List.length_append] at hbl
   refine AWp.seq ?_
   refine AWp.region ?_
   refine AOps.dec rfl rfl (q_lss) (fun h10_0 => ?_) (fun h10_0 => ?_)
   ·
    refine AOps.nil ?_
    refine AWp.seq ?_
    refine AWp.cond_t rfl ?_
    refine AWp.skip ?_
    refine AWp.seq ?_
    refine AWp.block ?_
    refine AWp.seq ?_
    refine AWp.region ?_
    have hmem : (namS r.ty r.da).getD i default ∈ namS r.ty r.da := getD_mem (by omega)
    have hst := wrNames_step (L := namS r.ty r.da) (i := i) (by omega) ⟨b2, w1.m⟩
    have hfs := flat_step (L := namS r.ty r.da) (i := i) (by omega)
    obtain ⟨k1, k2, k3⟩ := wrName_ok (canN_nm (d3 _ hmem)).1 hW
    have k4 := (canN_nm (d3 _ hmem)).1.2
    have k6 := nm_ml (d3 _ hmem) w
    have k5 := flatten_take_le (namS r.ty r.da) (i + 1)
    have hgl : ((namS r.ty r.da)[i]?.getD default).length = ((namS r.ty r.da).getD i default).length := by rw [← List.getD_eq_getElem?_getD]
    have hgt : ((namS r.ty r.da).getD (i : Int).toNat default).length = ((namS r.ty r.da).getD i default).length := rfl
    refine AOps.cons rfl rfl (q_ix) ?_
    refine AOps.cons rfl rfl (q_load) ?_
    refine AOps.cons rfl rfl (q_assign) ?_
    refine AOps.nil ?_
    refine AWp.seq ?_
    refine AWp.region ?_
    refine AOps.cons rfl rfl (q_move) ?_
    refine AOps.cons rfl rfl (q_move) ?_
    refine AOps.cons rfl rfl (q_callB (0) [(0, 0), (1, 1), (2, 2)] [] [(_, _), (_, _), (_, _)] (hc := (c_rnameC ((namS r.ty r.da).getD i default) w v (d3 _ hmem) hW (by omega) (by omega)))) ?_
    refine AOps.nil ?_
    refine AWp.region ?_
    refine AOps.cons rfl rfl (q_move) ?_
    refine AOps.cons rfl rfl (q_move) ?_
    refine AOps.cons rfl rfl (q_len_str) ?_
    refine AOps.cons rfl rfl (q_sl) ?_
    refine AOps.cons rfl rfl (q_assign) ?_
    refine AOps.nil ?_
    refine AWp.region ?_
    refine AOps.cons rfl rfl (q_add) ?_
    refine AOps.cons rfl rfl (q_move) ?_
    refine AOps.nil ?_
    refine ⟨(i + 1, wrName (labN ((namS r.ty r.da).getD i default)) w, v + nmC (labN ((namS r.ty r.da).getD i default)) w, D.drop ((namS r.ty r.da).getD i default).length), ?_, Back.mk' (HasT.cons (HasT.cons HasT.nil)) (HasH.cons (HasH.cons (HasH.cons HasH.nil))), ?_⟩
    ·
     try dsimp only
     exact ⟨by omega, by rw [hst.1, hw], by rw [hst.2, hv, hw]; omega, by rw [hfs, hD, List.drop_drop]; congr 1; omega, k1, by omega, by omega, by omega⟩
    ·
     try dsimp only
     first | omega | (simp; omega)
   ·
    refine AOps.nil ?_
    refine AWp.seq ?_
    refine AWp.cond_f rfl ?_
    refine AWp.exit ?_
    refine AWp.seq ?_
    refine AWp.region ?_
    obtain rfl : i = (namS r.ty r.da).length := by omega
    rw [List.take_length] at hv hD hw hDl
    have hwd : wrDat r (wrNum r w0) = ⟨w.b ++ D, w.m⟩ := by
      rw [hwn, wrDat]
      show Wr.mk ((wrNames (namS r.ty r.da) ⟨B1 ++ preD r.ty r.da, w1.m⟩).b ++ r.da.drop (dN r)) (wrNames (namS r.ty r.da) ⟨B1 ++ preD r.ty r.da, w1.m⟩).m = _
      rw [← hb2, ← hw, hD]; rfl
    have hr1 : (wrRec r w0).b = setSz (w.b ++ D) B1.length := by rw [wrRec, hwd, hwn]
    have hr2 : (wrRec r w0).m = w.m := by rw [wrRec, hwd]
    have hr3 : (wrRec r w0).b.length = (w.b ++ D).length := by rw [hr1, setSz_len]
    have hr4 : v0 + recC2 r w0 = v + 1 := by
      rw [recC2, hwn, hv, hv2]
      show v0 + (_ + 4 + _ + nmsC (namS r.ty r.da) ⟨B1 ++ preD r.ty r.da, w1.m⟩ + 1) = _
      rw [← hb2]; omega
    have hr5 : wrOk r w0 = decide (((w.b ++ D).length : Int) - B0.length - 2 ≤ 65535) := by rw [wrOk, hwd, hwn]; exact decide_eq_decide.2 (by show ((w.b ++ D).length : Int) - (B1.length : Int) < 65536 ↔ _; omega)
    refine AOps.cons rfl rfl (q_move) ?_
    refine AOps.cons rfl rfl (q_move) ?_
    refine AOps.cons rfl rfl (q_nil) ?_
    refine AOps.cons rfl rfl (q_fa) ?_
    refine AOps.cons rfl rfl (q_load) ?_
    refine AOps.cons rfl rfl (q_move) ?_
    refine AOps.cons rfl rfl (q_app) ?_
    refine AOps.cons rfl rfl (q_nil) ?_
    refine AOps.cons rfl rfl (q_fa) ?_
    refine AOps.cons rfl rfl (q_store) ?_
    refine AOps.nil ?_
    refine AWp.seq ?_
    refine AWp.region ?_
    refine AOps.cons rfl rfl (q_move) ?_
    refine AOps.cons rfl rfl (q_nil) ?_
    refine AOps.cons rfl rfl (q_fa) ?_
    refine AOps.cons rfl rfl (q_load) ?_
    refine AOps.cons rfl rfl (q_len) ?_
    refine AOps.cons rfl rfl (q_move) ?_
    refine AOps.cons rfl rfl (q_sub) ?_
    refine AOps.cons rfl rfl (q_sub) ?_
    refine AOps.cons rfl rfl (q_assign) ?_
    refine AOps.nil ?_
    refine AWp.seq ?_
    refine AWp.draws [⟨0, [0], [], some 99, _, none⟩,
        ⟨1, [99], [0], some 100, _, none⟩,
        ⟨2, [100], [0], some 101, _, none⟩,
        ⟨3, [101], [0], some 102, _, none⟩,
        ⟨4, [5], [], some 103, _, none⟩,
        ⟨5, [0], [], some 104, _, none⟩,
        ⟨6, [104], [0], some 105, _, none⟩,
        ⟨7, [105], [0], some 106, _, none⟩,
        ⟨8, [106], [0], some 107, _, none⟩,
        ⟨9, [5], [], some 108, _, none⟩,
        ⟨10, [108], [], some 109, _, none⟩,
        ⟨11, [9], [], some 110, _, none⟩,
        ⟨12, [110], [], some 111, _, none⟩,
        ⟨13, [111], [], some 112, _, none⟩,
        ⟨14, [9], [], some 113, _, none⟩,
        ⟨15, [113], [], some 114, _, none⟩,
        ⟨16, [102, 103], [1], some 115, _, none⟩,
        ⟨17, [112, 115], [1], none, _, some (1, _)⟩,
        ⟨18, [107, 109], [1], some 116, _, none⟩,
        ⟨19, [114, 116], [1], none, _, some (1, _)⟩]
     [⟨0, [0], [], some 99, .any, none⟩,
         ⟨1, [99], [0], some 100, .any, none⟩,
         ⟨2, [100], [0], some 101, .any, none⟩,
         ⟨3, [101], [0], some 102, .any, none⟩,
         ⟨4, [5], [], some 103, .any, none⟩,
         ⟨5, [0], [], some 104, .any, none⟩,
         ⟨6, [104], [0], some 105, .any, none⟩,
         ⟨7, [105], [0], some 106, .any, none⟩,
         ⟨8, [106], [0], some 107, .any, none⟩,
         ⟨9, [5], [], some 108, .any, none⟩,
         ⟨10, [108], [], some 109, .any, none⟩,
         ⟨11, [9], [], some 110, .any, none⟩,
         ⟨12, [110], [], some 111, .any, none⟩,
         ⟨13, [111], [], some 112, .any, none⟩,
         ⟨14, [9], [], some 113, .any, none⟩,
         ⟨15, [113], [], some 114, .any, none⟩,
         ⟨16, [102, 103], [1], some 115, .any, none⟩,
         ⟨17, [112, 115], [1], none, .any, some (1, .box [])⟩,
         ⟨18, [107, 109], [1], some 116, .any, none⟩,
         ⟨19, [114, 116], [1], none, .any, some (1, .box [])⟩]
     mixed_ok rfl (by kernel_rfl) ⟨DS.ok_over fun s0 => OpAt.go rfl rfl (q_move),
         DS.ok_over fun s0 => OpAt.go rfl rfl (q_nil),
         DS.ok_over fun s0 => OpAt.go rfl rfl (q_fa),
         DS.ok_over fun s0 => OpAt.go rfl rfl (q_load),
         DS.ok_over fun s0 => OpAt.go rfl rfl (q_move),
         DS.ok_over fun s0 => OpAt.go rfl rfl (q_move),
         DS.ok_over fun s0 => OpAt.go rfl rfl (q_nil),
         DS.ok_over fun s0 => OpAt.go rfl rfl (q_fa),
         DS.ok_over fun s0 => OpAt.go rfl rfl (q_load),
         DS.ok_over fun s0 => OpAt.go rfl rfl (q_move),
         DS.ok_over fun s0 => OpAt.go rfl rfl (q_add),
         DS.ok_over fun s0 => OpAt.go rfl rfl (q_move),
         DS.ok_over fun s0 => OpAt.go rfl rfl (q_shr 8),
         DS.ok_over fun s0 => OpAt.go rfl rfl (q_conv_u8),
         DS.ok_over fun s0 => OpAt.go rfl rfl (q_move),
         DS.ok_over fun s0 => OpAt.go rfl rfl (q_conv_u8),
         DS.ok_over fun s0 => OpAt.go rfl rfl (q_ix),
         DS.ok_over fun s0 => OpAt.go rfl rfl (q_store),
         DS.ok_over fun s0 => OpAt.go rfl rfl (q_ix),
         DS.ok_over fun s0 => OpAt.go rfl rfl (q_store), trivial⟩ ?_
    dsimp only [final, DS.upd, AS.seto]
    refine AWp.seq ?_
    refine AWp.region ?_
    refine AOps.cons rfl rfl (q_move) ?_
    refine AOps.cons rfl rfl (q_leq) ?_
    refine AOps.cons rfl rfl (q_assign) ?_
    refine AOps.nil ?_
    refine AWp.ret ?_
    show Fin te Try.f37 _ _
    rw [setSz_at hBl, hr3, hr1, hr2, hr4, hr5]
    refine q_retH (0) [] [_] [_] [(_, _), (_, _), (_, _)] ?_
    rfl
theorem enc_bad {m : Msg} {i : Nat} (h : canM m = true) (hb : (encR (m.rrs.take i) (encQ m.qs (hdW m), decide (((encQ m.qs (hdW m)).b.length : Int) ≤ 65535))).2 = false) : encB m = [] ∧ encE m = 42 := by
  have : (encW m).2 = false := by rw [encW, encR_split _ i]; exact encR_false _ _ hb
  rw [encB, encE, if_pos h, if_pos h, if_neg (by simp [this]), if_neg (by simp [this])]; exact ⟨rfl, rfl⟩
theorem step_bad {m : Msg} {i : Nat} {w : Wr} (hI : (i = 0 ∧ w = encQ m.qs (hdW m)) ∨ (encR (m.rrs.take i) (encQ m.qs (hdW m), decide (((encQ m.qs (hdW m)).b.length : Int) ≤ 65535)) = (w, true) ∧ w.b.length ≤ 65535)) (hi : i < m.rrs.length)
    (hb : wrOk (m.rrs.getD i default) w = false ∨ 65535 < ((wrRec (m.rrs.getD i default) w).b.length : Int)) : (encR (m.rrs.take (i + 1)) (encQ m.qs (hdW m), decide (((encQ m.qs (hdW m)).b.length : Int) ≤ 65535))).2 = false := by
  have h1 : (encR (m.rrs.take i) (encQ m.qs (hdW m), decide (((encQ m.qs (hdW m)).b.length : Int) ≤ 65535))).1 = w := by
    rcases hI with ⟨rfl, rfl⟩ | ⟨e, _⟩
    · rfl
    · rw [e]
  rw [encR_step hi, stepR]
  split
  · show (wrOk _ _ && decide _) = false
    rw [h1]
    rcases hb with h | h
    · rw [h]; rfl
    · rw [decide_eq_false (by omega), Bool.and_false]
  · rename_i h; simpa using h
theorem enc_good {m : Msg} {w : Wr} (h : canM m = true) (hb : encR m.rrs (encQ m.qs (hdW m), decide (((encQ m.qs (hdW m)).b.length : Int) ≤ 65535)) = (w, true)) : encB m = w.b ∧ encE m = 0 := by
  have : encW m = (w, true) := hb
  rw [encB, encE, if_pos h, if_pos h, this]; exact ⟨rfl, rfl⟩
set_option maxRecDepth 20000 in
set_option maxHeartbeats 2000000 in
theorem c_ciceroneref04_Encode (m : Msg) (h : MsgOk m) (hn : NmOk m) : AC Try.prog 13 [.agg (msgC m)] emp (Ret (.tup [.fz 0 (encB m).length (cl bc (encB m)), i64 (encE m)])) := by
 refine AC.intro te_ok (fn := Try.f13) ⟨Try.func13, rfl, rfl⟩ (Nat.le_of_ble_eq_true rfl) ?_
 refine AWp.seq ?_
 refine AWp.region ?_
 refine AOps.cons rfl rfl (q_box 100) ?_
 refine AOps.cons rfl rfl (q_nilz (0) bc) ?_
 refine AOps.cons rfl rfl (q_assign) ?_
 refine AOps.nil ?_
 refine AWp.seq ?_
 refine AWp.seq ?_
 refine AWp.region ?_
 refine AOps.cons rfl rfl (q_load) ?_
 refine AOps.bool rfl rfl (q_call (0) (hc := (c_ciceroneref04_Can m h hn))) (fun h1_1 => ?_) (fun h1_1 => ?_)
 ·
  refine AOps.cons rfl rfl (q_not) ?_
  refine AOps.nil ?_
  refine AWp.cond_f rfl ?_
  refine AWp.skip ?_
  refine AWp.seq ?_
  refine AWp.region ?_
  obtain ⟨p1, p2, p3⟩ := canM_parts (m := m) h1_1
  have hW0 : WOk (hdW m) := fun k a h => by cases h
  have hz := hE_iff.2 p1
  have hbl : (hdW m).b.length = 12 := by
    show (hB (toHd m.h) m.qs.length m.an.length m.au.length m.ad.length).length = 12
    rw [hB_yes p1, Hd.bytes_length]
  obtain ⟨k1, k2, k3, k4⟩ := hdO_counts p1
  have hrl : m.rrs.length ≤ 196605 := by simp only [Msg.rrs, List.length_append]; omega
  refine AOps.cons rfl rfl (q_build []) ?_
  refine AOps.cons rfl rfl (q_box 401) ?_
  refine AOps.cons rfl rfl (q_assign) ?_
  refine AOps.nil ?_
  refine AWp.seq ?_
  refine AWp.draws [⟨0, [4], [], some 15, _, none⟩,
      ⟨1, [1], [100], some 16, _, none⟩,
      ⟨2, [16], [100], some 17, _, none⟩,
      ⟨3, [1], [100], some 18, _, none⟩,
      ⟨4, [18], [], some 19, _, none⟩,
      ⟨5, [17, 19], [5058], some 20, _, some (5058, _)⟩,
      ⟨6, [20], [], some 14, _, none⟩,
      ⟨7, [14], [5058], some 21, _, none⟩,
      ⟨8, [14], [5058], some 22, _, none⟩,
      ⟨9, [15], [401], some 23, _, none⟩,
      ⟨10, [23], [401], some 24, _, none⟩,
      ⟨11, [21, 24], [401], none, _, some (401, _)⟩]
   [⟨0, [4], [], some 15, .any, none⟩,
       ⟨1, [1], [100], some 16, .any, none⟩,
       ⟨2, [16], [100], some 17, .any, none⟩,
       ⟨3, [1], [100], some 18, .any, none⟩,
       ⟨4, [18], [], some 19, .any, none⟩,
       ⟨5, [17, 19], [5058], some 20, .any, some (5058, .box [])⟩,
       ⟨6, [20], [], some 14, .any, none⟩,
       ⟨7, [14], [5058], some 21, .any, none⟩,
       ⟨8, [14], [5058], some 22, .any, none⟩,
       ⟨9, [15], [401], some 23, .any, none⟩,
       ⟨10, [23], [401], some 24, .any, none⟩,
       ⟨11, [21, 24], [401], none, .any, some (401, .box [])⟩]
   mixed_ok rfl (by kernel_rfl) ⟨DS.ok_over fun s0 => OpAt.go rfl rfl (q_move),
       DS.ok_over fun s0 => OpAt.go rfl rfl (q_fa),
       DS.ok_over fun s0 => OpAt.go rfl rfl (q_load),
       DS.ok_over fun s0 => OpAt.go rfl rfl (q_load),
       DS.ok_over fun s0 => OpAt.go rfl rfl (q_call (0) (hc := (c_ciceroneref04_counts m))),
       DS.ok_over fun s0 => OpAt.go rfl rfl (q_callB (0) [] [(8, 5058)] [(_, _)] (hc := (co_ref02_Encode (toHd m.h) m.qs.length m.an.length m.au.length m.ad.length))),
       DS.ok_over fun s0 => OpAt.go rfl rfl (q_move),
       DS.ok_over fun s0 => OpAt.go rfl rfl (q_extract),
       DS.ok_over fun s0 => OpAt.go rfl rfl (q_extract),
       DS.ok_over fun s0 => OpAt.go rfl rfl (q_nil),
       DS.ok_over fun s0 => OpAt.go rfl rfl (q_fa),
       DS.ok_over fun s0 => OpAt.go rfl rfl (q_store), trivial⟩ ?_
  dsimp only [final, DS.upd, AS.seto]
  refine AWp.seq ?_
  refine AWp.seq ?_
  refine AWp.region ?_
  refine AOps.weak (Weak.nilcell 401 9000 1 2 plC) ?_
  refine AOps.cons rfl rfl (q_fa) ?_
  refine AOps.cons rfl rfl (q_load) ?_
  refine AOps.cons rfl rfl (q_len) ?_
  refine AOps.cons rfl rfl (q_move) ?_
  refine AOps.nil ?_
  refine AWp.block ?_
  refine AWp.loopR (α := Nat × Wr × Nat × Nat) [6, 28, 29, 30, 31, 32, 33, 34, 35, 36, 37, 38, 39, 40, 41, 42, 43, 44, 45, 46, 47, 48, 49, 50, 51] (fun x_ => [(28, i64 (x_.1))]) (fun x_ => [(401, .box [.sl 5058 ((x_.2.2.1)) 0 ((x_.2.1).b).length 1, .sl 9000 ((x_.2.2.2)) 0 ((x_.2.1).m).length 2]), (5058, .row (cl bc ((x_.2.1).b)) 1 ((x_.2.2.1))), (9000, .row (cl plC ((x_.2.1).m)) 2 ((x_.2.2.2)))]) (fun x_ => (x_.1) ≤ m.qs.length ∧ (x_.2.1) = encQ (m.qs.take (x_.1)) (hdW m) ∧ WOk (x_.2.1) ∧ (x_.2.1).b.length ≤ 12 + 259 * (x_.1) ∧ (x_.2.1).m.length ≤ 255 * (x_.1) ∧ (x_.2.2.2) = (x_.2.1).m.length) (fun x_ => m.qs.length - (x_.1)) (0, hdW m, 0, 0) ?_ (Back.mk' (HasT.cons HasT.nil) (HasH.cons (HasH.cons (HasH.cons HasH.nil)))) ?_
  ·
   exact ⟨Nat.zero_le _, rfl, hW0, by show (hdW m).b.length ≤ _; omega, Nat.le_refl _, rfl⟩
  ·
   rintro ⟨i, w, v, u⟩ hI6
   change i ≤ m.qs.length ∧ w = encQ (m.qs.take i) (hdW m) ∧ WOk w ∧ w.b.length ≤ 12 + 259 * i ∧ w.m.length ≤ 255 * i ∧ u = w.m.length at hI6
   obtain ⟨hi, hw, hW, hB, hM, hu⟩ := hI6
   refine AWp.as (s' := AS.over _ [6, 28, 29, 30, 31, 32, 33, 34, 35, 36, 37, 38, 39, 40, 41, 42, 43, 44, 45, 46, 47, 48, 49, 50, 51] [(28, i64 i)] [(401, .box [.sl 5058 (v) 0 (w.b).length 1, .sl 9000 (u) 0 (w.m).length 2]), (5058, .row (cl bc (w.b)) 1 (v)), (9000, .row (cl plC (w.m)) 2 (u))]) rfl ?_
   subst hu
   refine AWp.seq ?_
   refine AWp.region ?_
   refine AOps.dec rfl rfl (q_lss) (fun h6_0 => ?_) (fun h6_0 => ?_)
   ·
    refine AOps.nil ?_
    refine AWp.seq ?_
    refine AWp.cond_t rfl ?_
    refine AWp.skip ?_
    refine AWp.seq ?_
    refine AWp.block ?_
    refine AWp.seq ?_
    refine AWp.region ?_
    have hq := wrQ_ok (p2 _ (getD_mem (i := i) (by omega))) hW
    have hqm := nm_ml hq.1 w
    have hst := encQ_step (l := m.qs) (i := i) (by omega) (hdW m)
    refine AOps.cons rfl rfl (q_ix) ?_
    refine AOps.cons rfl rfl (q_load) ?_
    refine AOps.cons rfl rfl (q_alloc 802) ?_
    refine AOps.cons rfl rfl (q_store) ?_
    refine AOps.nil ?_
    refine AWp.seq ?_
    refine AWp.region ?_
    refine AOps.cons rfl rfl (q_move) ?_
    refine AOps.cons rfl rfl (q_fa) ?_
    refine AOps.cons rfl rfl (q_load) ?_
    refine AOps.cons rfl rfl (q_callB (0) [(0, 401), (1, 5058), (2, 9000)] [] [(_, _), (_, _), (_, _)] (hc := (c_rnameC (m.qs.getD i default).nm w v hq.1 hW (by omega) (by omega)))) ?_
    refine AOps.nil ?_
    refine AWp.draws [⟨0, [4], [], some 36, _, none⟩,
        ⟨1, [4], [], some 37, _, none⟩,
        ⟨2, [37], [401], some 38, _, none⟩,
        ⟨3, [38], [401], some 39, _, none⟩,
        ⟨4, [39], [401], some 40, _, none⟩,
        ⟨5, [6], [802], some 41, _, none⟩,
        ⟨6, [41], [802], some 42, _, none⟩,
        ⟨7, [42], [], some 43, _, none⟩,
        ⟨8, [40, 43], [5058], some 44, _, some (5058, _)⟩,
        ⟨9, [6], [802], some 45, _, none⟩,
        ⟨10, [45], [802], some 46, _, none⟩,
        ⟨11, [46], [], some 47, _, none⟩,
        ⟨12, [44, 47], [5058], some 48, _, some (5058, _)⟩,
        ⟨13, [36], [401], some 49, _, none⟩,
        ⟨14, [49], [401], some 50, _, none⟩,
        ⟨15, [48, 50], [401, 5058], none, _, some (401, _)⟩]
     [⟨0, [4], [], some 36, .any, none⟩,
         ⟨1, [4], [], some 37, .any, none⟩,
         ⟨2, [37], [401], some 38, .any, none⟩,
         ⟨3, [38], [401], some 39, .any, none⟩,
         ⟨4, [39], [401], some 40, .any, none⟩,
         ⟨5, [6], [802], some 41, .any, none⟩,
         ⟨6, [41], [802], some 42, .any, none⟩,
         ⟨7, [42], [], some 43, .any, none⟩,
         ⟨8, [40, 43], [5058], some 44, .any, some (5058, .box [])⟩,
         ⟨9, [6], [802], some 45, .any, none⟩,
         ⟨10, [45], [802], some 46, .any, none⟩,
         ⟨11, [46], [], some 47, .any, none⟩,
         ⟨12, [44, 47], [5058], some 48, .any, some (5058, .box [])⟩,
         ⟨13, [36], [401], some 49, .any, none⟩,
         ⟨14, [49], [401], some 50, .any, none⟩,
         ⟨15, [48, 50], [401, 5058], none, .any, some (401, .box [])⟩]
     mixed_ok rfl (by kernel_rfl) ⟨DS.ok_over fun s0 => OpAt.go rfl rfl (q_move),
         DS.ok_over fun s0 => OpAt.go rfl rfl (q_move),
         DS.ok_over fun s0 => OpAt.go rfl rfl (q_nil),
         DS.ok_over fun s0 => OpAt.go rfl rfl (q_fa),
         DS.ok_over fun s0 => OpAt.go rfl rfl (q_load),
         DS.ok_over fun s0 => OpAt.go rfl rfl (q_fa),
         DS.ok_over fun s0 => OpAt.go rfl rfl (q_load),
         DS.ok_over fun s0 => OpAt.go rfl rfl (q_call (0) (hc := (c_two (m.qs.getD i default).ty))),
         DS.ok_over fun s0 => OpAt.go rfl rfl (q_app (hb := by rw [show ∀ n, (two n).length = 2 from fun _ => rfl]; simp only [Nat.mul_one]; omega)),
         DS.ok_over fun s0 => OpAt.go rfl rfl (q_fa),
         DS.ok_over fun s0 => OpAt.go rfl rfl (q_load),
         DS.ok_over fun s0 => OpAt.go rfl rfl (q_call (0) (hc := (c_two (m.qs.getD i default).cs))),
         DS.ok_over fun s0 => OpAt.go rfl rfl (q_app (hb := by rw [List.length_append, show ∀ n, (two n).length = 2 from fun _ => rfl, show ∀ n, (two n).length = 2 from fun _ => rfl]; simp only [Nat.mul_one]; omega)),
         DS.ok_over fun s0 => OpAt.go rfl rfl (q_nil),
         DS.ok_over fun s0 => OpAt.go rfl rfl (q_fa),
         DS.ok_over fun s0 => OpAt.go rfl rfl (q_store), trivial⟩ ?_
    dsimp only [final, DS.upd, AS.seto]
    refine AWp.region ?_
    refine AOps.cons rfl rfl (q_add) ?_
    refine AOps.cons rfl rfl (q_move) ?_
    refine AOps.nil ?_
    rw [two_app]
    refine ⟨(i + 1, wrQ (m.qs.getD i default) w, v + nmC (labN (m.qs.getD i default).nm) w + 2, (wrQ (m.qs.getD i default) w).m.length), ?_, Back.mk' (HasT.cons HasT.nil) (HasH.cons (HasH.cons (HasH.cons HasH.nil))), ?_⟩
    ·
     try dsimp only
     exact ⟨by omega, by rw [hst, hw], hq.2.2.1, by have := hq.2.2.2.2; omega, by have : (wrQ (m.qs.getD i default) w).m.length ≤ w.m.length + 255 := hqm; omega, rfl⟩
    ·
     try dsimp only
     first | omega | (simp; omega)
   ·
    refine AOps.nil ?_
    refine AWp.seq ?_
    refine AWp.cond_f rfl ?_
    refine AWp.exit ?_
    refine AWp.seq ?_
    refine AWp.seq ?_
    refine AWp.region ?_
    obtain rfl : i = m.qs.length := by omega
    rw [List.take_length] at hw
    refine AOps.cons rfl rfl (q_load) ?_
    refine AOps.cons rfl rfl (q_call (0) (hc := (c_ciceroneref04_all m h p1))) ?_
    refine AOps.cons rfl rfl (q_len) ?_
    refine AOps.cons rfl rfl (q_move) ?_
    refine AOps.nil ?_
    refine AWp.block ?_
    refine AWp.loopR (α := Nat × Wr × Nat × Nat) [2, 3, 8, 55, 56, 57, 58, 59, 60, 61, 62, 63, 64, 65, 66, 67, 68, 69, 70, 71] (fun x_ => [(55, i64 (x_.1))]) (fun x_ => [(401, .box [.sl 5058 ((x_.2.2.1)) 0 ((x_.2.1).b).length 1, .sl 9000 ((x_.2.2.2)) 0 ((x_.2.1).m).length 2]), (5058, .row (cl bc ((x_.2.1).b)) 1 ((x_.2.2.1))), (9000, .row (cl plC ((x_.2.1).m)) 2 ((x_.2.2.2)))]) (fun x_ => (x_.1) ≤ m.rrs.length ∧ WOk (x_.2.1) ∧ (x_.2.1).m.length ≤ 255 * m.qs.length + 765 * (x_.1) ∧ (x_.2.2.2) = (x_.2.1).m.length ∧ (x_.2.1).b.length ≤ 20000000 ∧ (((x_.1) = 0 ∧ (x_.2.1) = encQ m.qs (hdW m)) ∨ (encR (m.rrs.take (x_.1)) (encQ m.qs (hdW m), decide (((encQ m.qs (hdW m)).b.length : Int) ≤ 65535)) = ((x_.2.1), true) ∧ (x_.2.1).b.length ≤ 65535))) (fun x_ => m.rrs.length - (x_.1)) (0, w, v, w.m.length) ?_ (Back.mk' (HasT.cons HasT.nil) (HasH.cons (HasH.cons (HasH.cons HasH.nil)))) ?_
    ·
     exact ⟨Nat.zero_le _, hW, by show w.m.length ≤ _; omega, rfl, by show w.b.length ≤ _; omega, .inl ⟨rfl, hw⟩⟩
    ·
     rintro ⟨i, w, v, u⟩ hI12
     change i ≤ m.rrs.length ∧ WOk w ∧ w.m.length ≤ 255 * m.qs.length + 765 * i ∧ u = w.m.length ∧ w.b.length ≤ 20000000 ∧ ((i = 0 ∧ w = encQ m.qs (hdW m)) ∨ (encR (m.rrs.take i) (encQ m.qs (hdW m), decide (((encQ m.qs (hdW m)).b.length : Int) ≤ 65535)) = (w, true) ∧ w.b.length ≤ 65535)) at hI12
     obtain ⟨hi, hW, hM, hu, hB, hI⟩ := hI12
     refine AWp.as (s' := AS.over _ [2, 3, 8, 55, 56, 57, 58, 59, 60, 61, 62, 63, 64, 65, 66, 67, 68, 69, 70, 71] [(55, i64 i)] [(401, .box [.sl 5058 (v) 0 (w.b).length 1, .sl 9000 (u) 0 (w.m).length 2]), (5058, .row (cl bc (w.b)) 1 (v)), (9000, .row (cl plC (w.m)) 2 (u))]) rfl ?_
     subst hu
     refine AWp.seq ?_
     refine AWp.region ?_
     refine AOps.dec rfl rfl (q_lss) (fun h12_0 => ?_) (fun h12_0 => ?_)
     ·
      refine AOps.nil ?_
      refine AWp.seq ?_
      refine AWp.cond_t rfl ?_
      refine AWp.skip ?_
      refine AWp.seq ?_
      refine AWp.block ?_
      refine AWp.seq ?_
      refine AWp.region ?_
      have hr := p3 _ (getD_mem (l := m.rrs) (i := i) (by omega))
      have hst := encR_step (l := m.rrs) (i := i) (by omega) (encQ m.qs (hdW m), decide (((encQ m.qs (hdW m)).b.length : Int) ≤ 65535))
      rw [stepR] at hst
      obtain ⟨l1, l2⟩ := wrRec_len hr hW
      refine AOps.cons rfl rfl (q_ix) ?_
      refine AOps.cons rfl rfl (q_load) ?_
      refine AOps.cons rfl rfl (q_alloc 1402) ?_
      refine AOps.cons rfl rfl (q_store) ?_
      refine AOps.nil ?_
      refine AWp.seq ?_
      refine AWp.region ?_
      refine AOps.cons rfl rfl (q_move) ?_
      refine AOps.cons rfl rfl (q_load) ?_
      refine AOps.cons rfl rfl (q_callB (0) [(0, 401), (1, 5058), (2, 9000)] [] [(_, _), (_, _), (_, _)] (hc := (c_rrec (m.rrs.getD i default) w v hr hW (by omega) (by omega)))) ?_
      refine AOps.cons rfl rfl (q_not) ?_
      refine AOps.bool rfl rfl (q_move) (fun h14_4 => ?_) (fun h14_4 => ?_)
      ·
       refine AOps.gskip rfl rfl rfl rfl rfl rfl rfl rfl ?_
       refine AOps.gskip rfl rfl rfl rfl rfl rfl rfl rfl ?_
       refine AOps.gskip rfl rfl rfl rfl rfl rfl rfl rfl ?_
       refine AOps.gskip rfl rfl rfl rfl rfl rfl rfl rfl ?_
       refine AOps.gskip rfl rfl rfl rfl rfl rfl rfl rfl ?_
       refine AOps.gskip rfl rfl rfl rfl rfl rfl rfl rfl ?_
       refine AOps.cons rfl rfl (q_pick) ?_
       refine AOps.nil ?_
       refine AWp.cond_t rfl ?_
       refine AWp.seq ?_
       refine AWp.region ?_
       refine AOps.cons rfl rfl (q_nilz (0) bc) ?_
       refine AOps.cons rfl rfl (q_assign) ?_
       refine AOps.nil ?_
       refine AWp.ret ?_
       show Fin te Try.f13 _ _
       refine q_ret (0) [_, _] [_, _] ?_
       obtain ⟨e1, e2⟩ := enc_bad h1_1 (step_bad hI (by omega) (.inl (by simpa using h14_4)))
       rw [e1, e2]; rfl
      ·
       refine AOps.gcons rfl rfl rfl rfl rfl (q_move) ?_
       refine AOps.gcons rfl rfl rfl rfl rfl (q_nil) ?_
       refine AOps.gcons rfl rfl rfl rfl rfl (q_fa) ?_
       refine AOps.gcons rfl rfl rfl rfl rfl (q_load) ?_
       refine AOps.gcons rfl rfl rfl rfl rfl (q_len) ?_
       refine AOps.gdec rfl rfl rfl rfl rfl (q_gtr) (fun h14_10 => ?_) (fun h14_10 => ?_)
       ·
        refine AOps.cons rfl rfl (q_pick) ?_
        refine AOps.nil ?_
        refine AWp.cond_t rfl ?_
        refine AWp.seq ?_
        refine AWp.region ?_
        refine AOps.cons rfl rfl (q_nilz (0) bc) ?_
        refine AOps.cons rfl rfl (q_assign) ?_
        refine AOps.nil ?_
        refine AWp.ret ?_
        show Fin te Try.f13 _ _
        refine q_ret (0) [_, _] [_, _] ?_
        obtain ⟨e1, e2⟩ := enc_bad h1_1 (step_bad hI (by omega) (.inr (by omega)))
        rw [e1, e2]; rfl
       ·
        refine AOps.cons rfl rfl (q_pick) ?_
        refine AOps.nil ?_
        refine AWp.cond_f rfl ?_
        refine AWp.skip ?_
        refine AWp.region ?_
        refine AOps.cons rfl rfl (q_add) ?_
        refine AOps.cons rfl rfl (q_move) ?_
        refine AOps.nil ?_
        refine ⟨(i + 1, wrRec (m.rrs.getD i default) w, v + recC2 (m.rrs.getD i default) w, (wrRec (m.rrs.getD i default) w).m.length), ?_, Back.mk' (HasT.cons HasT.nil) (HasH.cons (HasH.cons (HasH.cons HasH.nil))), ?_⟩
        ·
         try dsimp only
         have hok : wrOk (m.rrs.getD i default) w = true := by simpa using h14_4
         refine ⟨by omega, wrRec_ok hr hW, by omega, rfl, by omega, .inr ⟨?_, by omega⟩⟩
         have hs : encR (m.rrs.take i) (encQ m.qs (hdW m), decide (((encQ m.qs (hdW m)).b.length : Int) ≤ 65535)) = (w, true) := by
           rcases hI with ⟨e1, e2⟩ | e1
           · subst e1; rw [← e2]; show (w, _) = _; rw [decide_eq_true (by omega)]
           · exact e1.1
         rw [hst, hs]
         show (if true = true then (wrRec (m.rrs.getD i default) w, wrOk (m.rrs.getD i default) w && decide (((wrRec (m.rrs.getD i default) w).b.length : Int) ≤ 65535)) else (w, true)) = _
         rw [if_pos rfl, hok, Bool.true_and, decide_eq_true (by omega)]
        ·
         try dsimp only
         first | omega | (simp; omega)
     ·
      refine AOps.nil ?_
      refine AWp.seq ?_
      refine AWp.cond_f rfl ?_
      refine AWp.exit ?_
      refine AWp.seq ?_
      refine AWp.seq ?_
      refine AWp.region ?_
      obtain rfl : i = m.rrs.length := by omega
      rw [List.take_length] at hI
      refine AOps.cons rfl rfl (q_move) ?_
      refine AOps.cons rfl rfl (q_nil) ?_
      refine AOps.cons rfl rfl (q_fa) ?_
      refine AOps.cons rfl rfl (q_load) ?_
      refine AOps.cons rfl rfl (q_len) ?_
      refine AOps.dec rfl rfl (q_gtr) (fun h17_5 => ?_) (fun h17_5 => ?_)
      ·
       refine AOps.nil ?_
       refine AWp.cond_t rfl ?_
       refine AWp.seq ?_
       refine AWp.region ?_
       refine AOps.cons rfl rfl (q_nilz (0) bc) ?_
       refine AOps.cons rfl rfl (q_assign) ?_
       refine AOps.nil ?_
       refine AWp.ret ?_
       show Fin te Try.f13 _ _
       refine q_ret (0) [_, _] [_, _] ?_
       rcases hI with ⟨g1, g2⟩ | ⟨g1, g2⟩
       · obtain ⟨e1, e2⟩ := enc_bad (i := 0) h1_1 (by show decide _ = false; rw [← g2, decide_eq_false (by omega)])
         rw [e1, e2]; rfl
       · omega
      ·
       refine AOps.nil ?_
       refine AWp.cond_f rfl ?_
       refine AWp.skip ?_
       refine AWp.seq ?_
       refine AWp.region ?_
       refine AOps.cons rfl rfl (q_move) ?_
       refine AOps.cons rfl rfl (q_nil) ?_
       refine AOps.cons rfl rfl (q_fa) ?_
       refine AOps.cons rfl rfl (q_load) ?_
       refine AOps.cons rfl rfl (q_assign) ?_
       refine AOps.cons rfl rfl (q_assign) ?_
       refine AOps.nil ?_
       refine AWp.ret ?_
       show Fin te Try.f13 _ _
       refine q_ret (0) [_, _] [_, _] ?_
       have hg : encR m.rrs (encQ m.qs (hdW m), decide (((encQ m.qs (hdW m)).b.length : Int) ≤ 65535)) = (w, true) := by
         rcases hI with ⟨g1, g2⟩ | ⟨g1, g2⟩
         · rw [List.length_eq_zero_iff.1 g1, ← g2]; show (w, _) = _; rw [decide_eq_true (by omega)]
         · exact g1
       obtain ⟨e1, e2⟩ := enc_good h1_1 hg
       rw [e1, e2]; rfl
 ·
  refine AOps.cons rfl rfl (q_not) ?_
  refine AOps.nil ?_
  refine AWp.cond_t rfl ?_
  refine AWp.seq ?_
  refine AWp.region ?_
  refine AOps.cons rfl rfl (q_nilz (0) bc) ?_
  refine AOps.cons rfl rfl (q_assign) ?_
  refine AOps.nil ?_
  refine AWp.ret ?_
  show Fin te Try.f13 _ _
  refine q_ret (0) [_, _] [_, _] ?_
  rw [encB, encE, h1_1]; rfl
end Go.Proofs.Ytkfccjbihcbmiaa.Fw


set_option linter.unusedVariables false
set_option linter.unusedSimpArgs false
namespace Go.Proofs.Ytkfccjbihcbmiaa.Fw
open Go.RowKit
section
variable {d : Nat} {s n b u : TypeId} {is in' ib iu : TI}
theorem has_hdr {t : TypeId} {it : TI} {cs : List AV} (h : Has te (d + 1) t cs) (ht : te.get t = some it) (kt : it.k = .struct [(0, n), (1, b), (2, n), (3, b), (4, b), (5, b), (6, b), (7, n)]) (hn : te.get n = some in') (kn : in'.k = .int .i64) (hb : te.get b = some ib) (kb : ib.k = .bool) :
    ∃ x : Hdr, cs = [i64 x.id, tf x.resp, i64 x.op, tf x.aa, tf x.tc, tf x.rd, tf x.ra, i64 x.code] ∧ (-9223372036854775808 ≤ x.id ∧ x.id ≤ 9223372036854775807) ∧ (-9223372036854775808 ≤ x.op ∧ x.op ≤ 9223372036854775807) ∧ (-9223372036854775808 ≤ x.code ∧ x.code ≤ 9223372036854775807) := by
  obtain ⟨_, w, rfl, q, hh⟩ := has_struct h ht kt
  obtain ⟨a1, rfl, b1⟩ := has_int q hn kn
  obtain ⟨_, w, rfl, q, hh⟩ := hh
  obtain ⟨a2, rfl⟩ := has_bool q hb kb
  obtain ⟨_, w, rfl, q, hh⟩ := hh
  obtain ⟨a3, rfl, b3⟩ := has_int q hn kn
  obtain ⟨_, w, rfl, q, hh⟩ := hh
  obtain ⟨a4, rfl⟩ := has_bool q hb kb
  obtain ⟨_, w, rfl, q, hh⟩ := hh
  obtain ⟨a5, rfl⟩ := has_bool q hb kb
  obtain ⟨_, w, rfl, q, hh⟩ := hh
  obtain ⟨a6, rfl⟩ := has_bool q hb kb
  obtain ⟨_, w, rfl, q, hh⟩ := hh
  obtain ⟨a7, rfl⟩ := has_bool q hb kb
  obtain ⟨_, w, rfl, q, hh⟩ := hh
  obtain ⟨a8, rfl, b8⟩ := has_int q hn kn
  cases hh
  exact ⟨⟨a1, a2, a3, a4, a5, a6, a7, a8⟩, rfl, b1, b3, b8⟩
end
end Go.Proofs.Ytkfccjbihcbmiaa.Fw


set_option linter.unusedVariables false
set_option linter.unusedSimpArgs false
namespace Go.Proofs.Ytkfccjbihcbmiaa.Fw
open Go.RowKit
section
variable {d : Nat} {s n b u : TypeId} {is in' ib iu : TI}
theorem has_rrN {t y : TypeId} {it iy : TI} {cs : List AV} (h : Has te (d + 2) t cs) (ht : te.get t = some it) (kt : it.k = .struct [(0, s), (1, n), (2, n), (3, n), (4, y)]) (hs : te.get s = some is) (ks : is.k = .str) (hn : te.get n = some in') (kn : in'.k = .int .i64)
    (hy : te.get y = some iy) (ky : iy.k = .slice u) (hu : te.get u = some iu) (ku : iu.k = .int .u8) (bu : iu.bytes = 1) : ∃ x : Rr, cs = rrc x ∧ (x.da.length ≤ 140737488351232 ∧ x.nm.length ≤ 140737488351232) := by
  obtain ⟨_, w, rfl, q, hh⟩ := has_struct h ht kt
  obtain ⟨a1, rfl, bn⟩ := has_str q hs ks
  obtain ⟨_, w, rfl, q, hh⟩ := hh
  obtain ⟨a2, rfl, _⟩ := has_int q hn kn
  obtain ⟨_, w, rfl, q, hh⟩ := hh
  obtain ⟨a3, rfl, _⟩ := has_int q hn kn
  obtain ⟨_, w, rfl, q, hh⟩ := hh
  obtain ⟨a4, rfl, _⟩ := has_int q hn kn
  obtain ⟨_, w, rfl, q, hh⟩ := hh
  obtain ⟨a5, rfl, h5⟩ := has_bytes q hy ky hu ku bu
  cases hh
  exact ⟨⟨a1, a2, a3, a4, a5⟩, rfl, h5, bn⟩
theorem has_quN {t : TypeId} {it : TI} {cs : List AV} (h : Has te (d + 1) t cs) (ht : te.get t = some it) (kt : it.k = .struct [(0, s), (1, n), (2, n)]) (hs : te.get s = some is) (ks : is.k = .str) (hn : te.get n = some in') (kn : in'.k = .int .i64) : ∃ x : Qu, cs = quc x ∧ x.nm.length ≤ 140737488351232 := by
  obtain ⟨_, w, rfl, q, hh⟩ := has_struct h ht kt
  obtain ⟨a1, rfl, bn⟩ := has_str q hs ks
  obtain ⟨_, w, rfl, q, hh⟩ := hh
  obtain ⟨a2, rfl, _⟩ := has_int q hn kn
  obtain ⟨_, w, rfl, q, hh⟩ := hh
  obtain ⟨a3, rfl, _⟩ := has_int q hn kn
  cases hh
  exact ⟨⟨a1, a2, a3⟩, rfl, bn⟩
theorem has_rrsN {t r y : TypeId} {it ir iy : TI} {cs : List AV} (h : Has te (d + 3) t cs) (ht : te.get t = some it) (kt : it.k = .slice r) (hr : te.get r = some ir) (kr : ir.k = .struct [(0, s), (1, n), (2, n), (3, n), (4, y)]) (br : ir.bytes = 64)
    (hs : te.get s = some is) (ks : is.k = .str) (hn : te.get n = some in') (kn : in'.k = .int .i64) (hy : te.get y = some iy) (ky : iy.k = .slice u) (hu : te.get u = some iu) (ku : iu.k = .int .u8) (bu : iu.bytes = 1) : ∃ l : List Rr, cs = [.fz 0 l.length (cl rrc l)] ∧ (RrsOk l ∧ ∀ x ∈ l, x.nm.length ≤ 140737488351232) := by
  obtain ⟨l, h1, h2, h3⟩ := has_sl (f := rrc) (q := fun x => x.da.length ≤ 140737488351232 ∧ x.nm.length ≤ 140737488351232) h ht kt hr fun c hc => has_rrN hc hr kr hs ks hn kn hy ky hu ku bu
  exact ⟨l, h1, ⟨by rw [br] at h2; exact h2, fun x hx => (h3 x hx).1⟩, fun x hx => (h3 x hx).2⟩
theorem has_qusN {t r : TypeId} {it ir : TI} {cs : List AV} (h : Has te (d + 2) t cs) (ht : te.get t = some it) (kt : it.k = .slice r) (hr : te.get r = some ir) (kr : ir.k = .struct [(0, s), (1, n), (2, n)]) (br : ir.bytes = 32)
    (hs : te.get s = some is) (ks : is.k = .str) (hn : te.get n = some in') (kn : in'.k = .int .i64) : ∃ l : List Qu, cs = [.fz 0 l.length (cl quc l)] ∧ (l.length * 32 ≤ 140737488351232 ∧ ∀ x ∈ l, x.nm.length ≤ 140737488351232) := by
  obtain ⟨l, h1, h2, h3⟩ := has_sl (f := quc) (q := fun x => x.nm.length ≤ 140737488351232) h ht kt hr fun c hc => has_quN hc hr kr hs ks hn kn
  exact ⟨l, h1, by rw [br] at h2; exact h2, h3⟩
theorem has_msgN {t th tq tr r q y : TypeId} {it ith itq itr ir iq iy : TI} {cs : List AV} (h : Has te (d + 4) t cs) (ht : te.get t = some it) (kt : it.k = .struct [(0, th), (8, tq), (9, tr), (10, tr), (11, tr)])
    (hth : te.get th = some ith) (kth : ith.k = .struct [(0, n), (1, b), (2, n), (3, b), (4, b), (5, b), (6, b), (7, n)]) (htq : te.get tq = some itq) (ktq : itq.k = .slice q) (hq : te.get q = some iq) (kq : iq.k = .struct [(0, s), (1, n), (2, n)]) (bq : iq.bytes = 32)
    (htr : te.get tr = some itr) (ktr : itr.k = .slice r) (hr : te.get r = some ir) (kr : ir.k = .struct [(0, s), (1, n), (2, n), (3, n), (4, y)]) (br : ir.bytes = 64)
    (hs : te.get s = some is) (ks : is.k = .str) (hn : te.get n = some in') (kn : in'.k = .int .i64) (hb : te.get b = some ib) (kb : ib.k = .bool) (hy : te.get y = some iy) (ky : iy.k = .slice u) (hu : te.get u = some iu) (ku : iu.k = .int .u8) (bu : iu.bytes = 1) :
    ∃ m : Msg, cs = msgC m ∧ MsgOk m ∧ NmOk m := by
  obtain ⟨_, w, rfl, q1, hh⟩ := has_struct h ht kt
  obtain ⟨a1, rfl, _⟩ := has_hdr q1 hth kth hn kn hb kb
  obtain ⟨_, w, rfl, q1, hh⟩ := hh
  obtain ⟨a2, rfl, b2⟩ := has_qusN q1 htq ktq hq kq bq hs ks hn kn
  obtain ⟨_, w, rfl, q1, hh⟩ := hh
  obtain ⟨a3, rfl, b3⟩ := has_rrsN q1 htr ktr hr kr br hs ks hn kn hy ky hu ku bu
  obtain ⟨_, w, rfl, q1, hh⟩ := hh
  obtain ⟨a4, rfl, b4⟩ := has_rrsN q1 htr ktr hr kr br hs ks hn kn hy ky hu ku bu
  obtain ⟨_, w, rfl, q1, hh⟩ := hh
  obtain ⟨a5, rfl, b5⟩ := has_rrsN q1 htr ktr hr kr br hs ks hn kn hy ky hu ku bu
  cases hh
  refine ⟨⟨a1, a2, a3, a4, a5⟩, rfl, ⟨b2.1, b3.1, b4.1, b5.1⟩, b2.2, fun x hx => ?_⟩
  simp only [Msg.rrs, List.mem_append] at hx
  rcases hx with (hx | hx) | hx
  · exact b3.2 x hx
  · exact b4.2 x hx
  · exact b5.2 x hx
end
end Go.Proofs.Ytkfccjbihcbmiaa.Fw


set_option linter.unusedVariables false
set_option linter.unusedSimpArgs false
namespace Go.Proofs.Ytkfccjbihcbmiaa.Fw
open Go.RowKit
set_option maxRecDepth 20000 in
set_option maxHeartbeats 2000000 in
theorem c_ciceronelaw04_WireTrail (m : Msg) (c : UInt8) (h : MsgOk m) (hn : NmOk m) : AC Try.prog 4 [.agg (msgC m), u8 c.toNat] emp (Ret (tf true)) := by
 refine AC.intro te_ok (fn := Try.f4) ⟨Try.func4, rfl, rfl⟩ (Nat.le_of_ble_eq_true rfl) ?_
 refine AWp.seq ?_
 refine AWp.region ?_
 refine AOps.cons rfl rfl (q_box 100) ?_
 refine AOps.cons rfl rfl (q_assign) ?_
 refine AOps.nil ?_
 refine AWp.seq ?_
 refine AWp.region ?_
 refine AOps.cons rfl rfl (q_load) ?_
 refine AOps.cons rfl rfl (q_call (0) (hc := (c_wire_Encode m h hn))) ?_
 refine AOps.cons rfl rfl (q_move) ?_
 refine AOps.cons rfl rfl (q_extract) ?_
 refine AOps.cons rfl rfl (q_extract) ?_
 refine AOps.cons rfl rfl (q_assign) ?_
 refine AOps.cons rfl rfl (q_assign) ?_
 refine AOps.nil ?_
 refine AWp.seq ?_
 refine AWp.seq ?_
 refine AWp.region ?_
 refine AOps.cons rfl rfl (q_move) ?_
 refine AOps.dec rfl rfl (q_neq) (fun h2_1 => ?_) (fun h2_1 => ?_)
 ·
  refine AOps.cons rfl rfl (q_move) ?_
  refine AOps.gskip rfl rfl rfl rfl rfl rfl rfl rfl ?_
  refine AOps.gskip rfl rfl rfl rfl rfl rfl rfl rfl ?_
  refine AOps.gskip rfl rfl rfl rfl rfl rfl rfl rfl ?_
  refine AOps.cons rfl rfl (q_pick) ?_
  refine AOps.nil ?_
  refine AWp.cond_t rfl ?_
  refine AWp.seq ?_
  refine AWp.region ?_
  refine AOps.cons rfl rfl (q_load) ?_
  refine AOps.cons rfl rfl (q_call (0) (hc := (c_ciceroneref04_Encode m h hn))) ?_
  refine AOps.cons rfl rfl (q_move) ?_
  refine AOps.cons rfl rfl (q_extract) ?_
  refine AOps.cons rfl rfl (q_extract) ?_
  refine AOps.cons rfl rfl (q_assign) ?_
  refine AOps.cons rfl rfl (q_assign) ?_
  refine AOps.nil ?_
  refine AWp.seq ?_
  refine AWp.region ?_
  refine AOps.cons rfl rfl (q_move) ?_
  refine AOps.cons rfl rfl (q_move) ?_
  refine AOps.cons rfl rfl ((OpOk.dec_t (q_eql) (rfl))) ?_
  refine AOps.cons rfl rfl (q_move) ?_
  refine AOps.gcons rfl rfl rfl rfl rfl (q_call (0) (hc := c_ciceronelaw04_awake)) ?_
  refine AOps.cons rfl rfl (q_pick) ?_
  refine AOps.cons rfl rfl (q_assign) ?_
  refine AOps.nil ?_
  refine AWp.ret ?_
  show Fin te Try.f4 _ _
  refine q_ret (0) [_] [_] ?_
  rfl
 ·
  refine AOps.cons rfl rfl (q_move) ?_
  refine AOps.gcons rfl rfl rfl rfl rfl (q_move) ?_
  refine AOps.gcons rfl rfl rfl rfl rfl (q_len) ?_
  refine AOps.gdec rfl rfl rfl rfl rfl (q_gtr) (fun h2_5 => ?_) (fun h2_5 => ?_)
  ·
   refine AOps.cons rfl rfl (q_pick) ?_
   refine AOps.nil ?_
   refine AWp.cond_t rfl ?_
   refine AWp.seq ?_
   refine AWp.region ?_
   refine AOps.cons rfl rfl (q_load) ?_
   refine AOps.cons rfl rfl (q_call (0) (hc := (c_ciceroneref04_Encode m h hn))) ?_
   refine AOps.cons rfl rfl (q_move) ?_
   refine AOps.cons rfl rfl (q_extract) ?_
   refine AOps.cons rfl rfl (q_extract) ?_
   refine AOps.cons rfl rfl (q_assign) ?_
   refine AOps.cons rfl rfl (q_assign) ?_
   refine AOps.nil ?_
   refine AWp.seq ?_
   refine AWp.region ?_
   refine AOps.cons rfl rfl (q_move) ?_
   refine AOps.cons rfl rfl (q_move) ?_
   refine AOps.cons rfl rfl ((OpOk.dec_t (q_eql) (rfl))) ?_
   refine AOps.cons rfl rfl (q_move) ?_
   refine AOps.gcons rfl rfl rfl rfl rfl (q_call (0) (hc := c_ciceronelaw04_awake)) ?_
   refine AOps.cons rfl rfl (q_pick) ?_
   refine AOps.cons rfl rfl (q_assign) ?_
   refine AOps.nil ?_
   refine AWp.ret ?_
   show Fin te Try.f4 _ _
   refine q_ret (0) [_] [_] ?_
   rfl
  ·
   refine AOps.cons rfl rfl (q_pick) ?_
   refine AOps.nil ?_
   refine AWp.cond_f rfl ?_
   refine AWp.skip ?_
   refine AWp.seq ?_
   refine AWp.seq ?_
   refine AWp.region ?_
   have he : encE m = 0 := by omega
   obtain ⟨g1, g2, g3⟩ := dec_enc he
   refine AOps.cons rfl rfl (q_move) ?_
   refine AOps.cons rfl rfl (q_len) ?_
   refine AOps.dec rfl rfl (q_lss) (fun h5_2 => ?_) (fun h5_2 => ?_)
   ·
    exfalso; omega
   ·
    refine AOps.nil ?_
    refine AWp.cond_f rfl ?_
    refine AWp.skip ?_
    refine AWp.seq ?_
    refine AWp.region ?_
    have q1 := trail_more he (by omega) c
    have q2 := trail_less he
    rw [show (encB m).length - 1 = (((encB m).length : Int) - 1).toNat by omega] at q2
    refine AOps.cons rfl rfl (q_move) ?_
    refine AOps.cons rfl rfl (q_callB (0) [] [(8, 8018)] [(_, _)] (hc := (co_Clone (encB m) 0 (by omega)))) ?_
    refine AOps.cons rfl rfl (q_move) ?_
    refine AOps.cons rfl rfl (q_bs 803 bc [_] [(_, _)]) ?_
    refine AOps.cons rfl rfl (q_appz (l := encB m) (m := [c])) ?_
    refine AOps.cons rfl rfl (q_call (0) (hc := (c_Decode (encB m ++ [c]) (by simp; omega)))) ?_
    refine AOps.cons rfl rfl (q_move) ?_
    refine AOps.cons rfl rfl (q_extract) ?_
    refine AOps.cons rfl rfl (q_extract) ?_
    refine AOps.cons rfl rfl (q_alloc 809) ?_
    refine AOps.cons rfl rfl (q_store) ?_
    refine AOps.cons rfl rfl (q_assign) ?_
    refine AOps.nil ?_
    refine AWp.seq ?_
    refine AWp.region ?_
    refine AOps.cons rfl rfl (q_move) ?_
    refine AOps.cons rfl rfl (q_move) ?_
    refine AOps.cons rfl rfl (q_len) ?_
    refine AOps.cons rfl rfl (q_sub) ?_
    refine AOps.cons rfl rfl (q_sl) ?_
    refine AOps.cons rfl rfl (q_call (0) (hc := (c_Decode ((encB m).take (((encB m).length : Int) - 1).toNat) (by rw [List.length_take]; omega)))) ?_
    refine AOps.cons rfl rfl (q_move) ?_
    refine AOps.cons rfl rfl (q_extract) ?_
    refine AOps.cons rfl rfl (q_extract) ?_
    refine AOps.cons rfl rfl (q_alloc 909) ?_
    refine AOps.cons rfl rfl (q_store) ?_
    refine AOps.cons rfl rfl (q_assign) ?_
    refine AOps.nil ?_
    refine AWp.seq ?_
    refine AWp.region ?_
    refine AOps.cons rfl rfl (q_move) ?_
    refine AOps.cons rfl rfl ((OpOk.dec_t (q_eql) (q1))) ?_
    refine AOps.cons rfl rfl (q_move) ?_
    refine AOps.gcons rfl rfl rfl rfl rfl (q_move) ?_
    refine AOps.gcons rfl rfl rfl rfl rfl ((OpOk.dec_t (q_neq) (q2))) ?_
    refine AOps.cons rfl rfl (q_pick) ?_
    refine AOps.cons rfl rfl (q_assign) ?_
    refine AOps.nil ?_
    refine AWp.ret ?_
    show Fin te Try.f4 _ _
    refine q_ret (0) [_] [_] ?_
    rfl
end Go.Proofs.Ytkfccjbihcbmiaa.Fw


