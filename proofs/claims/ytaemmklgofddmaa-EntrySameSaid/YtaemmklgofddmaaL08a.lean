/- Walk of layer 8's law EntrySame. -/
import Derived.Test.YtaemmklgofddmaaW08d
import Derived.Test.YtaemmklgofddmaaFwS
set_option linter.unusedVariables false
set_option linter.unusedSimpArgs false
namespace Go.Proofs.Ytaemmklgofddmaa.Fw
open Go.RowKit


theorem has_set {d : Nat} {t s n y z u : TypeId} {it is in' iy iz iu : TI} {cs : List AV} (h : Has te (d + 3) t cs) (ht : te.get t = some it) (kt : it.k = .struct [(0, s), (1, n), (2, n), (3, n), (4, n), (5, n), (6, s), (7, y)]) (hs : te.get s = some is) (ks : is.k = .str) (hn : te.get n = some in') (kn : in'.k = .int .i64)
    (hy : te.get y = some iy) (ky : iy.k = .slice z) (hz : te.get z = some iz) (kz : iz.k = .slice u) (hu : te.get u = some iu) (ku : iu.k = .int .u8) (bu : iu.bytes = 1) (bz : iz.bytes = 24) : ∃ x : ESet, cs = setC x ∧ SetOk x := by
  obtain ⟨_, w, rfl, q, hh⟩ := has_struct h ht kt
  obtain ⟨a1, rfl, b1⟩ := has_str q hs ks
  obtain ⟨_, w, rfl, q, hh⟩ := hh
  obtain ⟨a2, rfl, _⟩ := has_int q hn kn
  obtain ⟨_, w, rfl, q, hh⟩ := hh
  obtain ⟨a3, rfl, _⟩ := has_int q hn kn
  obtain ⟨_, w, rfl, q, hh⟩ := hh
  obtain ⟨a4, rfl, _⟩ := has_int q hn kn
  obtain ⟨_, w, rfl, q, hh⟩ := hh
  obtain ⟨a5, rfl, _⟩ := has_int q hn kn
  obtain ⟨_, w, rfl, q, hh⟩ := hh
  obtain ⟨a6, rfl, _⟩ := has_int q hn kn
  obtain ⟨_, w, rfl, q, hh⟩ := hh
  obtain ⟨a7, rfl, b7⟩ := has_str q hs ks
  obtain ⟨_, w, rfl, q, hh⟩ := hh
  obtain ⟨a8, rfl, b8, c8⟩ := has_bytess q hy ky hz kz hu ku bu bz
  cases hh
  exact ⟨⟨a1, a2, a3, a4, a5, a6, a7, a8⟩, rfl, b1, b7, b8, c8⟩

set_option maxRecDepth 20000 in
theorem c_ciceronelaw08_EntrySame (a b : ESet) (ha : SetOk a) (hb : SetOk b) : AC Try.prog 5 [.agg (setC a), .agg (setC b)] emp (Ret (tf true)) := by
  refine AC.intro te_ok (fn := Try.f5) ⟨Try.func5, rfl, rfl⟩ (Nat.le_of_ble_eq_true rfl) ?_
  refine AWp.seq ?_
  refine AWp.region ?_
  refine AOps.cons rfl rfl (q_box 100) ?_
  refine AOps.cons rfl rfl (q_box 101) ?_
  refine AOps.cons rfl rfl (q_assign) ?_
  refine AOps.nil ?_
  refine AWp.seq ?_
  refine AWp.draws [⟨0, [2], [100], some 5, _, none⟩,
      ⟨1, [3], [101], some 6, _, none⟩,
      ⟨2, [5, 6], [], some 7, _, none⟩,
      ⟨3, [2], [100], some 8, _, none⟩,
      ⟨4, [3], [101], some 9, _, none⟩,
      ⟨5, [8, 9], [], some 10, _, none⟩,
      ⟨6, [7, 10], [], some 11, _, none⟩,
      ⟨7, [11], [], some 12, _, none⟩,
      ⟨8, [2, 12], [100], some 13, _, none⟩,
      ⟨9, [2, 12], [100], some 14, _, none⟩,
      ⟨10, [12, 14], [], some 15, _, none⟩,
      ⟨11, [12, 13, 15], [], some 16, _, none⟩,
      ⟨12, [12, 16], [], some 17, _, none⟩,
      ⟨13, [17], [], some 18, _, none⟩,
      ⟨14, [18], [], some 19, _, none⟩,
      ⟨15, [18, 19], [], some 20, _, none⟩,
      ⟨16, [20], [], some 4, _, none⟩]
    [⟨0, [2], [100], some 5, .any, none⟩,
        ⟨1, [3], [101], some 6, .any, none⟩,
        ⟨2, [5, 6], [], some 7, .any, none⟩,
        ⟨3, [2], [100], some 8, .any, none⟩,
        ⟨4, [3], [101], some 9, .any, none⟩,
        ⟨5, [8, 9], [], some 10, .any, none⟩,
        ⟨6, [7, 10], [], some 11, .any, none⟩,
        ⟨7, [11], [], some 12, .any, none⟩,
        ⟨8, [2, 12], [100], some 13, .any, none⟩,
        ⟨9, [2, 12], [100], some 14, .any, none⟩,
        ⟨10, [12, 14], [], some 15, .any, none⟩,
        ⟨11, [12, 13, 15], [], some 16, .any, none⟩,
        ⟨12, [12, 16], [], some 17, .any, none⟩,
        ⟨13, [17], [], some 18, .any, none⟩,
        ⟨14, [18], [], some 19, .any, none⟩,
        ⟨15, [18, 19], [], some 20, .any, none⟩,
        ⟨16, [20], [], some 4, .any, none⟩]
    mixed_ok rfl (by kernel_rfl) ⟨DS.ok_over fun s0 => OpAt.go rfl rfl (q_load),
        DS.ok_over fun s0 => OpAt.go rfl rfl (q_load),
        DS.ok_over fun s0 => OpAt.go rfl rfl (q_call (0) (hc := (c_entry_Same a b ha))),
        DS.ok_over fun s0 => OpAt.go rfl rfl (q_load),
        DS.ok_over fun s0 => OpAt.go rfl rfl (q_load),
        DS.ok_over fun s0 => OpAt.go rfl rfl (q_call (0) (hc := (c_ciceroneref08_Same a b ha))),
        DS.ok_over fun s0 => OpAt.go rfl rfl ((OpOk.bool_is (c := true) (q_beql) (by simp))),
        DS.ok_over fun s0 => OpAt.go rfl rfl (q_move),
        DS.ok_over fun s0 => OpAt.ggo rfl rfl rfl rfl rfl (q_load),
        DS.ok_over fun s0 => OpAt.ggo rfl rfl rfl rfl rfl (q_load),
        DS.ok_over fun s0 => OpAt.ggo rfl rfl rfl rfl rfl (q_call (0) (hc := (c_ciceroneref08_Copy a ha))),
        DS.ok_over fun s0 => OpAt.ggo rfl rfl rfl rfl rfl ((OpOk.bool_is (c := true) (q_call (0) (hc := (c_entry_Same a a ha))) (decide_eq_true rfl))),
        DS.ok_over fun s0 => OpAt.go rfl rfl (q_pick),
        DS.ok_over fun s0 => OpAt.go rfl rfl (q_move),
        DS.ok_over fun s0 => OpAt.ggo rfl rfl rfl rfl rfl ((OpOk.bool_is (c := true) (q_call (0) (hc := c_ciceronelaw08_awake)) (rfl))),
        DS.ok_over fun s0 => OpAt.go rfl rfl (q_pick),
        DS.ok_over fun s0 => OpAt.go rfl rfl (q_assign), trivial⟩ ?_
  dsimp only [final, DS.upd, AS.seto]
  refine AWp.ret ?_
  show Fin te Try.f5 _ _
  refine q_ret (0) [_] [_] ?_
  rfl

end Go.Proofs.Ytaemmklgofddmaa.Fw
