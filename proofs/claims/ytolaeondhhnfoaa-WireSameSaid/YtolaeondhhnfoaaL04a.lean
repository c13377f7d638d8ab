/- Walk of layer 4's law WireSame. -/
import Derived.Test.YtolaeondhhnfoaaM2
set_option linter.unusedVariables false
set_option linter.unusedSimpArgs false
namespace Go.Proofs.Ytolaeondhhnfoaa.Fw
open Go.RowKit

set_option maxRecDepth 20000 in
theorem c_ciceronelaw04_WireSame (a b : Msg) (ha : MsgOk a) (hb : MsgOk b) : AC Try.prog 5 [.agg (msgC a), .agg (msgC b)] emp (Ret (tf true)) := by
  refine AC.intro te_ok (fn := Try.f5) ⟨Try.func5, rfl, rfl⟩ (Nat.le_of_ble_eq_true rfl) ?_
  refine AWp.seq ?_
  refine AWp.region ?_
  refine AOps.cons rfl rfl (q_box 100) ?_
  refine AOps.cons rfl rfl (q_box 101) ?_
  refine AOps.cons rfl rfl (q_assign) ?_
  refine AOps.nil ?_
  refine AWp.seq ?_
  refine AWp.draws [⟨0, [2], [100], some 5, _, none⟩,
      ⟨1, [3], [101], some 6, _, none⟩,
      ⟨2, [5, 6], [], some 7, _, none⟩,
      ⟨3, [2], [100], some 8, _, none⟩,
      ⟨4, [3], [101], some 9, _, none⟩,
      ⟨5, [8, 9], [], some 10, _, none⟩,
      ⟨6, [7, 10], [], some 11, _, none⟩,
      ⟨7, [11], [], some 12, _, none⟩,
      ⟨8, [2, 12], [100], some 13, _, none⟩,
      ⟨9, [2, 12], [100], some 14, _, none⟩,
      ⟨10, [12, 13, 14], [], some 15, _, none⟩,
      ⟨11, [12, 15], [], some 16, _, none⟩,
      ⟨12, [16], [], some 17, _, none⟩,
      ⟨13, [3, 17], [101], some 18, _, none⟩,
      ⟨14, [3, 17], [101], some 19, _, none⟩,
      ⟨15, [17, 19], [], some 20, _, none⟩,
      ⟨16, [17, 18, 20], [], some 21, _, none⟩,
      ⟨17, [17, 21], [], some 22, _, none⟩,
      ⟨18, [22], [], some 4, _, none⟩]
    [⟨0, [2], [100], some 5, .any, none⟩,
        ⟨1, [3], [101], some 6, .any, none⟩,
        ⟨2, [5, 6], [], some 7, .any, none⟩,
        ⟨3, [2], [100], some 8, .any, none⟩,
        ⟨4, [3], [101], some 9, .any, none⟩,
        ⟨5, [8, 9], [], some 10, .any, none⟩,
        ⟨6, [7, 10], [], some 11, .any, none⟩,
        ⟨7, [11], [], some 12, .any, none⟩,
        ⟨8, [2, 12], [100], some 13, .any, none⟩,
        ⟨9, [2, 12], [100], some 14, .any, none⟩,
        ⟨10, [12, 13, 14], [], some 15, .any, none⟩,
        ⟨11, [12, 15], [], some 16, .any, none⟩,
        ⟨12, [16], [], some 17, .any, none⟩,
        ⟨13, [3, 17], [101], some 18, .any, none⟩,
        ⟨14, [3, 17], [101], some 19, .any, none⟩,
        ⟨15, [17, 19], [], some 20, .any, none⟩,
        ⟨16, [17, 18, 20], [], some 21, .any, none⟩,
        ⟨17, [17, 21], [], some 22, .any, none⟩,
        ⟨18, [22], [], some 4, .any, none⟩]
    mixed_ok rfl (by kernel_rfl) ⟨DS.ok_over fun s0 => OpAt.go rfl rfl (q_load),
        DS.ok_over fun s0 => OpAt.go rfl rfl (q_load),
        DS.ok_over fun s0 => OpAt.go rfl rfl (q_call (0) (hc := (c_wire_Same a b ha hb))),
        DS.ok_over fun s0 => OpAt.go rfl rfl (q_load),
        DS.ok_over fun s0 => OpAt.go rfl rfl (q_load),
        DS.ok_over fun s0 => OpAt.go rfl rfl (q_call (0) (hc := (c_ciceroneplain_SameMessage a b ha hb))),
        DS.ok_over fun s0 => OpAt.go rfl rfl ((OpOk.bool_is (c := true) (q_beql) (by simp))),
        DS.ok_over fun s0 => OpAt.go rfl rfl (q_move),
        DS.ok_over fun s0 => OpAt.ggo rfl rfl rfl rfl rfl (q_load),
        DS.ok_over fun s0 => OpAt.ggo rfl rfl rfl rfl rfl (q_load),
        DS.ok_over fun s0 => OpAt.ggo rfl rfl rfl rfl rfl ((OpOk.bool_is (c := true) (q_call (0) (hc := (c_wire_Same a a ha ha))) (decide_eq_true rfl))),
        DS.ok_over fun s0 => OpAt.go rfl rfl (q_pick),
        DS.ok_over fun s0 => OpAt.go rfl rfl (q_move),
        DS.ok_over fun s0 => OpAt.ggo rfl rfl rfl rfl rfl (q_load),
        DS.ok_over fun s0 => OpAt.ggo rfl rfl rfl rfl rfl (q_load),
        DS.ok_over fun s0 => OpAt.ggo rfl rfl rfl rfl rfl (q_call (0) (hc := (c_ciceroneplain_Message b hb))),
        DS.ok_over fun s0 => OpAt.ggo rfl rfl rfl rfl rfl ((OpOk.bool_is (c := true) (q_call (0) (hc := (c_wire_Same b b hb hb))) (decide_eq_true rfl))),
        DS.ok_over fun s0 => OpAt.go rfl rfl (q_pick),
        DS.ok_over fun s0 => OpAt.go rfl rfl (q_assign), trivial⟩ ?_
  dsimp only [final, DS.upd, AS.seto]
  refine AWp.ret ?_
  show Fin te Try.f5 _ _
  refine q_ret (0) [_] [_] ?_
  rfl

end Go.Proofs.Ytolaeondhhnfoaa.Fw
