/- Messages: sameness and copies, of whole ones. -/
import Derived.Test.YtolaeondhhnfoaaM0
set_option linter.unusedVariables false
set_option linter.unusedSimpArgs false
namespace Go.Proofs.Ytolaeondhhnfoaa.Fw
open Go.RowKit

set_option maxRecDepth 20000 in
theorem c_wire_Same (a b : Msg) (ha : MsgOk a) (hb : MsgOk b) : AC Try.prog 14 [.agg (msgC a), .agg (msgC b)] emp (Ret (tf (decide (a = b)))) := by
  obtain ⟨a1, ⟨a2, _⟩, ⟨a3, _⟩, ⟨a4, _⟩⟩ := id ha
  obtain ⟨b1, ⟨b2, _⟩, ⟨b3, _⟩, ⟨b4, _⟩⟩ := id hb
  refine AC.intro te_ok (fn := Try.f14) ⟨Try.func14, rfl, rfl⟩ (Nat.le_of_ble_eq_true rfl) ?_
  refine AWp.seq ?_
  refine AWp.region ?_
  refine AOps.cons rfl rfl (q_box 100) ?_
  refine AOps.cons rfl rfl (q_box 101) ?_
  refine AOps.cons rfl rfl (q_assign) ?_
  refine AOps.nil ?_
  refine AWp.seq ?_
  refine AWp.region ?_
  refine AOps.cons rfl rfl (q_assign) ?_
  refine AOps.nil ?_
  refine AWp.seq ?_
  refine AWp.region ?_
  refine AOps.cons rfl rfl (q_fa) ?_
  refine AOps.cons rfl rfl (q_load) ?_
  refine AOps.cons rfl rfl (q_fa) ?_
  refine AOps.cons rfl rfl (q_load) ?_
  refine AOps.bool rfl rfl (q_eqp) (fun h2_4 => ?_) (fun h2_4 => ?_)
  · skip
    refine AOps.cons rfl rfl (q_move) ?_
    refine AOps.gcons rfl rfl rfl rfl rfl (q_fa) ?_
    refine AOps.gcons rfl rfl rfl rfl rfl (q_load) ?_
    refine AOps.gcons rfl rfl rfl rfl rfl (q_fa) ?_
    refine AOps.gcons rfl rfl rfl rfl rfl (q_load) ?_
    refine AOps.gbool rfl rfl rfl rfl rfl (q_call (0) (hc := (c_Equal_qu a.qs b.qs 0 0 (by omega)))) (fun h2_10 => ?_) (fun h2_10 => ?_)
    · skip
      refine AOps.cons rfl rfl (q_pick) ?_
      refine AOps.cons rfl rfl (q_move) ?_
      refine AOps.gcons rfl rfl rfl rfl rfl (q_fa) ?_
      refine AOps.gcons rfl rfl rfl rfl rfl (q_load) ?_
      refine AOps.gcons rfl rfl rfl rfl rfl (q_fa) ?_
      refine AOps.gcons rfl rfl rfl rfl rfl (q_load) ?_
      refine AOps.gcons rfl rfl rfl rfl rfl (q_move) ?_
      refine AOps.gbool rfl rfl rfl rfl rfl (q_call (0) (hc := (c_EqualFunc_rr a.an b.an 0 0 (by omega) c_wire_Same_1))) (fun h2_18 => ?_) (fun h2_18 => ?_)
      · skip
        refine AOps.cons rfl rfl (q_pick) ?_
        refine AOps.cons rfl rfl (q_move) ?_
        refine AOps.gcons rfl rfl rfl rfl rfl (q_fa) ?_
        refine AOps.gcons rfl rfl rfl rfl rfl (q_load) ?_
        refine AOps.gcons rfl rfl rfl rfl rfl (q_fa) ?_
        refine AOps.gcons rfl rfl rfl rfl rfl (q_load) ?_
        refine AOps.gcons rfl rfl rfl rfl rfl (q_move) ?_
        refine AOps.gbool rfl rfl rfl rfl rfl (q_call (0) (hc := (c_EqualFunc_rr a.au b.au 0 0 (by omega) c_wire_Same_1))) (fun h2_26 => ?_) (fun h2_26 => ?_)
        · skip
          refine AOps.cons rfl rfl (q_pick) ?_
          refine AOps.cons rfl rfl (q_move) ?_
          refine AOps.gcons rfl rfl rfl rfl rfl (q_fa) ?_
          refine AOps.gcons rfl rfl rfl rfl rfl (q_load) ?_
          refine AOps.gcons rfl rfl rfl rfl rfl (q_fa) ?_
          refine AOps.gcons rfl rfl rfl rfl rfl (q_load) ?_
          refine AOps.gcons rfl rfl rfl rfl rfl (q_move) ?_
          refine AOps.gcons rfl rfl rfl rfl rfl (q_call (0) (hc := (c_EqualFunc_rr a.ad b.ad 0 0 (by omega) c_wire_Same_1))) ?_
          refine AOps.cons rfl rfl (q_pick) ?_
          refine AOps.cons rfl rfl (q_assign) ?_
          refine AOps.nil ?_
          refine AWp.ret ?_
          show Fin te Try.f14 _ _
          refine q_ret (0) [_] [_] ?_
          have e : a.h = b.h := of_decide_eq_true ((hdV a.h b.h).symm.trans h2_4)
          have e1 := of_decide_eq_true h2_10
          have e2 := of_decide_eq_true h2_18
          have e3 := of_decide_eq_true h2_26
          exact congrArg tf (decide_eq_decide.2 (by rw [msg_eq]; exact ⟨fun q => ⟨e, e1, e2, e3, q⟩, fun q => q.2.2.2.2⟩))
        · skip
          refine AOps.cons rfl rfl (q_pick) ?_
          refine AOps.cons rfl rfl (q_move) ?_
          refine AOps.gskip rfl rfl rfl rfl rfl rfl rfl rfl ?_
          refine AOps.gskip rfl rfl rfl rfl rfl rfl rfl rfl ?_
          refine AOps.gskip rfl rfl rfl rfl rfl rfl rfl rfl ?_
          refine AOps.gskip rfl rfl rfl rfl rfl rfl rfl rfl ?_
          refine AOps.gskip rfl rfl rfl rfl rfl rfl rfl rfl ?_
          refine AOps.gskip rfl rfl rfl rfl rfl rfl rfl rfl ?_
          refine AOps.cons rfl rfl (q_pick) ?_
          refine AOps.cons rfl rfl (q_assign) ?_
          refine AOps.nil ?_
          refine AWp.ret ?_
          show Fin te Try.f14 _ _
          refine q_ret (0) [_] [_] ?_
          rw [decide_eq_false (fun q => (of_decide_eq_false h2_26) (by rw [q]))]; rfl
      · skip
        refine AOps.cons rfl rfl (q_pick) ?_
        refine AOps.cons rfl rfl (q_move) ?_
        refine AOps.gskip rfl rfl rfl rfl rfl rfl rfl rfl ?_
        refine AOps.gskip rfl rfl rfl rfl rfl rfl rfl rfl ?_
        refine AOps.gskip rfl rfl rfl rfl rfl rfl rfl rfl ?_
        refine AOps.gskip rfl rfl rfl rfl rfl rfl rfl rfl ?_
        refine AOps.gskip rfl rfl rfl rfl rfl rfl rfl rfl ?_
        refine AOps.gskip rfl rfl rfl rfl rfl rfl rfl rfl ?_
        refine AOps.cons rfl rfl (q_pick) ?_
        refine AOps.cons rfl rfl (q_move) ?_
        refine AOps.gskip rfl rfl rfl rfl rfl rfl rfl rfl ?_
        refine AOps.gskip rfl rfl rfl rfl rfl rfl rfl rfl ?_
        refine AOps.gskip rfl rfl rfl rfl rfl rfl rfl rfl ?_
        refine AOps.gskip rfl rfl rfl rfl rfl rfl rfl rfl ?_
        refine AOps.gskip rfl rfl rfl rfl rfl rfl rfl rfl ?_
        refine AOps.gskip rfl rfl rfl rfl rfl rfl rfl rfl ?_
        refine AOps.cons rfl rfl (q_pick) ?_
        refine AOps.cons rfl rfl (q_assign) ?_
        refine AOps.nil ?_
        refine AWp.ret ?_
        show Fin te Try.f14 _ _
        refine q_ret (0) [_] [_] ?_
        rw [decide_eq_false (fun q => (of_decide_eq_false h2_18) (by rw [q]))]; rfl
    · skip
      refine AOps.cons rfl rfl (q_pick) ?_
      refine AOps.cons rfl rfl (q_move) ?_
      refine AOps.gskip rfl rfl rfl rfl rfl rfl rfl rfl ?_
      refine AOps.gskip rfl rfl rfl rfl rfl rfl rfl rfl ?_
      refine AOps.gskip rfl rfl rfl rfl rfl rfl rfl rfl ?_
      refine AOps.gskip rfl rfl rfl rfl rfl rfl rfl rfl ?_
      refine AOps.gskip rfl rfl rfl rfl rfl rfl rfl rfl ?_
      refine AOps.gskip rfl rfl rfl rfl rfl rfl rfl rfl ?_
      refine AOps.cons rfl rfl (q_pick) ?_
      refine AOps.cons rfl rfl (q_move) ?_
      refine AOps.gskip rfl rfl rfl rfl rfl rfl rfl rfl ?_
      refine AOps.gskip rfl rfl rfl rfl rfl rfl rfl rfl ?_
      refine AOps.gskip rfl rfl rfl rfl rfl rfl rfl rfl ?_
      refine AOps.gskip rfl rfl rfl rfl rfl rfl rfl rfl ?_
      refine AOps.gskip rfl rfl rfl rfl rfl rfl rfl rfl ?_
      refine AOps.gskip rfl rfl rfl rfl rfl rfl rfl rfl ?_
      refine AOps.cons rfl rfl (q_pick) ?_
      refine AOps.cons rfl rfl (q_move) ?_
      refine AOps.gskip rfl rfl rfl rfl rfl rfl rfl rfl ?_
      refine AOps.gskip rfl rfl rfl rfl rfl rfl rfl rfl ?_
      refine AOps.gskip rfl rfl rfl rfl rfl rfl rfl rfl ?_
      refine AOps.gskip rfl rfl rfl rfl rfl rfl rfl rfl ?_
      refine AOps.gskip rfl rfl rfl rfl rfl rfl rfl rfl ?_
      refine AOps.gskip rfl rfl rfl rfl rfl rfl rfl rfl ?_
      refine AOps.cons rfl rfl (q_pick) ?_
      refine AOps.cons rfl rfl (q_assign) ?_
      refine AOps.nil ?_
      refine AWp.ret ?_
      show Fin te Try.f14 _ _
      refine q_ret (0) [_] [_] ?_
      rw [decide_eq_false (fun q => (of_decide_eq_false h2_10) (by rw [q]))]; rfl
  · skip
    refine AOps.cons rfl rfl (q_move) ?_
    refine AOps.gskip rfl rfl rfl rfl rfl rfl rfl rfl ?_
    refine AOps.gskip rfl rfl rfl rfl rfl rfl rfl rfl ?_
    refine AOps.gskip rfl rfl rfl rfl rfl rfl rfl rfl ?_
    refine AOps.gskip rfl rfl rfl rfl rfl rfl rfl rfl ?_
    refine AOps.gskip rfl rfl rfl rfl rfl rfl rfl rfl ?_
    refine AOps.cons rfl rfl (q_pick) ?_
    refine AOps.cons rfl rfl (q_move) ?_
    refine AOps.gskip rfl rfl rfl rfl rfl rfl rfl rfl ?_
    refine AOps.gskip rfl rfl rfl rfl rfl rfl rfl rfl ?_
    refine AOps.gskip rfl rfl rfl rfl rfl rfl rfl rfl ?_
    refine AOps.gskip rfl rfl rfl rfl rfl rfl rfl rfl ?_
    refine AOps.gskip rfl rfl rfl rfl rfl rfl rfl rfl ?_
    refine AOps.gskip rfl rfl rfl rfl rfl rfl rfl rfl ?_
    refine AOps.cons rfl rfl (q_pick) ?_
    refine AOps.cons rfl rfl (q_move) ?_
    refine AOps.gskip rfl rfl rfl rfl rfl rfl rfl rfl ?_
    refine AOps.gskip rfl rfl rfl rfl rfl rfl rfl rfl ?_
    refine AOps.gskip rfl rfl rfl rfl rfl rfl rfl rfl ?_
    refine AOps.gskip rfl rfl rfl rfl rfl rfl rfl rfl ?_
    refine AOps.gskip rfl rfl rfl rfl rfl rfl rfl rfl ?_
    refine AOps.gskip rfl rfl rfl rfl rfl rfl rfl rfl ?_
    refine AOps.cons rfl rfl (q_pick) ?_
    refine AOps.cons rfl rfl (q_move) ?_
    refine AOps.gskip rfl rfl rfl rfl rfl rfl rfl rfl ?_
    refine AOps.gskip rfl rfl rfl rfl rfl rfl rfl rfl ?_
    refine AOps.gskip rfl rfl rfl rfl rfl rfl rfl rfl ?_
    refine AOps.gskip rfl rfl rfl rfl rfl rfl rfl rfl ?_
    refine AOps.gskip rfl rfl rfl rfl rfl rfl rfl rfl ?_
    refine AOps.gskip rfl rfl rfl rfl rfl rfl rfl rfl ?_
    refine AOps.cons rfl rfl (q_pick) ?_
    refine AOps.cons rfl rfl (q_assign) ?_
    refine AOps.nil ?_
    refine AWp.ret ?_
    show Fin te Try.f14 _ _
    refine q_ret (0) [_] [_] ?_
    have e : decide (a.h = b.h) = false := (hdV a.h b.h).symm.trans h2_4
    rw [decide_eq_false (fun q => (of_decide_eq_false e) (by rw [q]))]; rfl

set_option maxRecDepth 20000 in
theorem c_ciceroneplain_SameMessage (a b : Msg) (ha : MsgOk a) (hb : MsgOk b) : AC Try.prog 15 [.agg (msgC a), .agg (msgC b)] emp (Ret (tf (decide (a = b)))) := by
  obtain ⟨a1, ⟨a2, _⟩, ⟨a3, _⟩, ⟨a4, _⟩⟩ := id ha
  obtain ⟨b1, ⟨b2, _⟩, ⟨b3, _⟩, ⟨b4, _⟩⟩ := id hb
  refine AC.intro te_ok (fn := Try.f15) ⟨Try.func15, rfl, rfl⟩ (Nat.le_of_ble_eq_true rfl) ?_
  refine AWp.seq ?_
  refine AWp.region ?_
  refine AOps.cons rfl rfl (q_box 100) ?_
  refine AOps.cons rfl rfl (q_box 101) ?_
  refine AOps.cons rfl rfl (q_assign) ?_
  refine AOps.nil ?_
  refine AWp.seq ?_
  refine AWp.region ?_
  refine AOps.cons rfl rfl (q_fa) ?_
  refine AOps.cons rfl rfl (q_load) ?_
  refine AOps.cons rfl rfl (q_fa) ?_
  refine AOps.cons rfl rfl (q_load) ?_
  refine AOps.bool rfl rfl (q_eqp) (fun h1_4 => ?_) (fun h1_4 => ?_)
  · skip
    refine AOps.cons rfl rfl (q_move) ?_
    refine AOps.gcons rfl rfl rfl rfl rfl (q_fa) ?_
    refine AOps.gcons rfl rfl rfl rfl rfl (q_load) ?_
    refine AOps.gcons rfl rfl rfl rfl rfl (q_fa) ?_
    refine AOps.gcons rfl rfl rfl rfl rfl (q_load) ?_
    refine AOps.gbool rfl rfl rfl rfl rfl (q_call (0) (hc := (c_Equal_qu a.qs b.qs 0 0 (by omega)))) (fun h1_10 => ?_) (fun h1_10 => ?_)
    · skip
      refine AOps.cons rfl rfl (q_pick) ?_
      refine AOps.cons rfl rfl (q_move) ?_
      refine AOps.gcons rfl rfl rfl rfl rfl (q_fa) ?_
      refine AOps.gcons rfl rfl rfl rfl rfl (q_load) ?_
      refine AOps.gcons rfl rfl rfl rfl rfl (q_fa) ?_
      refine AOps.gcons rfl rfl rfl rfl rfl (q_load) ?_
      refine AOps.gbool rfl rfl rfl rfl rfl (q_call (0) (hc := (c_ciceroneplain_SameRRs a.an b.an 0 0 (by omega)))) (fun h1_17 => ?_) (fun h1_17 => ?_)
      · skip
        refine AOps.cons rfl rfl (q_pick) ?_
        refine AOps.cons rfl rfl (q_move) ?_
        refine AOps.gcons rfl rfl rfl rfl rfl (q_fa) ?_
        refine AOps.gcons rfl rfl rfl rfl rfl (q_load) ?_
        refine AOps.gcons rfl rfl rfl rfl rfl (q_fa) ?_
        refine AOps.gcons rfl rfl rfl rfl rfl (q_load) ?_
        refine AOps.gbool rfl rfl rfl rfl rfl (q_call (0) (hc := (c_ciceroneplain_SameRRs a.au b.au 0 0 (by omega)))) (fun h1_24 => ?_) (fun h1_24 => ?_)
        · skip
          refine AOps.cons rfl rfl (q_pick) ?_
          refine AOps.cons rfl rfl (q_move) ?_
          refine AOps.gcons rfl rfl rfl rfl rfl (q_fa) ?_
          refine AOps.gcons rfl rfl rfl rfl rfl (q_load) ?_
          refine AOps.gcons rfl rfl rfl rfl rfl (q_fa) ?_
          refine AOps.gcons rfl rfl rfl rfl rfl (q_load) ?_
          refine AOps.gcons rfl rfl rfl rfl rfl (q_call (0) (hc := (c_ciceroneplain_SameRRs a.ad b.ad 0 0 (by omega)))) ?_
          refine AOps.cons rfl rfl (q_pick) ?_
          refine AOps.cons rfl rfl (q_assign) ?_
          refine AOps.nil ?_
          refine AWp.ret ?_
          show Fin te Try.f15 _ _
          refine q_ret (0) [_] [_] ?_
          have e : a.h = b.h := of_decide_eq_true ((hdV a.h b.h).symm.trans h1_4)
          have e1 := of_decide_eq_true h1_10
          have e2 := of_decide_eq_true h1_17
          have e3 := of_decide_eq_true h1_24
          exact congrArg tf (decide_eq_decide.2 (by rw [msg_eq]; exact ⟨fun q => ⟨e, e1, e2, e3, q⟩, fun q => q.2.2.2.2⟩))
        · skip
          refine AOps.cons rfl rfl (q_pick) ?_
          refine AOps.cons rfl rfl (q_move) ?_
          refine AOps.gskip rfl rfl rfl rfl rfl rfl rfl rfl ?_
          refine AOps.gskip rfl rfl rfl rfl rfl rfl rfl rfl ?_
          refine AOps.gskip rfl rfl rfl rfl rfl rfl rfl rfl ?_
          refine AOps.gskip rfl rfl rfl rfl rfl rfl rfl rfl ?_
          refine AOps.gskip rfl rfl rfl rfl rfl rfl rfl rfl ?_
          refine AOps.cons rfl rfl (q_pick) ?_
          refine AOps.cons rfl rfl (q_assign) ?_
          refine AOps.nil ?_
          refine AWp.ret ?_
          show Fin te Try.f15 _ _
          refine q_ret (0) [_] [_] ?_
          rw [decide_eq_false (fun q => (of_decide_eq_false h1_24) (by rw [q]))]; rfl
      · skip
        refine AOps.cons rfl rfl (q_pick) ?_
        refine AOps.cons rfl rfl (q_move) ?_
        refine AOps.gskip rfl rfl rfl rfl rfl rfl rfl rfl ?_
        refine AOps.gskip rfl rfl rfl rfl rfl rfl rfl rfl ?_
        refine AOps.gskip rfl rfl rfl rfl rfl rfl rfl rfl ?_
        refine AOps.gskip rfl rfl rfl rfl rfl rfl rfl rfl ?_
        refine AOps.gskip rfl rfl rfl rfl rfl rfl rfl rfl ?_
        refine AOps.cons rfl rfl (q_pick) ?_
        refine AOps.cons rfl rfl (q_move) ?_
        refine AOps.gskip rfl rfl rfl rfl rfl rfl rfl rfl ?_
        refine AOps.gskip rfl rfl rfl rfl rfl rfl rfl rfl ?_
        refine AOps.gskip rfl rfl rfl rfl rfl rfl rfl rfl ?_
        refine AOps.gskip rfl rfl rfl rfl rfl rfl rfl rfl ?_
        refine AOps.gskip rfl rfl rfl rfl rfl rfl rfl rfl ?_
        refine AOps.cons rfl rfl (q_pick) ?_
        refine AOps.cons rfl rfl (q_assign) ?_
        refine AOps.nil ?_
        refine AWp.ret ?_
        show Fin te Try.f15 _ _
        refine q_ret (0) [_] [_] ?_
        rw [decide_eq_false (fun q => (of_decide_eq_false h1_17) (by rw [q]))]; rfl
    · skip
      refine AOps.cons rfl rfl (q_pick) ?_
      refine AOps.cons rfl rfl (q_move) ?_
      refine AOps.gskip rfl rfl rfl rfl rfl rfl rfl rfl ?_
      refine AOps.gskip rfl rfl rfl rfl rfl rfl rfl rfl ?_
      refine AOps.gskip rfl rfl rfl rfl rfl rfl rfl rfl ?_
      refine AOps.gskip rfl rfl rfl rfl rfl rfl rfl rfl ?_
      refine AOps.gskip rfl rfl rfl rfl rfl rfl rfl rfl ?_
      refine AOps.cons rfl rfl (q_pick) ?_
      refine AOps.cons rfl rfl (q_move) ?_
      refine AOps.gskip rfl rfl rfl rfl rfl rfl rfl rfl ?_
      refine AOps.gskip rfl rfl rfl rfl rfl rfl rfl rfl ?_
      refine AOps.gskip rfl rfl rfl rfl rfl rfl rfl rfl ?_
      refine AOps.gskip rfl rfl rfl rfl rfl rfl rfl rfl ?_
      refine AOps.gskip rfl rfl rfl rfl rfl rfl rfl rfl ?_
      refine AOps.cons rfl rfl (q_pick) ?_
      refine AOps.cons rfl rfl (q_move) ?_
      refine AOps.gskip rfl rfl rfl rfl rfl rfl rfl rfl ?_
      refine AOps.gskip rfl rfl rfl rfl rfl rfl rfl rfl ?_
      refine AOps.gskip rfl rfl rfl rfl rfl rfl rfl rfl ?_
      refine AOps.gskip rfl rfl rfl rfl rfl rfl rfl rfl ?_
      refine AOps.gskip rfl rfl rfl rfl rfl rfl rfl rfl ?_
      refine AOps.cons rfl rfl (q_pick) ?_
      refine AOps.cons rfl rfl (q_assign) ?_
      refine AOps.nil ?_
      refine AWp.ret ?_
      show Fin te Try.f15 _ _
      refine q_ret (0) [_] [_] ?_
      rw [decide_eq_false (fun q => (of_decide_eq_false h1_10) (by rw [q]))]; rfl
  · skip
    refine AOps.cons rfl rfl (q_move) ?_
    refine AOps.gskip rfl rfl rfl rfl rfl rfl rfl rfl ?_
    refine AOps.gskip rfl rfl rfl rfl rfl rfl rfl rfl ?_
    refine AOps.gskip rfl rfl rfl rfl rfl rfl rfl rfl ?_
    refine AOps.gskip rfl rfl rfl rfl rfl rfl rfl rfl ?_
    refine AOps.gskip rfl rfl rfl rfl rfl rfl rfl rfl ?_
    refine AOps.cons rfl rfl (q_pick) ?_
    refine AOps.cons rfl rfl (q_move) ?_
    refine AOps.gskip rfl rfl rfl rfl rfl rfl rfl rfl ?_
    refine AOps.gskip rfl rfl rfl rfl rfl rfl rfl rfl ?_
    refine AOps.gskip rfl rfl rfl rfl rfl rfl rfl rfl ?_
    refine AOps.gskip rfl rfl rfl rfl rfl rfl rfl rfl ?_
    refine AOps.gskip rfl rfl rfl rfl rfl rfl rfl rfl ?_
    refine AOps.cons rfl rfl (q_pick) ?_
    refine AOps.cons rfl rfl (q_move) ?_
    refine AOps.gskip rfl rfl rfl rfl rfl rfl rfl rfl ?_
    refine AOps.gskip rfl rfl rfl rfl rfl rfl rfl rfl ?_
    refine AOps.gskip rfl rfl rfl rfl rfl rfl rfl rfl ?_
    refine AOps.gskip rfl rfl rfl rfl rfl rfl rfl rfl ?_
    refine AOps.gskip rfl rfl rfl rfl rfl rfl rfl rfl ?_
    refine AOps.cons rfl rfl (q_pick) ?_
    refine AOps.cons rfl rfl (q_move) ?_
    refine AOps.gskip rfl rfl rfl rfl rfl rfl rfl rfl ?_
    refine AOps.gskip rfl rfl rfl rfl rfl rfl rfl rfl ?_
    refine AOps.gskip rfl rfl rfl rfl rfl rfl rfl rfl ?_
    refine AOps.gskip rfl rfl rfl rfl rfl rfl rfl rfl ?_
    refine AOps.gskip rfl rfl rfl rfl rfl rfl rfl rfl ?_
    refine AOps.cons rfl rfl (q_pick) ?_
    refine AOps.cons rfl rfl (q_assign) ?_
    refine AOps.nil ?_
    refine AWp.ret ?_
    show Fin te Try.f15 _ _
    refine q_ret (0) [_] [_] ?_
    have e : decide (a.h = b.h) = false := (hdV a.h b.h).symm.trans h1_4
    rw [decide_eq_false (fun q => (of_decide_eq_false e) (by rw [q]))]; rfl

set_option maxRecDepth 20000 in
theorem c_ciceroneplain_Message (m : Msg) (h : MsgOk m) : AC Try.prog 16 [.agg (msgC m)] emp (Ret (.agg (msgC m))) := by
  obtain ⟨q1, q2, q3, q4⟩ := id h
  refine AC.intro te_ok (fn := Try.f16) ⟨Try.func16, rfl, rfl⟩ (Nat.le_of_ble_eq_true rfl) ?_
  refine AWp.seq ?_
  refine AWp.region ?_
  refine AOps.cons rfl rfl (q_box 100) ?_
  refine AOps.cons rfl rfl (q_alloc 101) ?_
  refine AOps.nil ?_
  refine AWp.seq ?_
  refine AWp.region ?_
  refine AOps.cons rfl rfl (q_fa) ?_
  refine AOps.cons rfl rfl (q_load) ?_
  refine AOps.cons rfl rfl (q_call (0) (hc := (c_Clone_qu m.qs 0 q1))) ?_
  refine AOps.cons rfl rfl (q_fa) ?_
  refine AOps.cons rfl rfl (q_store) ?_
  refine AOps.nil ?_
  refine AWp.seq ?_
  refine AWp.draws [⟨0, [1], [100], some 7, _, none⟩,
      ⟨1, [7], [100], some 8, _, none⟩,
      ⟨2, [8], [], some 9, _, none⟩,
      ⟨3, [1], [100], some 10, _, none⟩,
      ⟨4, [10], [100], some 11, _, none⟩,
      ⟨5, [11], [], some 12, _, none⟩,
      ⟨6, [1], [100], some 13, _, none⟩,
      ⟨7, [13], [100], some 14, _, none⟩,
      ⟨8, [14], [], some 15, _, none⟩,
      ⟨9, [1], [100], some 16, _, none⟩,
      ⟨10, [9, 16], [100], none, _, some (100, _)⟩,
      ⟨11, [1], [100], some 17, _, none⟩,
      ⟨12, [12, 17], [100], none, _, some (100, _)⟩,
      ⟨13, [1], [100], some 18, _, none⟩,
      ⟨14, [15, 18], [100], none, _, some (100, _)⟩]
    [⟨0, [1], [100], some 7, .any, none⟩,
        ⟨1, [7], [100], some 8, .any, none⟩,
        ⟨2, [8], [], some 9, .any, none⟩,
        ⟨3, [1], [100], some 10, .any, none⟩,
        ⟨4, [10], [100], some 11, .any, none⟩,
        ⟨5, [11], [], some 12, .any, none⟩,
        ⟨6, [1], [100], some 13, .any, none⟩,
        ⟨7, [13], [100], some 14, .any, none⟩,
        ⟨8, [14], [], some 15, .any, none⟩,
        ⟨9, [1], [100], some 16, .any, none⟩,
        ⟨10, [9, 16], [100], none, .any, some (100, .box [])⟩,
        ⟨11, [1], [100], some 17, .any, none⟩,
        ⟨12, [12, 17], [100], none, .any, some (100, .box [])⟩,
        ⟨13, [1], [100], some 18, .any, none⟩,
        ⟨14, [15, 18], [100], none, .any, some (100, .box [])⟩]
    mixed_ok rfl (by kernel_rfl) ⟨DS.ok_over fun s0 => OpAt.go rfl rfl (q_fa),
        DS.ok_over fun s0 => OpAt.go rfl rfl (q_load),
        DS.ok_over fun s0 => OpAt.go rfl rfl (q_call (0) (hc := (c_ciceroneplain_RRs m.an 0 q2))),
        DS.ok_over fun s0 => OpAt.go rfl rfl (q_fa),
        DS.ok_over fun s0 => OpAt.go rfl rfl (q_load),
        DS.ok_over fun s0 => OpAt.go rfl rfl (q_call (0) (hc := (c_ciceroneplain_RRs m.au 0 q3))),
        DS.ok_over fun s0 => OpAt.go rfl rfl (q_fa),
        DS.ok_over fun s0 => OpAt.go rfl rfl (q_load),
        DS.ok_over fun s0 => OpAt.go rfl rfl (q_call (0) (hc := (c_ciceroneplain_RRs m.ad 0 q4))),
        DS.ok_over fun s0 => OpAt.go rfl rfl (q_fa),
        DS.ok_over fun s0 => OpAt.go rfl rfl (q_store),
        DS.ok_over fun s0 => OpAt.go rfl rfl (q_fa),
        DS.ok_over fun s0 => OpAt.go rfl rfl (q_store),
        DS.ok_over fun s0 => OpAt.go rfl rfl (q_fa),
        DS.ok_over fun s0 => OpAt.go rfl rfl (q_store), trivial⟩ ?_
  dsimp only [final, DS.upd, AS.seto]
  refine AWp.seq ?_
  refine AWp.region ?_
  refine AOps.cons rfl rfl (q_load) ?_
  refine AOps.cons rfl rfl (q_store) ?_
  refine AOps.nil ?_
  refine AWp.ret ?_
  show Fin te Try.f16 _ _
  refine q_ret (0) [_] [_] ?_
  rfl

end Go.Proofs.Ytolaeondhhnfoaa.Fw
