/- Walks of layer 8: sets, numbers. -/
import Derived.Test.YtaemmklgofddmaaW03d
set_option linter.unusedVariables false
set_option linter.unusedSimpArgs false
namespace Go.Proofs.Ytaemmklgofddmaa.Fw
open Go.RowKit


structure ESet where
  nm : List UInt8
  ty : Int
  cs : Int
  rank : Int
  kind : Int
  exp : Int
  zone : List UInt8
  ds : List (List UInt8)
  deriving Inhabited, DecidableEq
def setC (x : ESet) : List AV := [str x.nm, i64 x.ty, i64 x.cs, i64 x.rank, i64 x.kind, i64 x.exp, str x.zone, .fz 0 x.ds.length (cl (lc 0 bc) x.ds)]
def SetOk (x : ESet) : Prop := x.nm.length ≤ 140737488351232 ∧ x.zone.length ≤ 140737488351232 ∧ x.ds.length * 24 ≤ 140737488351232 ∧ ∀ d ∈ x.ds, d.length ≤ 140737488351232
theorem set_eq {a b : ESet} : a = b ↔ a.nm = b.nm ∧ a.ty = b.ty ∧ a.cs = b.cs ∧ a.rank = b.rank ∧ a.kind = b.kind ∧ a.exp = b.exp ∧ a.zone = b.zone ∧ a.ds = b.ds := by cases a; cases b; simp
theorem eq_step' {α : Type} [Inhabited α] {a b : List α} {i : Nat} (ha : i < a.length) (hb : i < b.length) (h : a.take i = b.take i) (e : a.getD i default = b.getD i default) : a.take (i + 1) = b.take (i + 1) := by
  rw [List.take_succ_eq_append_getElem ha, List.take_succ_eq_append_getElem hb, h]
  rw [List.getD_eq_getElem?_getD, List.getD_eq_getElem?_getD, List.getElem?_eq_getElem ha, List.getElem?_eq_getElem hb, Option.getD_some, Option.getD_some] at e
  rw [e]
theorem take_step' {α : Type} [Inhabited α] {l : List α} {i : Nat} (hi : i < l.length) : l.take (i + 1) = l.take i ++ [l.getD i default] := by
  have := take_map_step (fun y => y) (l := l) hi
  simpa using this
/-- A number in so many bytes. -/
def numW : Nat → Int → List UInt8
  | 0, _ => []
  | w + 1, n => byte (n / 2 ^ (8 * w)) :: numW w n
theorem numW_len : ∀ (w : Nat) (n : Int), (numW w n).length = w
  | 0, _ => rfl
  | w + 1, n => by rw [numW, List.length_cons, numW_len w n]
def numL (w : Nat) (l : List Int) : List UInt8 := l.flatMap (numW w)
theorem numL_len (w : Nat) (l : List Int) : (numL w l).length = w * l.length := by
  induction l with
  | nil => rfl
  | cons n l ih =>
    have : numL w (n :: l) = numW w n ++ numL w l := rfl
    rw [this, List.length_append, ih, numW_len, List.length_cons, Nat.mul_succ]; omega
def keyO (x : ESet) : Bool := canN x.nm && (decide (0 ≤ x.ty) && (decide (x.ty < 65536) && (decide (0 ≤ x.cs) && decide (x.cs < 65536))))

set_option maxRecDepth 20000 in
theorem c_ciceroneref08_Same (a b : ESet) (ha : SetOk a) : AC Try.prog 20 [.agg (setC a), .agg (setC b)] emp (Ret (tf (decide (a = b)))) := by
  obtain ⟨_, _, h3, _⟩ := id ha
  refine AC.intro te_ok (fn := Try.f20) ⟨Try.func20, rfl, rfl⟩ (Nat.le_of_ble_eq_true rfl) ?_
  refine AWp.seq ?_
  refine AWp.region ?_
  refine AOps.cons rfl rfl (q_box 100) ?_
  refine AOps.cons rfl rfl (q_box 101) ?_
  refine AOps.cons rfl rfl (q_assign) ?_
  refine AOps.nil ?_
  refine AWp.seq ?_
  refine AWp.seq ?_
  refine AWp.region ?_
  refine AOps.cons rfl rfl (q_fa) ?_
  refine AOps.cons rfl rfl (q_load) ?_
  refine AOps.cons rfl rfl (q_len) ?_
  refine AOps.cons rfl rfl (q_fa) ?_
  refine AOps.cons rfl rfl (q_load) ?_
  refine AOps.cons rfl rfl (q_len) ?_
  refine AOps.dec rfl rfl (q_neq) (fun h1_6 => ?_) (fun h1_6 => ?_)
  · skip
    refine AOps.nil ?_
    refine AWp.cond_t rfl ?_
    refine AWp.seq ?_
    refine AWp.region ?_
    refine AOps.cons rfl rfl (q_assign) ?_
    refine AOps.nil ?_
    refine AWp.ret ?_
    show Fin te Try.f20 _ _
    refine q_ret (0) [_] [_] ?_
    rw [decide_eq_false (fun e => h1_6 (by rw [e]))]; rfl
  · skip
    refine AOps.nil ?_
    refine AWp.cond_f rfl ?_
    refine AWp.skip ?_
    refine AWp.seq ?_
    refine AWp.seq ?_
    refine AWp.region ?_
    refine AOps.cons rfl rfl (q_fa) ?_
    refine AOps.cons rfl rfl (q_load) ?_
    refine AOps.cons rfl rfl (q_len) ?_
    refine AOps.cons rfl rfl (q_move) ?_
    refine AOps.nil ?_
    refine AWp.block ?_
    refine AWp.loopR (α := Nat) [4, 5, 16, 17, 18, 19, 20, 21, 22, 23, 24, 25, 26, 27, 28, 29, 30, 31, 32] (fun i => [(16, i64 i)]) (fun i => []) (fun i => i ≤ a.ds.length ∧ a.ds.take i = b.ds.take i) (fun i => a.ds.length - i) 0 ?_ (Back.mk' (HasT.cons HasT.nil) HasH.nil) ?_
    · exact ⟨Nat.zero_le _, rfl⟩
    · rintro i ⟨hi, hI⟩
      have hlen : a.ds.length = b.ds.length := by omega
      refine AWp.seq ?_
      refine AWp.region ?_
      refine AOps.dec rfl rfl (q_lss) (fun h4_0 => ?_) (fun h4_0 => ?_)
      · skip
        refine AOps.nil ?_
        refine AWp.seq ?_
        refine AWp.cond_t rfl ?_
        refine AWp.skip ?_
        refine AWp.seq ?_
        refine AWp.block ?_
        refine AWp.seq ?_
        refine AWp.region ?_
        refine AOps.cons rfl rfl (q_move) ?_
        refine AOps.cons rfl rfl (q_assign) ?_
        refine AOps.nil ?_
        refine AWp.seq ?_
        by_cases he : a.ds.getD i default = b.ds.getD i default
        · skip
          refine AWp.draws [⟨0, [2], [100], some 19, _, none⟩,
              ⟨1, [19], [100], some 20, _, none⟩,
              ⟨2, [5], [], some 21, _, none⟩,
              ⟨3, [20, 21], [], some 22, _, none⟩,
              ⟨4, [22], [], some 23, _, none⟩,
              ⟨5, [23], [], some 24, _, none⟩,
              ⟨6, [3], [101], some 25, _, none⟩,
              ⟨7, [25], [101], some 26, _, none⟩,
              ⟨8, [5], [], some 27, _, none⟩,
              ⟨9, [26, 27], [], some 28, _, none⟩,
              ⟨10, [28], [], some 29, _, none⟩,
              ⟨11, [29], [], some 30, _, none⟩,
              ⟨12, [24, 30], [], some 31, _, none⟩]
            [⟨0, [2], [100], some 19, .any, none⟩,
                ⟨1, [19], [100], some 20, .any, none⟩,
                ⟨2, [5], [], some 21, .any, none⟩,
                ⟨3, [20, 21], [], some 22, .any, none⟩,
                ⟨4, [22], [], some 23, .any, none⟩,
                ⟨5, [23], [], some 24, .any, none⟩,
                ⟨6, [3], [101], some 25, .any, none⟩,
                ⟨7, [25], [101], some 26, .any, none⟩,
                ⟨8, [5], [], some 27, .any, none⟩,
                ⟨9, [26, 27], [], some 28, .any, none⟩,
                ⟨10, [28], [], some 29, .any, none⟩,
                ⟨11, [29], [], some 30, .any, none⟩,
                ⟨12, [24, 30], [], some 31, .any, none⟩]
            mixed_ok rfl (by kernel_rfl) ⟨DS.ok_over fun s0 => OpAt.go rfl rfl (q_fa),
                DS.ok_over fun s0 => OpAt.go rfl rfl (q_load),
                DS.ok_over fun s0 => OpAt.go rfl rfl (q_move),
                DS.ok_over fun s0 => OpAt.go rfl rfl (q_ix),
                DS.ok_over fun s0 => OpAt.go rfl rfl (q_load),
                DS.ok_over fun s0 => OpAt.go rfl rfl (by first | exact q_conv_zs | exact q_conv_ls),
                DS.ok_over fun s0 => OpAt.go rfl rfl (q_fa),
                DS.ok_over fun s0 => OpAt.go rfl rfl (q_load),
                DS.ok_over fun s0 => OpAt.go rfl rfl (q_move),
                DS.ok_over fun s0 => OpAt.go rfl rfl (q_ix),
                DS.ok_over fun s0 => OpAt.go rfl rfl (q_load),
                DS.ok_over fun s0 => OpAt.go rfl rfl (by first | exact q_conv_zs | exact q_conv_ls),
                DS.ok_over fun s0 => OpAt.go rfl rfl ((OpOk.dec_f (q_sneq) (fun h => h he))), trivial⟩ ?_
          dsimp only [final, DS.upd, AS.seto]
          refine AWp.cond_f rfl ?_
          refine AWp.skip ?_
          refine AWp.region ?_
          refine AOps.cons rfl rfl (q_add) ?_
          refine AOps.cons rfl rfl (q_move) ?_
          refine AOps.nil ?_
          refine ⟨i + 1, ?_, Back.mk' (HasT.cons HasT.nil) HasH.nil, ?_⟩
          · exact ⟨by omega, eq_step' (by omega) (by omega) hI he⟩
          · first | omega | (simp; omega)
        · skip
          refine AWp.draws [⟨0, [2], [100], some 19, _, none⟩,
              ⟨1, [19], [100], some 20, _, none⟩,
              ⟨2, [5], [], some 21, _, none⟩,
              ⟨3, [20, 21], [], some 22, _, none⟩,
              ⟨4, [22], [], some 23, _, none⟩,
              ⟨5, [23], [], some 24, _, none⟩,
              ⟨6, [3], [101], some 25, _, none⟩,
              ⟨7, [25], [101], some 26, _, none⟩,
              ⟨8, [5], [], some 27, _, none⟩,
              ⟨9, [26, 27], [], some 28, _, none⟩,
              ⟨10, [28], [], some 29, _, none⟩,
              ⟨11, [29], [], some 30, _, none⟩,
              ⟨12, [24, 30], [], some 31, _, none⟩]
            [⟨0, [2], [100], some 19, .any, none⟩,
                ⟨1, [19], [100], some 20, .any, none⟩,
                ⟨2, [5], [], some 21, .any, none⟩,
                ⟨3, [20, 21], [], some 22, .any, none⟩,
                ⟨4, [22], [], some 23, .any, none⟩,
                ⟨5, [23], [], some 24, .any, none⟩,
                ⟨6, [3], [101], some 25, .any, none⟩,
                ⟨7, [25], [101], some 26, .any, none⟩,
                ⟨8, [5], [], some 27, .any, none⟩,
                ⟨9, [26, 27], [], some 28, .any, none⟩,
                ⟨10, [28], [], some 29, .any, none⟩,
                ⟨11, [29], [], some 30, .any, none⟩,
                ⟨12, [24, 30], [], some 31, .any, none⟩]
            mixed_ok rfl (by kernel_rfl) ⟨DS.ok_over fun s0 => OpAt.go rfl rfl (q_fa),
                DS.ok_over fun s0 => OpAt.go rfl rfl (q_load),
                DS.ok_over fun s0 => OpAt.go rfl rfl (q_move),
                DS.ok_over fun s0 => OpAt.go rfl rfl (q_ix),
                DS.ok_over fun s0 => OpAt.go rfl rfl (q_load),
                DS.ok_over fun s0 => OpAt.go rfl rfl (by first | exact q_conv_zs | exact q_conv_ls),
                DS.ok_over fun s0 => OpAt.go rfl rfl (q_fa),
                DS.ok_over fun s0 => OpAt.go rfl rfl (q_load),
                DS.ok_over fun s0 => OpAt.go rfl rfl (q_move),
                DS.ok_over fun s0 => OpAt.go rfl rfl (q_ix),
                DS.ok_over fun s0 => OpAt.go rfl rfl (q_load),
                DS.ok_over fun s0 => OpAt.go rfl rfl (by first | exact q_conv_zs | exact q_conv_ls),
                DS.ok_over fun s0 => OpAt.go rfl rfl ((OpOk.dec_t (q_sneq) (he))), trivial⟩ ?_
          dsimp only [final, DS.upd, AS.seto]
          refine AWp.cond_t rfl ?_
          refine AWp.seq ?_
          refine AWp.region ?_
          refine AOps.cons rfl rfl (q_assign) ?_
          refine AOps.nil ?_
          refine AWp.ret ?_
          show Fin te Try.f20 _ _
          refine q_ret (0) [_] [_] ?_
          rw [decide_eq_false (fun e => he (by rw [e]))]; rfl
      · skip
        refine AOps.nil ?_
        refine AWp.seq ?_
        refine AWp.cond_f rfl ?_
        refine AWp.exit ?_
        refine AWp.seq ?_
        refine AWp.region ?_
        have e8 : a.ds = b.ds := by rw [List.take_of_length_le (by omega), List.take_of_length_le (by omega)] at hI; exact hI
        refine AOps.cons rfl rfl (q_fa) ?_
        refine AOps.cons rfl rfl (q_load) ?_
        refine AOps.cons rfl rfl (q_fa) ?_
        refine AOps.cons rfl rfl (q_load) ?_
        refine AOps.dec rfl rfl (q_seql) (fun h9_4 => ?_) (fun h9_4 => ?_)
        · skip
          refine AOps.cons rfl rfl (q_move) ?_
          refine AOps.gcons rfl rfl rfl rfl rfl (q_fa) ?_
          refine AOps.gcons rfl rfl rfl rfl rfl (q_load) ?_
          refine AOps.gcons rfl rfl rfl rfl rfl (q_fa) ?_
          refine AOps.gcons rfl rfl rfl rfl rfl (q_load) ?_
          refine AOps.gdec rfl rfl rfl rfl rfl (q_eql) (fun h9_10 => ?_) (fun h9_10 => ?_)
          · skip
            refine AOps.cons rfl rfl (q_pick) ?_
            refine AOps.cons rfl rfl (q_move) ?_
            refine AOps.gcons rfl rfl rfl rfl rfl (q_fa) ?_
            refine AOps.gcons rfl rfl rfl rfl rfl (q_load) ?_
            refine AOps.gcons rfl rfl rfl rfl rfl (q_fa) ?_
            refine AOps.gcons rfl rfl rfl rfl rfl (q_load) ?_
            refine AOps.gdec rfl rfl rfl rfl rfl (q_eql) (fun h9_17 => ?_) (fun h9_17 => ?_)
            · skip
              refine AOps.cons rfl rfl (q_pick) ?_
              refine AOps.cons rfl rfl (q_move) ?_
              refine AOps.gcons rfl rfl rfl rfl rfl (q_fa) ?_
              refine AOps.gcons rfl rfl rfl rfl rfl (q_load) ?_
              refine AOps.gcons rfl rfl rfl rfl rfl (q_fa) ?_
              refine AOps.gcons rfl rfl rfl rfl rfl (q_load) ?_
              refine AOps.gdec rfl rfl rfl rfl rfl (q_eql) (fun h9_24 => ?_) (fun h9_24 => ?_)
              · skip
                refine AOps.cons rfl rfl (q_pick) ?_
                refine AOps.cons rfl rfl (q_move) ?_
                refine AOps.gcons rfl rfl rfl rfl rfl (q_fa) ?_
                refine AOps.gcons rfl rfl rfl rfl rfl (q_load) ?_
                refine AOps.gcons rfl rfl rfl rfl rfl (q_fa) ?_
                refine AOps.gcons rfl rfl rfl rfl rfl (q_load) ?_
                refine AOps.gdec rfl rfl rfl rfl rfl (q_eql) (fun h9_31 => ?_) (fun h9_31 => ?_)
                · skip
                  refine AOps.cons rfl rfl (q_pick) ?_
                  refine AOps.cons rfl rfl (q_move) ?_
                  refine AOps.gcons rfl rfl rfl rfl rfl (q_fa) ?_
                  refine AOps.gcons rfl rfl rfl rfl rfl (q_load) ?_
                  refine AOps.gcons rfl rfl rfl rfl rfl (q_fa) ?_
                  refine AOps.gcons rfl rfl rfl rfl rfl (q_load) ?_
                  refine AOps.gdec rfl rfl rfl rfl rfl (q_eql) (fun h9_38 => ?_) (fun h9_38 => ?_)
                  · skip
                    refine AOps.cons rfl rfl (q_pick) ?_
                    refine AOps.cons rfl rfl (q_move) ?_
                    refine AOps.gcons rfl rfl rfl rfl rfl (q_fa) ?_
                    refine AOps.gcons rfl rfl rfl rfl rfl (q_load) ?_
                    refine AOps.gcons rfl rfl rfl rfl rfl (q_fa) ?_
                    refine AOps.gcons rfl rfl rfl rfl rfl (q_load) ?_
                    refine AOps.gcons rfl rfl rfl rfl rfl (q_seql) ?_
                    refine AOps.cons rfl rfl (q_pick) ?_
                    refine AOps.cons rfl rfl (q_assign) ?_
                    refine AOps.nil ?_
                    refine AWp.ret ?_
                    show Fin te Try.f20 _ _
                    refine q_ret (0) [_] [_] ?_
                    exact congrArg tf (decide_eq_decide.2 (by rw [set_eq]; simp [*]))
                  · skip
                    refine AOps.cons rfl rfl (q_pick) ?_
                    refine AOps.cons rfl rfl (q_move) ?_
                    refine AOps.gskip rfl rfl rfl rfl rfl rfl rfl rfl ?_
                    refine AOps.gskip rfl rfl rfl rfl rfl rfl rfl rfl ?_
                    refine AOps.gskip rfl rfl rfl rfl rfl rfl rfl rfl ?_
                    refine AOps.gskip rfl rfl rfl rfl rfl rfl rfl rfl ?_
                    refine AOps.gskip rfl rfl rfl rfl rfl rfl rfl rfl ?_
                    refine AOps.cons rfl rfl (q_pick) ?_
                    refine AOps.cons rfl rfl (q_assign) ?_
                    refine AOps.nil ?_
                    refine AWp.ret ?_
                    show Fin te Try.f20 _ _
                    refine q_ret (0) [_] [_] ?_
                    rw [decide_eq_false (fun e => h9_38 (by rw [e]))]; rfl
                · skip
                  refine AOps.cons rfl rfl (q_pick) ?_
                  refine AOps.cons rfl rfl (q_move) ?_
                  refine AOps.gskip rfl rfl rfl rfl rfl rfl rfl rfl ?_
                  refine AOps.gskip rfl rfl rfl rfl rfl rfl rfl rfl ?_
                  refine AOps.gskip rfl rfl rfl rfl rfl rfl rfl rfl ?_
                  refine AOps.gskip rfl rfl rfl rfl rfl rfl rfl rfl ?_
                  refine AOps.gskip rfl rfl rfl rfl rfl rfl rfl rfl ?_
                  refine AOps.cons rfl rfl (q_pick) ?_
                  refine AOps.cons rfl rfl (q_move) ?_
                  refine AOps.gskip rfl rfl rfl rfl rfl rfl rfl rfl ?_
                  refine AOps.gskip rfl rfl rfl rfl rfl rfl rfl rfl ?_
                  refine AOps.gskip rfl rfl rfl rfl rfl rfl rfl rfl ?_
                  refine AOps.gskip rfl rfl rfl rfl rfl rfl rfl rfl ?_
                  refine AOps.gskip rfl rfl rfl rfl rfl rfl rfl rfl ?_
                  refine AOps.cons rfl rfl (q_pick) ?_
                  refine AOps.cons rfl rfl (q_assign) ?_
                  refine AOps.nil ?_
                  refine AWp.ret ?_
                  show Fin te Try.f20 _ _
                  refine q_ret (0) [_] [_] ?_
                  rw [decide_eq_false (fun e => h9_31 (by rw [e]))]; rfl
              · skip
                refine AOps.cons rfl rfl (q_pick) ?_
                refine AOps.cons rfl rfl (q_move) ?_
                refine AOps.gskip rfl rfl rfl rfl rfl rfl rfl rfl ?_
                refine AOps.gskip rfl rfl rfl rfl rfl rfl rfl rfl ?_
                refine AOps.gskip rfl rfl rfl rfl rfl rfl rfl rfl ?_
                refine AOps.gskip rfl rfl rfl rfl rfl rfl rfl rfl ?_
                refine AOps.gskip rfl rfl rfl rfl rfl rfl rfl rfl ?_
                refine AOps.cons rfl rfl (q_pick) ?_
                refine AOps.cons rfl rfl (q_move) ?_
                refine AOps.gskip rfl rfl rfl rfl rfl rfl rfl rfl ?_
                refine AOps.gskip rfl rfl rfl rfl rfl rfl rfl rfl ?_
                refine AOps.gskip rfl rfl rfl rfl rfl rfl rfl rfl ?_
                refine AOps.gskip rfl rfl rfl rfl rfl rfl rfl rfl ?_
                refine AOps.gskip rfl rfl rfl rfl rfl rfl rfl rfl ?_
                refine AOps.cons rfl rfl (q_pick) ?_
                refine AOps.cons rfl rfl (q_move) ?_
                refine AOps.gskip rfl rfl rfl rfl rfl rfl rfl rfl ?_
                refine AOps.gskip rfl rfl rfl rfl rfl rfl rfl rfl ?_
                refine AOps.gskip rfl rfl rfl rfl rfl rfl rfl rfl ?_
                refine AOps.gskip rfl rfl rfl rfl rfl rfl rfl rfl ?_
                refine AOps.gskip rfl rfl rfl rfl rfl rfl rfl rfl ?_
                refine AOps.cons rfl rfl (q_pick) ?_
                refine AOps.cons rfl rfl (q_assign) ?_
                refine AOps.nil ?_
                refine AWp.ret ?_
                show Fin te Try.f20 _ _
                refine q_ret (0) [_] [_] ?_
                rw [decide_eq_false (fun e => h9_24 (by rw [e]))]; rfl
            · skip
              refine AOps.cons rfl rfl (q_pick) ?_
              refine AOps.cons rfl rfl (q_move) ?_
              refine AOps.gskip rfl rfl rfl rfl rfl rfl rfl rfl ?_
              refine AOps.gskip rfl rfl rfl rfl rfl rfl rfl rfl ?_
              refine AOps.gskip rfl rfl rfl rfl rfl rfl rfl rfl ?_
              refine AOps.gskip rfl rfl rfl rfl rfl rfl rfl rfl ?_
              refine AOps.gskip rfl rfl rfl rfl rfl rfl rfl rfl ?_
              refine AOps.cons rfl rfl (q_pick) ?_
              refine AOps.cons rfl rfl (q_move) ?_
              refine AOps.gskip rfl rfl rfl rfl rfl rfl rfl rfl ?_
              refine AOps.gskip rfl rfl rfl rfl rfl rfl rfl rfl ?_
              refine AOps.gskip rfl rfl rfl rfl rfl rfl rfl rfl ?_
              refine AOps.gskip rfl rfl rfl rfl rfl rfl rfl rfl ?_
              refine AOps.gskip rfl rfl rfl rfl rfl rfl rfl rfl ?_
              refine AOps.cons rfl rfl (q_pick) ?_
              refine AOps.cons rfl rfl (q_move) ?_
              refine AOps.gskip rfl rfl rfl rfl rfl rfl rfl rfl ?_
              refine AOps.gskip rfl rfl rfl rfl rfl rfl rfl rfl ?_
              refine AOps.gskip rfl rfl rfl rfl rfl rfl rfl rfl ?_
              refine AOps.gskip rfl rfl rfl rfl rfl rfl rfl rfl ?_
              refine AOps.gskip rfl rfl rfl rfl rfl rfl rfl rfl ?_
              refine AOps.cons rfl rfl (q_pick) ?_
              refine AOps.cons rfl rfl (q_move) ?_
              refine AOps.gskip rfl rfl rfl rfl rfl rfl rfl rfl ?_
              refine AOps.gskip rfl rfl rfl rfl rfl rfl rfl rfl ?_
              refine AOps.gskip rfl rfl rfl rfl rfl rfl rfl rfl ?_
              refine AOps.gskip rfl rfl rfl rfl rfl rfl rfl rfl ?_
              refine AOps.gskip rfl rfl rfl rfl rfl rfl rfl rfl ?_
              refine AOps.cons rfl rfl (q_pick) ?_
              refine AOps.cons rfl rfl (q_assign) ?_
              refine AOps.nil ?_
              refine AWp.ret ?_
              show Fin te Try.f20 _ _
              refine q_ret (0) [_] [_] ?_
              rw [decide_eq_false (fun e => h9_17 (by rw [e]))]; rfl
          · skip
            refine AOps.cons rfl rfl (q_pick) ?_
            refine AOps.cons rfl rfl (q_move) ?_
            refine AOps.gskip rfl rfl rfl rfl rfl rfl rfl rfl ?_
            refine AOps.gskip rfl rfl rfl rfl rfl rfl rfl rfl ?_
            refine AOps.gskip rfl rfl rfl rfl rfl rfl rfl rfl ?_
            refine AOps.gskip rfl rfl rfl rfl rfl rfl rfl rfl ?_
            refine AOps.gskip rfl rfl rfl rfl rfl rfl rfl rfl ?_
            refine AOps.cons rfl rfl (q_pick) ?_
            refine AOps.cons rfl rfl (q_move) ?_
            refine AOps.gskip rfl rfl rfl rfl rfl rfl rfl rfl ?_
            refine AOps.gskip rfl rfl rfl rfl rfl rfl rfl rfl ?_
            refine AOps.gskip rfl rfl rfl rfl rfl rfl rfl rfl ?_
            refine AOps.gskip rfl rfl rfl rfl rfl rfl rfl rfl ?_
            refine AOps.gskip rfl rfl rfl rfl rfl rfl rfl rfl ?_
            refine AOps.cons rfl rfl (q_pick) ?_
            refine AOps.cons rfl rfl (q_move) ?_
            refine AOps.gskip rfl rfl rfl rfl rfl rfl rfl rfl ?_
            refine AOps.gskip rfl rfl rfl rfl rfl rfl rfl rfl ?_
            refine AOps.gskip rfl rfl rfl rfl rfl rfl rfl rfl ?_
            refine AOps.gskip rfl rfl rfl rfl rfl rfl rfl rfl ?_
            refine AOps.gskip rfl rfl rfl rfl rfl rfl rfl rfl ?_
            refine AOps.cons rfl rfl (q_pick) ?_
            refine AOps.cons rfl rfl (q_move) ?_
            refine AOps.gskip rfl rfl rfl rfl rfl rfl rfl rfl ?_
            refine AOps.gskip rfl rfl rfl rfl rfl rfl rfl rfl ?_
            refine AOps.gskip rfl rfl rfl rfl rfl rfl rfl rfl ?_
            refine AOps.gskip rfl rfl rfl rfl rfl rfl rfl rfl ?_
            refine AOps.gskip rfl rfl rfl rfl rfl rfl rfl rfl ?_
            refine AOps.cons rfl rfl (q_pick) ?_
            refine AOps.cons rfl rfl (q_move) ?_
            refine AOps.gskip rfl rfl rfl rfl rfl rfl rfl rfl ?_
            refine AOps.gskip rfl rfl rfl rfl rfl rfl rfl rfl ?_
            refine AOps.gskip rfl rfl rfl rfl rfl rfl rfl rfl ?_
            refine AOps.gskip rfl rfl rfl rfl rfl rfl rfl rfl ?_
            refine AOps.gskip rfl rfl rfl rfl rfl rfl rfl rfl ?_
            refine AOps.cons rfl rfl (q_pick) ?_
            refine AOps.cons rfl rfl (q_assign) ?_
            refine AOps.nil ?_
            refine AWp.ret ?_
            show Fin te Try.f20 _ _
            refine q_ret (0) [_] [_] ?_
            rw [decide_eq_false (fun e => h9_10 (by rw [e]))]; rfl
        · skip
          refine AOps.cons rfl rfl (q_move) ?_
          refine AOps.gskip rfl rfl rfl rfl rfl rfl rfl rfl ?_
          refine AOps.gskip rfl rfl rfl rfl rfl rfl rfl rfl ?_
          refine AOps.gskip rfl rfl rfl rfl rfl rfl rfl rfl ?_
          refine AOps.gskip rfl rfl rfl rfl rfl rfl rfl rfl ?_
          refine AOps.gskip rfl rfl rfl rfl rfl rfl rfl rfl ?_
          refine AOps.cons rfl rfl (q_pick) ?_
          refine AOps.cons rfl rfl (q_move) ?_
          refine AOps.gskip rfl rfl rfl rfl rfl rfl rfl rfl ?_
          refine AOps.gskip rfl rfl rfl rfl rfl rfl rfl rfl ?_
          refine AOps.gskip rfl rfl rfl rfl rfl rfl rfl rfl ?_
          refine AOps.gskip rfl rfl rfl rfl rfl rfl rfl rfl ?_
          refine AOps.gskip rfl rfl rfl rfl rfl rfl rfl rfl ?_
          refine AOps.cons rfl rfl (q_pick) ?_
          refine AOps.cons rfl rfl (q_move) ?_
          refine AOps.gskip rfl rfl rfl rfl rfl rfl rfl rfl ?_
          refine AOps.gskip rfl rfl rfl rfl rfl rfl rfl rfl ?_
          refine AOps.gskip rfl rfl rfl rfl rfl rfl rfl rfl ?_
          refine AOps.gskip rfl rfl rfl rfl rfl rfl rfl rfl ?_
          refine AOps.gskip rfl rfl rfl rfl rfl rfl rfl rfl ?_
          refine AOps.cons rfl rfl (q_pick) ?_
          refine AOps.cons rfl rfl (q_move) ?_
          refine AOps.gskip rfl rfl rfl rfl rfl rfl rfl rfl ?_
          refine AOps.gskip rfl rfl rfl rfl rfl rfl rfl rfl ?_
          refine AOps.gskip rfl rfl rfl rfl rfl rfl rfl rfl ?_
          refine AOps.gskip rfl rfl rfl rfl rfl rfl rfl rfl ?_
          refine AOps.gskip rfl rfl rfl rfl rfl rfl rfl rfl ?_
          refine AOps.cons rfl rfl (q_pick) ?_
          refine AOps.cons rfl rfl (q_move) ?_
          refine AOps.gskip rfl rfl rfl rfl rfl rfl rfl rfl ?_
          refine AOps.gskip rfl rfl rfl rfl rfl rfl rfl rfl ?_
          refine AOps.gskip rfl rfl rfl rfl rfl rfl rfl rfl ?_
          refine AOps.gskip rfl rfl rfl rfl rfl rfl rfl rfl ?_
          refine AOps.gskip rfl rfl rfl rfl rfl rfl rfl rfl ?_
          refine AOps.cons rfl rfl (q_pick) ?_
          refine AOps.cons rfl rfl (q_move) ?_
          refine AOps.gskip rfl rfl rfl rfl rfl rfl rfl rfl ?_
          refine AOps.gskip rfl rfl rfl rfl rfl rfl rfl rfl ?_
          refine AOps.gskip rfl rfl rfl rfl rfl rfl rfl rfl ?_
          refine AOps.gskip rfl rfl rfl rfl rfl rfl rfl rfl ?_
          refine AOps.gskip rfl rfl rfl rfl rfl rfl rfl rfl ?_
          refine AOps.cons rfl rfl (q_pick) ?_
          refine AOps.cons rfl rfl (q_assign) ?_
          refine AOps.nil ?_
          refine AWp.ret ?_
          show Fin te Try.f20 _ _
          refine q_ret (0) [_] [_] ?_
          rw [decide_eq_false (fun e => h9_4 (by rw [e]))]; rfl

set_option maxRecDepth 20000 in
theorem c_entry_key (x : ESet) (hx : SetOk x) : AC Try.prog 35 [.agg (setC x)] emp (Ret (tf (keyO x))) := by
  obtain ⟨h1, _⟩ := id hx
  refine AC.intro te_ok (fn := Try.f35) ⟨Try.func35, rfl, rfl⟩ (Nat.le_of_ble_eq_true rfl) ?_
  refine AWp.seq ?_
  refine AWp.region ?_
  refine AOps.cons rfl rfl (q_box 100) ?_
  refine AOps.cons rfl rfl (q_assign) ?_
  refine AOps.nil ?_
  refine AWp.seq ?_
  refine AWp.region ?_
  refine AOps.cons rfl rfl (q_fa) ?_
  refine AOps.cons rfl rfl (q_load) ?_
  refine AOps.bool rfl rfl (q_call (0) (hc := c_name_Can _ (by first | assumption | omega | decide | (simp; omega) | (simp [*]; done)))) (fun h1_2 => ?_) (fun h1_2 => ?_)
  · skip
    refine AOps.cons rfl rfl (q_move) ?_
    refine AOps.gcons rfl rfl rfl rfl rfl (q_fa) ?_
    refine AOps.gcons rfl rfl rfl rfl rfl (q_load) ?_
    refine AOps.gdec rfl rfl rfl rfl rfl (q_geq) (fun h1_6 => ?_) (fun h1_6 => ?_)
    · skip
      refine AOps.cons rfl rfl (q_pick) ?_
      refine AOps.cons rfl rfl (q_move) ?_
      refine AOps.gcons rfl rfl rfl rfl rfl (q_fa) ?_
      refine AOps.gcons rfl rfl rfl rfl rfl (q_load) ?_
      refine AOps.gdec rfl rfl rfl rfl rfl (q_lss) (fun h1_11 => ?_) (fun h1_11 => ?_)
      · skip
        refine AOps.cons rfl rfl (q_pick) ?_
        refine AOps.cons rfl rfl (q_move) ?_
        refine AOps.gcons rfl rfl rfl rfl rfl (q_fa) ?_
        refine AOps.gcons rfl rfl rfl rfl rfl (q_load) ?_
        refine AOps.gdec rfl rfl rfl rfl rfl (q_geq) (fun h1_16 => ?_) (fun h1_16 => ?_)
        · skip
          refine AOps.cons rfl rfl (q_pick) ?_
          refine AOps.cons rfl rfl (q_move) ?_
          refine AOps.gcons rfl rfl rfl rfl rfl (q_fa) ?_
          refine AOps.gcons rfl rfl rfl rfl rfl (q_load) ?_
          refine AOps.gcons rfl rfl rfl rfl rfl (q_lss) ?_
          refine AOps.cons rfl rfl (q_pick) ?_
          refine AOps.cons rfl rfl (q_assign) ?_
          refine AOps.nil ?_
          refine AWp.ret ?_
          show Fin te Try.f35 _ _
          refine q_ret (0) [_] [_] ?_
          rw [keyO, h1_2, decide_eq_true h1_6, decide_eq_true h1_11, decide_eq_true h1_16]; rfl
        · skip
          refine AOps.cons rfl rfl (q_pick) ?_
          refine AOps.cons rfl rfl (q_move) ?_
          refine AOps.gskip rfl rfl rfl rfl rfl rfl rfl rfl ?_
          refine AOps.gskip rfl rfl rfl rfl rfl rfl rfl rfl ?_
          refine AOps.gskip rfl rfl rfl rfl rfl rfl rfl rfl ?_
          refine AOps.cons rfl rfl (q_pick) ?_
          refine AOps.cons rfl rfl (q_assign) ?_
          refine AOps.nil ?_
          refine AWp.ret ?_
          show Fin te Try.f35 _ _
          refine q_ret (0) [_] [_] ?_
          rw [keyO, h1_2, decide_eq_true h1_6, decide_eq_true h1_11, decide_eq_false h1_16]; rfl
      · skip
        refine AOps.cons rfl rfl (q_pick) ?_
        refine AOps.cons rfl rfl (q_move) ?_
        refine AOps.gskip rfl rfl rfl rfl rfl rfl rfl rfl ?_
        refine AOps.gskip rfl rfl rfl rfl rfl rfl rfl rfl ?_
        refine AOps.gskip rfl rfl rfl rfl rfl rfl rfl rfl ?_
        refine AOps.cons rfl rfl (q_pick) ?_
        refine AOps.cons rfl rfl (q_move) ?_
        refine AOps.gskip rfl rfl rfl rfl rfl rfl rfl rfl ?_
        refine AOps.gskip rfl rfl rfl rfl rfl rfl rfl rfl ?_
        refine AOps.gskip rfl rfl rfl rfl rfl rfl rfl rfl ?_
        refine AOps.cons rfl rfl (q_pick) ?_
        refine AOps.cons rfl rfl (q_assign) ?_
        refine AOps.nil ?_
        refine AWp.ret ?_
        show Fin te Try.f35 _ _
        refine q_ret (0) [_] [_] ?_
        rw [keyO, h1_2, decide_eq_true h1_6, decide_eq_false h1_11]; rfl
    · skip
      refine AOps.cons rfl rfl (q_pick) ?_
      refine AOps.cons rfl rfl (q_move) ?_
      refine AOps.gskip rfl rfl rfl rfl rfl rfl rfl rfl ?_
      refine AOps.gskip rfl rfl rfl rfl rfl rfl rfl rfl ?_
      refine AOps.gskip rfl rfl rfl rfl rfl rfl rfl rfl ?_
      refine AOps.cons rfl rfl (q_pick) ?_
      refine AOps.cons rfl rfl (q_move) ?_
      refine AOps.gskip rfl rfl rfl rfl rfl rfl rfl rfl ?_
      refine AOps.gskip rfl rfl rfl rfl rfl rfl rfl rfl ?_
      refine AOps.gskip rfl rfl rfl rfl rfl rfl rfl rfl ?_
      refine AOps.cons rfl rfl (q_pick) ?_
      refine AOps.cons rfl rfl (q_move) ?_
      refine AOps.gskip rfl rfl rfl rfl rfl rfl rfl rfl ?_
      refine AOps.gskip rfl rfl rfl rfl rfl rfl rfl rfl ?_
      refine AOps.gskip rfl rfl rfl rfl rfl rfl rfl rfl ?_
      refine AOps.cons rfl rfl (q_pick) ?_
      refine AOps.cons rfl rfl (q_assign) ?_
      refine AOps.nil ?_
      refine AWp.ret ?_
      show Fin te Try.f35 _ _
      refine q_ret (0) [_] [_] ?_
      rw [keyO, h1_2, decide_eq_false h1_6]; rfl
  · skip
    refine AOps.cons rfl rfl (q_move) ?_
    refine AOps.gskip rfl rfl rfl rfl rfl rfl rfl rfl ?_
    refine AOps.gskip rfl rfl rfl rfl rfl rfl rfl rfl ?_
    refine AOps.gskip rfl rfl rfl rfl rfl rfl rfl rfl ?_
    refine AOps.cons rfl rfl (q_pick) ?_
    refine AOps.cons rfl rfl (q_move) ?_
    refine AOps.gskip rfl rfl rfl rfl rfl rfl rfl rfl ?_
    refine AOps.gskip rfl rfl rfl rfl rfl rfl rfl rfl ?_
    refine AOps.gskip rfl rfl rfl rfl rfl rfl rfl rfl ?_
    refine AOps.cons rfl rfl (q_pick) ?_
    refine AOps.cons rfl rfl (q_move) ?_
    refine AOps.gskip rfl rfl rfl rfl rfl rfl rfl rfl ?_
    refine AOps.gskip rfl rfl rfl rfl rfl rfl rfl rfl ?_
    refine AOps.gskip rfl rfl rfl rfl rfl rfl rfl rfl ?_
    refine AOps.cons rfl rfl (q_pick) ?_
    refine AOps.cons rfl rfl (q_move) ?_
    refine AOps.gskip rfl rfl rfl rfl rfl rfl rfl rfl ?_
    refine AOps.gskip rfl rfl rfl rfl rfl rfl rfl rfl ?_
    refine AOps.gskip rfl rfl rfl rfl rfl rfl rfl rfl ?_
    refine AOps.cons rfl rfl (q_pick) ?_
    refine AOps.cons rfl rfl (q_assign) ?_
    refine AOps.nil ?_
    refine AWp.ret ?_
    show Fin te Try.f35 _ _
    refine q_ret (0) [_] [_] ?_
    rw [keyO, h1_2]; rfl

end Go.Proofs.Ytaemmklgofddmaa.Fw
