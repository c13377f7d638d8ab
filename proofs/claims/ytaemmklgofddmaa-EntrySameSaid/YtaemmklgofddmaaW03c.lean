/- Walks of layer 3: an SOA's bytes; the reference's. -/
import Derived.Test.YtaemmklgofddmaaW03b
set_option linter.unusedVariables false
set_option linter.unusedSimpArgs false
namespace Go.Proofs.Ytaemmklgofddmaa.Fw
open Go.RowKit


def ns (x : Soa) : List Int := [x.n1, x.n2, x.n3, x.n4, x.n5]
def fourB (n : Int) : List UInt8 := [byte (n / 2 ^ 24), byte (n / 2 ^ 16), byte (n / 2 ^ 8), byte n]
def okN (n : Int) : Bool := decide (0 ≤ n ∧ n ≤ 4294967295)
def mkO (x : Soa) : Bool := canN x.m && (canN x.r && (ns x).all okN)
def mkB (x : Soa) : List UInt8 := if mkO x then x.m ++ x.r ++ (ns x).flatMap fourB else []
def mkE (x : Soa) : Int := if mkO x then 0 else 1
theorem mk_no {x : Soa} (h : mkO x = false) : mkB x = [] ∧ mkE x = 1 := by simp [mkB, mkE, h]
theorem mk_yes {x : Soa} (h : mkO x = true) : mkB x = x.m ++ x.r ++ (ns x).flatMap fourB ∧ mkE x = 0 := by simp [mkB, mkE, h]
theorem mk_bad {x : Soa} {i : Nat} (h : i < 5) (hn : ¬ (0 ≤ (ns x).getD i default ∧ (ns x).getD i default ≤ 4294967295)) : mkO x = false := by
  have hm : (ns x).getD i default ∈ ns x := getD_mem' (l := ns x) h
  cases ho : mkO x with
  | false => rfl
  | true =>
    simp only [mkO, Bool.and_eq_true, List.all_eq_true] at ho
    have := ho.2.2 _ hm
    rw [okN, decide_eq_true_eq] at this
    exact absurd this hn
theorem mk_good {x : Soa} (h1 : canN x.m = true) (h2 : canN x.r = true) (h3 : ∀ n ∈ ns x, 0 ≤ n ∧ n ≤ 4294967295) : mkO x = true := by
  rw [mkO, h1, h2]
  simp only [Bool.true_and, List.all_eq_true]
  exact fun n hn => decide_eq_true (h3 n hn)
theorem ns_step {x : Soa} {i : Nat} (h : i < 5) (hI : ∀ n ∈ (ns x).take i, 0 ≤ n ∧ n ≤ 4294967295) (h1 : 0 ≤ (ns x).getD i default ∧ (ns x).getD i default ≤ 4294967295) : ∀ n ∈ (ns x).take (i + 1), 0 ≤ n ∧ n ≤ 4294967295 := by
  intro n hn
  have e : (ns x).take (i + 1) = (ns x).take i ++ [(ns x).getD i default] := by
    have := take_map_step (fun y => y) (l := ns x) (i := i) h
    simpa using this
  rw [e] at hn
  rcases List.mem_append.1 hn with hn | hn
  · exact hI n hn
  · rw [List.mem_singleton.1 hn]; exact h1
theorem ns_flat {x : Soa} {i : Nat} (h : i < 5) : ((ns x).take (i + 1)).flatMap fourB = ((ns x).take i).flatMap fourB ++ fourB ((ns x).getD i default) := by
  have e : (ns x).take (i + 1) = (ns x).take i ++ [(ns x).getD i default] := by
    have := take_map_step (fun y => y) (l := ns x) (i := i) h
    simpa using this
  rw [e, List.flatMap_append]
  simp
theorem ns_len {x : Soa} {i : Nat} (h : i ≤ 5) : (((ns x).take i).flatMap fourB).length = 4 * i := by
  have : i = 0 ∨ i = 1 ∨ i = 2 ∨ i = 3 ∨ i = 4 ∨ i = 5 := by omega
  rcases this with rfl | rfl | rfl | rfl | rfl | rfl <;> rfl
def fourR (b : List UInt8) : Int := (((((b.getD 0 default).toNat : Int) * 256 + ((b.getD 1 default).toNat : Int)) * 256 + ((b.getD 2 default).toNat : Int)) * 256 + ((b.getD 3 default).toNat : Int))
theorem fourR_drop {c : List UInt8} {j : Nat} (hc : c.length = 20) (hj : j < 5) : fourR (c.drop (4 * j)) = wd c j 5 := by
  rw [← four_num hc hj, fourR]
  have e : ∀ k, (c.drop (4 * j)).getD k default = c.getD (4 * j + k) default := fun k => by rw [List.getD_eq_getElem?_getD, List.getD_eq_getElem?_getD, List.getElem?_drop]
  rw [e 0, e 1, e 2, e 3]
  rfl
def canS (t : Int) (d : List UInt8) : Bool := if t = 6 then decide (d.length ≤ 65535) && soaO d else canR t d
def namS (t : Int) (d : List UInt8) : List (List UInt8) := if t = 6 then (if canS 6 d then [(soaV d).m, (soaV d).r] else []) else namR t d
theorem canS_ne {t : Int} {d : List UInt8} (h : t ≠ 6) : canS t d = canR t d := if_neg h
theorem namS_ne {t : Int} {d : List UInt8} (h : t ≠ 6) : namS t d = namR t d := if_neg h
theorem canS_6 {d : List UInt8} (h : d.length ≤ 65535) : canS 6 d = soaO d := by rw [canS, if_pos rfl, decide_eq_true h, Bool.true_and]
theorem canS_6n {d : List UInt8} (h : ¬ d.length ≤ 65535) : canS 6 d = false := by rw [canS, if_pos rfl, decide_eq_false h, Bool.false_and]
theorem soa_len (b : List UInt8) : (soaV b).m.length ≤ 255 ∧ (soaV b).r.length ≤ 255 := by
  have h1 := cut_len b
  have h2 := cut_len (cutR b)
  unfold soaV
  split
  · exact ⟨h1.1, h2.1⟩
  · simp

set_option maxRecDepth 20000 in
theorem c_bytes_Equal (l m : List UInt8) (lv lw : Nat) : AC Try.prog 15 [.fz lv l.length (cl bc l), .fz lw m.length (cl bc m)] emp (Ret (tf (decide (l = m)))) := by
  refine AC.intro te_ok (fn := Try.f15) ⟨Try.func15, rfl, rfl⟩ (Nat.le_of_ble_eq_true rfl) ?_
  refine AWp.seq ?_
  refine AWp.region ?_
  refine AOps.cons rfl rfl (q_assign) ?_
  refine AOps.nil ?_
  refine AWp.seq ?_
  refine AWp.region ?_
  refine AOps.cons rfl rfl (q_move) ?_
  refine AOps.cons rfl rfl (by first | exact q_conv_zs | exact q_conv_ls) ?_
  refine AOps.cons rfl rfl (q_move) ?_
  refine AOps.cons rfl rfl (by first | exact q_conv_zs | exact q_conv_ls) ?_
  refine AOps.cons rfl rfl (q_seql) ?_
  refine AOps.cons rfl rfl (q_assign) ?_
  refine AOps.nil ?_
  refine AWp.ret ?_
  show Fin te Try.f15 _ _
  refine q_ret (0) [_] [_] ?_
  first | rfl | (simp; done)

set_option maxRecDepth 20000 in
theorem c_bytes_Clone (l : List UInt8) (lv : Nat) (h : l.length ≤ 140737488351232) : AC Try.prog 21 [.fz lv l.length (cl bc l)] emp (Ret (.fz 0 l.length (cl bc l))) := by
  refine AC.intro te_ok (fn := Try.f21) ⟨Try.func21, rfl, rfl⟩ (Nat.le_of_ble_eq_true rfl) ?_
  refine AWp.seq ?_
  refine AWp.region ?_
  refine AOps.cons rfl rfl (q_nilz (0) bc) ?_
  refine AOps.nil ?_
  refine AWp.seq ?_
  refine AWp.seq ?_
  refine AWp.region ?_
  refine AOps.cons rfl rfl (q_move) ?_
  refine AOps.snil (fun h1_1 => ?_) ?_
  · skip
    refine AOps.nil ?_
    refine AWp.cond_t rfl ?_
    refine AWp.seq ?_
    refine AWp.region ?_
    refine AOps.cons rfl rfl (q_nilz (0) bc) ?_
    refine AOps.nil ?_
    refine AWp.ret ?_
    show Fin te Try.f21 _ _
    refine q_ret (0) [_] [_] ?_
    obtain rfl := List.eq_nil_of_length_eq_zero h1_1
    rfl
  · skip
    refine AOps.nil ?_
    refine AWp.cond_f rfl ?_
    refine AWp.skip ?_
    refine AWp.seq ?_
    refine AWp.region ?_
    refine AOps.cons rfl rfl (q_bs 400 bc [] []) ?_
    refine AOps.cons rfl rfl (q_move) ?_
    refine AOps.cons rfl rfl (q_app) ?_
    refine AOps.cons rfl rfl (q_assign) ?_
    refine AOps.nil ?_
    refine AWp.ret ?_
    show Fin te Try.f21 _ _
    refine q_ret (0) [_] [_] ?_
    rfl

set_option maxRecDepth 20000 in
theorem co_Clone (l : List UInt8) (lv : Nat) (h : l.length ≤ 140737488351232) : AC Try.prog 21 [.fz lv l.length (cl bc l)] (hlook []) (RetH (.sl 8 0 0 l.length 1) [(8, .row (cl bc l) 1 0)]) := by
  refine AC.intro te_ok (fn := Try.f21) ⟨Try.func21, rfl, rfl⟩ (Nat.le_of_ble_eq_true rfl) ?_
  refine AWp.seq ?_
  refine AWp.region ?_
  refine AOps.cons rfl rfl (q_nilz (0) bc) ?_
  refine AOps.nil ?_
  refine AWp.seq ?_
  refine AWp.seq ?_
  refine AWp.region ?_
  refine AOps.cons rfl rfl (q_move) ?_
  refine AOps.snil (fun h1_1 => ?_) ?_
  · skip
    refine AOps.nil ?_
    refine AWp.cond_t rfl ?_
    refine AWp.seq ?_
    refine AWp.region ?_
    refine AOps.cons rfl rfl (q_nilrow 8 1 bc) ?_
    refine AOps.nil ?_
    refine AWp.ret ?_
    show Fin te Try.f21 _ _
    obtain rfl := List.eq_nil_of_length_eq_zero h1_1
    refine q_retH (0) [8] [_] [.sl 8 0 0 _ 1] [(8, .row (cl bc _) 1 0)] ?_
    rfl
  · skip
    refine AOps.nil ?_
    refine AWp.cond_f rfl ?_
    refine AWp.skip ?_
    refine AWp.seq ?_
    refine AWp.region ?_
    refine AOps.cons rfl rfl (q_bs 8 bc [] []) ?_
    refine AOps.cons rfl rfl (q_move) ?_
    refine AOps.cons rfl rfl (q_app) ?_
    refine AOps.cons rfl rfl (q_assign) ?_
    refine AOps.nil ?_
    refine AWp.ret ?_
    show Fin te Try.f21 _ _
    refine q_retH (0) [8] [_] [.sl 8 0 0 _ 1] [(8, .row (cl bc _) 1 0)] ?_
    rfl

set_option maxRecDepth 20000 in
theorem c_ciceroneref03_First (b : List UInt8) (lv : Nat) (h : b.length ≤ 140737488351232) : AC Try.prog 72 [.fz lv b.length (cl bc b)] emp (Ret (.tup [str (cutM b), .fz lv (cutR b).length (cl bc (cutR b)), tf (cutO b)])) := by
  refine AC.intro te_ok (fn := Try.f72) ⟨Try.func72, rfl, rfl⟩ (Nat.le_of_ble_eq_true rfl) ?_
  refine AWp.seq ?_
  refine AWp.region ?_
  refine AOps.cons rfl rfl (q_assign) ?_
  refine AOps.cons rfl rfl (q_nilz (lv) bc) ?_
  refine AOps.cons rfl rfl (q_assign) ?_
  refine AOps.nil ?_
  refine AWp.seq ?_
  refine AWp.seq ?_
  refine AWp.region ?_
  refine AOps.cons rfl rfl (q_assign) ?_
  refine AOps.nil ?_
  refine AWp.block ?_
  refine AWp.loopR (α := Nat) [2, 3, 4, 5, 6, 7, 8, 9, 10, 11, 12, 13, 14, 15, 16, 17, 18, 19, 20, 21, 22, 23, 24, 25, 26, 27] (fun k => [(5, i64 k)]) (fun k => []) (fun k => 1 ≤ k ∧ k ≤ 256 ∧ ∀ j, 1 ≤ j → j < k → canN (b.take j) = false) (fun k => 256 - k) 1 ?_ (Back.mk' (HasT.cons HasT.nil) HasH.nil) ?_
  · exact ⟨by omega, by omega, fun j h1 h2 => by omega⟩
  · rintro k ⟨hk1, hk2, hk⟩
    refine AWp.seq ?_
    refine AWp.seq ?_
    refine AWp.region ?_
    refine AOps.cons rfl rfl (q_move) ?_
    refine AOps.cons rfl rfl (q_move) ?_
    refine AOps.cons rfl rfl (q_len) ?_
    refine AOps.dec rfl rfl (q_leq) (fun h2_3 => ?_) (fun h2_3 => ?_)
    · skip
      refine AOps.cons rfl rfl (q_move) ?_
      refine AOps.gcons rfl rfl rfl rfl rfl (q_move) ?_
      refine AOps.gdec rfl rfl rfl rfl rfl (q_leq) (fun h2_6 => ?_) (fun h2_6 => ?_)
      · skip
        refine AOps.cons rfl rfl (q_pick) ?_
        refine AOps.nil ?_
        refine AWp.cond_t rfl ?_
        refine AWp.skip ?_
        refine AWp.seq ?_
        refine AWp.block ?_
        refine AWp.seq ?_
        refine AWp.region ?_
        refine AOps.cons rfl rfl (q_move) ?_
        refine AOps.cons rfl rfl (q_move) ?_
        refine AOps.cons rfl rfl (q_sl) ?_
        refine AOps.cons rfl rfl (by first | exact q_conv_zs | exact q_conv_ls) ?_
        refine AOps.bool rfl rfl (q_call (lv) (hc := c_ciceroneref01_Can _ (by first | assumption | omega | decide | (simp; omega) | (simp [*]; done)))) (fun h4_4 => ?_) (fun h4_4 => ?_)
        · skip
          refine AOps.nil ?_
          refine AWp.cond_t rfl ?_
          refine AWp.seq ?_
          refine AWp.draws [⟨0, [0], [], some 21, _, none⟩,
              ⟨1, [5], [], some 22, _, none⟩,
              ⟨2, [21, 22], [], some 23, _, none⟩,
              ⟨3, [23], [], some 24, _, none⟩,
              ⟨4, [0], [], some 25, _, none⟩,
              ⟨5, [5], [], some 26, _, none⟩,
              ⟨6, [25, 26], [], some 27, _, none⟩,
              ⟨7, [24], [], some 2, _, none⟩,
              ⟨8, [27], [], some 3, _, none⟩,
              ⟨9, [], [], some 4, _, none⟩]
            [⟨0, [0], [], some 21, .any, none⟩,
                ⟨1, [5], [], some 22, .any, none⟩,
                ⟨2, [21, 22], [], some 23, .any, none⟩,
                ⟨3, [23], [], some 24, .any, none⟩,
                ⟨4, [0], [], some 25, .any, none⟩,
                ⟨5, [5], [], some 26, .any, none⟩,
                ⟨6, [25, 26], [], some 27, .any, none⟩,
                ⟨7, [24], [], some 2, .any, none⟩,
                ⟨8, [27], [], some 3, .any, none⟩,
                ⟨9, [], [], some 4, .any, none⟩]
            mixed_ok rfl (by kernel_rfl) ⟨DS.ok_over fun s0 => OpAt.go rfl rfl (q_move),
                DS.ok_over fun s0 => OpAt.go rfl rfl (q_move),
                DS.ok_over fun s0 => OpAt.go rfl rfl (q_sl),
                DS.ok_over fun s0 => OpAt.go rfl rfl (by first | exact q_conv_zs | exact q_conv_ls),
                DS.ok_over fun s0 => OpAt.go rfl rfl (q_move),
                DS.ok_over fun s0 => OpAt.go rfl rfl (q_move),
                DS.ok_over fun s0 => OpAt.go rfl rfl (q_sl),
                DS.ok_over fun s0 => OpAt.go rfl rfl (q_assign),
                DS.ok_over fun s0 => OpAt.go rfl rfl (q_assign),
                DS.ok_over fun s0 => OpAt.go rfl rfl (q_assign), trivial⟩ ?_
          dsimp only [final, DS.upd, AS.seto]
          refine AWp.ret ?_
          show Fin te Try.f72 _ _
          refine q_ret (lv) [_, _, _] [_, _, _] ?_
          obtain ⟨q1, q2, q3⟩ := cut_at (b := b) (k := k) (by omega) h4_4
          rw [q1, q2, q3]; rfl
        · skip
          refine AOps.nil ?_
          refine AWp.cond_f rfl ?_
          refine AWp.skip ?_
          refine AWp.region ?_
          refine AOps.cons rfl rfl (q_move) ?_
          refine AOps.cons rfl rfl (q_add) ?_
          refine AOps.cons rfl rfl (q_assign) ?_
          refine AOps.nil ?_
          refine ⟨k + 1, ?_, Back.mk' (HasT.cons HasT.nil) HasH.nil, ?_⟩
          · refine ⟨by omega, by omega, fun j h1 h2 => ?_⟩
            by_cases e : j = k
            · subst e; exact h4_4
            · exact hk j h1 (by omega)
          · omega
      · skip
        refine AOps.cons rfl rfl (q_pick) ?_
        refine AOps.nil ?_
        refine AWp.cond_f rfl ?_
        refine AWp.exit ?_
        refine AWp.seq ?_
        refine AWp.region ?_
        refine AOps.cons rfl rfl (q_assign) ?_
        refine AOps.cons rfl rfl (q_nilz (lv) bc) ?_
        refine AOps.cons rfl rfl (q_assign) ?_
        refine AOps.nil ?_
        refine AWp.ret ?_
        show Fin te Try.f72 _ _
        refine q_ret (lv) [_, _, _] [_, _, _] ?_
        have ho := cut_none (b := b) (fun j h1 h2 h3 => hk j h1 (by omega))
        rw [(cut_no ho).1, (cut_no ho).2, ho]; rfl
    · skip
      refine AOps.cons rfl rfl (q_move) ?_
      refine AOps.gskip rfl rfl rfl rfl rfl rfl rfl rfl ?_
      refine AOps.gskip rfl rfl rfl rfl rfl rfl rfl rfl ?_
      refine AOps.cons rfl rfl (q_pick) ?_
      refine AOps.nil ?_
      refine AWp.cond_f rfl ?_
      refine AWp.exit ?_
      refine AWp.seq ?_
      refine AWp.region ?_
      refine AOps.cons rfl rfl (q_assign) ?_
      refine AOps.cons rfl rfl (q_nilz (lv) bc) ?_
      refine AOps.cons rfl rfl (q_assign) ?_
      refine AOps.nil ?_
      refine AWp.ret ?_
      show Fin te Try.f72 _ _
      refine q_ret (lv) [_, _, _] [_, _, _] ?_
      have ho := cut_none (b := b) (fun j h1 h2 h3 => hk j h1 (by omega))
      rw [(cut_no ho).1, (cut_no ho).2, ho]; rfl

set_option maxRecDepth 20000 in
theorem c_ciceroneref03_four (b : List UInt8) (lv : Nat) (h : b.length ≤ 140737488351232) (h4 : 4 ≤ b.length) : AC Try.prog 73 [.fz lv b.length (cl bc b)] emp (Ret (i64 (fourR b))) := by
  have f0 := (b.getD (Int.toNat 0) default).toNat_lt
  have g0 := (b[0]?.getD default).toNat_lt
  have f1 := (b.getD (Int.toNat 1) default).toNat_lt
  have g1 := (b[1]?.getD default).toNat_lt
  have f2 := (b.getD (Int.toNat 2) default).toNat_lt
  have g2 := (b[2]?.getD default).toNat_lt
  have f3 := (b.getD (Int.toNat 3) default).toNat_lt
  have g3 := (b[3]?.getD default).toNat_lt
  refine AC.intro te_ok (fn := Try.f73) ⟨Try.func73, rfl, rfl⟩ (Nat.le_of_ble_eq_true rfl) ?_
  refine AWp.seq ?_
  refine AWp.region ?_
  refine AOps.cons rfl rfl (q_assign) ?_
  refine AOps.nil ?_
  refine AWp.seq ?_
  refine AWp.draws [⟨0, [0], [], some 3, _, none⟩,
      ⟨1, [3], [], some 4, _, none⟩,
      ⟨2, [4], [], some 5, _, none⟩,
      ⟨3, [5], [], some 6, _, none⟩,
      ⟨4, [6], [], some 7, _, none⟩,
      ⟨5, [0], [], some 8, _, none⟩,
      ⟨6, [8], [], some 9, _, none⟩,
      ⟨7, [9], [], some 10, _, none⟩,
      ⟨8, [10], [], some 11, _, none⟩,
      ⟨9, [7, 11], [], some 12, _, none⟩,
      ⟨10, [12], [], some 13, _, none⟩,
      ⟨11, [0], [], some 14, _, none⟩,
      ⟨12, [14], [], some 15, _, none⟩,
      ⟨13, [15], [], some 16, _, none⟩,
      ⟨14, [16], [], some 17, _, none⟩,
      ⟨15, [13, 17], [], some 18, _, none⟩,
      ⟨16, [18], [], some 19, _, none⟩,
      ⟨17, [0], [], some 20, _, none⟩,
      ⟨18, [20], [], some 21, _, none⟩,
      ⟨19, [21], [], some 22, _, none⟩,
      ⟨20, [22], [], some 23, _, none⟩,
      ⟨21, [19, 23], [], some 24, _, none⟩,
      ⟨22, [24], [], some 2, _, none⟩]
    [⟨0, [0], [], some 3, .any, none⟩,
        ⟨1, [3], [], some 4, .any, none⟩,
        ⟨2, [4], [], some 5, .any, none⟩,
        ⟨3, [5], [], some 6, .any, none⟩,
        ⟨4, [6], [], some 7, .any, none⟩,
        ⟨5, [0], [], some 8, .any, none⟩,
        ⟨6, [8], [], some 9, .any, none⟩,
        ⟨7, [9], [], some 10, .any, none⟩,
        ⟨8, [10], [], some 11, .any, none⟩,
        ⟨9, [7, 11], [], some 12, .any, none⟩,
        ⟨10, [12], [], some 13, .any, none⟩,
        ⟨11, [0], [], some 14, .any, none⟩,
        ⟨12, [14], [], some 15, .any, none⟩,
        ⟨13, [15], [], some 16, .any, none⟩,
        ⟨14, [16], [], some 17, .any, none⟩,
        ⟨15, [13, 17], [], some 18, .any, none⟩,
        ⟨16, [18], [], some 19, .any, none⟩,
        ⟨17, [0], [], some 20, .any, none⟩,
        ⟨18, [20], [], some 21, .any, none⟩,
        ⟨19, [21], [], some 22, .any, none⟩,
        ⟨20, [22], [], some 23, .any, none⟩,
        ⟨21, [19, 23], [], some 24, .any, none⟩,
        ⟨22, [24], [], some 2, .any, none⟩]
    mixed_ok rfl (by kernel_rfl) ⟨DS.ok_over fun s0 => OpAt.go rfl rfl (q_move),
        DS.ok_over fun s0 => OpAt.go rfl rfl (q_ix),
        DS.ok_over fun s0 => OpAt.go rfl rfl (q_load),
        DS.ok_over fun s0 => OpAt.go rfl rfl (q_conv_8i),
        DS.ok_over fun s0 => OpAt.go rfl rfl (q_mul),
        DS.ok_over fun s0 => OpAt.go rfl rfl (q_move),
        DS.ok_over fun s0 => OpAt.go rfl rfl (q_ix),
        DS.ok_over fun s0 => OpAt.go rfl rfl (q_load),
        DS.ok_over fun s0 => OpAt.go rfl rfl (q_conv_8i),
        DS.ok_over fun s0 => OpAt.go rfl rfl (q_add),
        DS.ok_over fun s0 => OpAt.go rfl rfl (q_mul),
        DS.ok_over fun s0 => OpAt.go rfl rfl (q_move),
        DS.ok_over fun s0 => OpAt.go rfl rfl (q_ix),
        DS.ok_over fun s0 => OpAt.go rfl rfl (q_load),
        DS.ok_over fun s0 => OpAt.go rfl rfl (q_conv_8i),
        DS.ok_over fun s0 => OpAt.go rfl rfl (q_add),
        DS.ok_over fun s0 => OpAt.go rfl rfl (q_mul),
        DS.ok_over fun s0 => OpAt.go rfl rfl (q_move),
        DS.ok_over fun s0 => OpAt.go rfl rfl (q_ix),
        DS.ok_over fun s0 => OpAt.go rfl rfl (q_load),
        DS.ok_over fun s0 => OpAt.go rfl rfl (q_conv_8i),
        DS.ok_over fun s0 => OpAt.go rfl rfl (q_add),
        DS.ok_over fun s0 => OpAt.go rfl rfl (q_assign), trivial⟩ ?_
  dsimp only [final, DS.upd, AS.seto]
  refine AWp.ret ?_
  show Fin te Try.f73 _ _
  refine q_ret (0) [_] [_] ?_
  rfl

set_option maxRecDepth 20000 in
theorem c_ciceroneref03_SOA (b : List UInt8) (lv : Nat) (h : b.length ≤ 140737488351232) : AC Try.prog 65 [.fz lv b.length (cl bc b)] emp (Ret (.tup [soaA (soaV b), tf (soaO b)])) := by
  have hc1 := cut_len b
  have hc2 := cut_len (cutR b)
  refine AC.intro te_ok (fn := Try.f65) ⟨Try.func65, rfl, rfl⟩ (Nat.le_of_ble_eq_true rfl) ?_
  refine AWp.seq ?_
  refine AWp.region ?_
  refine AOps.cons rfl rfl (q_alloc 100) ?_
  refine AOps.cons rfl rfl (q_assign) ?_
  refine AOps.nil ?_
  refine AWp.seq ?_
  refine AWp.region ?_
  refine AOps.cons rfl rfl (q_move) ?_
  refine AOps.cons rfl rfl (q_call (lv) (hc := c_ciceroneref03_First _ _ (by first | assumption | omega | decide | (simp; omega) | (simp [*]; done)))) ?_
  refine AOps.cons rfl rfl (q_move) ?_
  refine AOps.cons rfl rfl (q_extract) ?_
  refine AOps.cons rfl rfl (q_extract) ?_
  refine AOps.bool rfl rfl (q_extract) (fun h1_5 => ?_) (fun h1_5 => ?_)
  · skip
    refine AOps.cons rfl rfl (q_assign) ?_
    refine AOps.cons rfl rfl (q_assign) ?_
    refine AOps.cons rfl rfl (q_assign) ?_
    refine AOps.nil ?_
    refine AWp.seq ?_
    refine AWp.seq ?_
    refine AWp.region ?_
    refine AOps.cons rfl rfl (q_move) ?_
    refine AOps.cons rfl rfl (q_not) ?_
    refine AOps.nil ?_
    refine AWp.cond_f rfl ?_
    refine AWp.skip ?_
    refine AWp.seq ?_
    refine AWp.region ?_
    refine AOps.cons rfl rfl (q_move) ?_
    refine AOps.cons rfl rfl (q_call (lv) (hc := c_ciceroneref03_First _ _ (by first | assumption | omega | decide | (simp; omega) | (simp [*]; done)))) ?_
    refine AOps.cons rfl rfl (q_move) ?_
    refine AOps.cons rfl rfl (q_extract) ?_
    refine AOps.cons rfl rfl (q_extract) ?_
    refine AOps.bool rfl rfl (q_extract) (fun h4_5 => ?_) (fun h4_5 => ?_)
    · skip
      refine AOps.cons rfl rfl (q_assign) ?_
      refine AOps.cons rfl rfl (q_assign) ?_
      refine AOps.cons rfl rfl (q_assign) ?_
      refine AOps.nil ?_
      refine AWp.seq ?_
      refine AWp.seq ?_
      refine AWp.region ?_
      refine AOps.cons rfl rfl (q_move) ?_
      refine AOps.cons rfl rfl (q_not) ?_
      refine AOps.cons rfl rfl (q_move) ?_
      refine AOps.gcons rfl rfl rfl rfl rfl (q_move) ?_
      refine AOps.gcons rfl rfl rfl rfl rfl (q_len) ?_
      refine AOps.gdec rfl rfl rfl rfl rfl (q_neq) (fun h5_5 => ?_) (fun h5_5 => ?_)
      · skip
        refine AOps.cons rfl rfl (q_pick) ?_
        refine AOps.nil ?_
        refine AWp.cond_t rfl ?_
        refine AWp.seq ?_
        refine AWp.region ?_
        refine AOps.cons rfl rfl (q_build []) ?_
        refine AOps.cons rfl rfl (q_store) ?_
        refine AOps.cons rfl rfl (q_assign) ?_
        refine AOps.nil ?_
        refine AWp.ret ?_
        show Fin te Try.f65 _ _
        refine q_ret (0) [_, _] [_, _] ?_
        have ho : soaO b = false := by rw [soaO, decide_eq_false (by omega), Bool.and_false, Bool.and_false]
        rw [soaV_no ho, ho]; rfl
      · skip
        refine AOps.cons rfl rfl (q_pick) ?_
        refine AOps.nil ?_
        refine AWp.cond_f rfl ?_
        refine AWp.skip ?_
        refine AWp.seq ?_
        have hc20 : (cutR (cutR b)).length = 20 := by omega
        have ho : soaO b = true := by rw [soaO, h1_5, h4_5, decide_eq_true (by omega)]; rfl
        have hv : soaV b = ⟨cutM b, cutM (cutR b), wd (cutR (cutR b)) 0 5, wd (cutR (cutR b)) 1 5, wd (cutR (cutR b)) 2 5, wd (cutR (cutR b)) 3 5, wd (cutR (cutR b)) 4 5⟩ := by rw [soaV, if_pos ho]
        have e0 : fourR (cutR (cutR b)) = wd (cutR (cutR b)) 0 5 := fourR_drop (j := 0) hc20 (by omega)
        have e1 : fourR ((cutR (cutR b)).drop (Int.toNat 4)) = wd (cutR (cutR b)) 1 5 := fourR_drop (j := 1) hc20 (by omega)
        have e2 : fourR ((cutR (cutR b)).drop (Int.toNat 8)) = wd (cutR (cutR b)) 2 5 := fourR_drop (j := 2) hc20 (by omega)
        have e3 : fourR ((cutR (cutR b)).drop (Int.toNat 12)) = wd (cutR (cutR b)) 3 5 := fourR_drop (j := 3) hc20 (by omega)
        have e4 : fourR ((cutR (cutR b)).drop (Int.toNat 16)) = wd (cutR (cutR b)) 4 5 := fourR_drop (j := 4) hc20 (by omega)
        refine AWp.draws [⟨0, [4], [], some 31, _, none⟩,
            ⟨1, [7], [], some 32, _, none⟩,
            ⟨2, [5], [], some 33, _, none⟩,
            ⟨3, [33], [], some 34, _, none⟩,
            ⟨4, [5], [], some 35, _, none⟩,
            ⟨5, [35], [], some 36, _, none⟩,
            ⟨6, [36], [], some 37, _, none⟩,
            ⟨7, [5], [], some 38, _, none⟩,
            ⟨8, [38], [], some 39, _, none⟩,
            ⟨9, [39], [], some 40, _, none⟩,
            ⟨10, [5], [], some 41, _, none⟩,
            ⟨11, [41], [], some 42, _, none⟩,
            ⟨12, [42], [], some 43, _, none⟩,
            ⟨13, [5], [], some 44, _, none⟩,
            ⟨14, [44], [], some 45, _, none⟩,
            ⟨15, [45], [], some 46, _, none⟩,
            ⟨16, [31, 32, 34, 37, 40, 43, 46], [], some 47, _, none⟩,
            ⟨17, [2, 47], [100], none, _, some (100, _)⟩,
            ⟨18, [], [], some 3, _, none⟩]
          [⟨0, [4], [], some 31, .any, none⟩,
              ⟨1, [7], [], some 32, .any, none⟩,
              ⟨2, [5], [], some 33, .any, none⟩,
              ⟨3, [33], [], some 34, .any, none⟩,
              ⟨4, [5], [], some 35, .any, none⟩,
              ⟨5, [35], [], some 36, .any, none⟩,
              ⟨6, [36], [], some 37, .any, none⟩,
              ⟨7, [5], [], some 38, .any, none⟩,
              ⟨8, [38], [], some 39, .any, none⟩,
              ⟨9, [39], [], some 40, .any, none⟩,
              ⟨10, [5], [], some 41, .any, none⟩,
              ⟨11, [41], [], some 42, .any, none⟩,
              ⟨12, [42], [], some 43, .any, none⟩,
              ⟨13, [5], [], some 44, .any, none⟩,
              ⟨14, [44], [], some 45, .any, none⟩,
              ⟨15, [45], [], some 46, .any, none⟩,
              ⟨16, [31, 32, 34, 37, 40, 43, 46], [], some 47, .any, none⟩,
              ⟨17, [2, 47], [100], none, .any, some (100, .box [])⟩,
              ⟨18, [], [], some 3, .any, none⟩]
          mixed_ok rfl (by kernel_rfl) ⟨DS.ok_over fun s0 => OpAt.go rfl rfl (q_move),
              DS.ok_over fun s0 => OpAt.go rfl rfl (q_move),
              DS.ok_over fun s0 => OpAt.go rfl rfl (q_move),
              DS.ok_over fun s0 => OpAt.go rfl rfl (q_call (lv) (hc := c_ciceroneref03_four _ _ (by first | assumption | omega | decide | (simp; omega) | (simp [*]; done)) (by first | assumption | omega | decide | (simp; omega) | (simp [*]; done)))),
              DS.ok_over fun s0 => OpAt.go rfl rfl (q_move),
              DS.ok_over fun s0 => OpAt.go rfl rfl (q_sl),
              DS.ok_over fun s0 => OpAt.go rfl rfl (q_call (lv) (hc := c_ciceroneref03_four _ _ (by first | assumption | omega | decide | (simp; omega) | (simp [*]; done)) (by first | assumption | omega | decide | (simp; omega) | (simp [*]; done)))),
              DS.ok_over fun s0 => OpAt.go rfl rfl (q_move),
              DS.ok_over fun s0 => OpAt.go rfl rfl (q_sl),
              DS.ok_over fun s0 => OpAt.go rfl rfl (q_call (lv) (hc := c_ciceroneref03_four _ _ (by first | assumption | omega | decide | (simp; omega) | (simp [*]; done)) (by first | assumption | omega | decide | (simp; omega) | (simp [*]; done)))),
              DS.ok_over fun s0 => OpAt.go rfl rfl (q_move),
              DS.ok_over fun s0 => OpAt.go rfl rfl (q_sl),
              DS.ok_over fun s0 => OpAt.go rfl rfl (q_call (lv) (hc := c_ciceroneref03_four _ _ (by first | assumption | omega | decide | (simp; omega) | (simp [*]; done)) (by first | assumption | omega | decide | (simp; omega) | (simp [*]; done)))),
              DS.ok_over fun s0 => OpAt.go rfl rfl (q_move),
              DS.ok_over fun s0 => OpAt.go rfl rfl (q_sl),
              DS.ok_over fun s0 => OpAt.go rfl rfl (q_call (lv) (hc := c_ciceroneref03_four _ _ (by first | assumption | omega | decide | (simp; omega) | (simp [*]; done)) (by first | assumption | omega | decide | (simp; omega) | (simp [*]; done)))),
              DS.ok_over fun s0 => OpAt.go rfl rfl (q_build [(_, _), (_, _), (_, _), (_, _), (_, _), (_, _), (_, _)]),
              DS.ok_over fun s0 => OpAt.go rfl rfl (q_store),
              DS.ok_over fun s0 => OpAt.go rfl rfl (q_assign), trivial⟩ ?_
        dsimp only [final, DS.upd, AS.seto]
        refine AWp.ret ?_
        show Fin te Try.f65 _ _
        refine q_ret (0) [_, _] [_, _] ?_
        rw [e0, e1, e2, e3, e4, hv, ho]; rfl
    · skip
      refine AOps.cons rfl rfl (q_assign) ?_
      refine AOps.cons rfl rfl (q_assign) ?_
      refine AOps.cons rfl rfl (q_assign) ?_
      refine AOps.nil ?_
      refine AWp.seq ?_
      refine AWp.seq ?_
      refine AWp.region ?_
      refine AOps.cons rfl rfl (q_move) ?_
      refine AOps.cons rfl rfl (q_not) ?_
      refine AOps.cons rfl rfl (q_move) ?_
      refine AOps.gskip rfl rfl rfl rfl rfl rfl rfl rfl ?_
      refine AOps.gskip rfl rfl rfl rfl rfl rfl rfl rfl ?_
      refine AOps.gskip rfl rfl rfl rfl rfl rfl rfl rfl ?_
      refine AOps.cons rfl rfl (q_pick) ?_
      refine AOps.nil ?_
      refine AWp.cond_t rfl ?_
      refine AWp.seq ?_
      refine AWp.region ?_
      refine AOps.cons rfl rfl (q_build []) ?_
      refine AOps.cons rfl rfl (q_store) ?_
      refine AOps.cons rfl rfl (q_assign) ?_
      refine AOps.nil ?_
      refine AWp.ret ?_
      show Fin te Try.f65 _ _
      refine q_ret (0) [_, _] [_, _] ?_
      have ho : soaO b = false := by rw [soaO, h4_5, Bool.false_and, Bool.and_false]
      rw [soaV_no ho, ho]; rfl
  · skip
    refine AOps.cons rfl rfl (q_assign) ?_
    refine AOps.cons rfl rfl (q_assign) ?_
    refine AOps.cons rfl rfl (q_assign) ?_
    refine AOps.nil ?_
    refine AWp.seq ?_
    refine AWp.seq ?_
    refine AWp.region ?_
    refine AOps.cons rfl rfl (q_move) ?_
    refine AOps.cons rfl rfl (q_not) ?_
    refine AOps.nil ?_
    refine AWp.cond_t rfl ?_
    refine AWp.seq ?_
    refine AWp.region ?_
    refine AOps.cons rfl rfl (q_build []) ?_
    refine AOps.cons rfl rfl (q_store) ?_
    refine AOps.cons rfl rfl (q_assign) ?_
    refine AOps.nil ?_
    refine AWp.ret ?_
    show Fin te Try.f65 _ _
    refine q_ret (0) [_, _] [_, _] ?_
    have ho : soaO b = false := by rw [soaO, h1_5]; rfl
    rw [soaV_no ho, ho]; rfl

set_option maxRecDepth 20000 in
theorem c_ciceroneref03_texts (b : List UInt8) (lv : Nat) (h : b.length ≤ 140737488351232) : AC Try.prog 66 [.fz lv b.length (cl bc b)] emp (Ret (tf (txtR b))) := by
  refine AC.intro te_ok (fn := Try.f66) ⟨Try.func66, rfl, rfl⟩ (Nat.le_of_ble_eq_true rfl) ?_
  refine AWp.seq ?_
  refine AWp.region ?_
  refine AOps.cons rfl rfl (q_assign) ?_
  refine AOps.nil ?_
  refine AWp.seq ?_
  refine AWp.seq ?_
  refine AWp.region ?_
  refine AOps.cons rfl rfl (q_move) ?_
  refine AOps.cons rfl rfl (q_len) ?_
  refine AOps.dec rfl rfl (q_eql) (fun h1_2 => ?_) (fun h1_2 => ?_)
  · skip
    refine AOps.nil ?_
    refine AWp.cond_t rfl ?_
    refine AWp.seq ?_
    refine AWp.region ?_
    refine AOps.cons rfl rfl (q_assign) ?_
    refine AOps.nil ?_
    refine AWp.ret ?_
    show Fin te Try.f66 _ _
    refine q_ret (0) [_] [_] ?_
    rw [txtR, decide_eq_false (by omega)]; rfl
  · skip
    refine AOps.nil ?_
    refine AWp.cond_f rfl ?_
    refine AWp.skip ?_
    refine AWp.seq ?_
    refine AWp.block ?_
    refine AWp.loopR (α := List UInt8) [0, 2, 3, 7, 8, 9, 10, 11, 12, 13, 14, 15, 16, 17, 18, 19, 20, 21, 22] (fun c => [(0, .fz lv c.length (cl bc c))]) (fun c => []) (fun c => txtW c = txtW b ∧ c.length ≤ b.length) (fun c => c.length) b ?_ (Back.mk' (HasT.cons HasT.nil) HasH.nil) ?_
    · exact ⟨rfl, Nat.le_refl _⟩
    · rintro c ⟨hc, hl⟩
      refine AWp.seq ?_
      refine AWp.seq ?_
      refine AWp.region ?_
      refine AOps.cons rfl rfl (q_move) ?_
      refine AOps.cons rfl rfl (q_len) ?_
      refine AOps.dec rfl rfl (q_gtr) (fun h3_2 => ?_) (fun h3_2 => ?_)
      · skip
        refine AOps.nil ?_
        refine AWp.cond_t rfl ?_
        refine AWp.skip ?_
        refine AWp.block ?_
        refine AWp.seq ?_
        refine AWp.region ?_
        have hk := (c.getD 0 default).toNat_lt
        have he : (c.getD (Int.toNat 0) default).toNat = (c.getD 0 default).toNat := rfl
        have hs : (c[0]?.getD default).toNat = (c.getD 0 default).toNat := congrArg UInt8.toNat (List.getD_eq_getElem?_getD).symm
        refine AOps.cons rfl rfl (q_move) ?_
        refine AOps.cons rfl rfl (q_ix) ?_
        refine AOps.cons rfl rfl (q_load) ?_
        refine AOps.cons rfl rfl (q_conv_8i) ?_
        refine AOps.cons rfl rfl (q_assign) ?_
        refine AOps.nil ?_
        refine AWp.seq ?_
        refine AWp.seq ?_
        refine AWp.region ?_
        refine AOps.cons rfl rfl (q_move) ?_
        refine AOps.cons rfl rfl (q_len) ?_
        refine AOps.cons rfl rfl (q_move) ?_
        refine AOps.cons rfl rfl (q_add) ?_
        refine AOps.dec rfl rfl (q_lss) (fun h5_4 => ?_) (fun h5_4 => ?_)
        · skip
          refine AOps.nil ?_
          refine AWp.cond_t rfl ?_
          refine AWp.seq ?_
          refine AWp.region ?_
          refine AOps.cons rfl rfl (q_assign) ?_
          refine AOps.nil ?_
          refine AWp.ret ?_
          show Fin te Try.f66 _ _
          refine q_ret (0) [_] [_] ?_
          rw [txtR, ← hc, txtW_no (by omega) (by omega), Bool.and_false]; rfl
        · skip
          refine AOps.nil ?_
          refine AWp.cond_f rfl ?_
          refine AWp.skip ?_
          refine AWp.region ?_
          refine AOps.cons rfl rfl (q_move) ?_
          refine AOps.cons rfl rfl (q_move) ?_
          refine AOps.cons rfl rfl (q_add) ?_
          refine AOps.cons rfl rfl (q_sl) ?_
          refine AOps.cons rfl rfl (q_assign) ?_
          refine AOps.nil ?_
          have e1 : ((1 : Int) + ((c.getD (Int.toNat 0) default).toNat : Int)).toNat = 1 + (c.getD 0 default).toNat := by omega
          refine ⟨_, ?_, Back.mk' (HasT.cons HasT.nil) HasH.nil, ?_⟩
          · rw [e1]; exact ⟨(txtW_step (by omega) (by omega)).symm.trans hc, by rw [List.length_drop]; omega⟩
          · rw [e1, List.length_drop]; omega
      · skip
        refine AOps.nil ?_
        refine AWp.cond_f rfl ?_
        refine AWp.exit ?_
        refine AWp.seq ?_
        refine AWp.region ?_
        refine AOps.cons rfl rfl (q_assign) ?_
        refine AOps.nil ?_
        refine AWp.ret ?_
        show Fin te Try.f66 _ _
        refine q_ret (0) [_] [_] ?_
        rw [txtR, ← hc, txtW_end (by omega), Bool.and_true, decide_eq_true (by omega)]; rfl

set_option maxRecDepth 20000 in
theorem c_ciceroneref03_options (b : List UInt8) (lv : Nat) (h : b.length ≤ 140737488351232) : AC Try.prog 67 [.fz lv b.length (cl bc b)] emp (Ret (tf (optR b))) := by
  refine AC.intro te_ok (fn := Try.f67) ⟨Try.func67, rfl, rfl⟩ (Nat.le_of_ble_eq_true rfl) ?_
  refine AWp.seq ?_
  refine AWp.region ?_
  refine AOps.cons rfl rfl (q_assign) ?_
  refine AOps.nil ?_
  refine AWp.seq ?_
  refine AWp.block ?_
  refine AWp.loopR (α := List UInt8) [0, 2, 3, 4, 5, 6, 7, 8, 9, 10, 11, 12, 13, 14, 15, 16, 17, 18, 19, 20, 21, 22, 23, 24, 25, 26, 27, 28] (fun c => [(0, .fz lv c.length (cl bc c))]) (fun c => []) (fun c => optR c = optR b ∧ c.length ≤ b.length) (fun c => c.length) b ?_ (Back.mk' (HasT.cons HasT.nil) HasH.nil) ?_
  · exact ⟨rfl, Nat.le_refl _⟩
  · rintro c ⟨hc, hl⟩
    refine AWp.seq ?_
    refine AWp.seq ?_
    refine AWp.region ?_
    refine AOps.cons rfl rfl (q_move) ?_
    refine AOps.cons rfl rfl (q_len) ?_
    refine AOps.dec rfl rfl (q_gtr) (fun h1_2 => ?_) (fun h1_2 => ?_)
    · skip
      refine AOps.nil ?_
      refine AWp.cond_t rfl ?_
      refine AWp.skip ?_
      refine AWp.block ?_
      refine AWp.seq ?_
      refine AWp.seq ?_
      refine AWp.region ?_
      refine AOps.cons rfl rfl (q_move) ?_
      refine AOps.cons rfl rfl (q_len) ?_
      refine AOps.dec rfl rfl (q_lss) (fun h2_2 => ?_) (fun h2_2 => ?_)
      · skip
        refine AOps.nil ?_
        refine AWp.cond_t rfl ?_
        refine AWp.seq ?_
        refine AWp.region ?_
        refine AOps.cons rfl rfl (q_assign) ?_
        refine AOps.nil ?_
        refine AWp.ret ?_
        show Fin te Try.f67 _ _
        refine q_ret (0) [_] [_] ?_
        rw [← hc, optR_no (by omega) (by omega)]; rfl
      · skip
        refine AOps.nil ?_
        refine AWp.cond_f rfl ?_
        refine AWp.skip ?_
        refine AWp.seq ?_
        have hk2 := (c.getD 2 default).toNat_lt
        have hk3 := (c.getD 3 default).toNat_lt
        have he2 : (c.getD (Int.toNat 2) default).toNat = (c.getD 2 default).toNat := rfl
        have he3 : (c.getD (Int.toNat 3) default).toNat = (c.getD 3 default).toNat := rfl
        have hs2 : (c[2]?.getD default).toNat = (c.getD 2 default).toNat := congrArg UInt8.toNat (List.getD_eq_getElem?_getD).symm
        have hs3 : (c[3]?.getD default).toNat = (c.getD 3 default).toNat := congrArg UInt8.toNat (List.getD_eq_getElem?_getD).symm
        refine AWp.draws [⟨0, [0], [], some 10, _, none⟩,
            ⟨1, [10], [], some 11, _, none⟩,
            ⟨2, [11], [], some 12, _, none⟩,
            ⟨3, [12], [], some 13, _, none⟩,
            ⟨4, [13], [], some 14, _, none⟩,
            ⟨5, [0], [], some 15, _, none⟩,
            ⟨6, [15], [], some 16, _, none⟩,
            ⟨7, [16], [], some 17, _, none⟩,
            ⟨8, [17], [], some 18, _, none⟩,
            ⟨9, [14, 18], [], some 19, _, none⟩,
            ⟨10, [19], [], some 3, _, none⟩]
          [⟨0, [0], [], some 10, .any, none⟩,
              ⟨1, [10], [], some 11, .any, none⟩,
              ⟨2, [11], [], some 12, .any, none⟩,
              ⟨3, [12], [], some 13, .any, none⟩,
              ⟨4, [13], [], some 14, .any, none⟩,
              ⟨5, [0], [], some 15, .any, none⟩,
              ⟨6, [15], [], some 16, .any, none⟩,
              ⟨7, [16], [], some 17, .any, none⟩,
              ⟨8, [17], [], some 18, .any, none⟩,
              ⟨9, [14, 18], [], some 19, .any, none⟩,
              ⟨10, [19], [], some 3, .any, none⟩]
          mixed_ok rfl (by kernel_rfl) ⟨DS.ok_over fun s0 => OpAt.go rfl rfl (q_move),
              DS.ok_over fun s0 => OpAt.go rfl rfl (q_ix),
              DS.ok_over fun s0 => OpAt.go rfl rfl (q_load),
              DS.ok_over fun s0 => OpAt.go rfl rfl (q_conv_8i),
              DS.ok_over fun s0 => OpAt.go rfl rfl (q_mul),
              DS.ok_over fun s0 => OpAt.go rfl rfl (q_move),
              DS.ok_over fun s0 => OpAt.go rfl rfl (q_ix),
              DS.ok_over fun s0 => OpAt.go rfl rfl (q_load),
              DS.ok_over fun s0 => OpAt.go rfl rfl (q_conv_8i),
              DS.ok_over fun s0 => OpAt.go rfl rfl (q_add),
              DS.ok_over fun s0 => OpAt.go rfl rfl (q_assign), trivial⟩ ?_
        dsimp only [final, DS.upd, AS.seto]
        refine AWp.seq ?_
        refine AWp.seq ?_
        refine AWp.region ?_
        refine AOps.cons rfl rfl (q_move) ?_
        refine AOps.cons rfl rfl (q_len) ?_
        refine AOps.cons rfl rfl (q_move) ?_
        refine AOps.cons rfl rfl (q_add) ?_
        refine AOps.dec rfl rfl (q_lss) (fun h5_4 => ?_) (fun h5_4 => ?_)
        · skip
          refine AOps.nil ?_
          refine AWp.cond_t rfl ?_
          refine AWp.seq ?_
          refine AWp.region ?_
          refine AOps.cons rfl rfl (q_assign) ?_
          refine AOps.nil ?_
          refine AWp.ret ?_
          show Fin te Try.f67 _ _
          refine q_ret (0) [_] [_] ?_
          rw [← hc, optR_no (by omega) (Or.inr (by unfold optK; omega))]; rfl
        · skip
          refine AOps.nil ?_
          refine AWp.cond_f rfl ?_
          refine AWp.skip ?_
          refine AWp.region ?_
          refine AOps.cons rfl rfl (q_move) ?_
          refine AOps.cons rfl rfl (q_move) ?_
          refine AOps.cons rfl rfl (q_add) ?_
          refine AOps.cons rfl rfl (q_sl) ?_
          refine AOps.cons rfl rfl (q_assign) ?_
          refine AOps.nil ?_
          have e1 : (4 + (((c.getD (Int.toNat 2) default).toNat : Int) * 256 + ((c.getD (Int.toNat 3) default).toNat : Int))).toNat = optK c := by unfold optK; omega
          refine ⟨_, ?_, Back.mk' (HasT.cons HasT.nil) HasH.nil, ?_⟩
          · rw [e1]; exact ⟨(optR_step (by omega) (by omega) (by unfold optK; omega)).symm.trans hc, by rw [List.length_drop]; omega⟩
          · rw [e1, List.length_drop]; unfold optK; omega
    · skip
      refine AOps.nil ?_
      refine AWp.cond_f rfl ?_
      refine AWp.exit ?_
      refine AWp.seq ?_
      refine AWp.region ?_
      refine AOps.cons rfl rfl (q_assign) ?_
      refine AOps.nil ?_
      refine AWp.ret ?_
      show Fin te Try.f67 _ _
      refine q_ret (0) [_] [_] ?_
      rw [← hc, optR_end (by omega)]; rfl

set_option maxRecDepth 20000 in
theorem c_Can6 (b : List UInt8) (lv : Nat) (h : b.length ≤ 140737488351232) : AC Try.prog 38 [i64 6, .fz lv b.length (cl bc b)] emp (Ret (tf (canS 6 b))) := by
  refine AC.intro te_ok (fn := Try.f38) ⟨Try.func38, rfl, rfl⟩ (Nat.le_of_ble_eq_true rfl) ?_
  refine AWp.seq ?_
  refine AWp.region ?_
  refine AOps.cons rfl rfl (q_assign) ?_
  refine AOps.nil ?_
  refine AWp.seq ?_
  refine AWp.seq ?_
  refine AWp.region ?_
  refine AOps.cons rfl rfl (q_move) ?_
  refine AOps.dec rfl rfl (q_lss) (fun h1_1 => ?_) (fun h1_1 => ?_)
  · exfalso; omega
  · skip
    refine AOps.cons rfl rfl (q_move) ?_
    refine AOps.gcons rfl rfl rfl rfl rfl (q_move) ?_
    refine AOps.gdec rfl rfl rfl rfl rfl (q_gtr) (fun h1_4 => ?_) (fun h1_4 => ?_)
    · exfalso; omega
    · skip
      refine AOps.cons rfl rfl (q_pick) ?_
      refine AOps.cons rfl rfl (q_move) ?_
      refine AOps.gcons rfl rfl rfl rfl rfl (q_move) ?_
      refine AOps.gcons rfl rfl rfl rfl rfl (q_len) ?_
      refine AOps.gdec rfl rfl rfl rfl rfl (q_gtr) (fun h1_9 => ?_) (fun h1_9 => ?_)
      · skip
        refine AOps.cons rfl rfl (q_pick) ?_
        refine AOps.nil ?_
        refine AWp.cond_t rfl ?_
        refine AWp.seq ?_
        refine AWp.region ?_
        refine AOps.cons rfl rfl (q_assign) ?_
        refine AOps.nil ?_
        refine AWp.ret ?_
        show Fin te Try.f38 _ _
        refine q_ret (0) [_] [_] ?_
        rw [canS_6n (by omega)]; rfl
      · skip
        refine AOps.cons rfl rfl (q_pick) ?_
        refine AOps.nil ?_
        refine AWp.cond_f rfl ?_
        refine AWp.skip ?_
        refine AWp.seq ?_
        refine AWp.seq ?_
        refine AWp.region ?_
        refine AOps.cons rfl rfl (q_move) ?_
        refine AOps.nil ?_
        refine AWp.block ?_
        refine AWp.seq ?_
        refine AWp.region ?_
        refine AOps.dec rfl rfl (q_eql) (fun h4_0 => ?_) (fun h4_0 => ?_)
        · exfalso; omega
        · skip
          refine AOps.cons rfl rfl (q_assign) ?_
          refine AOps.nil ?_
          refine AWp.cond_f rfl ?_
          refine AWp.seq ?_
          refine AWp.region ?_
          refine AOps.dec rfl rfl (q_eql) (fun h6_0 => ?_) (fun h6_0 => ?_)
          · exfalso; omega
          · skip
            refine AOps.cons rfl rfl (q_assign) ?_
            refine AOps.nil ?_
            refine AWp.cond_f rfl ?_
            refine AWp.seq ?_
            refine AWp.seq ?_
            refine AWp.region ?_
            refine AOps.dec rfl rfl (q_eql) (fun h8_0 => ?_) (fun h8_0 => ?_)
            · exfalso; omega
            · skip
              refine AOps.cons rfl rfl (q_assign) ?_
              refine AOps.nil ?_
              refine AWp.cond_f rfl ?_
              refine AWp.seq ?_
              refine AWp.region ?_
              refine AOps.dec rfl rfl (q_eql) (fun h9_0 => ?_) (fun h9_0 => ?_)
              · exfalso; omega
              · skip
                refine AOps.cons rfl rfl (q_assign) ?_
                refine AOps.nil ?_
                refine AWp.cond_f rfl ?_
                refine AWp.region ?_
                refine AOps.dec rfl rfl (q_eql) (fun h10_0 => ?_) (fun h10_0 => ?_)
                · exfalso; omega
                · skip
                  refine AOps.cons rfl rfl (q_assign) ?_
                  refine AOps.nil ?_
                  refine AWp.cond_f rfl ?_
                  refine AWp.seq ?_
                  refine AWp.region ?_
                  refine AOps.dec rfl rfl (q_eql) (fun h12_0 => ?_) (fun h12_0 => ?_)
                  · exfalso; omega
                  · skip
                    refine AOps.cons rfl rfl (q_assign) ?_
                    refine AOps.nil ?_
                    refine AWp.cond_f rfl ?_
                    refine AWp.seq ?_
                    refine AWp.region ?_
                    refine AOps.dec rfl rfl (q_eql) (fun h14_0 => ?_) (fun h14_0 => ?_)
                    · exfalso; omega
                    · skip
                      refine AOps.cons rfl rfl (q_assign) ?_
                      refine AOps.nil ?_
                      refine AWp.cond_f rfl ?_
                      refine AWp.seq ?_
                      refine AWp.region ?_
                      refine AOps.dec rfl rfl (q_eql) (fun h16_0 => ?_) (fun h16_0 => ?_)
                      · exfalso; omega
                      · skip
                        refine AOps.cons rfl rfl (q_assign) ?_
                        refine AOps.nil ?_
                        refine AWp.cond_f rfl ?_
                        refine AWp.seq ?_
                        refine AWp.region ?_
                        refine AOps.dec rfl rfl (q_eql) (fun h18_0 => ?_) (fun h18_0 => ?_)
                        · skip
                          refine AOps.cons rfl rfl (q_assign) ?_
                          refine AOps.nil ?_
                          refine AWp.cond_t rfl ?_
                          refine AWp.seq ?_
                          refine AWp.region ?_
                          refine AOps.cons rfl rfl (q_move) ?_
                          refine AOps.cons rfl rfl (q_call (lv) (hc := c_rdata_SOA _ _ (by first | assumption | omega | decide | (simp; omega) | (simp [*]; done)))) ?_
                          refine AOps.cons rfl rfl (q_move) ?_
                          refine AOps.cons rfl rfl (q_extract) ?_
                          refine AOps.cons rfl rfl (q_extract) ?_
                          refine AOps.cons rfl rfl (q_alloc 2005) ?_
                          refine AOps.cons rfl rfl (q_store) ?_
                          refine AOps.cons rfl rfl (q_assign) ?_
                          refine AOps.nil ?_
                          refine AWp.seq ?_
                          refine AWp.region ?_
                          refine AOps.cons rfl rfl (q_move) ?_
                          refine AOps.cons rfl rfl (q_assign) ?_
                          refine AOps.nil ?_
                          refine AWp.ret ?_
                          show Fin te Try.f38 _ _
                          refine q_ret (0) [_] [_] ?_
                          rw [canS_6 (by omega)]; rfl
                        · exfalso; omega

end Go.Proofs.Ytaemmklgofddmaa.Fw
