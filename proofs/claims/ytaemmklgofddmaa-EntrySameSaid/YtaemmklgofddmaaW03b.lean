/- Walks of layer 3: the data of an SOA, the program's. -/
import Derived.Test.YtaemmklgofddmaaW03
set_option linter.unusedVariables false
set_option linter.unusedSimpArgs false
namespace Go.Proofs.Ytaemmklgofddmaa.Fw
open Go.RowKit


/-- Where a walk from label to label ends. -/
def zer (b : List UInt8) (i : Nat) : Nat := if h : i < b.length ∧ ¬ (b.getD i default).toNat = 0 then zer b (i + 1 + (b.getD i default).toNat) else i
termination_by b.length - i
decreasing_by omega
theorem zer_step {b : List UInt8} {i : Nat} (h : i < b.length) (h2 : ¬ (b.getD i default).toNat = 0) : zer b i = zer b (i + 1 + (b.getD i default).toNat) := by rw [zer, dif_pos ⟨h, h2⟩]
theorem zer_end {b : List UInt8} {i : Nat} (h : ¬ (i < b.length ∧ ¬ (b.getD i default).toNat = 0)) : zer b i = i := by rw [zer, dif_neg h]
def cutO (b : List UInt8) : Bool := decide (zer b 0 < b.length) && canN (b.take (zer b 0 + 1))
def cutM (b : List UInt8) : List UInt8 := if cutO b then b.take (zer b 0 + 1) else []
def cutR (b : List UInt8) : List UInt8 := if cutO b then b.drop (zer b 0 + 1) else []
theorem cut_no {b : List UInt8} (h : cutO b = false) : cutM b = [] ∧ cutR b = [] := by simp [cutM, cutR, h]
theorem cut_len (b : List UInt8) : (cutM b).length ≤ 255 ∧ (cutR b).length ≤ b.length := by
  cases h : cutO b with
  | false => simp [cut_no h]
  | true =>
    have h2 := h
    simp only [cutO, Bool.and_eq_true] at h2
    rw [cutM, cutR, if_pos h, if_pos h]
    exact ⟨canN_len h2.2, by simp⟩
theorem zer_join : ∀ {ls : List (List UInt8)} {b r : List UInt8} {i : Nat}, GoodN ls → b.drop i = joinN ls ++ r → zer b i + 1 = i + (joinN ls).length
  | [], b, r, i, _, h => by
    have hl := congrArg List.length h
    simp [joinN_nil] at hl
    have hi : i < b.length := by omega
    rw [List.drop_eq_getElem_cons hi, joinN_nil, List.singleton_append] at h
    have e : (b.getD i default).toNat = 0 := by
      rw [List.getD_eq_getElem?_getD, List.getElem?_eq_getElem hi, Option.getD_some, (List.cons.inj h).1]; rfl
    rw [zer_end (by omega)]
    rfl
  | l :: ls, b, r, i, g, h => by
    have hl := congrArg List.length h
    have hb := byte_len g.head.2
    have hh := g.head
    simp [joinN_cons] at hl
    have hi : i < b.length := by omega
    have h2 := h
    rw [List.drop_eq_getElem_cons hi, joinN_cons, List.cons_append, List.append_assoc] at h2
    obtain ⟨e1, e2⟩ := List.cons.inj h2
    have e : (b.getD i default).toNat = l.length := by
      rw [List.getD_eq_getElem?_getD, List.getElem?_eq_getElem hi, Option.getD_some, e1]; exact hb
    have e3 : b.drop (i + 1 + l.length) = joinN ls ++ r := by rw [← List.drop_drop, e2, List.drop_left]
    rw [zer_step hi (by omega), e, zer_join g.tail e3, joinN_cons]
    simp
    omega
theorem cut_at {b : List UInt8} {k : Nat} (hk : k ≤ b.length) (h : canN (b.take k) = true) : cutO b = true ∧ cutM b = b.take k ∧ cutR b = b.drop k := by
  obtain ⟨ls, g, e, hl⟩ := canN_iff.1 h
  have hz : zer b 0 + 1 = k := by
    have hd : b.drop 0 = joinN ls ++ b.drop k := by rw [← e, List.take_append_drop, List.drop_zero]
    have := zer_join g hd
    have hlen := congrArg List.length e
    rw [List.length_take] at hlen
    omega
  have ho : cutO b = true := by rw [cutO, hz, h, decide_eq_true (by omega)]; rfl
  rw [cutM, cutR, if_pos ho, if_pos ho, hz]
  exact ⟨ho, rfl, rfl⟩
theorem cut_none {b : List UInt8} (h : ∀ j, 1 ≤ j → j ≤ b.length → j ≤ 255 → canN (b.take j) = false) : cutO b = false := by
  cases ho : cutO b with
  | false => rfl
  | true =>
    have h2 := ho
    simp only [cutO, Bool.and_eq_true, decide_eq_true_eq] at h2
    have h3 := canN_len h2.2
    rw [List.length_take] at h3
    rw [h (zer b 0 + 1) (by omega) (by omega) (by omega)] at h2
    cases h2.2
/-- A number of bytes. -/
def num (l : List UInt8) : Int := l.foldl (fun a x => a * 256 + (x.toNat : Int)) 0
theorem num_snoc (l : List UInt8) (x : UInt8) : num (l ++ [x]) = num l * 256 + x.toNat := by simp [num, List.foldl_append]
theorem num_step {l : List UInt8} {k : Nat} (h : k < l.length) : num (l.take (k + 1)) = num (l.take k) * 256 + (l.getD k default).toNat := by
  rw [List.take_succ_eq_append_getElem h, num_snoc, List.getD_eq_getElem?_getD, List.getElem?_eq_getElem h]
  rfl
theorem num_le : ∀ (k : Nat) (l : List UInt8), l.length = k → 0 ≤ num l ∧ num l < 256 ^ k
  | 0, l, h => by
    obtain rfl := List.eq_nil_of_length_eq_zero h
    simp [num]
  | k + 1, l, h => by
    have hs : l = l.take k ++ [l.getD k default] := by
      rw [List.getD_eq_getElem?_getD, List.getElem?_eq_getElem (by omega), Option.getD_some, ← List.take_succ_eq_append_getElem (by omega), List.take_of_length_le (by omega)]
    have := num_le k (l.take k) (by rw [List.length_take]; omega)
    have hx := (l.getD k default).toNat_lt
    rw [hs, num_snoc, Int.pow_succ]
    omega
theorem num_24 {l : List UInt8} {k : Nat} (h : k < 4) (hl : l.length = k) : 0 ≤ num l ∧ num l ≤ 16777215 := by
  have := num_le k l hl
  have e : k = 0 ∨ k = 1 ∨ k = 2 ∨ k = 3 := by omega
  rcases e with rfl | rfl | rfl | rfl <;> simp at this <;> omega
def dg (c : List UInt8) (j : Nat) : List UInt8 := (c.take (4 * (j : Int) + 4).toNat).drop (4 * (j : Int)).toNat
theorem dg_len {c : List UInt8} {j : Nat} (hc : c.length = 20) (hj : j < 5) : (dg c j).length = 4 := by rw [dg, List.length_drop, List.length_take]; omega
def wd (c : List UInt8) (j i : Nat) : Int := if j < i then num ((dg c j).take 4) else 0
structure Soa where
  m : List UInt8
  r : List UInt8
  n1 : Int
  n2 : Int
  n3 : Int
  n4 : Int
  n5 : Int
def soaA (x : Soa) : AV := .agg [str x.m, str x.r, i64 x.n1, i64 x.n2, i64 x.n3, i64 x.n4, i64 x.n5]
def soaO (b : List UInt8) : Bool := cutO b && (cutO (cutR b) && decide ((cutR (cutR b)).length = 20))
def soaV (b : List UInt8) : Soa := if soaO b then ⟨cutM b, cutM (cutR b), wd (cutR (cutR b)) 0 5, wd (cutR (cutR b)) 1 5, wd (cutR (cutR b)) 2 5, wd (cutR (cutR b)) 3 5, wd (cutR (cutR b)) 4 5⟩ else ⟨[], [], 0, 0, 0, 0, 0⟩
theorem soaV_no {b : List UInt8} (h : soaO b = false) : soaV b = ⟨[], [], 0, 0, 0, 0, 0⟩ := by rw [soaV, if_neg (by simp [h])]
theorem four_num {c : List UInt8} {j : Nat} (hc : c.length = 20) (hj : j < 5) : (((((c.getD (4 * j) default).toNat : Int) * 256 + ((c.getD (4 * j + 1) default).toNat : Int)) * 256 + ((c.getD (4 * j + 2) default).toNat : Int)) * 256 + ((c.getD (4 * j + 3) default).toNat : Int)) = wd c j 5 := by
  have hl := dg_len hc hj
  have hg : ∀ k, k < 4 → (dg c j).getD k default = c.getD (4 * j + k) default := by
    intro k hk
    rw [dg, List.getD_eq_getElem?_getD, List.getD_eq_getElem?_getD, List.getElem?_drop, List.getElem?_take, if_pos (by omega)]
    congr 2 <;> omega
  rw [wd, if_pos hj, num_step (by omega), num_step (by omega), num_step (by omega), num_step (by omega), hg 0 (by omega), hg 1 (by omega), hg 2 (by omega), hg 3 (by omega)]
  simp [num]

set_option maxRecDepth 20000 in
theorem c_rdata_cut (b : List UInt8) (lv : Nat) (h : b.length ≤ 140737488351232) : AC Try.prog 71 [.fz lv b.length (cl bc b)] emp (Ret (.tup [str (cutM b), .fz lv (cutR b).length (cl bc (cutR b)), tf (cutO b)])) := by
  refine AC.intro te_ok (fn := Try.f71) ⟨Try.func71, rfl, rfl⟩ (Nat.le_of_ble_eq_true rfl) ?_
  refine AWp.seq ?_
  refine AWp.region ?_
  refine AOps.cons rfl rfl (q_assign) ?_
  refine AOps.cons rfl rfl (q_nilz (lv) bc) ?_
  refine AOps.cons rfl rfl (q_assign) ?_
  refine AOps.nil ?_
  refine AWp.seq ?_
  refine AWp.region ?_
  refine AOps.cons rfl rfl (q_assign) ?_
  refine AOps.nil ?_
  refine AWp.seq ?_
  refine AWp.block ?_
  refine AWp.loopR (α := Nat) [5, 6, 7, 8, 9, 10, 11, 12, 13, 14, 15, 16, 17, 18, 19, 20, 21, 22, 23, 24] (fun i => [(5, i64 i)]) (fun i => []) (fun i => zer b i = zer b 0 ∧ i ≤ b.length + 255) (fun i => b.length - i) 0 ?_ (Back.mk' (HasT.cons HasT.nil) HasH.nil) ?_
  · exact ⟨rfl, Nat.zero_le _⟩
  · rintro i ⟨hz, hi⟩
    refine AWp.seq ?_
    refine AWp.seq ?_
    refine AWp.region ?_
    refine AOps.cons rfl rfl (q_move) ?_
    refine AOps.cons rfl rfl (q_move) ?_
    refine AOps.cons rfl rfl (q_len) ?_
    refine AOps.dec rfl rfl (q_lss) (fun h2_3 => ?_) (fun h2_3 => ?_)
    · skip
      refine AOps.cons rfl rfl (q_move) ?_
      refine AOps.gcons rfl rfl rfl rfl rfl (q_move) ?_
      refine AOps.gcons rfl rfl rfl rfl rfl (q_move) ?_
      refine AOps.gcons rfl rfl rfl rfl rfl (q_ix) ?_
      refine AOps.gcons rfl rfl rfl rfl rfl (q_load) ?_
      refine AOps.gdec rfl rfl rfl rfl rfl (q_neq) (fun h2_9 => ?_) (fun h2_9 => ?_)
      · skip
        refine AOps.cons rfl rfl (q_pick) ?_
        refine AOps.nil ?_
        refine AWp.cond_t rfl ?_
        refine AWp.skip ?_
        refine AWp.block ?_
        refine AWp.region ?_
        have hk := (b.getD i default).toNat_lt
        have he : (b.getD (i : Int).toNat default).toNat = (b.getD i default).toNat := rfl
        have k9 : ¬ (b.getD i default).toNat = 0 := fun e => h2_9 (by show ((b.getD i default).toNat : Int) = 0; omega)
        refine AOps.cons rfl rfl (q_move) ?_
        refine AOps.cons rfl rfl (q_move) ?_
        refine AOps.cons rfl rfl (q_move) ?_
        refine AOps.cons rfl rfl (q_ix) ?_
        refine AOps.cons rfl rfl (q_load) ?_
        refine AOps.cons rfl rfl (q_conv_8i) ?_
        refine AOps.cons rfl rfl (q_add) ?_
        refine AOps.cons rfl rfl (q_add) ?_
        refine AOps.cons rfl rfl (q_assign) ?_
        refine AOps.nil ?_
        refine ⟨i + 1 + (b.getD i default).toNat, ?_, Back.mk' (HasT.cons HasT.nil (h1 := by exact i64_eq (by show (i : Int) + (1 + ((b.getD i default).toNat : Int)) = ((i + 1 + (b.getD i default).toNat : Nat) : Int); omega)) ) HasH.nil, ?_⟩
        · exact ⟨(zer_step (by omega) k9).symm.trans hz, by omega⟩
        · omega
      · skip
        refine AOps.cons rfl rfl (q_pick) ?_
        refine AOps.nil ?_
        refine AWp.cond_f rfl ?_
        refine AWp.exit ?_
        refine AWp.seq ?_
        refine AWp.seq ?_
        refine AWp.region ?_
        have k9 : ((b.getD i default).toNat : Int) = 0 := Classical.not_not.1 h2_9
        have hz0 : zer b 0 = i := by rw [← hz]; exact zer_end (by omega)
        refine AOps.cons rfl rfl (q_move) ?_
        refine AOps.cons rfl rfl (q_move) ?_
        refine AOps.cons rfl rfl (q_len) ?_
        refine AOps.dec rfl rfl (q_geq) (fun h4_3 => ?_) (fun h4_3 => ?_)
        · exfalso; omega
        · skip
          refine AOps.cons rfl rfl (q_move) ?_
          have ei : ((i : Int) + 1).toNat = i + 1 := by omega
          refine AOps.gcons rfl rfl rfl rfl rfl (q_move) ?_
          refine AOps.gcons rfl rfl rfl rfl rfl (q_move) ?_
          refine AOps.gcons rfl rfl rfl rfl rfl (q_add) ?_
          refine AOps.gcons rfl rfl rfl rfl rfl (q_sl) ?_
          refine AOps.gcons rfl rfl rfl rfl rfl (by first | exact q_conv_zs | exact q_conv_ls) ?_
          refine AOps.gbool rfl rfl rfl rfl rfl (q_call (lv) (hc := c_name_Can _ (by first | assumption | omega | decide | (simp; omega) | (simp [*]; done)))) (fun h4_10 => ?_) (fun h4_10 => ?_)
          · skip
            refine AOps.gcons rfl rfl rfl rfl rfl (q_not) ?_
            refine AOps.cons rfl rfl (q_pick) ?_
            refine AOps.nil ?_
            refine AWp.cond_f rfl ?_
            refine AWp.skip ?_
            refine AWp.seq ?_
            refine AWp.draws [⟨0, [0], [], some 38, _, none⟩,
                ⟨1, [5], [], some 39, _, none⟩,
                ⟨2, [39], [], some 40, _, none⟩,
                ⟨3, [38, 40], [], some 41, _, none⟩,
                ⟨4, [41], [], some 42, _, none⟩,
                ⟨5, [0], [], some 43, _, none⟩,
                ⟨6, [5], [], some 44, _, none⟩,
                ⟨7, [44], [], some 45, _, none⟩,
                ⟨8, [43, 45], [], some 46, _, none⟩,
                ⟨9, [42], [], some 2, _, none⟩,
                ⟨10, [46], [], some 3, _, none⟩,
                ⟨11, [], [], some 4, _, none⟩]
              [⟨0, [0], [], some 38, .any, none⟩,
                  ⟨1, [5], [], some 39, .any, none⟩,
                  ⟨2, [39], [], some 40, .any, none⟩,
                  ⟨3, [38, 40], [], some 41, .any, none⟩,
                  ⟨4, [41], [], some 42, .any, none⟩,
                  ⟨5, [0], [], some 43, .any, none⟩,
                  ⟨6, [5], [], some 44, .any, none⟩,
                  ⟨7, [44], [], some 45, .any, none⟩,
                  ⟨8, [43, 45], [], some 46, .any, none⟩,
                  ⟨9, [42], [], some 2, .any, none⟩,
                  ⟨10, [46], [], some 3, .any, none⟩,
                  ⟨11, [], [], some 4, .any, none⟩]
              mixed_ok rfl (by kernel_rfl) ⟨DS.ok_over fun s0 => OpAt.go rfl rfl (q_move),
                  DS.ok_over fun s0 => OpAt.go rfl rfl (q_move),
                  DS.ok_over fun s0 => OpAt.go rfl rfl (q_add),
                  DS.ok_over fun s0 => OpAt.go rfl rfl (q_sl),
                  DS.ok_over fun s0 => OpAt.go rfl rfl (by first | exact q_conv_zs | exact q_conv_ls),
                  DS.ok_over fun s0 => OpAt.go rfl rfl (q_move),
                  DS.ok_over fun s0 => OpAt.go rfl rfl (q_move),
                  DS.ok_over fun s0 => OpAt.go rfl rfl (q_add),
                  DS.ok_over fun s0 => OpAt.go rfl rfl (q_sl),
                  DS.ok_over fun s0 => OpAt.go rfl rfl (q_assign),
                  DS.ok_over fun s0 => OpAt.go rfl rfl (q_assign),
                  DS.ok_over fun s0 => OpAt.go rfl rfl (q_assign), trivial⟩ ?_
            dsimp only [final, DS.upd, AS.seto]
            refine AWp.ret ?_
            show Fin te Try.f71 _ _
            refine q_ret (lv) [_, _, _] [_, _, _] ?_
            rw [ei] at h4_10
            obtain ⟨q1, q2, q3⟩ := cut_at (b := b) (k := i + 1) (by omega) h4_10
            rw [q1, q2, q3, ei]; rfl
          · skip
            refine AOps.gcons rfl rfl rfl rfl rfl (q_not) ?_
            refine AOps.cons rfl rfl (q_pick) ?_
            refine AOps.nil ?_
            refine AWp.cond_t rfl ?_
            refine AWp.seq ?_
            refine AWp.region ?_
            refine AOps.cons rfl rfl (q_assign) ?_
            refine AOps.cons rfl rfl (q_nilz (lv) bc) ?_
            refine AOps.cons rfl rfl (q_assign) ?_
            refine AOps.nil ?_
            refine AWp.ret ?_
            show Fin te Try.f71 _ _
            refine q_ret (lv) [_, _, _] [_, _, _] ?_
            have ho : cutO b = false := by rw [ei] at h4_10; rw [cutO, hz0, h4_10, Bool.and_false]
            rw [(cut_no ho).1, (cut_no ho).2, ho]; rfl
    · skip
      refine AOps.cons rfl rfl (q_move) ?_
      refine AOps.gskip rfl rfl rfl rfl rfl rfl rfl rfl ?_
      refine AOps.gskip rfl rfl rfl rfl rfl rfl rfl rfl ?_
      refine AOps.gskip rfl rfl rfl rfl rfl rfl rfl rfl ?_
      refine AOps.gskip rfl rfl rfl rfl rfl rfl rfl rfl ?_
      refine AOps.gskip rfl rfl rfl rfl rfl rfl rfl rfl ?_
      refine AOps.cons rfl rfl (q_pick) ?_
      refine AOps.nil ?_
      refine AWp.cond_f rfl ?_
      refine AWp.exit ?_
      refine AWp.seq ?_
      refine AWp.seq ?_
      refine AWp.region ?_
      have hz0 : zer b 0 = i := by rw [← hz]; exact zer_end (by omega)
      refine AOps.cons rfl rfl (q_move) ?_
      refine AOps.cons rfl rfl (q_move) ?_
      refine AOps.cons rfl rfl (q_len) ?_
      refine AOps.dec rfl rfl (q_geq) (fun h4_3 => ?_) (fun h4_3 => ?_)
      · skip
        refine AOps.cons rfl rfl (q_move) ?_
        have ei : ((i : Int) + 1).toNat = i + 1 := by omega
        refine AOps.gskip rfl rfl rfl rfl rfl rfl rfl rfl ?_
        refine AOps.gskip rfl rfl rfl rfl rfl rfl rfl rfl ?_
        refine AOps.gskip rfl rfl rfl rfl rfl rfl rfl rfl ?_
        refine AOps.gskip rfl rfl rfl rfl rfl rfl rfl rfl ?_
        refine AOps.gskip rfl rfl rfl rfl rfl rfl rfl rfl ?_
        refine AOps.gskip rfl rfl rfl rfl rfl rfl rfl rfl ?_
        refine AOps.gskip rfl rfl rfl rfl rfl rfl rfl rfl ?_
        refine AOps.cons rfl rfl (q_pick) ?_
        refine AOps.nil ?_
        refine AWp.cond_t rfl ?_
        refine AWp.seq ?_
        refine AWp.region ?_
        refine AOps.cons rfl rfl (q_assign) ?_
        refine AOps.cons rfl rfl (q_nilz (lv) bc) ?_
        refine AOps.cons rfl rfl (q_assign) ?_
        refine AOps.nil ?_
        refine AWp.ret ?_
        show Fin te Try.f71 _ _
        refine q_ret (lv) [_, _, _] [_, _, _] ?_
        have ho : cutO b = false := by rw [cutO, hz0, decide_eq_false (by omega)]; rfl
        rw [(cut_no ho).1, (cut_no ho).2, ho]; rfl
      · exfalso; omega

set_option maxRecDepth 20000 in
theorem c_rdata_SOA (b : List UInt8) (lv : Nat) (h : b.length ≤ 140737488351232) : AC Try.prog 63 [.fz lv b.length (cl bc b)] emp (Ret (.tup [soaA (soaV b), tf (soaO b)])) := by
  have hc1 := cut_len b
  have hc2 := cut_len (cutR b)
  refine AC.intro te_ok (fn := Try.f63) ⟨Try.func63, rfl, rfl⟩ (Nat.le_of_ble_eq_true rfl) ?_
  refine AWp.seq ?_
  refine AWp.region ?_
  refine AOps.cons rfl rfl (q_alloc 100) ?_
  refine AOps.cons rfl rfl (q_assign) ?_
  refine AOps.nil ?_
  refine AWp.seq ?_
  refine AWp.region ?_
  refine AOps.cons rfl rfl (q_alloc 200) ?_
  refine AOps.nil ?_
  refine AWp.seq ?_
  refine AWp.region ?_
  refine AOps.cons rfl rfl (q_assign) ?_
  refine AOps.nil ?_
  refine AWp.seq ?_
  refine AWp.region ?_
  refine AOps.cons rfl rfl (q_move) ?_
  refine AOps.cons rfl rfl (q_assign) ?_
  refine AOps.nil ?_
  refine AWp.seq ?_
  refine AWp.seq ?_
  refine AWp.region ?_
  refine AOps.cons rfl rfl (q_move) ?_
  refine AOps.cons rfl rfl (q_call (lv) (hc := c_rdata_cut _ _ (by first | assumption | omega | decide | (simp; omega) | (simp [*]; done)))) ?_
  refine AOps.cons rfl rfl (q_move) ?_
  refine AOps.cons rfl rfl (q_extract) ?_
  refine AOps.cons rfl rfl (q_extract) ?_
  refine AOps.bool rfl rfl (q_extract) (fun h4_5 => ?_) (fun h4_5 => ?_)
  · skip
    refine AOps.cons rfl rfl (q_fa) ?_
    refine AOps.cons rfl rfl (q_store) ?_
    refine AOps.cons rfl rfl (q_assign) ?_
    refine AOps.cons rfl rfl (q_assign) ?_
    refine AOps.nil ?_
    refine AWp.seq ?_
    refine AWp.region ?_
    refine AOps.cons rfl rfl (q_move) ?_
    refine AOps.cons rfl rfl (q_not) ?_
    refine AOps.nil ?_
    refine AWp.cond_f rfl ?_
    refine AWp.skip ?_
    refine AWp.seq ?_
    refine AWp.seq ?_
    refine AWp.region ?_
    refine AOps.cons rfl rfl (q_move) ?_
    refine AOps.cons rfl rfl (q_call (lv) (hc := c_rdata_cut _ _ (by first | assumption | omega | decide | (simp; omega) | (simp [*]; done)))) ?_
    refine AOps.cons rfl rfl (q_move) ?_
    refine AOps.cons rfl rfl (q_extract) ?_
    refine AOps.cons rfl rfl (q_extract) ?_
    refine AOps.bool rfl rfl (q_extract) (fun h7_5 => ?_) (fun h7_5 => ?_)
    · skip
      refine AOps.cons rfl rfl (q_fa) ?_
      refine AOps.cons rfl rfl (q_store) ?_
      refine AOps.cons rfl rfl (q_assign) ?_
      refine AOps.cons rfl rfl (q_assign) ?_
      refine AOps.nil ?_
      refine AWp.seq ?_
      refine AWp.region ?_
      refine AOps.cons rfl rfl (q_move) ?_
      refine AOps.cons rfl rfl (q_not) ?_
      refine AOps.cons rfl rfl (q_move) ?_
      refine AOps.gcons rfl rfl rfl rfl rfl (q_move) ?_
      refine AOps.gcons rfl rfl rfl rfl rfl (q_len) ?_
      refine AOps.gdec rfl rfl rfl rfl rfl (q_neq) (fun h8_5 => ?_) (fun h8_5 => ?_)
      · skip
        refine AOps.cons rfl rfl (q_pick) ?_
        refine AOps.nil ?_
        refine AWp.cond_t rfl ?_
        refine AWp.seq ?_
        refine AWp.region ?_
        refine AOps.cons rfl rfl (q_build []) ?_
        refine AOps.cons rfl rfl (q_store) ?_
        refine AOps.cons rfl rfl (q_assign) ?_
        refine AOps.nil ?_
        refine AWp.ret ?_
        show Fin te Try.f63 _ _
        refine q_ret (0) [_, _] [_, _] ?_
        have ho : soaO b = false := by rw [soaO, decide_eq_false (by omega), Bool.and_false, Bool.and_false]
        rw [soaV_no ho, ho]; rfl
      · skip
        refine AOps.cons rfl rfl (q_pick) ?_
        refine AOps.nil ?_
        refine AWp.cond_f rfl ?_
        refine AWp.skip ?_
        refine AWp.seq ?_
        refine AWp.seq ?_
        refine AWp.region ?_
        have hc20 : (cutR (cutR b)).length = 20 := by omega
        have hL5 : ([2, 3, 4, 5, 6] : List Nat).length = 5 := rfl
        refine AOps.cons rfl rfl (q_fa) ?_
        refine AOps.cons rfl rfl (q_fa) ?_
        refine AOps.cons rfl rfl (q_fa) ?_
        refine AOps.cons rfl rfl (q_fa) ?_
        refine AOps.cons rfl rfl (q_fa) ?_
        refine AOps.cons rfl rfl (q_bs 1105 (fun k => [AV.ptr 200 0 k]) [2, 3, 4, 5, 6] [(_, _), (_, _), (_, _), (_, _), (_, _)]) ?_
        refine AOps.cons rfl rfl (q_len) ?_
        refine AOps.cons rfl rfl (q_move) ?_
        refine AOps.nil ?_
        refine AWp.block ?_
        refine AWp.loopR (α := Nat) [7, 8, 10, 44, 45, 46, 47, 48, 49, 50, 51, 52, 53, 54, 55, 56, 57, 58, 59, 60, 61, 62, 63, 64, 65, 66, 67, 68, 69, 70, 71] (fun i => [(44, i64 i)]) (fun i => [(200, .box [str (cutM b), str (cutM (cutR b)), i64 (wd (cutR (cutR b)) 0 i), i64 (wd (cutR (cutR b)) 1 i), i64 (wd (cutR (cutR b)) 2 i), i64 (wd (cutR (cutR b)) 3 i), i64 (wd (cutR (cutR b)) 4 i)])]) (fun i => i ≤ 5) (fun i => 5 - i) 0 ?_ (Back.mk' (HasT.cons HasT.nil) (HasH.cons HasH.nil)) ?_
        · exact Nat.zero_le _
        · rintro i hi
          refine AWp.seq ?_
          refine AWp.region ?_
          refine AOps.dec rfl rfl (q_lss) (fun h11_0 => ?_) (fun h11_0 => ?_)
          · skip
            refine AOps.nil ?_
            refine AWp.seq ?_
            refine AWp.cond_t rfl ?_
            refine AWp.skip ?_
            refine AWp.seq ?_
            refine AWp.block ?_
            refine AWp.seq ?_
            refine AWp.region ?_
            obtain rfl | rfl | rfl | rfl | rfl : i = 0 ∨ i = 1 ∨ i = 2 ∨ i = 3 ∨ i = 4 := by omega
            · skip
              refine AOps.cons rfl rfl (q_move) ?_
              refine AOps.cons rfl rfl (q_ix) ?_
              refine AOps.cons rfl rfl (q_load (z := .ptr 200 0 2) (hy := rfl)) ?_
              refine AOps.cons rfl rfl (q_assign) ?_
              refine AOps.cons rfl rfl (q_assign) ?_
              refine AOps.nil ?_
              refine AWp.seq ?_
              refine AWp.region ?_
              refine AOps.cons rfl rfl (q_move) ?_
              refine AOps.cons rfl rfl (q_move) ?_
              refine AOps.cons rfl rfl (q_mul) ?_
              refine AOps.cons rfl rfl (q_move) ?_
              refine AOps.cons rfl rfl (q_mul) ?_
              refine AOps.cons rfl rfl (q_add) ?_
              refine AOps.cons rfl rfl (q_sl) ?_
              refine AOps.cons rfl rfl (q_len) ?_
              refine AOps.cons rfl rfl (q_move) ?_
              refine AOps.nil ?_
              refine AWp.block ?_
              refine AWp.loopR (α := Nat) [10, 57, 58, 59, 60, 61, 62, 63, 64, 65, 66, 67, 68, 69, 70] (fun k => [(57, i64 k)]) (fun k => [(200, .box [str (cutM b), str (cutM (cutR b)), i64 (num ((dg (cutR (cutR b)) 0).take k)), i64 (wd (cutR (cutR b)) 1 0), i64 (wd (cutR (cutR b)) 2 0), i64 (wd (cutR (cutR b)) 3 0), i64 (wd (cutR (cutR b)) 4 0)])]) (fun k => k ≤ 4) (fun k => 4 - k) 0 ?_ (Back.mk' (HasT.cons HasT.nil) (HasH.cons HasH.nil)) ?_
              · exact Nat.zero_le _
              · rintro k hk
                have hD := dg_len (j := 0) hc20 (by omega)
                have hn : k < 4 → 0 ≤ num ((dg (cutR (cutR b)) 0).take k) ∧ num ((dg (cutR (cutR b)) 0).take k) ≤ 16777215 := fun h4 => num_24 h4 (by rw [List.length_take]; omega)
                have hDl : ((dg (cutR (cutR b)) 0).length : Int) = 4 := by omega
                have hDl2 : ((List.drop (4 * ((0 : Nat) : Int)).toNat (List.take (4 * ((0 : Nat) : Int) + 4).toNat (cutR (cutR b)))).length : Int) = 4 := hDl
                have hby : ((List.drop (4 * ((0 : Nat) : Int)).toNat (List.take (4 * ((0 : Nat) : Int) + 4).toNat (cutR (cutR b)))).getD (k : Int).toNat default).toNat < 256 := ((dg (cutR (cutR b)) 0).getD k default).toNat_lt
                refine AWp.seq ?_
                refine AWp.region ?_
                refine AOps.dec rfl rfl (q_lss) (fun h14_0 => ?_) (fun h14_0 => ?_)
                · skip
                  refine AOps.nil ?_
                  refine AWp.seq ?_
                  refine AWp.cond_t rfl ?_
                  refine AWp.skip ?_
                  refine AWp.seq ?_
                  refine AWp.block ?_
                  refine AWp.seq ?_
                  refine AWp.region ?_
                  refine AOps.cons rfl rfl (q_ix) ?_
                  refine AOps.cons rfl rfl (q_load) ?_
                  refine AOps.cons rfl rfl (q_assign) ?_
                  refine AOps.nil ?_
                  refine AWp.region ?_
                  refine AOps.cons rfl rfl (q_move) ?_
                  refine AOps.cons rfl rfl (q_move) ?_
                  refine AOps.cons rfl rfl (q_nil) ?_
                  refine AOps.cons rfl rfl (q_load) ?_
                  refine AOps.cons rfl rfl (q_shl 8) ?_
                  refine AOps.cons rfl rfl (q_move) ?_
                  refine AOps.cons rfl rfl (q_conv_8i) ?_
                  refine AOps.cons rfl rfl (q_orb) ?_
                  refine AOps.cons rfl rfl (q_nil) ?_
                  refine AOps.cons rfl rfl (q_store) ?_
                  refine AOps.nil ?_
                  refine AWp.region ?_
                  refine AOps.cons rfl rfl (q_add) ?_
                  refine AOps.cons rfl rfl (q_move) ?_
                  refine AOps.nil ?_
                  have hst := num_step (l := dg (cutR (cutR b)) 0) (k := k) (by omega)
                  refine ⟨k + 1, ?_, Back.mk' (HasT.cons HasT.nil) (HasH.cons HasH.nil (h1 := by rw [hst]; rfl) ), ?_⟩
                  · omega
                  · omega
                · skip
                  refine AOps.nil ?_
                  refine AWp.seq ?_
                  refine AWp.cond_f rfl ?_
                  refine AWp.exit ?_
                  refine AWp.region ?_
                  obtain rfl : k = 4 := by omega
                  refine AOps.cons rfl rfl (q_add) ?_
                  refine AOps.cons rfl rfl (q_move) ?_
                  refine AOps.nil ?_
                  refine ⟨1, ?_, Back.mk' (HasT.cons HasT.nil) (HasH.cons HasH.nil), ?_⟩
                  · omega
                  · omega
            · skip
              refine AOps.cons rfl rfl (q_move) ?_
              refine AOps.cons rfl rfl (q_ix) ?_
              refine AOps.cons rfl rfl (q_load (z := .ptr 200 0 3) (hy := rfl)) ?_
              refine AOps.cons rfl rfl (q_assign) ?_
              refine AOps.cons rfl rfl (q_assign) ?_
              refine AOps.nil ?_
              refine AWp.seq ?_
              refine AWp.region ?_
              refine AOps.cons rfl rfl (q_move) ?_
              refine AOps.cons rfl rfl (q_move) ?_
              refine AOps.cons rfl rfl (q_mul) ?_
              refine AOps.cons rfl rfl (q_move) ?_
              refine AOps.cons rfl rfl (q_mul) ?_
              refine AOps.cons rfl rfl (q_add) ?_
              refine AOps.cons rfl rfl (q_sl) ?_
              refine AOps.cons rfl rfl (q_len) ?_
              refine AOps.cons rfl rfl (q_move) ?_
              refine AOps.nil ?_
              refine AWp.block ?_
              refine AWp.loopR (α := Nat) [10, 57, 58, 59, 60, 61, 62, 63, 64, 65, 66, 67, 68, 69, 70] (fun k => [(57, i64 k)]) (fun k => [(200, .box [str (cutM b), str (cutM (cutR b)), i64 (wd (cutR (cutR b)) 0 1), i64 (num ((dg (cutR (cutR b)) 1).take k)), i64 (wd (cutR (cutR b)) 2 1), i64 (wd (cutR (cutR b)) 3 1), i64 (wd (cutR (cutR b)) 4 1)])]) (fun k => k ≤ 4) (fun k => 4 - k) 0 ?_ (Back.mk' (HasT.cons HasT.nil) (HasH.cons HasH.nil)) ?_
              · exact Nat.zero_le _
              · rintro k hk
                have hD := dg_len (j := 1) hc20 (by omega)
                have hn : k < 4 → 0 ≤ num ((dg (cutR (cutR b)) 1).take k) ∧ num ((dg (cutR (cutR b)) 1).take k) ≤ 16777215 := fun h4 => num_24 h4 (by rw [List.length_take]; omega)
                have hDl : ((dg (cutR (cutR b)) 1).length : Int) = 4 := by omega
                have hDl2 : ((List.drop (4 * ((1 : Nat) : Int)).toNat (List.take (4 * ((1 : Nat) : Int) + 4).toNat (cutR (cutR b)))).length : Int) = 4 := hDl
                have hby : ((List.drop (4 * ((1 : Nat) : Int)).toNat (List.take (4 * ((1 : Nat) : Int) + 4).toNat (cutR (cutR b)))).getD (k : Int).toNat default).toNat < 256 := ((dg (cutR (cutR b)) 1).getD k default).toNat_lt
                refine AWp.seq ?_
                refine AWp.region ?_
                refine AOps.dec rfl rfl (q_lss) (fun h14_0 => ?_) (fun h14_0 => ?_)
                · skip
                  refine AOps.nil ?_
                  refine AWp.seq ?_
                  refine AWp.cond_t rfl ?_
                  refine AWp.skip ?_
                  refine AWp.seq ?_
                  refine AWp.block ?_
                  refine AWp.seq ?_
                  refine AWp.region ?_
                  refine AOps.cons rfl rfl (q_ix) ?_
                  refine AOps.cons rfl rfl (q_load) ?_
                  refine AOps.cons rfl rfl (q_assign) ?_
                  refine AOps.nil ?_
                  refine AWp.region ?_
                  refine AOps.cons rfl rfl (q_move) ?_
                  refine AOps.cons rfl rfl (q_move) ?_
                  refine AOps.cons rfl rfl (q_nil) ?_
                  refine AOps.cons rfl rfl (q_load) ?_
                  refine AOps.cons rfl rfl (q_shl 8) ?_
                  refine AOps.cons rfl rfl (q_move) ?_
                  refine AOps.cons rfl rfl (q_conv_8i) ?_
                  refine AOps.cons rfl rfl (q_orb) ?_
                  refine AOps.cons rfl rfl (q_nil) ?_
                  refine AOps.cons rfl rfl (q_store) ?_
                  refine AOps.nil ?_
                  refine AWp.region ?_
                  refine AOps.cons rfl rfl (q_add) ?_
                  refine AOps.cons rfl rfl (q_move) ?_
                  refine AOps.nil ?_
                  have hst := num_step (l := dg (cutR (cutR b)) 1) (k := k) (by omega)
                  refine ⟨k + 1, ?_, Back.mk' (HasT.cons HasT.nil) (HasH.cons HasH.nil (h1 := by rw [hst]; rfl) ), ?_⟩
                  · omega
                  · omega
                · skip
                  refine AOps.nil ?_
                  refine AWp.seq ?_
                  refine AWp.cond_f rfl ?_
                  refine AWp.exit ?_
                  refine AWp.region ?_
                  obtain rfl : k = 4 := by omega
                  refine AOps.cons rfl rfl (q_add) ?_
                  refine AOps.cons rfl rfl (q_move) ?_
                  refine AOps.nil ?_
                  refine ⟨2, ?_, Back.mk' (HasT.cons HasT.nil) (HasH.cons HasH.nil), ?_⟩
                  · omega
                  · omega
            · skip
              refine AOps.cons rfl rfl (q_move) ?_
              refine AOps.cons rfl rfl (q_ix) ?_
              refine AOps.cons rfl rfl (q_load (z := .ptr 200 0 4) (hy := rfl)) ?_
              refine AOps.cons rfl rfl (q_assign) ?_
              refine AOps.cons rfl rfl (q_assign) ?_
              refine AOps.nil ?_
              refine AWp.seq ?_
              refine AWp.region ?_
              refine AOps.cons rfl rfl (q_move) ?_
              refine AOps.cons rfl rfl (q_move) ?_
              refine AOps.cons rfl rfl (q_mul) ?_
              refine AOps.cons rfl rfl (q_move) ?_
              refine AOps.cons rfl rfl (q_mul) ?_
              refine AOps.cons rfl rfl (q_add) ?_
              refine AOps.cons rfl rfl (q_sl) ?_
              refine AOps.cons rfl rfl (q_len) ?_
              refine AOps.cons rfl rfl (q_move) ?_
              refine AOps.nil ?_
              refine AWp.block ?_
              refine AWp.loopR (α := Nat) [10, 57, 58, 59, 60, 61, 62, 63, 64, 65, 66, 67, 68, 69, 70] (fun k => [(57, i64 k)]) (fun k => [(200, .box [str (cutM b), str (cutM (cutR b)), i64 (wd (cutR (cutR b)) 0 2), i64 (wd (cutR (cutR b)) 1 2), i64 (num ((dg (cutR (cutR b)) 2).take k)), i64 (wd (cutR (cutR b)) 3 2), i64 (wd (cutR (cutR b)) 4 2)])]) (fun k => k ≤ 4) (fun k => 4 - k) 0 ?_ (Back.mk' (HasT.cons HasT.nil) (HasH.cons HasH.nil)) ?_
              · exact Nat.zero_le _
              · rintro k hk
                have hD := dg_len (j := 2) hc20 (by omega)
                have hn : k < 4 → 0 ≤ num ((dg (cutR (cutR b)) 2).take k) ∧ num ((dg (cutR (cutR b)) 2).take k) ≤ 16777215 := fun h4 => num_24 h4 (by rw [List.length_take]; omega)
                have hDl : ((dg (cutR (cutR b)) 2).length : Int) = 4 := by omega
                have hDl2 : ((List.drop (4 * ((2 : Nat) : Int)).toNat (List.take (4 * ((2 : Nat) : Int) + 4).toNat (cutR (cutR b)))).length : Int) = 4 := hDl
                have hby : ((List.drop (4 * ((2 : Nat) : Int)).toNat (List.take (4 * ((2 : Nat) : Int) + 4).toNat (cutR (cutR b)))).getD (k : Int).toNat default).toNat < 256 := ((dg (cutR (cutR b)) 2).getD k default).toNat_lt
                refine AWp.seq ?_
                refine AWp.region ?_
                refine AOps.dec rfl rfl (q_lss) (fun h14_0 => ?_) (fun h14_0 => ?_)
                · skip
                  refine AOps.nil ?_
                  refine AWp.seq ?_
                  refine AWp.cond_t rfl ?_
                  refine AWp.skip ?_
                  refine AWp.seq ?_
                  refine AWp.block ?_
                  refine AWp.seq ?_
                  refine AWp.region ?_
                  refine AOps.cons rfl rfl (q_ix) ?_
                  refine AOps.cons rfl rfl (q_load) ?_
                  refine AOps.cons rfl rfl (q_assign) ?_
                  refine AOps.nil ?_
                  refine AWp.region ?_
                  refine AOps.cons rfl rfl (q_move) ?_
                  refine AOps.cons rfl rfl (q_move) ?_
                  refine AOps.cons rfl rfl (q_nil) ?_
                  refine AOps.cons rfl rfl (q_load) ?_
                  refine AOps.cons rfl rfl (q_shl 8) ?_
                  refine AOps.cons rfl rfl (q_move) ?_
                  refine AOps.cons rfl rfl (q_conv_8i) ?_
                  refine AOps.cons rfl rfl (q_orb) ?_
                  refine AOps.cons rfl rfl (q_nil) ?_
                  refine AOps.cons rfl rfl (q_store) ?_
                  refine AOps.nil ?_
                  refine AWp.region ?_
                  refine AOps.cons rfl rfl (q_add) ?_
                  refine AOps.cons rfl rfl (q_move) ?_
                  refine AOps.nil ?_
                  have hst := num_step (l := dg (cutR (cutR b)) 2) (k := k) (by omega)
                  refine ⟨k + 1, ?_, Back.mk' (HasT.cons HasT.nil) (HasH.cons HasH.nil (h1 := by rw [hst]; rfl) ), ?_⟩
                  · omega
                  · omega
                · skip
                  refine AOps.nil ?_
                  refine AWp.seq ?_
                  refine AWp.cond_f rfl ?_
                  refine AWp.exit ?_
                  refine AWp.region ?_
                  obtain rfl : k = 4 := by omega
                  refine AOps.cons rfl rfl (q_add) ?_
                  refine AOps.cons rfl rfl (q_move) ?_
                  refine AOps.nil ?_
                  refine ⟨3, ?_, Back.mk' (HasT.cons HasT.nil) (HasH.cons HasH.nil), ?_⟩
                  · omega
                  · omega
            · skip
              refine AOps.cons rfl rfl (q_move) ?_
              refine AOps.cons rfl rfl (q_ix) ?_
              refine AOps.cons rfl rfl (q_load (z := .ptr 200 0 5) (hy := rfl)) ?_
              refine AOps.cons rfl rfl (q_assign) ?_
              refine AOps.cons rfl rfl (q_assign) ?_
              refine AOps.nil ?_
              refine AWp.seq ?_
              refine AWp.region ?_
              refine AOps.cons rfl rfl (q_move) ?_
              refine AOps.cons rfl rfl (q_move) ?_
              refine AOps.cons rfl rfl (q_mul) ?_
              refine AOps.cons rfl rfl (q_move) ?_
              refine AOps.cons rfl rfl (q_mul) ?_
              refine AOps.cons rfl rfl (q_add) ?_
              refine AOps.cons rfl rfl (q_sl) ?_
              refine AOps.cons rfl rfl (q_len) ?_
              refine AOps.cons rfl rfl (q_move) ?_
              refine AOps.nil ?_
              refine AWp.block ?_
              refine AWp.loopR (α := Nat) [10, 57, 58, 59, 60, 61, 62, 63, 64, 65, 66, 67, 68, 69, 70] (fun k => [(57, i64 k)]) (fun k => [(200, .box [str (cutM b), str (cutM (cutR b)), i64 (wd (cutR (cutR b)) 0 3), i64 (wd (cutR (cutR b)) 1 3), i64 (wd (cutR (cutR b)) 2 3), i64 (num ((dg (cutR (cutR b)) 3).take k)), i64 (wd (cutR (cutR b)) 4 3)])]) (fun k => k ≤ 4) (fun k => 4 - k) 0 ?_ (Back.mk' (HasT.cons HasT.nil) (HasH.cons HasH.nil)) ?_
              · exact Nat.zero_le _
              · rintro k hk
                have hD := dg_len (j := 3) hc20 (by omega)
                have hn : k < 4 → 0 ≤ num ((dg (cutR (cutR b)) 3).take k) ∧ num ((dg (cutR (cutR b)) 3).take k) ≤ 16777215 := fun h4 => num_24 h4 (by rw [List.length_take]; omega)
                have hDl : ((dg (cutR (cutR b)) 3).length : Int) = 4 := by omega
                have hDl2 : ((List.drop (4 * ((3 : Nat) : Int)).toNat (List.take (4 * ((3 : Nat) : Int) + 4).toNat (cutR (cutR b)))).length : Int) = 4 := hDl
                have hby : ((List.drop (4 * ((3 : Nat) : Int)).toNat (List.take (4 * ((3 : Nat) : Int) + 4).toNat (cutR (cutR b)))).getD (k : Int).toNat default).toNat < 256 := ((dg (cutR (cutR b)) 3).getD k default).toNat_lt
                refine AWp.seq ?_
                refine AWp.region ?_
                refine AOps.dec rfl rfl (q_lss) (fun h14_0 => ?_) (fun h14_0 => ?_)
                · skip
                  refine AOps.nil ?_
                  refine AWp.seq ?_
                  refine AWp.cond_t rfl ?_
                  refine AWp.skip ?_
                  refine AWp.seq ?_
                  refine AWp.block ?_
                  refine AWp.seq ?_
                  refine AWp.region ?_
                  refine AOps.cons rfl rfl (q_ix) ?_
                  refine AOps.cons rfl rfl (q_load) ?_
                  refine AOps.cons rfl rfl (q_assign) ?_
                  refine AOps.nil ?_
                  refine AWp.region ?_
                  refine AOps.cons rfl rfl (q_move) ?_
                  refine AOps.cons rfl rfl (q_move) ?_
                  refine AOps.cons rfl rfl (q_nil) ?_
                  refine AOps.cons rfl rfl (q_load) ?_
                  refine AOps.cons rfl rfl (q_shl 8) ?_
                  refine AOps.cons rfl rfl (q_move) ?_
                  refine AOps.cons rfl rfl (q_conv_8i) ?_
                  refine AOps.cons rfl rfl (q_orb) ?_
                  refine AOps.cons rfl rfl (q_nil) ?_
                  refine AOps.cons rfl rfl (q_store) ?_
                  refine AOps.nil ?_
                  refine AWp.region ?_
                  refine AOps.cons rfl rfl (q_add) ?_
                  refine AOps.cons rfl rfl (q_move) ?_
                  refine AOps.nil ?_
                  have hst := num_step (l := dg (cutR (cutR b)) 3) (k := k) (by omega)
                  refine ⟨k + 1, ?_, Back.mk' (HasT.cons HasT.nil) (HasH.cons HasH.nil (h1 := by rw [hst]; rfl) ), ?_⟩
                  · omega
                  · omega
                · skip
                  refine AOps.nil ?_
                  refine AWp.seq ?_
                  refine AWp.cond_f rfl ?_
                  refine AWp.exit ?_
                  refine AWp.region ?_
                  obtain rfl : k = 4 := by omega
                  refine AOps.cons rfl rfl (q_add) ?_
                  refine AOps.cons rfl rfl (q_move) ?_
                  refine AOps.nil ?_
                  refine ⟨4, ?_, Back.mk' (HasT.cons HasT.nil) (HasH.cons HasH.nil), ?_⟩
                  · omega
                  · omega
            · skip
              refine AOps.cons rfl rfl (q_move) ?_
              refine AOps.cons rfl rfl (q_ix) ?_
              refine AOps.cons rfl rfl (q_load (z := .ptr 200 0 6) (hy := rfl)) ?_
              refine AOps.cons rfl rfl (q_assign) ?_
              refine AOps.cons rfl rfl (q_assign) ?_
              refine AOps.nil ?_
              refine AWp.seq ?_
              refine AWp.region ?_
              refine AOps.cons rfl rfl (q_move) ?_
              refine AOps.cons rfl rfl (q_move) ?_
              refine AOps.cons rfl rfl (q_mul) ?_
              refine AOps.cons rfl rfl (q_move) ?_
              refine AOps.cons rfl rfl (q_mul) ?_
              refine AOps.cons rfl rfl (q_add) ?_
              refine AOps.cons rfl rfl (q_sl) ?_
              refine AOps.cons rfl rfl (q_len) ?_
              refine AOps.cons rfl rfl (q_move) ?_
              refine AOps.nil ?_
              refine AWp.block ?_
              refine AWp.loopR (α := Nat) [10, 57, 58, 59, 60, 61, 62, 63, 64, 65, 66, 67, 68, 69, 70] (fun k => [(57, i64 k)]) (fun k => [(200, .box [str (cutM b), str (cutM (cutR b)), i64 (wd (cutR (cutR b)) 0 4), i64 (wd (cutR (cutR b)) 1 4), i64 (wd (cutR (cutR b)) 2 4), i64 (wd (cutR (cutR b)) 3 4), i64 (num ((dg (cutR (cutR b)) 4).take k))])]) (fun k => k ≤ 4) (fun k => 4 - k) 0 ?_ (Back.mk' (HasT.cons HasT.nil) (HasH.cons HasH.nil)) ?_
              · exact Nat.zero_le _
              · rintro k hk
                have hD := dg_len (j := 4) hc20 (by omega)
                have hn : k < 4 → 0 ≤ num ((dg (cutR (cutR b)) 4).take k) ∧ num ((dg (cutR (cutR b)) 4).take k) ≤ 16777215 := fun h4 => num_24 h4 (by rw [List.length_take]; omega)
                have hDl : ((dg (cutR (cutR b)) 4).length : Int) = 4 := by omega
                have hDl2 : ((List.drop (4 * ((4 : Nat) : Int)).toNat (List.take (4 * ((4 : Nat) : Int) + 4).toNat (cutR (cutR b)))).length : Int) = 4 := hDl
                have hby : ((List.drop (4 * ((4 : Nat) : Int)).toNat (List.take (4 * ((4 : Nat) : Int) + 4).toNat (cutR (cutR b)))).getD (k : Int).toNat default).toNat < 256 := ((dg (cutR (cutR b)) 4).getD k default).toNat_lt
                refine AWp.seq ?_
                refine AWp.region ?_
                refine AOps.dec rfl rfl (q_lss) (fun h14_0 => ?_) (fun h14_0 => ?_)
                · skip
                  refine AOps.nil ?_
                  refine AWp.seq ?_
                  refine AWp.cond_t rfl ?_
                  refine AWp.skip ?_
                  refine AWp.seq ?_
                  refine AWp.block ?_
                  refine AWp.seq ?_
                  refine AWp.region ?_
                  refine AOps.cons rfl rfl (q_ix) ?_
                  refine AOps.cons rfl rfl (q_load) ?_
                  refine AOps.cons rfl rfl (q_assign) ?_
                  refine AOps.nil ?_
                  refine AWp.region ?_
                  refine AOps.cons rfl rfl (q_move) ?_
                  refine AOps.cons rfl rfl (q_move) ?_
                  refine AOps.cons rfl rfl (q_nil) ?_
                  refine AOps.cons rfl rfl (q_load) ?_
                  refine AOps.cons rfl rfl (q_shl 8) ?_
                  refine AOps.cons rfl rfl (q_move) ?_
                  refine AOps.cons rfl rfl (q_conv_8i) ?_
                  refine AOps.cons rfl rfl (q_orb) ?_
                  refine AOps.cons rfl rfl (q_nil) ?_
                  refine AOps.cons rfl rfl (q_store) ?_
                  refine AOps.nil ?_
                  refine AWp.region ?_
                  refine AOps.cons rfl rfl (q_add) ?_
                  refine AOps.cons rfl rfl (q_move) ?_
                  refine AOps.nil ?_
                  have hst := num_step (l := dg (cutR (cutR b)) 4) (k := k) (by omega)
                  refine ⟨k + 1, ?_, Back.mk' (HasT.cons HasT.nil) (HasH.cons HasH.nil (h1 := by rw [hst]; rfl) ), ?_⟩
                  · omega
                  · omega
                · skip
                  refine AOps.nil ?_
                  refine AWp.seq ?_
                  refine AWp.cond_f rfl ?_
                  refine AWp.exit ?_
                  refine AWp.region ?_
                  obtain rfl : k = 4 := by omega
                  refine AOps.cons rfl rfl (q_add) ?_
                  refine AOps.cons rfl rfl (q_move) ?_
                  refine AOps.nil ?_
                  refine ⟨5, ?_, Back.mk' (HasT.cons HasT.nil) (HasH.cons HasH.nil), ?_⟩
                  · omega
                  · omega
          · skip
            refine AOps.nil ?_
            refine AWp.seq ?_
            refine AWp.cond_f rfl ?_
            refine AWp.exit ?_
            refine AWp.seq ?_
            refine AWp.region ?_
            obtain rfl : i = 5 := by omega
            have ho : soaO b = true := by rw [soaO, h4_5, h7_5, decide_eq_true (by omega)]; rfl
            have hv : soaV b = ⟨cutM b, cutM (cutR b), wd (cutR (cutR b)) 0 5, wd (cutR (cutR b)) 1 5, wd (cutR (cutR b)) 2 5, wd (cutR (cutR b)) 3 5, wd (cutR (cutR b)) 4 5⟩ := by rw [soaV, if_pos ho]
            refine AOps.cons rfl rfl (q_load) ?_
            refine AOps.cons rfl rfl (q_store) ?_
            refine AOps.cons rfl rfl (q_assign) ?_
            refine AOps.nil ?_
            refine AWp.ret ?_
            show Fin te Try.f63 _ _
            refine q_ret (0) [_, _] [_, _] ?_
            rw [hv, ho]; rfl
    · skip
      refine AOps.cons rfl rfl (q_fa) ?_
      refine AOps.cons rfl rfl (q_store) ?_
      refine AOps.cons rfl rfl (q_assign) ?_
      refine AOps.cons rfl rfl (q_assign) ?_
      refine AOps.nil ?_
      refine AWp.seq ?_
      refine AWp.region ?_
      refine AOps.cons rfl rfl (q_move) ?_
      refine AOps.cons rfl rfl (q_not) ?_
      refine AOps.cons rfl rfl (q_move) ?_
      refine AOps.gskip rfl rfl rfl rfl rfl rfl rfl rfl ?_
      refine AOps.gskip rfl rfl rfl rfl rfl rfl rfl rfl ?_
      refine AOps.gskip rfl rfl rfl rfl rfl rfl rfl rfl ?_
      refine AOps.cons rfl rfl (q_pick) ?_
      refine AOps.nil ?_
      refine AWp.cond_t rfl ?_
      refine AWp.seq ?_
      refine AWp.region ?_
      refine AOps.cons rfl rfl (q_build []) ?_
      refine AOps.cons rfl rfl (q_store) ?_
      refine AOps.cons rfl rfl (q_assign) ?_
      refine AOps.nil ?_
      refine AWp.ret ?_
      show Fin te Try.f63 _ _
      refine q_ret (0) [_, _] [_, _] ?_
      have ho : soaO b = false := by rw [soaO, h7_5, Bool.false_and, Bool.and_false]
      rw [soaV_no ho, ho]; rfl
  · skip
    refine AOps.cons rfl rfl (q_fa) ?_
    refine AOps.cons rfl rfl (q_store) ?_
    refine AOps.cons rfl rfl (q_assign) ?_
    refine AOps.cons rfl rfl (q_assign) ?_
    refine AOps.nil ?_
    refine AWp.seq ?_
    refine AWp.region ?_
    refine AOps.cons rfl rfl (q_move) ?_
    refine AOps.cons rfl rfl (q_not) ?_
    refine AOps.nil ?_
    refine AWp.cond_t rfl ?_
    refine AWp.seq ?_
    refine AWp.region ?_
    refine AOps.cons rfl rfl (q_build []) ?_
    refine AOps.cons rfl rfl (q_store) ?_
    refine AOps.cons rfl rfl (q_assign) ?_
    refine AOps.nil ?_
    refine AWp.ret ?_
    show Fin te Try.f63 _ _
    refine q_ret (0) [_, _] [_, _] ?_
    have ho : soaO b = false := by rw [soaO, h4_5]; rfl
    rw [soaV_no ho, ho]; rfl

end Go.Proofs.Ytaemmklgofddmaa.Fw
