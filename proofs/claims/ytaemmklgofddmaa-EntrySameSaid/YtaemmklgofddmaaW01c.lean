/- Walks of layer 1: the orders and the reference's. -/
import Derived.Test.YtaemmklgofddmaaW01b
set_option linter.unusedVariables false
set_option linter.unusedSimpArgs false
namespace Go.Proofs.Ytaemmklgofddmaa.Fw
open Go.RowKit


theorem can_labs {n : List UInt8} (h : canN n = true) : GoodN (labN n) ∧ n = joinN (labN n) ∧ n.length ≤ 255 := by
  obtain ⟨ls, g, rfl, hl⟩ := canN_iff.1 h
  rw [labN_join g hl]
  exact ⟨g, rfl, hl⟩
theorem labs_end (n : List UInt8) {i : Nat} (h : n.length ≤ i) : (labs (n.drop i)).isSome = false := by
  rw [List.drop_of_length_le h, labs]; rfl
theorem labs_at {n : List UInt8} {i : Nat} (hi : i < n.length) : (labs (n.drop i)).isSome = if (n.getD i 0).toNat = 0 then decide (i + 1 = n.length) else if 63 < (n.getD i 0).toNat then false else (labs (n.drop (i + 1 + (n.getD i 0).toNat))).isSome := by
  have hg : n.getD i 0 = n[i] := by rw [List.getD_eq_getElem?_getD, List.getElem?_eq_getElem hi]; rfl
  rw [List.drop_eq_getElem_cons hi, labs, ← hg]
  generalize n.getD i 0 = k
  have hz : k = 0 ↔ k.toNat = 0 := ⟨fun e => by rw [e]; rfl, fun e => UInt8.toNat_inj.1 (by simpa using e)⟩
  by_cases h0 : k.toNat = 0
  · rw [if_pos (hz.2 h0), if_pos h0]
    by_cases he : i + 1 = n.length
    · rw [if_pos (List.drop_of_length_le (by omega)), decide_eq_true he]; rfl
    · rw [if_neg (fun e => by have := congrArg List.length e; simp at this; omega), decide_eq_false he]; rfl
  · rw [if_neg (fun e => h0 (hz.1 e)), if_neg h0]
    by_cases h6 : 63 < k.toNat
    · rw [if_pos (Or.inl h6), if_pos h6]; rfl
    · rw [if_neg h6]
      by_cases hr : (n.drop (i + 1)).length < k.toNat
      · rw [if_pos (Or.inr hr), labs_end n (by simp at hr; omega)]; rfl
      · rw [if_neg (by omega), Option.isSome_map, List.drop_drop]
theorem at_root {n : List UInt8} {i : Nat} (h : n.drop i = joinN []) : i < n.length ∧ (n.getD i 0).toNat = 0 := by
  have hl := congrArg List.length h
  rw [joinN_nil, List.length_drop] at hl
  simp at hl
  have hi : i < n.length := by omega
  refine ⟨hi, ?_⟩
  rw [List.drop_eq_getElem_cons hi, joinN_nil] at h
  rw [List.getD_eq_getElem?_getD, List.getElem?_eq_getElem hi, Option.getD_some, (List.cons.inj h).1]
  rfl
theorem at_lab {n l : List UInt8} {ls : List (List UInt8)} {i : Nat} (g : GoodN (l :: ls)) (h : n.drop i = joinN (l :: ls)) : i < n.length ∧ (n.getD i 0).toNat = l.length ∧ i + 1 + l.length < n.length ∧ (n.take (i + 1 + l.length)).drop (i + 1) = l ∧ n.drop (i + 1 + l.length) = joinN ls ∧ 1 ≤ l.length ∧ l.length ≤ 63 := by
  have hl := congrArg List.length h
  have hp := joinN_length ls
  rw [joinN_cons, List.length_drop, List.length_cons, List.length_append] at hl
  have hi : i < n.length := by omega
  have h2 := h
  rw [List.drop_eq_getElem_cons hi, joinN_cons] at h2
  obtain ⟨e1, e2⟩ := List.cons.inj h2
  refine ⟨hi, ?_, by omega, ?_, ?_, g.head.1, g.head.2⟩
  · rw [List.getD_eq_getElem?_getD, List.getElem?_eq_getElem hi, Option.getD_some, e1]
    exact byte_len g.head.2
  · rw [List.drop_take, e2, show i + 1 + l.length - (i + 1) = l.length by omega, List.take_left]
  · rw [← List.drop_drop, e2, List.drop_left]
theorem low_len {n : List UInt8} (h : canN n = true) : lowN n = joinN (lowL (labN n)) ∧ (joinN (lowL (labN n))).length ≤ 255 := by
  obtain ⟨ls, g, rfl, hl⟩ := canN_iff.1 h
  rw [labN_join g hl, lowN_join g hl]
  exact ⟨rfl, by rw [low_length g]; exact hl⟩
theorem joinN_drop_le : ∀ (ls : List (List UInt8)) (j : Nat), (joinN (ls.drop j)).length ≤ (joinN ls).length
  | [], j => by simp
  | l :: ls, 0 => Nat.le_refl _
  | l :: ls, j + 1 => by
    have := joinN_drop_le ls j
    have := joinN_le (l := l) (ls := ls)
    simp only [List.drop_succ_cons]
    omega
theorem join_at {ls : List (List UInt8)} {i : Nat} (hi : i < ls.length) : joinN (ls.drop i) = byte ((ls.getD i default).length : Int) :: (ls.getD i default ++ joinN (ls.drop (i + 1))) := by
  have e : ls.getD i default = ls[i] := by rw [List.getD_eq_getElem?_getD, List.getElem?_eq_getElem hi]; rfl
  rw [List.drop_eq_getElem_cons hi, joinN_cons, e]
theorem take_map_step {α β : Type} [Inhabited α] (f : α → β) {l : List α} {i : Nat} (hi : i < l.length) : (l.take (i + 1)).map f = (l.take i).map f ++ [f (l.getD i default)] := by
  have e : l.getD i default = l[i] := by rw [List.getD_eq_getElem?_getD, List.getElem?_eq_getElem hi]; rfl
  rw [List.take_succ_eq_append_getElem hi, List.map_append, e]
  rfl
theorem getD_mem' {α : Type} [Inhabited α] {l : List α} {i : Nat} (hi : i < l.length) : l.getD i default ∈ l := by
  rw [List.getD_eq_getElem?_getD, List.getElem?_eq_getElem hi]; exact List.getElem_mem hi
theorem rev_at {α : Type} [Inhabited α] {l : List α} {k : Nat} (h : k < l.length) : l.getD ((l.length : Int) - ((k : Int) + 1)).toNat default = l.reverse.getD k default := by
  rw [List.getD_eq_getElem?_getD, List.getD_eq_getElem?_getD, List.getElem?_reverse h, show ((l.length : Int) - ((k : Int) + 1)).toNat = l.length - 1 - k by omega]
/-- The names of a law's draws. -/
def tblN : List (List UInt8) := [[97], [98], [119, 119, 119], [110, 115], [65], [120, 45, 49]]
def pickN (c : UInt8) : List UInt8 := tblN.getD (c % 6).toNat default
def plainN (b : List UInt8) : List UInt8 := joinN ((b.take 4).map pickN)
set_option maxRecDepth 10000 in
theorem pickN_good : ∀ c : UInt8, 1 ≤ (pickN c).length ∧ (pickN c).length ≤ 3 := by
  have h : ∀ k : _root_.Fin 256, 1 ≤ (pickN (UInt8.ofNat k.val)).length ∧ (pickN (UInt8.ofNat k.val)).length ≤ 3 := by decide
  intro c
  have := h ⟨c.toNat, c.toNat_lt⟩
  simpa using this
theorem joinN_small : ∀ {ls : List (List UInt8)}, (∀ l ∈ ls, l.length ≤ 3) → (joinN ls).length ≤ 4 * ls.length + 1
  | [], _ => by simp [joinN]
  | l :: ls, h => by
    have := joinN_small (ls := ls) fun x hx => h x (by simp [hx])
    have := h l (by simp)
    rw [joinN_cons]
    simp
    omega
theorem plain_good (b : List UInt8) : GoodN ((b.take 4).map pickN) ∧ (plainN b).length ≤ 17 := by
  refine ⟨fun l hl => ?_, ?_⟩
  · obtain ⟨c, _, rfl⟩ := List.mem_map.1 hl
    have := pickN_good c
    omega
  · have := joinN_small (ls := (b.take 4).map pickN) fun l hl => by
      obtain ⟨c, _, rfl⟩ := List.mem_map.1 hl
      exact (pickN_good c).2
    have h4 : ((b.take 4).map pickN).length ≤ 4 := by rw [List.length_map, List.length_take]; omega
    show (joinN _).length ≤ 17
    omega

set_option maxRecDepth 20000 in
theorem c_ciceroneref01_Can (n : List UInt8) (h : n.length ≤ 140737488355328) : AC Try.prog 40 [str n] emp (Ret (tf (canN n))) := by
  refine AC.intro te_ok (fn := Try.f40) ⟨Try.func40, rfl, rfl⟩ (Nat.le_of_ble_eq_true rfl) ?_
  refine AWp.seq ?_
  refine AWp.region ?_
  refine AOps.cons rfl rfl (q_assign) ?_
  refine AOps.nil ?_
  refine AWp.seq ?_
  refine AWp.seq ?_
  refine AWp.region ?_
  refine AOps.cons rfl rfl (q_move) ?_
  refine AOps.cons rfl rfl (q_len_str) ?_
  refine AOps.dec rfl rfl (q_gtr) (fun h1_2 => ?_) (fun h1_2 => ?_)
  · skip
    refine AOps.nil ?_
    refine AWp.cond_t rfl ?_
    refine AWp.seq ?_
    refine AWp.region ?_
    refine AOps.cons rfl rfl (q_assign) ?_
    refine AOps.nil ?_
    refine AWp.ret ?_
    show Fin te Try.f40 _ _
    refine q_ret (0) [_] [_] ?_
    have e : canN n = false := by rw [canN, decide_eq_false (by omega), Bool.and_false]
    rw [e]; rfl
  · skip
    refine AOps.nil ?_
    refine AWp.cond_f rfl ?_
    refine AWp.skip ?_
    refine AWp.seq ?_
    refine AWp.region ?_
    refine AOps.cons rfl rfl (q_assign) ?_
    refine AOps.nil ?_
    refine AWp.seq ?_
    refine AWp.block ?_
    refine AWp.loopR (α := Nat) [2, 3, 4, 8, 9, 10, 11, 12, 13, 14, 15, 16, 17, 18, 19, 20, 21, 22, 23, 24, 25, 26, 27, 28] (fun i => [(3, i64 i)]) (fun i => []) (fun i => (labs n).isSome = (labs (n.drop i)).isSome ∧ i ≤ 319) (fun i => n.length - i) 0 ?_ (Back.mk' (HasT.cons HasT.nil) HasH.nil) ?_
    · exact ⟨rfl, by omega⟩
    · rintro i ⟨hc, hi⟩
      refine AWp.seq ?_
      refine AWp.seq ?_
      refine AWp.region ?_
      refine AOps.cons rfl rfl (q_move) ?_
      refine AOps.cons rfl rfl (q_move) ?_
      refine AOps.cons rfl rfl (q_len_str) ?_
      refine AOps.dec rfl rfl (q_lss) (fun h4_3 => ?_) (fun h4_3 => ?_)
      · skip
        refine AOps.nil ?_
        refine AWp.cond_t rfl ?_
        refine AWp.skip ?_
        refine AWp.block ?_
        refine AWp.seq ?_
        refine AWp.region ?_
        have hk := (n.getD i 0).toNat_lt
        refine AOps.cons rfl rfl (q_move) ?_
        refine AOps.cons rfl rfl (q_move) ?_
        refine AOps.cons rfl rfl (q_ixs) ?_
        refine AOps.cons rfl rfl (q_conv_8i) ?_
        refine AOps.cons rfl rfl (q_assign) ?_
        refine AOps.nil ?_
        refine AWp.seq ?_
        refine AWp.seq ?_
        refine AWp.region ?_
        have hla := labs_at (n := n) (i := i) (by omega)
        refine AOps.cons rfl rfl (q_move) ?_
        refine AOps.dec rfl rfl (q_eql) (fun h6_1 => ?_) (fun h6_1 => ?_)
        · skip
          refine AOps.nil ?_
          refine AWp.cond_t rfl ?_
          refine AWp.seq ?_
          refine AWp.region ?_
          refine AOps.cons rfl rfl (q_move) ?_
          refine AOps.cons rfl rfl (q_move) ?_
          refine AOps.cons rfl rfl (q_len_str) ?_
          refine AOps.cons rfl rfl (q_sub) ?_
          refine AOps.cons rfl rfl (q_eql) ?_
          refine AOps.cons rfl rfl (q_assign) ?_
          refine AOps.nil ?_
          refine AWp.ret ?_
          show Fin te Try.f40 _ _
          refine q_ret (0) [_] [_] ?_
          have k1 : ((n.getD i 0).toNat : Int) = 0 := h6_1
          rw [if_pos (by omega)] at hla
          rw [canN, hc, hla, decide_eq_true (show n.length ≤ 255 by omega), Bool.and_true]
          exact congrArg tf (decide_eq_decide.2 (by omega))
        · skip
          refine AOps.nil ?_
          refine AWp.cond_f rfl ?_
          refine AWp.skip ?_
          refine AWp.seq ?_
          refine AWp.seq ?_
          refine AWp.region ?_
          refine AOps.cons rfl rfl (q_move) ?_
          refine AOps.dec rfl rfl (q_gtr) (fun h8_1 => ?_) (fun h8_1 => ?_)
          · skip
            refine AOps.nil ?_
            refine AWp.cond_t rfl ?_
            refine AWp.seq ?_
            refine AWp.region ?_
            refine AOps.cons rfl rfl (q_assign) ?_
            refine AOps.nil ?_
            refine AWp.ret ?_
            show Fin te Try.f40 _ _
            refine q_ret (0) [_] [_] ?_
            have k1 : ¬ ((n.getD i 0).toNat : Int) = 0 := h6_1
            have k2 : 63 < ((n.getD i 0).toNat : Int) := h8_1
            rw [if_neg (by omega), if_pos (by omega)] at hla
            rw [canN, hc, hla]; rfl
          · skip
            refine AOps.nil ?_
            refine AWp.cond_f rfl ?_
            refine AWp.skip ?_
            refine AWp.region ?_
            have k2 : ¬ 63 < ((n.getD i 0).toNat : Int) := h8_1
            have hk3 : ((n.getD (i : Int).toNat 0).toNat : Int) = ((n.getD i 0).toNat : Int) := rfl
            refine AOps.cons rfl rfl (q_move) ?_
            refine AOps.cons rfl rfl (q_move) ?_
            refine AOps.cons rfl rfl (q_add) ?_
            refine AOps.cons rfl rfl (q_add) ?_
            refine AOps.cons rfl rfl (q_assign) ?_
            refine AOps.nil ?_
            have k1 : ¬ ((n.getD i 0).toNat : Int) = 0 := h6_1
            have k2 : ¬ 63 < ((n.getD i 0).toNat : Int) := h8_1
            refine ⟨i + 1 + (n.getD i 0).toNat, ?_, Back.mk' (HasT.cons HasT.nil (h1 := by exact i64_eq (by show (i : Int) + (1 + ((n.getD i 0).toNat : Int)) = ((i + 1 + (n.getD i 0).toNat : Nat) : Int); omega)) ) HasH.nil, ?_⟩
            · exact ⟨by rw [hc, labs_at (by omega), if_neg (by omega), if_neg (by omega)], by omega⟩
            · omega
      · skip
        refine AOps.nil ?_
        refine AWp.cond_f rfl ?_
        refine AWp.exit ?_
        refine AWp.seq ?_
        refine AWp.region ?_
        refine AOps.cons rfl rfl (q_assign) ?_
        refine AOps.nil ?_
        refine AWp.ret ?_
        show Fin te Try.f40 _ _
        refine q_ret (0) [_] [_] ?_
        have e : canN n = false := by rw [canN, hc, labs_end n (by omega)]; rfl
        rw [e]; rfl

end Go.Proofs.Ytaemmklgofddmaa.Fw
