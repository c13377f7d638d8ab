/- Walks of layer 1: the orders and the reference's. -/
import Derived.Test.YtfojdjlhpejbpaaW01b
set_option linter.unusedVariables false
set_option linter.unusedSimpArgs false
namespace Go.Proofs.Ytfojdjlhpejbpaa.Fw
open Go.RowKit


theorem can_labs {n : List UInt8} (h : canN n = true) : GoodN (labN n) ∧ n = joinN (labN n) ∧ n.length ≤ 255 := by
  obtain ⟨ls, g, rfl, hl⟩ := canN_iff.1 h
  rw [labN_join g hl]
  exact ⟨g, rfl, hl⟩
theorem labs_end (n : List UInt8) {i : Nat} (h : n.length ≤ i) : (labs (n.drop i)).isSome = false := by
  rw [List.drop_of_length_le h, labs]; rfl
theorem labs_at {n : List UInt8} {i : Nat} (hi : i < n.length) : (labs (n.drop i)).isSome = if (n.getD i 0).toNat = 0 then decide (i + 1 = n.length) else if 63 < (n.getD i 0).toNat then false else (labs (n.drop (i + 1 + (n.getD i 0).toNat))).isSome := by
  have hg : n.getD i 0 = n[i] := by rw [List.getD_eq_getElem?_getD, List.getElem?_eq_getElem hi]; rfl
  rw [List.drop_eq_getElem_cons hi, labs, ← hg]
  generalize n.getD i 0 = k
  have hz : k = 0 ↔ k.toNat = 0 := ⟨fun e => by rw [e]; rfl, fun e => UInt8.toNat_inj.1 (by simpa using e)⟩
  by_cases h0 : k.toNat = 0
  · rw [if_pos (hz.2 h0), if_pos h0]
    by_cases he : i + 1 = n.length
    · rw [if_pos (List.drop_of_length_le (by omega)), decide_eq_true he]; rfl
    · rw [if_neg (fun e => by have := congrArg List.length e; simp at this; omega), decide_eq_false he]; rfl
  · rw [if_neg (fun e => h0 (hz.1 e)), if_neg h0]
    by_cases h6 : 63 < k.toNat
    · rw [if_pos (Or.inl h6), if_pos h6]; rfl
    · rw [if_neg h6]
      by_cases hr : (n.drop (i + 1)).length < k.toNat
      · rw [if_pos (Or.inr hr), labs_end n (by simp at hr; omega)]; rfl
      · rw [if_neg (by omega), Option.isSome_map, List.drop_drop]
theorem at_root {n : List UInt8} {i : Nat} (h : n.drop i = joinN []) : i < n.length ∧ (n.getD i 0).toNat = 0 := by
  have hl := congrArg List.length h
  rw [joinN_nil, List.length_drop] at hl
  simp at hl
  have hi : i < n.length := by omega
  refine ⟨hi, ?_⟩
  rw [List.drop_eq_getElem_cons hi, joinN_nil] at h
  rw [List.getD_eq_getElem?_getD, List.getElem?_eq_getElem hi, Option.getD_some, (List.cons.inj h).1]
  rfl
theorem at_lab {n l : List UInt8} {ls : List (List UInt8)} {i : Nat} (g : GoodN (l :: ls)) (h : n.drop i = joinN (l :: ls)) : i < n.length ∧ (n.getD i 0).toNat = l.length ∧ i + 1 + l.length < n.length ∧ (n.take (i + 1 + l.length)).drop (i + 1) = l ∧ n.drop (i + 1 + l.length) = joinN ls ∧ 1 ≤ l.length ∧ l.length ≤ 63 := by
  have hl := congrArg List.length h
  have hp := joinN_length ls
  rw [joinN_cons, List.length_drop, List.length_cons, List.length_append] at hl
  have hi : i < n.length := by omega
  have h2 := h
  rw [List.drop_eq_getElem_cons hi, joinN_cons] at h2
  obtain ⟨e1, e2⟩ := List.cons.inj h2
  refine ⟨hi, ?_, by omega, ?_, ?_, g.head.1, g.head.2⟩
  · rw [List.getD_eq_getElem?_getD, List.getElem?_eq_getElem hi, Option.getD_some, e1]
    exact byte_len g.head.2
  · rw [List.drop_take, e2, show i + 1 + l.length - (i + 1) = l.length by omega, List.take_left]
  · rw [← List.drop_drop, e2, List.drop_left]
theorem low_len {n : List UInt8} (h : canN n = true) : lowN n = joinN (lowL (labN n)) ∧ (joinN (lowL (labN n))).length ≤ 255 := by
  obtain ⟨ls, g, rfl, hl⟩ := canN_iff.1 h
  rw [labN_join g hl, lowN_join g hl]
  exact ⟨rfl, by rw [low_length g]; exact hl⟩
theorem joinN_drop_le : ∀ (ls : List (List UInt8)) (j : Nat), (joinN (ls.drop j)).length ≤ (joinN ls).length
  | [], j => by simp
  | l :: ls, 0 => Nat.le_refl _
  | l :: ls, j + 1 => by
    have := joinN_drop_le ls j
    have := joinN_le (l := l) (ls := ls)
    simp only [List.drop_succ_cons]
    omega
theorem join_at {ls : List (List UInt8)} {i : Nat} (hi : i < ls.length) : joinN (ls.drop i) = byte ((ls.getD i default).length : Int) :: (ls.getD i default ++ joinN (ls.drop (i + 1))) := by
  have e : ls.getD i default = ls[i] := by rw [List.getD_eq_getElem?_getD, List.getElem?_eq_getElem hi]; rfl
  rw [List.drop_eq_getElem_cons hi, joinN_cons, e]
theorem take_map_step {α β : Type} [Inhabited α] (f : α → β) {l : List α} {i : Nat} (hi : i < l.length) : (l.take (i + 1)).map f = (l.take i).map f ++ [f (l.getD i default)] := by
  have e : l.getD i default = l[i] := by rw [List.getD_eq_getElem?_getD, List.getElem?_eq_getElem hi]; rfl
  rw [List.take_succ_eq_append_getElem hi, List.map_append, e]
  rfl
theorem getD_mem' {α : Type} [Inhabited α] {l : List α} {i : Nat} (hi : i < l.length) : l.getD i default ∈ l := by
  rw [List.getD_eq_getElem?_getD, List.getElem?_eq_getElem hi]; exact List.getElem_mem hi
theorem rev_at {α : Type} [Inhabited α] {l : List α} {k : Nat} (h : k < l.length) : l.getD ((l.length : Int) - ((k : Int) + 1)).toNat default = l.reverse.getD k default := by
  rw [List.getD_eq_getElem?_getD, List.getD_eq_getElem?_getD, List.getElem?_reverse h, show ((l.length : Int) - ((k : Int) + 1)).toNat = l.length - 1 - k by omega]
/-- The names of a law's draws. -/
def tblN : List (List UInt8) := [[97], [98], [119, 119, 119], [110, 115], [65], [120, 45, 49]]
def pickN (c : UInt8) : List UInt8 := tblN.getD (c % 6).toNat default
def plainN (b : List UInt8) : List UInt8 := joinN ((b.take 4).map pickN)
set_option maxRecDepth 10000 in
theorem pickN_good : ∀ c : UInt8, 1 ≤ (pickN c).length ∧ (pickN c).length ≤ 3 := by
  have h : ∀ k : _root_.Fin 256, 1 ≤ (pickN (UInt8.ofNat k.val)).length ∧ (pickN (UInt8.ofNat k.val)).length ≤ 3 := by decide
  intro c
  have := h ⟨c.toNat, c.toNat_lt⟩
  simpa using this
theorem joinN_small : ∀ {ls : List (List UInt8)}, (∀ l ∈ ls, l.length ≤ 3) → (joinN ls).length ≤ 4 * ls.length + 1
  | [], _ => by simp [joinN]
  | l :: ls, h => by
    have := joinN_small (ls := ls) fun x hx => h x (by simp [hx])
    have := h l (by simp)
    rw [joinN_cons]
    simp
    omega
theorem plain_good (b : List UInt8) : GoodN ((b.take 4).map pickN) ∧ (plainN b).length ≤ 17 := by
  refine ⟨fun l hl => ?_, ?_⟩
  · obtain ⟨c, _, rfl⟩ := List.mem_map.1 hl
    have := pickN_good c
    omega
  · have := joinN_small (ls := (b.take 4).map pickN) fun l hl => by
      obtain ⟨c, _, rfl⟩ := List.mem_map.1 hl
      exact (pickN_good c).2
    have h4 : ((b.take 4).map pickN).length ≤ 4 := by rw [List.length_map, List.length_take]; omega
    show (joinN _).length ≤ 17
    omega

set_option maxRecDepth 20000 in
theorem c_slices_CompareFunc_string_string_string_string (a b : List (List UInt8)) (lv lw : Nat) (ha : a.length ≤ 140737488351232) (hb : b.length ≤ 140737488351232) : AC Try.prog 38 [.fz lv a.length (cl sc a), .fz lw b.length (cl sc b), .fn (.func 39) [] []] emp (Ret (i64 (cmpL a b))) := by
  refine AC.intro te_ok (fn := Try.f38) ⟨Try.func38, rfl, rfl⟩ (Nat.le_of_ble_eq_true rfl) ?_
  refine AWp.seq ?_
  refine AWp.region ?_
  refine AOps.cons rfl rfl (q_assign) ?_
  refine AOps.nil ?_
  refine AWp.seq ?_
  refine AWp.seq ?_
  refine AWp.region ?_
  refine AOps.cons rfl rfl (q_move) ?_
  refine AOps.cons rfl rfl (q_len) ?_
  refine AOps.cons rfl rfl (q_move) ?_
  refine AOps.nil ?_
  refine AWp.block ?_
  refine AWp.loopR (α := Nat) [6, 7, 8, 9, 10, 13, 14, 15, 16, 17, 18, 19, 20, 21, 22, 23, 24, 25, 26, 27, 28, 29, 30, 31, 32, 33] (fun i => [(13, i64 i)]) (fun i => []) (fun i => i ≤ a.length ∧ i ≤ b.length ∧ cmpL a b = cmpL (a.drop i) (b.drop i)) (fun i => a.length - i) 0 ?_ (Back.mk' (HasT.cons HasT.nil) HasH.nil) ?_
  · exact ⟨Nat.zero_le _, Nat.zero_le _, rfl⟩
  · rintro i ⟨h1, h2, hc⟩
    refine AWp.seq ?_
    refine AWp.region ?_
    refine AOps.dec rfl rfl (q_lss) (fun h2_0 => ?_) (fun h2_0 => ?_)
    · skip
      refine AOps.nil ?_
      refine AWp.seq ?_
      refine AWp.cond_t rfl ?_
      refine AWp.skip ?_
      refine AWp.seq ?_
      refine AWp.block ?_
      refine AWp.seq ?_
      refine AWp.region ?_
      refine AOps.cons rfl rfl (q_move) ?_
      refine AOps.cons rfl rfl (q_ix) ?_
      refine AOps.cons rfl rfl (q_load) ?_
      refine AOps.cons rfl rfl (q_assign) ?_
      refine AOps.cons rfl rfl (q_assign) ?_
      refine AOps.nil ?_
      refine AWp.seq ?_
      refine AWp.seq ?_
      refine AWp.region ?_
      refine AOps.cons rfl rfl (q_move) ?_
      refine AOps.cons rfl rfl (q_move) ?_
      refine AOps.cons rfl rfl (q_len) ?_
      refine AOps.dec rfl rfl (q_geq) (fun h4_3 => ?_) (fun h4_3 => ?_)
      · skip
        refine AOps.nil ?_
        refine AWp.cond_t rfl ?_
        refine AWp.seq ?_
        refine AWp.region ?_
        refine AOps.cons rfl rfl (q_assign) ?_
        refine AOps.nil ?_
        refine AWp.ret ?_
        show Fin te Try.f38 _ _
        refine q_ret (0) [_] [_] ?_
        rw [hc, cmpL_a (by omega) (by omega)]; rfl
      · skip
        refine AOps.nil ?_
        refine AWp.cond_f rfl ?_
        refine AWp.skip ?_
        refine AWp.seq ?_
        refine AWp.region ?_
        refine AOps.cons rfl rfl (q_move) ?_
        refine AOps.cons rfl rfl (q_move) ?_
        refine AOps.cons rfl rfl (q_ix) ?_
        refine AOps.cons rfl rfl (q_load) ?_
        refine AOps.cons rfl rfl (q_assign) ?_
        refine AOps.nil ?_
        refine AWp.seq ?_
        refine AWp.region ?_
        refine AOps.cons rfl rfl (q_move) ?_
        refine AOps.cons rfl rfl (q_move) ?_
        refine AOps.cons rfl rfl (q_move) ?_
        refine AOps.cons rfl rfl (q_call (0) (hc := (c_cmp_Compare_string (a.getD i default) (b.getD i default)))) ?_
        refine AOps.cons rfl rfl (q_assign) ?_
        refine AOps.nil ?_
        refine AWp.seq ?_
        refine AWp.region ?_
        refine AOps.cons rfl rfl (q_move) ?_
        refine AOps.dec rfl rfl (q_neq) (fun h8_1 => ?_) (fun h8_1 => ?_)
        · skip
          refine AOps.nil ?_
          refine AWp.cond_t rfl ?_
          refine AWp.seq ?_
          refine AWp.region ?_
          refine AOps.cons rfl rfl (q_move) ?_
          refine AOps.cons rfl rfl (q_assign) ?_
          refine AOps.nil ?_
          refine AWp.ret ?_
          show Fin te Try.f38 _ _
          refine q_ret (0) [_] [_] ?_
          rw [hc, cmpL_at (by omega) (by omega), if_neg (by simpa using h8_1)]; rfl
        · skip
          refine AOps.nil ?_
          refine AWp.cond_f rfl ?_
          refine AWp.skip ?_
          refine AWp.region ?_
          refine AOps.cons rfl rfl (q_add) ?_
          refine AOps.cons rfl rfl (q_move) ?_
          refine AOps.nil ?_
          refine ⟨i + 1, ?_, Back.mk' (HasT.cons HasT.nil) HasH.nil, ?_⟩
          · exact ⟨by omega, by omega, by rw [hc, cmpL_at (by omega) (by omega), if_pos (by simpa using h8_1)]⟩
          · first | omega | (simp; omega)
    · skip
      refine AOps.nil ?_
      refine AWp.seq ?_
      refine AWp.cond_f rfl ?_
      refine AWp.exit ?_
      refine AWp.seq ?_
      refine AWp.seq ?_
      refine AWp.region ?_
      refine AOps.cons rfl rfl (q_move) ?_
      refine AOps.cons rfl rfl (q_len) ?_
      refine AOps.cons rfl rfl (q_move) ?_
      refine AOps.cons rfl rfl (q_len) ?_
      refine AOps.dec rfl rfl (q_lss) (fun h11_4 => ?_) (fun h11_4 => ?_)
      · skip
        refine AOps.nil ?_
        refine AWp.cond_t rfl ?_
        refine AWp.seq ?_
        refine AWp.region ?_
        refine AOps.cons rfl rfl (q_assign) ?_
        refine AOps.nil ?_
        refine AWp.ret ?_
        show Fin te Try.f38 _ _
        refine q_ret (0) [_] [_] ?_
        rw [hc, cmpL_b (by omega) (by omega)]; rfl
      · skip
        refine AOps.nil ?_
        refine AWp.cond_f rfl ?_
        refine AWp.skip ?_
        refine AWp.seq ?_
        refine AWp.region ?_
        refine AOps.cons rfl rfl (q_assign) ?_
        refine AOps.nil ?_
        refine AWp.ret ?_
        show Fin te Try.f38 _ _
        refine q_ret (0) [_] [_] ?_
        rw [hc, cmpL_0 (by omega) (by omega)]; rfl

set_option maxRecDepth 20000 in
theorem c_name_Compare (a b : List UInt8) (ha : a.length ≤ 140737488355328) (hb : b.length ≤ 140737488355328) : AC Try.prog 24 [str a, str b] emp (Ret (i64 (cmpN a b))) := by
  have h1 := lowN_len a
  have h2 := lowN_len b
  have h3 := labN_len (lowN a)
  have h4 := labN_len (lowN b)
  refine AC.intro te_ok (fn := Try.f24) ⟨Try.func24, rfl, rfl⟩ (Nat.le_of_ble_eq_true rfl) ?_
  refine AWp.seq ?_
  refine AWp.region ?_
  refine AOps.cons rfl rfl (q_assign) ?_
  refine AOps.nil ?_
  refine AWp.seq ?_
  refine AWp.seq ?_
  refine AWp.region ?_
  refine AOps.cons rfl rfl (q_move) ?_
  refine AOps.bool rfl rfl (q_call (0) (hc := c_name_Can _ (by first | assumption | omega | decide | (simp; omega) | (simp [*]; done)))) (fun h1_1 => ?_) (fun h1_1 => ?_)
  · skip
    refine AOps.cons rfl rfl (q_not) ?_
    refine AOps.cons rfl rfl (q_move) ?_
    refine AOps.gcons rfl rfl rfl rfl rfl (q_move) ?_
    refine AOps.gbool rfl rfl rfl rfl rfl (q_call (0) (hc := c_name_Can _ (by first | assumption | omega | decide | (simp; omega) | (simp [*]; done)))) (fun h1_5 => ?_) (fun h1_5 => ?_)
    · skip
      refine AOps.gcons rfl rfl rfl rfl rfl (q_not) ?_
      refine AOps.cons rfl rfl (q_pick) ?_
      refine AOps.nil ?_
      refine AWp.cond_f rfl ?_
      refine AWp.skip ?_
      refine AWp.seq ?_
      refine AWp.region ?_
      refine AOps.cons rfl rfl (q_move) ?_
      refine AOps.cons rfl rfl (q_call (0) (hc := c_name_Lower _ (by first | assumption | omega | decide | (simp; omega) | (simp [*]; done)))) ?_
      refine AOps.cons rfl rfl (q_callB (0) [] [(8, 4028)] [(_, _)] (hc := co_labels _ (by first | assumption | omega | decide | (simp; omega) | (simp [*]; done)))) ?_
      refine AOps.cons rfl rfl (q_move) ?_
      refine AOps.cons rfl rfl (q_call (0) (hc := c_name_Lower _ (by first | assumption | omega | decide | (simp; omega) | (simp [*]; done)))) ?_
      refine AOps.cons rfl rfl (q_callB (0) [] [(8, 4058)] [(_, _)] (hc := co_labels _ (by first | assumption | omega | decide | (simp; omega) | (simp [*]; done)))) ?_
      refine AOps.cons rfl rfl (q_assign) ?_
      refine AOps.cons rfl rfl (q_assign) ?_
      refine AOps.nil ?_
      refine AWp.seq ?_
      refine AWp.region ?_
      refine AOps.cons rfl rfl (q_move) ?_
      refine AOps.cons rfl rfl (q_callB (0) [(0, 4028)] [] [(_, _)] (hc := c_slices_Reverse_string_string _ _ (by first | assumption | omega | decide | (simp; omega) | (simp [*]; done)))) ?_
      refine AOps.nil ?_
      refine AWp.seq ?_
      refine AWp.region ?_
      refine AOps.cons rfl rfl (q_move) ?_
      refine AOps.cons rfl rfl (q_callB (0) [(0, 4058)] [] [(_, _)] (hc := c_slices_Reverse_string_string _ _ (by first | assumption | omega | decide | (simp; omega) | (simp [*]; done)))) ?_
      refine AOps.nil ?_
      refine AWp.seq ?_
      refine AWp.region ?_
      refine AOps.cons rfl rfl (q_move) ?_
      refine AOps.cons rfl rfl (q_move) ?_
      refine AOps.cons rfl rfl (q_call (0) (hA := by exact ⟨fv_rowe rfl .row (fun _ => rfl) (Nat.le_of_ble_eq_true rfl) (fun _ => rfl) (by simp), fv_rowe rfl .row (fun _ => rfl) (Nat.le_of_ble_eq_true rfl) (fun _ => rfl) (by simp), fv_ok rfl, trivial⟩) (hc := (c_slices_CompareFunc_string_string_string_string (labN (lowN a)).reverse (labN (lowN b)).reverse _ _ (by simp; omega) (by simp; omega)))) ?_
      refine AOps.cons rfl rfl (q_assign) ?_
      refine AOps.nil ?_
      refine AWp.ret ?_
      show Fin te Try.f24 _ _
      refine q_ret (0) [_] [_] ?_
      rw [cmpN, if_pos (by simp [h1_1, h1_5])]; rfl
    · skip
      refine AOps.gcons rfl rfl rfl rfl rfl (q_not) ?_
      refine AOps.cons rfl rfl (q_pick) ?_
      refine AOps.nil ?_
      refine AWp.cond_t rfl ?_
      refine AWp.seq ?_
      refine AWp.region ?_
      refine AOps.cons rfl rfl (q_assign) ?_
      refine AOps.nil ?_
      refine AWp.ret ?_
      show Fin te Try.f24 _ _
      refine q_ret (0) [_] [_] ?_
      rw [cmpN, if_neg (by simp [h1_5])]; rfl
  · skip
    refine AOps.cons rfl rfl (q_not) ?_
    refine AOps.cons rfl rfl (q_move) ?_
    refine AOps.gskip rfl rfl rfl rfl rfl rfl rfl rfl ?_
    refine AOps.gskip rfl rfl rfl rfl rfl rfl rfl rfl ?_
    refine AOps.gskip rfl rfl rfl rfl rfl rfl rfl rfl ?_
    refine AOps.cons rfl rfl (q_pick) ?_
    refine AOps.nil ?_
    refine AWp.cond_t rfl ?_
    refine AWp.seq ?_
    refine AWp.region ?_
    refine AOps.cons rfl rfl (q_assign) ?_
    refine AOps.nil ?_
    refine AWp.ret ?_
    show Fin te Try.f24 _ _
    refine q_ret (0) [_] [_] ?_
    rw [cmpN, if_neg (by simp [h1_1])]; rfl

set_option maxRecDepth 20000 in
theorem c_ciceroneref01_Can (n : List UInt8) (h : n.length ≤ 140737488355328) : AC Try.prog 26 [str n] emp (Ret (tf (canN n))) := by
  refine AC.intro te_ok (fn := Try.f26) ⟨Try.func26, rfl, rfl⟩ (Nat.le_of_ble_eq_true rfl) ?_
  refine AWp.seq ?_
  refine AWp.region ?_
  refine AOps.cons rfl rfl (q_assign) ?_
  refine AOps.nil ?_
  refine AWp.seq ?_
  refine AWp.seq ?_
  refine AWp.region ?_
  refine AOps.cons rfl rfl (q_move) ?_
  refine AOps.cons rfl rfl (q_len_str) ?_
  refine AOps.dec rfl rfl (q_gtr) (fun h1_2 => ?_) (fun h1_2 => ?_)
  · skip
    refine AOps.nil ?_
    refine AWp.cond_t rfl ?_
    refine AWp.seq ?_
    refine AWp.region ?_
    refine AOps.cons rfl rfl (q_assign) ?_
    refine AOps.nil ?_
    refine AWp.ret ?_
    show Fin te Try.f26 _ _
    refine q_ret (0) [_] [_] ?_
    have e : canN n = false := by rw [canN, decide_eq_false (by omega), Bool.and_false]
    rw [e]; rfl
  · skip
    refine AOps.nil ?_
    refine AWp.cond_f rfl ?_
    refine AWp.skip ?_
    refine AWp.seq ?_
    refine AWp.region ?_
    refine AOps.cons rfl rfl (q_assign) ?_
    refine AOps.nil ?_
    refine AWp.seq ?_
    refine AWp.block ?_
    refine AWp.loopR (α := Nat) [2, 3, 4, 8, 9, 10, 11, 12, 13, 14, 15, 16, 17, 18, 19, 20, 21, 22, 23, 24, 25, 26, 27, 28] (fun i => [(3, i64 i)]) (fun i => []) (fun i => (labs n).isSome = (labs (n.drop i)).isSome ∧ i ≤ 319) (fun i => n.length - i) 0 ?_ (Back.mk' (HasT.cons HasT.nil) HasH.nil) ?_
    · exact ⟨rfl, by omega⟩
    · rintro i ⟨hc, hi⟩
      refine AWp.seq ?_
      refine AWp.seq ?_
      refine AWp.region ?_
      refine AOps.cons rfl rfl (q_move) ?_
      refine AOps.cons rfl rfl (q_move) ?_
      refine AOps.cons rfl rfl (q_len_str) ?_
      refine AOps.dec rfl rfl (q_lss) (fun h4_3 => ?_) (fun h4_3 => ?_)
      · skip
        refine AOps.nil ?_
        refine AWp.cond_t rfl ?_
        refine AWp.skip ?_
        refine AWp.block ?_
        refine AWp.seq ?_
        refine AWp.region ?_
        have hk := (n.getD i 0).toNat_lt
        refine AOps.cons rfl rfl (q_move) ?_
        refine AOps.cons rfl rfl (q_move) ?_
        refine AOps.cons rfl rfl (q_ixs) ?_
        refine AOps.cons rfl rfl (q_conv_8i) ?_
        refine AOps.cons rfl rfl (q_assign) ?_
        refine AOps.nil ?_
        refine AWp.seq ?_
        refine AWp.seq ?_
        refine AWp.region ?_
        have hla := labs_at (n := n) (i := i) (by omega)
        refine AOps.cons rfl rfl (q_move) ?_
        refine AOps.dec rfl rfl (q_eql) (fun h6_1 => ?_) (fun h6_1 => ?_)
        · skip
          refine AOps.nil ?_
          refine AWp.cond_t rfl ?_
          refine AWp.seq ?_
          refine AWp.region ?_
          refine AOps.cons rfl rfl (q_move) ?_
          refine AOps.cons rfl rfl (q_move) ?_
          refine AOps.cons rfl rfl (q_len_str) ?_
          refine AOps.cons rfl rfl (q_sub) ?_
          refine AOps.cons rfl rfl (q_eql) ?_
          refine AOps.cons rfl rfl (q_assign) ?_
          refine AOps.nil ?_
          refine AWp.ret ?_
          show Fin te Try.f26 _ _
          refine q_ret (0) [_] [_] ?_
          have k1 : ((n.getD i 0).toNat : Int) = 0 := h6_1
          rw [if_pos (by omega)] at hla
          rw [canN, hc, hla, decide_eq_true (show n.length ≤ 255 by omega), Bool.and_true]
          exact congrArg tf (decide_eq_decide.2 (by omega))
        · skip
          refine AOps.nil ?_
          refine AWp.cond_f rfl ?_
          refine AWp.skip ?_
          refine AWp.seq ?_
          refine AWp.seq ?_
          refine AWp.region ?_
          refine AOps.cons rfl rfl (q_move) ?_
          refine AOps.dec rfl rfl (q_gtr) (fun h8_1 => ?_) (fun h8_1 => ?_)
          · skip
            refine AOps.nil ?_
            refine AWp.cond_t rfl ?_
            refine AWp.seq ?_
            refine AWp.region ?_
            refine AOps.cons rfl rfl (q_assign) ?_
            refine AOps.nil ?_
            refine AWp.ret ?_
            show Fin te Try.f26 _ _
            refine q_ret (0) [_] [_] ?_
            have k1 : ¬ ((n.getD i 0).toNat : Int) = 0 := h6_1
            have k2 : 63 < ((n.getD i 0).toNat : Int) := h8_1
            rw [if_neg (by omega), if_pos (by omega)] at hla
            rw [canN, hc, hla]; rfl
          · skip
            refine AOps.nil ?_
            refine AWp.cond_f rfl ?_
            refine AWp.skip ?_
            refine AWp.region ?_
            have k2 : ¬ 63 < ((n.getD i 0).toNat : Int) := h8_1
            have hk3 : ((n.getD (i : Int).toNat 0).toNat : Int) = ((n.getD i 0).toNat : Int) := rfl
            refine AOps.cons rfl rfl (q_move) ?_
            refine AOps.cons rfl rfl (q_move) ?_
            refine AOps.cons rfl rfl (q_add) ?_
            refine AOps.cons rfl rfl (q_add) ?_
            refine AOps.cons rfl rfl (q_assign) ?_
            refine AOps.nil ?_
            have k1 : ¬ ((n.getD i 0).toNat : Int) = 0 := h6_1
            have k2 : ¬ 63 < ((n.getD i 0).toNat : Int) := h8_1
            refine ⟨i + 1 + (n.getD i 0).toNat, ?_, Back.mk' (HasT.cons HasT.nil (h1 := by exact i64_eq (by show (i : Int) + (1 + ((n.getD i 0).toNat : Int)) = ((i + 1 + (n.getD i 0).toNat : Nat) : Int); omega)) ) HasH.nil, ?_⟩
            · exact ⟨by rw [hc, labs_at (by omega), if_neg (by omega), if_neg (by omega)], by omega⟩
            · omega
      · skip
        refine AOps.nil ?_
        refine AWp.cond_f rfl ?_
        refine AWp.exit ?_
        refine AWp.seq ?_
        refine AWp.region ?_
        refine AOps.cons rfl rfl (q_assign) ?_
        refine AOps.nil ?_
        refine AWp.ret ?_
        show Fin te Try.f26 _ _
        refine q_ret (0) [_] [_] ?_
        have e : canN n = false := by rw [canN, hc, labs_end n (by omega)]; rfl
        rw [e]; rfl

set_option maxRecDepth 20000 in
theorem c_ciceroneref01_Labels (n : List UInt8) (h : n.length ≤ 140737488355328) : AC Try.prog 33 [str n] emp (Ret (.fz 0 (labN n).length (cl sc (labN n)))) := by
  refine AC.intro te_ok (fn := Try.f33) ⟨Try.func33, rfl, rfl⟩ (Nat.le_of_ble_eq_true rfl) ?_
  refine AWp.seq ?_
  refine AWp.region ?_
  refine AOps.cons rfl rfl (q_nilz 0 sc) ?_
  refine AOps.nil ?_
  refine AWp.seq ?_
  refine AWp.seq ?_
  refine AWp.region ?_
  refine AOps.cons rfl rfl (q_move) ?_
  refine AOps.bool rfl rfl (q_call (0) (hc := c_ciceroneref01_Can _ (by first | assumption | omega | decide | (simp; omega) | (simp [*]; done)))) (fun h1_1 => ?_) (fun h1_1 => ?_)
  · skip
    refine AOps.cons rfl rfl (q_not) ?_
    refine AOps.nil ?_
    refine AWp.cond_f rfl ?_
    refine AWp.skip ?_
    refine AWp.seq ?_
    refine AWp.region ?_
    refine AOps.cons rfl rfl (q_nilrow 400 1 sc) ?_
    refine AOps.nil ?_
    refine AWp.seq ?_
    refine AWp.region ?_
    obtain ⟨hg0, hn0, hl0⟩ := can_labs h1_1
    refine AOps.cons rfl rfl (q_assign) ?_
    refine AOps.nil ?_
    refine AWp.seq ?_
    refine AWp.block ?_
    refine AWp.loopR (α := Nat × List (List UInt8) × Nat × List (List UInt8)) [3, 4, 5, 9, 10, 11, 12, 13, 14, 15, 16, 17, 18, 19, 20, 21, 22, 23, 24, 25, 26, 27, 28, 29, 30, 31] (fun x_ => [(4, i64 (x_.1)), (3, .sl 400 (x_.2.2.1) 0 (x_.2.1).length 1)]) (fun x_ => [(400, .row (cl sc (x_.2.1)) 1 (x_.2.2.1))]) (fun x_ => GoodN (x_.2.2.2) ∧ n.drop (x_.1) = joinN (x_.2.2.2) ∧ labN n = (x_.2.1) ++ (x_.2.2.2)) (fun x_ => (x_.2.2.2).length) (0, [], 0, labN n) ?_ (Back.mk' (HasT.cons (HasT.cons HasT.nil)) (HasH.cons HasH.nil)) ?_
    · exact ⟨hg0, hn0, rfl⟩
    · rintro ⟨i, acc, v, ls⟩ hI5
      change GoodN ls ∧ n.drop i = joinN ls ∧ labN n = acc ++ ls at hI5
      obtain ⟨hg, hd, hI⟩ := hI5
      refine AWp.as (s' := AS.over _ [3, 4, 5, 9, 10, 11, 12, 13, 14, 15, 16, 17, 18, 19, 20, 21, 22, 23, 24, 25, 26, 27, 28, 29, 30, 31] [(4, i64 i), (3, .sl 400 v 0 acc.length 1)] [(400, .row (cl sc acc) 1 v)]) rfl ?_
      have hll := labN_len n
      rw [hI, List.length_append] at hll
      refine AWp.seq ?_
      refine AWp.seq ?_
      refine AWp.region ?_
      rcases ls with _ | ⟨l, ls⟩
      · skip
        obtain ⟨hr1, hr2⟩ := at_root hd
        refine AOps.cons rfl rfl (q_move) ?_
        refine AOps.cons rfl rfl (q_move) ?_
        refine AOps.cons rfl rfl (q_ixs) ?_
        refine AOps.dec rfl rfl (q_neq) (fun h5_3 => ?_) (fun h5_3 => ?_)
        · exfalso; exact absurd (show ((n.getD i 0).toNat : Int) = 0 by omega) h5_3
        · skip
          refine AOps.nil ?_
          refine AWp.cond_f rfl ?_
          refine AWp.exit ?_
          refine AWp.seq ?_
          refine AWp.region ?_
          refine AOps.cons rfl rfl (q_move) ?_
          refine AOps.cons rfl rfl (q_assign) ?_
          refine AOps.nil ?_
          refine AWp.ret ?_
          show Fin te Try.f33 _ _
          obtain rfl : acc = labN n := by rw [hI, List.append_nil]
          refine q_ret (0) [_] [_] ?_
          rfl
      · skip
        obtain ⟨ha1, ha2, ha3, ha4, ha5, ha6, ha7⟩ := at_lab hg hd
        have ha2' : ((n.getD (i : Int).toNat 0).toNat : Int) = (l.length : Int) := congrArg Int.ofNat ha2
        have hsl : (n.take ((i : Int) + 1 + ((n.getD (i : Int).toNat 0).toNat : Int)).toNat).drop ((i : Int) + 1).toNat = l := by rw [ha2', show ((i : Int) + 1 + (l.length : Int)).toNat = i + 1 + l.length by omega, show ((i : Int) + 1).toNat = i + 1 by omega]; exact ha4
        rw [List.length_cons] at hll
        refine AOps.cons rfl rfl (q_move) ?_
        refine AOps.cons rfl rfl (q_move) ?_
        refine AOps.cons rfl rfl (q_ixs) ?_
        refine AOps.dec rfl rfl (q_neq) (fun h5_3 => ?_) (fun h5_3 => ?_)
        · skip
          refine AOps.nil ?_
          refine AWp.cond_t rfl ?_
          refine AWp.skip ?_
          refine AWp.block ?_
          refine AWp.seq ?_
          refine AWp.region ?_
          refine AOps.cons rfl rfl (q_move) ?_
          refine AOps.cons rfl rfl (q_move) ?_
          refine AOps.cons rfl rfl (q_ixs) ?_
          refine AOps.cons rfl rfl (q_conv_8i) ?_
          refine AOps.cons rfl rfl (q_assign) ?_
          refine AOps.nil ?_
          refine AWp.seq ?_
          refine AWp.region ?_
          refine AOps.cons rfl rfl (q_move) ?_
          refine AOps.cons rfl rfl (q_move) ?_
          refine AOps.cons rfl rfl (q_move) ?_
          refine AOps.cons rfl rfl (q_add) ?_
          refine AOps.cons rfl rfl (q_move) ?_
          refine AOps.cons rfl rfl (q_add) ?_
          refine AOps.cons rfl rfl (q_move) ?_
          refine AOps.cons rfl rfl (q_add) ?_
          refine AOps.cons rfl rfl (q_sls) ?_
          refine AOps.cons rfl rfl (q_bs 809 sc [_] [(_, _)]) ?_
          refine AOps.cons rfl rfl (q_app) ?_
          refine AOps.cons rfl rfl (q_assign) ?_
          refine AOps.nil ?_
          refine AWp.region ?_
          refine AOps.cons rfl rfl (q_move) ?_
          refine AOps.cons rfl rfl (q_move) ?_
          refine AOps.cons rfl rfl (q_add) ?_
          refine AOps.cons rfl rfl (q_add) ?_
          refine AOps.cons rfl rfl (q_assign) ?_
          refine AOps.nil ?_
          refine ⟨(i + 1 + l.length, _, _, ls), ?_, Back.mk' (HasT.cons (HasT.cons HasT.nil) (h1 := by exact i64_eq (by rw [ha2']; omega)) ) (HasH.cons HasH.nil), ?_⟩
          · try dsimp only
            exact ⟨hg.tail, ha5, by rw [hI, hsl]; simp⟩
          · try dsimp only
            simp
        · exfalso; exact h5_3 (show ¬ ((n.getD i 0).toNat : Int) = 0 by omega)
  · skip
    refine AOps.cons rfl rfl (q_not) ?_
    refine AOps.nil ?_
    refine AWp.cond_t rfl ?_
    refine AWp.seq ?_
    refine AWp.region ?_
    refine AOps.cons rfl rfl (q_nilz 0 sc) ?_
    refine AOps.nil ?_
    refine AWp.ret ?_
    show Fin te Try.f33 _ _
    refine q_ret (0) [_] [_] ?_
    rw [labN_no h1_1]; rfl

set_option maxRecDepth 20000 in
theorem c_ciceroneref01_Join (ls : List (List UInt8)) (lv : Nat) (hj : (joinN ls).length ≤ 140737488351232) : AC Try.prog 34 [.fz lv ls.length (cl sc ls)] emp (Ret (str (joinN ls))) := by
  refine AC.intro te_ok (fn := Try.f34) ⟨Try.func34, rfl, rfl⟩ (Nat.le_of_ble_eq_true rfl) ?_
  refine AWp.seq ?_
  refine AWp.region ?_
  refine AOps.cons rfl rfl (q_assign) ?_
  refine AOps.nil ?_
  refine AWp.seq ?_
  refine AWp.region ?_
  refine AOps.cons rfl rfl (q_assign) ?_
  refine AOps.nil ?_
  refine AWp.seq ?_
  refine AWp.seq ?_
  refine AWp.region ?_
  refine AOps.cons rfl rfl (q_move) ?_
  refine AOps.cons rfl rfl (q_len) ?_
  refine AOps.cons rfl rfl (q_move) ?_
  refine AOps.nil ?_
  refine AWp.block ?_
  refine AWp.loopR (α := Nat × List UInt8) [3, 5, 8, 9, 10, 11, 12, 13, 14, 15, 16, 17, 18, 19, 20, 21] (fun x_ => [(8, i64 (x_.1)), (3, str (x_.2))]) (fun x_ => []) (fun x_ => (x_.1) ≤ ls.length ∧ (x_.2) ++ joinN (ls.drop (x_.1)) = joinN ls) (fun x_ => ls.length - (x_.1)) (0, []) ?_ (Back.mk' (HasT.cons (HasT.cons HasT.nil)) HasH.nil) ?_
  · exact ⟨Nat.zero_le _, rfl⟩
  · rintro ⟨i, acc⟩ hI3
    change i ≤ ls.length ∧ acc ++ joinN (ls.drop i) = joinN ls at hI3
    obtain ⟨hi, hI⟩ := hI3
    refine AWp.as (s' := AS.over _ [3, 5, 8, 9, 10, 11, 12, 13, 14, 15, 16, 17, 18, 19, 20, 21] [(8, i64 i), (3, str acc)] []) rfl ?_
    have hll := congrArg List.length hI
    rw [List.length_append] at hll
    refine AWp.seq ?_
    refine AWp.region ?_
    refine AOps.dec rfl rfl (q_lss) (fun h3_0 => ?_) (fun h3_0 => ?_)
    · skip
      refine AOps.nil ?_
      refine AWp.seq ?_
      refine AWp.cond_t rfl ?_
      refine AWp.skip ?_
      refine AWp.seq ?_
      refine AWp.block ?_
      refine AWp.seq ?_
      refine AWp.region ?_
      have hja := join_at (ls := ls) (i := i) (by omega)
      rw [hja, List.length_cons, List.length_append] at hll
      have hll2 : acc.length + ((ls.getD (i : Int).toNat default).length + (joinN (ls.drop (i + 1))).length + 1) = (joinN ls).length := hll
      have hg3 : (ls[i]?.getD default).length = (ls.getD (i : Int).toNat default).length := congrArg List.length (List.getD_eq_getElem?_getD).symm
      have hg4 := joinN_length ls
      refine AOps.cons rfl rfl (q_ix) ?_
      refine AOps.cons rfl rfl (q_load) ?_
      refine AOps.cons rfl rfl (q_assign) ?_
      refine AOps.nil ?_
      refine AWp.region ?_
      refine AOps.cons rfl rfl (q_move) ?_
      refine AOps.cons rfl rfl (q_move) ?_
      refine AOps.cons rfl rfl (q_len_str) ?_
      refine AOps.cons rfl rfl (q_conv_u8) ?_
      refine AOps.cons rfl rfl (q_bs 604 bc [_] [(_, _)]) ?_
      refine AOps.cons rfl rfl (q_conv_ls) ?_
      refine AOps.cons rfl rfl (q_move) ?_
      refine AOps.cons rfl rfl (q_sadd) ?_
      refine AOps.cons rfl rfl (q_sadd) ?_
      refine AOps.cons rfl rfl (q_assign) ?_
      refine AOps.nil ?_
      refine AWp.region ?_
      refine AOps.cons rfl rfl (q_add) ?_
      refine AOps.cons rfl rfl (q_move) ?_
      refine AOps.nil ?_
      refine ⟨(i + 1, _), ?_, Back.mk' (HasT.cons (HasT.cons HasT.nil)) HasH.nil, ?_⟩
      · try dsimp only
        exact ⟨by omega, by rw [← hI, hja]; simp⟩
      · try dsimp only
        first | omega | (simp; omega)
    · skip
      refine AOps.nil ?_
      refine AWp.seq ?_
      refine AWp.cond_f rfl ?_
      refine AWp.exit ?_
      refine AWp.seq ?_
      refine AWp.region ?_
      refine AOps.cons rfl rfl (q_move) ?_
      refine AOps.cons rfl rfl (q_sadd) ?_
      refine AOps.cons rfl rfl (q_assign) ?_
      refine AOps.nil ?_
      refine AWp.ret ?_
      show Fin te Try.f34 _ _
      obtain rfl : i = ls.length := by omega
      rw [List.drop_length, joinN_nil] at hI
      refine q_ret (0) [_] [_] ?_
      exact congrArg (fun x => str x) hI

set_option maxRecDepth 20000 in
theorem c_ciceroneref01_small (n : List UInt8) (h : n.length ≤ 140737488355328) : AC Try.prog 36 [str n] emp (Ret (str (n.map lowC))) := by
  refine AC.intro te_ok (fn := Try.f36) ⟨Try.func36, rfl, rfl⟩ (Nat.le_of_ble_eq_true rfl) ?_
  refine AWp.seq ?_
  refine AWp.region ?_
  refine AOps.cons rfl rfl (q_assign) ?_
  refine AOps.nil ?_
  refine AWp.seq ?_
  refine AWp.region ?_
  refine AOps.cons rfl rfl (q_move) ?_
  refine AOps.cons rfl rfl (q_conv_sl 201) ?_
  refine AOps.cons rfl rfl (q_assign) ?_
  refine AOps.nil ?_
  refine AWp.seq ?_
  refine AWp.seq ?_
  refine AWp.region ?_
  refine AOps.cons rfl rfl (q_move) ?_
  refine AOps.cons rfl rfl (q_len) ?_
  refine AOps.cons rfl rfl (q_move) ?_
  refine AOps.nil ?_
  refine AWp.block ?_
  refine AWp.loopR (α := Nat × List UInt8) [4, 5, 10, 11, 12, 13, 14, 15, 16, 17, 18, 19, 20, 21, 22, 23, 24, 25, 26] (fun x_ => [(10, i64 (x_.1))]) (fun x_ => [(201, .row (cl bc (x_.2)) 1 0)]) (fun x_ => (x_.1) ≤ n.length ∧ (x_.2) = (n.take (x_.1)).map lowC ++ n.drop (x_.1)) (fun x_ => n.length - (x_.1)) (0, n) ?_ (Back.mk' (HasT.cons HasT.nil) (HasH.cons HasH.nil)) ?_
  · exact ⟨Nat.zero_le _, by simp⟩
  · rintro ⟨i, b⟩ hI3
    change i ≤ n.length ∧ b = (n.take i).map lowC ++ n.drop i at hI3
    obtain ⟨hi, hb⟩ := hI3
    refine AWp.as (s' := AS.over _ [4, 5, 10, 11, 12, 13, 14, 15, 16, 17, 18, 19, 20, 21, 22, 23, 24, 25, 26] [(10, i64 i)] [(201, .row (cl bc b) 1 0)]) rfl ?_
    have hbl := lower_len hi hb
    refine AWp.seq ?_
    refine AWp.region ?_
    refine AOps.dec rfl rfl (q_lss) (fun h3_0 => ?_) (fun h3_0 => ?_)
    · skip
      refine AOps.nil ?_
      refine AWp.seq ?_
      refine AWp.cond_t rfl ?_
      refine AWp.skip ?_
      refine AWp.seq ?_
      refine AWp.block ?_
      refine AWp.seq ?_
      refine AWp.region ?_
      refine AOps.cons rfl rfl (q_move) ?_
      refine AOps.cons rfl rfl (q_ix) ?_
      refine AOps.cons rfl rfl (q_load) ?_
      refine AOps.cons rfl rfl (q_assign) ?_
      refine AOps.cons rfl rfl (q_assign) ?_
      refine AOps.nil ?_
      refine AWp.seq ?_
      refine AWp.region ?_
      have hx := lower_step (by omega) hb
      refine AOps.cons rfl rfl (q_move) ?_
      refine AOps.dec rfl rfl (q_geq) (fun h5_1 => ?_) (fun h5_1 => ?_)
      · skip
        refine AOps.cons rfl rfl (q_move) ?_
        refine AOps.gcons rfl rfl rfl rfl rfl (q_move) ?_
        refine AOps.gdec rfl rfl rfl rfl rfl (q_leq) (fun h5_4 => ?_) (fun h5_4 => ?_)
        · skip
          refine AOps.cons rfl rfl (q_pick) ?_
          refine AOps.nil ?_
          refine AWp.cond_t rfl ?_
          refine AWp.region ?_
          refine AOps.cons rfl rfl (q_move) ?_
          refine AOps.cons rfl rfl (q_move) ?_
          refine AOps.cons rfl rfl (q_move) ?_
          refine AOps.cons rfl rfl (q_add8 _ 32) ?_
          refine AOps.cons rfl rfl (q_ix) ?_
          refine AOps.cons rfl rfl (q_store) ?_
          refine AOps.nil ?_
          refine AWp.region ?_
          refine AOps.cons rfl rfl (q_add) ?_
          refine AOps.cons rfl rfl (q_move) ?_
          refine AOps.nil ?_
          refine ⟨(i + 1, _), ?_, Back.mk' (HasT.cons HasT.nil) (HasH.cons HasH.nil), ?_⟩
          · try dsimp only
            have k1 : 65 ≤ ((b.getD i default).toNat : Int) := h5_1
            have k2 : ((b.getD i default).toNat : Int) ≤ 90 := h5_4
            rw [hx.1] at k1 k2
            have e := hx.2
            rw [show lowC (n.getD i default) = n.getD i default + 32 from (if_pos ⟨by omega, by omega⟩).trans ((lowC_add _ ⟨by omega, by omega⟩).symm), ← hx.1] at e
            exact ⟨by omega, e⟩
          · try dsimp only
            first | omega | (simp; omega)
        · skip
          refine AOps.cons rfl rfl (q_pick) ?_
          refine AOps.nil ?_
          refine AWp.cond_f rfl ?_
          refine AWp.skip ?_
          refine AWp.region ?_
          refine AOps.cons rfl rfl (q_add) ?_
          refine AOps.cons rfl rfl (q_move) ?_
          refine AOps.nil ?_
          refine ⟨(i + 1, _), ?_, Back.mk' (HasT.cons HasT.nil) (HasH.cons HasH.nil), ?_⟩
          · try dsimp only
            exact ⟨by omega, lower_skip (by omega) hb (if_neg (by have k1 : ¬ ((b.getD i default).toNat : Int) ≤ 90 := h5_4; rw [hx.1] at k1; omega))⟩
          · try dsimp only
            first | omega | (simp; omega)
      · skip
        refine AOps.cons rfl rfl (q_move) ?_
        refine AOps.gskip rfl rfl rfl rfl rfl rfl rfl rfl ?_
        refine AOps.gskip rfl rfl rfl rfl rfl rfl rfl rfl ?_
        refine AOps.cons rfl rfl (q_pick) ?_
        refine AOps.nil ?_
        refine AWp.cond_f rfl ?_
        refine AWp.skip ?_
        refine AWp.region ?_
        refine AOps.cons rfl rfl (q_add) ?_
        refine AOps.cons rfl rfl (q_move) ?_
        refine AOps.nil ?_
        refine ⟨(i + 1, _), ?_, Back.mk' (HasT.cons HasT.nil) (HasH.cons HasH.nil), ?_⟩
        · try dsimp only
          exact ⟨by omega, lower_skip (by omega) hb (if_neg (by have k1 : ¬ 65 ≤ ((b.getD i default).toNat : Int) := h5_1; rw [hx.1] at k1; omega))⟩
        · try dsimp only
          first | omega | (simp; omega)
    · skip
      refine AOps.nil ?_
      refine AWp.seq ?_
      refine AWp.cond_f rfl ?_
      refine AWp.exit ?_
      refine AWp.seq ?_
      refine AWp.region ?_
      obtain rfl : i = n.length := by simp at h3_0; omega
      have hb2 : b = n.map lowC := by rw [hb, List.take_length, List.drop_length, List.append_nil]
      subst hb2
      refine AOps.cons rfl rfl (q_move) ?_
      refine AOps.cons rfl rfl (q_conv_ls) ?_
      refine AOps.cons rfl rfl (q_assign) ?_
      refine AOps.nil ?_
      refine AWp.ret ?_
      show Fin te Try.f36 _ _
      refine q_ret (0) [_] [_] ?_
      rfl

set_option maxRecDepth 20000 in
theorem c_ciceroneref01_Lower (n : List UInt8) (h : n.length ≤ 140737488355328) : AC Try.prog 21 [str n] emp (Ret (str (lowN n))) := by
  refine AC.intro te_ok (fn := Try.f21) ⟨Try.func21, rfl, rfl⟩ (Nat.le_of_ble_eq_true rfl) ?_
  refine AWp.seq ?_
  refine AWp.region ?_
  refine AOps.cons rfl rfl (q_assign) ?_
  refine AOps.nil ?_
  refine AWp.seq ?_
  refine AWp.seq ?_
  refine AWp.region ?_
  refine AOps.cons rfl rfl (q_move) ?_
  refine AOps.bool rfl rfl (q_call (0) (hc := c_ciceroneref01_Can _ (by first | assumption | omega | decide | (simp; omega) | (simp [*]; done)))) (fun h1_1 => ?_) (fun h1_1 => ?_)
  · skip
    refine AOps.cons rfl rfl (q_not) ?_
    refine AOps.nil ?_
    refine AWp.cond_f rfl ?_
    refine AWp.skip ?_
    refine AWp.seq ?_
    refine AWp.region ?_
    refine AOps.cons rfl rfl (q_nilrow 400 1 sc) ?_
    refine AOps.nil ?_
    refine AWp.seq ?_
    refine AWp.seq ?_
    refine AWp.region ?_
    obtain ⟨hg0, hn0, hl0⟩ := can_labs h1_1
    obtain ⟨hw1, hw2⟩ := low_len h1_1
    have hll := labN_len n
    refine AOps.cons rfl rfl (q_move) ?_
    refine AOps.cons rfl rfl (q_call (0) (hc := c_ciceroneref01_Labels _ (by first | assumption | omega | decide | (simp; omega) | (simp [*]; done)))) ?_
    refine AOps.cons rfl rfl (q_len) ?_
    refine AOps.cons rfl rfl (q_move) ?_
    refine AOps.nil ?_
    refine AWp.block ?_
    refine AWp.loopR (α := Nat × List (List UInt8) × Nat) [3, 5, 12, 13, 14, 15, 16, 17, 18, 19, 20, 21] (fun x_ => [(12, i64 (x_.1)), (3, .sl 400 (x_.2.2) 0 (x_.2.1).length 1)]) (fun x_ => [(400, .row (cl sc (x_.2.1)) 1 (x_.2.2))]) (fun x_ => (x_.1) ≤ (labN n).length ∧ (x_.2.1) = lowL ((labN n).take (x_.1))) (fun x_ => (labN n).length - (x_.1)) (0, [], 0) ?_ (Back.mk' (HasT.cons (HasT.cons HasT.nil)) (HasH.cons HasH.nil)) ?_
    · exact ⟨Nat.zero_le _, rfl⟩
    · rintro ⟨i, acc, v⟩ hI5
      change i ≤ (labN n).length ∧ acc = lowL ((labN n).take i) at hI5
      obtain ⟨hi, hacc⟩ := hI5
      refine AWp.as (s' := AS.over _ [3, 5, 12, 13, 14, 15, 16, 17, 18, 19, 20, 21] [(12, i64 i), (3, .sl 400 v 0 acc.length 1)] [(400, .row (cl sc acc) 1 v)]) rfl ?_
      have hal : acc.length = i := by rw [hacc]; simp [lowL]; omega
      refine AWp.seq ?_
      refine AWp.region ?_
      refine AOps.dec rfl rfl (q_lss) (fun h5_0 => ?_) (fun h5_0 => ?_)
      · skip
        refine AOps.nil ?_
        refine AWp.seq ?_
        refine AWp.cond_t rfl ?_
        refine AWp.skip ?_
        refine AWp.seq ?_
        refine AWp.block ?_
        refine AWp.seq ?_
        refine AWp.region ?_
        have hm := hg0 _ (getD_mem' (l := labN n) (i := i) (by omega))
        have hm2 : ((labN n).getD (i : Int).toNat default).length ≤ 63 := hm.2
        refine AOps.cons rfl rfl (q_ix) ?_
        refine AOps.cons rfl rfl (q_load) ?_
        refine AOps.cons rfl rfl (q_assign) ?_
        refine AOps.nil ?_
        refine AWp.region ?_
        refine AOps.cons rfl rfl (q_move) ?_
        refine AOps.cons rfl rfl (q_move) ?_
        refine AOps.cons rfl rfl (q_call (0) (hc := c_ciceroneref01_small _ (by first | assumption | omega | decide | (simp; omega) | (simp [*]; done)))) ?_
        refine AOps.cons rfl rfl (q_bs 803 sc [_] [(_, _)]) ?_
        refine AOps.cons rfl rfl (q_app) ?_
        refine AOps.cons rfl rfl (q_assign) ?_
        refine AOps.nil ?_
        refine AWp.region ?_
        refine AOps.cons rfl rfl (q_add) ?_
        refine AOps.cons rfl rfl (q_move) ?_
        refine AOps.nil ?_
        refine ⟨(i + 1, _, _), ?_, Back.mk' (HasT.cons (HasT.cons HasT.nil)) (HasH.cons HasH.nil), ?_⟩
        · try dsimp only
          exact ⟨by omega, by rw [hacc]; exact (take_map_step _ (by omega)).symm⟩
        · try dsimp only
          first | omega | (simp; omega)
      · skip
        refine AOps.nil ?_
        refine AWp.seq ?_
        refine AWp.cond_f rfl ?_
        refine AWp.exit ?_
        refine AWp.seq ?_
        refine AWp.region ?_
        obtain rfl : i = (labN n).length := by omega
        rw [List.take_length] at hacc
        subst hacc
        refine AOps.cons rfl rfl (q_move) ?_
        refine AOps.cons rfl rfl (q_call (0) (hc := (c_ciceroneref01_Join _ _ (by first | omega | (simp; omega))))) ?_
        refine AOps.cons rfl rfl (q_assign) ?_
        refine AOps.nil ?_
        refine AWp.ret ?_
        show Fin te Try.f21 _ _
        refine q_ret (0) [_] [_] ?_
        rw [hw1]; rfl
  · skip
    refine AOps.cons rfl rfl (q_not) ?_
    refine AOps.nil ?_
    refine AWp.cond_t rfl ?_
    refine AWp.seq ?_
    refine AWp.region ?_
    refine AOps.cons rfl rfl (q_assign) ?_
    refine AOps.nil ?_
    refine AWp.ret ?_
    show Fin te Try.f21 _ _
    refine q_ret (0) [_] [_] ?_
    rw [lowN, if_neg (by simp [h1_1])]; rfl

set_option maxRecDepth 20000 in
theorem c_ciceroneref01_Same (a b : List UInt8) (ha : a.length ≤ 140737488355328) (hb : b.length ≤ 140737488355328) : AC Try.prog 23 [str a, str b] emp (Ret (tf (sameN a b))) := by
  refine AC.intro te_ok (fn := Try.f23) ⟨Try.func23, rfl, rfl⟩ (Nat.le_of_ble_eq_true rfl) ?_
  refine AWp.seq ?_
  refine AWp.region ?_
  refine AOps.cons rfl rfl (q_assign) ?_
  refine AOps.nil ?_
  refine AWp.seq ?_
  refine AWp.region ?_
  refine AOps.cons rfl rfl (q_move) ?_
  refine AOps.bool rfl rfl (q_call (0) (hc := c_ciceroneref01_Can _ (by first | assumption | omega | decide | (simp; omega) | (simp [*]; done)))) (fun h1_1 => ?_) (fun h1_1 => ?_)
  · skip
    refine AOps.cons rfl rfl (q_move) ?_
    refine AOps.gcons rfl rfl rfl rfl rfl (q_move) ?_
    refine AOps.gbool rfl rfl rfl rfl rfl (q_call (0) (hc := c_ciceroneref01_Can _ (by first | assumption | omega | decide | (simp; omega) | (simp [*]; done)))) (fun h1_4 => ?_) (fun h1_4 => ?_)
    · skip
      refine AOps.cons rfl rfl (q_pick) ?_
      refine AOps.cons rfl rfl (q_move) ?_
      refine AOps.gcons rfl rfl rfl rfl rfl (q_move) ?_
      refine AOps.gcons rfl rfl rfl rfl rfl (q_call (0) (hc := c_ciceroneref01_Lower _ (by first | assumption | omega | decide | (simp; omega) | (simp [*]; done)))) ?_
      refine AOps.gcons rfl rfl rfl rfl rfl (q_move) ?_
      refine AOps.gcons rfl rfl rfl rfl rfl (q_call (0) (hc := c_ciceroneref01_Lower _ (by first | assumption | omega | decide | (simp; omega) | (simp [*]; done)))) ?_
      refine AOps.gcons rfl rfl rfl rfl rfl (q_seql) ?_
      refine AOps.cons rfl rfl (q_pick) ?_
      refine AOps.cons rfl rfl (q_assign) ?_
      refine AOps.nil ?_
      refine AWp.ret ?_
      show Fin te Try.f23 _ _
      refine q_ret (0) [_] [_] ?_
      simp only [sameN, h1_1, h1_4]; rfl
    · skip
      refine AOps.cons rfl rfl (q_pick) ?_
      refine AOps.cons rfl rfl (q_move) ?_
      refine AOps.gskip rfl rfl rfl rfl rfl rfl rfl rfl ?_
      refine AOps.gskip rfl rfl rfl rfl rfl rfl rfl rfl ?_
      refine AOps.gskip rfl rfl rfl rfl rfl rfl rfl rfl ?_
      refine AOps.gskip rfl rfl rfl rfl rfl rfl rfl rfl ?_
      refine AOps.gskip rfl rfl rfl rfl rfl rfl rfl rfl ?_
      refine AOps.cons rfl rfl (q_pick) ?_
      refine AOps.cons rfl rfl (q_assign) ?_
      refine AOps.nil ?_
      refine AWp.ret ?_
      show Fin te Try.f23 _ _
      refine q_ret (0) [_] [_] ?_
      simp only [sameN, h1_1, h1_4]; rfl
  · skip
    refine AOps.cons rfl rfl (q_move) ?_
    refine AOps.gskip rfl rfl rfl rfl rfl rfl rfl rfl ?_
    refine AOps.gskip rfl rfl rfl rfl rfl rfl rfl rfl ?_
    refine AOps.cons rfl rfl (q_pick) ?_
    refine AOps.cons rfl rfl (q_move) ?_
    refine AOps.gskip rfl rfl rfl rfl rfl rfl rfl rfl ?_
    refine AOps.gskip rfl rfl rfl rfl rfl rfl rfl rfl ?_
    refine AOps.gskip rfl rfl rfl rfl rfl rfl rfl rfl ?_
    refine AOps.gskip rfl rfl rfl rfl rfl rfl rfl rfl ?_
    refine AOps.gskip rfl rfl rfl rfl rfl rfl rfl rfl ?_
    refine AOps.cons rfl rfl (q_pick) ?_
    refine AOps.cons rfl rfl (q_assign) ?_
    refine AOps.nil ?_
    refine AWp.ret ?_
    show Fin te Try.f23 _ _
    refine q_ret (0) [_] [_] ?_
    simp only [sameN, h1_1]; rfl

set_option maxRecDepth 20000 in
theorem c_ciceroneref01_Count (n : List UInt8) (h : n.length ≤ 140737488355328) : AC Try.prog 14 [str n] emp (Ret (i64 (cntN n))) := by
  refine AC.intro te_ok (fn := Try.f14) ⟨Try.func14, rfl, rfl⟩ (Nat.le_of_ble_eq_true rfl) ?_
  refine AWp.seq ?_
  refine AWp.region ?_
  refine AOps.cons rfl rfl (q_assign) ?_
  refine AOps.nil ?_
  refine AWp.seq ?_
  refine AWp.region ?_
  refine AOps.cons rfl rfl (q_move) ?_
  refine AOps.cons rfl rfl (q_call (0) (hc := c_ciceroneref01_Labels _ (by first | assumption | omega | decide | (simp; omega) | (simp [*]; done)))) ?_
  refine AOps.cons rfl rfl (q_len) ?_
  refine AOps.cons rfl rfl (q_assign) ?_
  refine AOps.nil ?_
  refine AWp.ret ?_
  show Fin te Try.f14 _ _
  refine q_ret (0) [_] [_] ?_
  rfl

set_option maxRecDepth 20000 in
theorem c_ciceroneref01_Parent (n : List UInt8) (h : n.length ≤ 140737488355328) : AC Try.prog 12 [str n] emp (Ret (.tup [str (parS n), tf (hasP n)])) := by
  have hc : canN n = false ∨ canN n = true := by cases canN n <;> simp
  have hjd : (joinN ((labN n).drop (Int.toNat 1))).length ≤ 255 := by
    rcases hc with h | h
    · rw [labN_no h]; decide
    · have h1 := joinN_drop_le (labN n) (Int.toNat 1)
      have e2 := congrArg List.length (can_labs h).2.1
      have := (can_labs h).2.2
      omega
  refine AC.intro te_ok (fn := Try.f12) ⟨Try.func12, rfl, rfl⟩ (Nat.le_of_ble_eq_true rfl) ?_
  refine AWp.seq ?_
  refine AWp.region ?_
  refine AOps.cons rfl rfl (q_assign) ?_
  refine AOps.cons rfl rfl (q_assign) ?_
  refine AOps.nil ?_
  refine AWp.seq ?_
  refine AWp.region ?_
  refine AOps.cons rfl rfl (q_move) ?_
  refine AOps.cons rfl rfl (q_call (0) (hc := c_ciceroneref01_Labels _ (by first | assumption | omega | decide | (simp; omega) | (simp [*]; done)))) ?_
  refine AOps.cons rfl rfl (q_assign) ?_
  refine AOps.nil ?_
  refine AWp.seq ?_
  refine AWp.seq ?_
  refine AWp.region ?_
  refine AOps.cons rfl rfl (q_move) ?_
  refine AOps.cons rfl rfl (q_len) ?_
  refine AOps.dec rfl rfl (q_eql) (fun h2_2 => ?_) (fun h2_2 => ?_)
  · skip
    refine AOps.nil ?_
    refine AWp.cond_t rfl ?_
    refine AWp.seq ?_
    refine AWp.region ?_
    refine AOps.cons rfl rfl (q_assign) ?_
    refine AOps.cons rfl rfl (q_assign) ?_
    refine AOps.nil ?_
    refine AWp.ret ?_
    show Fin te Try.f12 _ _
    refine q_ret (0) [_, _] [_, _] ?_
    have e : labN n = [] := List.eq_nil_of_length_eq_zero (by omega)
    rw [(parS_no e).1, (parS_no e).2]; rfl
  · skip
    refine AOps.nil ?_
    refine AWp.cond_f rfl ?_
    refine AWp.skip ?_
    refine AWp.seq ?_
    refine AWp.region ?_
    refine AOps.cons rfl rfl (q_move) ?_
    refine AOps.cons rfl rfl (q_sl) ?_
    refine AOps.cons rfl rfl (q_call (0) (hc := (c_ciceroneref01_Join _ _ (by omega)))) ?_
    refine AOps.cons rfl rfl (q_assign) ?_
    refine AOps.cons rfl rfl (q_assign) ?_
    refine AOps.nil ?_
    refine AWp.ret ?_
    show Fin te Try.f12 _ _
    refine q_ret (0) [_, _] [_, _] ?_
    have e : hasP n = true := decide_eq_true (fun e => h2_2 (by rw [e]; rfl))
    rw [parS, if_pos e, e]; rfl

set_option maxRecDepth 20000 in
theorem c_ciceroneref01_Tail (n : List UInt8) (h : n.length ≤ 140737488355328) (k : Int) (hk : -9223372036854775808 ≤ k ∧ k ≤ 9223372036854775807) : AC Try.prog 16 [str n, i64 k] emp (Ret (str (tailN n k))) := by
  refine AC.intro te_ok (fn := Try.f16) ⟨Try.func16, rfl, rfl⟩ (Nat.le_of_ble_eq_true rfl) ?_
  refine AWp.seq ?_
  refine AWp.region ?_
  refine AOps.cons rfl rfl (q_assign) ?_
  refine AOps.nil ?_
  refine AWp.seq ?_
  refine AWp.seq ?_
  refine AWp.region ?_
  refine AOps.cons rfl rfl (q_move) ?_
  refine AOps.bool rfl rfl (q_call (0) (hc := c_ciceroneref01_Can _ (by first | assumption | omega | decide | (simp; omega) | (simp [*]; done)))) (fun h1_1 => ?_) (fun h1_1 => ?_)
  · skip
    refine AOps.cons rfl rfl (q_not) ?_
    refine AOps.nil ?_
    refine AWp.cond_f rfl ?_
    refine AWp.skip ?_
    refine AWp.seq ?_
    refine AWp.region ?_
    refine AOps.cons rfl rfl (q_move) ?_
    refine AOps.cons rfl rfl (q_call (0) (hc := c_ciceroneref01_Labels _ (by first | assumption | omega | decide | (simp; omega) | (simp [*]; done)))) ?_
    refine AOps.cons rfl rfl (q_assign) ?_
    refine AOps.nil ?_
    refine AWp.seq ?_
    refine AWp.region ?_
    obtain ⟨hg0, hn0, hl0⟩ := can_labs h1_1
    have hll := labN_len n
    have hjd := joinN_drop_le (labN n) (((labN n).length : Int) - min (max k 0) ((labN n).length : Int)).toNat
    rw [← hn0] at hjd
    refine AOps.cons rfl rfl (q_move) ?_
    refine AOps.cons rfl rfl (q_max) ?_
    refine AOps.cons rfl rfl (q_move) ?_
    refine AOps.cons rfl rfl (q_len) ?_
    refine AOps.cons rfl rfl (q_min) ?_
    refine AOps.cons rfl rfl (q_assign) ?_
    refine AOps.nil ?_
    refine AWp.seq ?_
    refine AWp.region ?_
    refine AOps.cons rfl rfl (q_move) ?_
    refine AOps.cons rfl rfl (q_move) ?_
    refine AOps.cons rfl rfl (q_len) ?_
    refine AOps.cons rfl rfl (q_move) ?_
    refine AOps.cons rfl rfl (q_sub) ?_
    refine AOps.cons rfl rfl (q_sl) ?_
    refine AOps.cons rfl rfl (q_call (0) (hc := (c_ciceroneref01_Join _ _ (by omega)))) ?_
    refine AOps.cons rfl rfl (q_assign) ?_
    refine AOps.nil ?_
    refine AWp.ret ?_
    show Fin te Try.f16 _ _
    refine q_ret (0) [_] [_] ?_
    rw [tailN, if_pos h1_1, show (labN n).length - min (max k 0).toNat (labN n).length = (((labN n).length : Int) - min (max k 0) ((labN n).length : Int)).toNat by omega]; rfl
  · skip
    refine AOps.cons rfl rfl (q_not) ?_
    refine AOps.nil ?_
    refine AWp.cond_t rfl ?_
    refine AWp.seq ?_
    refine AWp.region ?_
    refine AOps.cons rfl rfl (q_assign) ?_
    refine AOps.nil ?_
    refine AWp.ret ?_
    show Fin te Try.f16 _ _
    refine q_ret (0) [_] [_] ?_
    rw [tailN, if_neg (by simp [h1_1])]; rfl

set_option maxRecDepth 20000 in
theorem c_ciceroneref01_Within (a b : List UInt8) (ha : a.length ≤ 140737488355328) (hb : b.length ≤ 140737488355328) : AC Try.prog 18 [str a, str b] emp (Ret (tf (withN a b))) := by
  have h1 := cntN_le a
  have h2 := cntN_le b
  have h3 := tailN_len a (cntN b)
  refine AC.intro te_ok (fn := Try.f18) ⟨Try.func18, rfl, rfl⟩ (Nat.le_of_ble_eq_true rfl) ?_
  refine AWp.seq ?_
  refine AWp.region ?_
  refine AOps.cons rfl rfl (q_assign) ?_
  refine AOps.nil ?_
  refine AWp.seq ?_
  refine AWp.region ?_
  refine AOps.cons rfl rfl (q_move) ?_
  refine AOps.bool rfl rfl (q_call (0) (hc := c_ciceroneref01_Can _ (by first | assumption | omega | decide | (simp; omega) | (simp [*]; done)))) (fun h1_1 => ?_) (fun h1_1 => ?_)
  · skip
    refine AOps.cons rfl rfl (q_move) ?_
    refine AOps.gcons rfl rfl rfl rfl rfl (q_move) ?_
    refine AOps.gbool rfl rfl rfl rfl rfl (q_call (0) (hc := c_ciceroneref01_Can _ (by first | assumption | omega | decide | (simp; omega) | (simp [*]; done)))) (fun h1_4 => ?_) (fun h1_4 => ?_)
    · skip
      refine AOps.cons rfl rfl (q_pick) ?_
      refine AOps.cons rfl rfl (q_move) ?_
      refine AOps.gcons rfl rfl rfl rfl rfl (q_move) ?_
      refine AOps.gcons rfl rfl rfl rfl rfl (q_call (0) (hc := c_ciceroneref01_Count _ (by first | assumption | omega | decide | (simp; omega) | (simp [*]; done)))) ?_
      refine AOps.gcons rfl rfl rfl rfl rfl (q_move) ?_
      refine AOps.gcons rfl rfl rfl rfl rfl (q_call (0) (hc := c_ciceroneref01_Count _ (by first | assumption | omega | decide | (simp; omega) | (simp [*]; done)))) ?_
      refine AOps.gdec rfl rfl rfl rfl rfl (q_geq) (fun h1_11 => ?_) (fun h1_11 => ?_)
      · skip
        refine AOps.cons rfl rfl (q_pick) ?_
        refine AOps.cons rfl rfl (q_move) ?_
        refine AOps.gcons rfl rfl rfl rfl rfl (q_move) ?_
        refine AOps.gcons rfl rfl rfl rfl rfl (q_move) ?_
        refine AOps.gcons rfl rfl rfl rfl rfl (q_call (0) (hc := c_ciceroneref01_Count _ (by first | assumption | omega | decide | (simp; omega) | (simp [*]; done)))) ?_
        refine AOps.gcons rfl rfl rfl rfl rfl (q_call (0) (hc := c_ciceroneref01_Tail _ (by first | assumption | omega | decide | (simp; omega) | (simp [*]; done)) _ (by first | assumption | omega | decide | (simp; omega) | (simp [*]; done)))) ?_
        refine AOps.gcons rfl rfl rfl rfl rfl (q_move) ?_
        refine AOps.gcons rfl rfl rfl rfl rfl (q_call (0) (hc := c_ciceroneref01_Same _ _ (by first | assumption | omega | decide | (simp; omega) | (simp [*]; done)) (by first | assumption | omega | decide | (simp; omega) | (simp [*]; done)))) ?_
        refine AOps.cons rfl rfl (q_pick) ?_
        refine AOps.cons rfl rfl (q_assign) ?_
        refine AOps.nil ?_
        refine AWp.ret ?_
        show Fin te Try.f18 _ _
        refine q_ret (0) [_] [_] ?_
        simp only [withN, h1_1, h1_4, decide_eq_true (show cntN b ≤ cntN a by omega)]; rfl
      · skip
        refine AOps.cons rfl rfl (q_pick) ?_
        refine AOps.cons rfl rfl (q_move) ?_
        refine AOps.gskip rfl rfl rfl rfl rfl rfl rfl rfl ?_
        refine AOps.gskip rfl rfl rfl rfl rfl rfl rfl rfl ?_
        refine AOps.gskip rfl rfl rfl rfl rfl rfl rfl rfl ?_
        refine AOps.gskip rfl rfl rfl rfl rfl rfl rfl rfl ?_
        refine AOps.gskip rfl rfl rfl rfl rfl rfl rfl rfl ?_
        refine AOps.gskip rfl rfl rfl rfl rfl rfl rfl rfl ?_
        refine AOps.cons rfl rfl (q_pick) ?_
        refine AOps.cons rfl rfl (q_assign) ?_
        refine AOps.nil ?_
        refine AWp.ret ?_
        show Fin te Try.f18 _ _
        refine q_ret (0) [_] [_] ?_
        simp only [withN, h1_1, h1_4, decide_eq_false (show ¬ cntN b ≤ cntN a by omega)]; rfl
    · skip
      refine AOps.cons rfl rfl (q_pick) ?_
      refine AOps.cons rfl rfl (q_move) ?_
      refine AOps.gskip rfl rfl rfl rfl rfl rfl rfl rfl ?_
      refine AOps.gskip rfl rfl rfl rfl rfl rfl rfl rfl ?_
      refine AOps.gskip rfl rfl rfl rfl rfl rfl rfl rfl ?_
      refine AOps.gskip rfl rfl rfl rfl rfl rfl rfl rfl ?_
      refine AOps.gskip rfl rfl rfl rfl rfl rfl rfl rfl ?_
      refine AOps.cons rfl rfl (q_pick) ?_
      refine AOps.cons rfl rfl (q_move) ?_
      refine AOps.gskip rfl rfl rfl rfl rfl rfl rfl rfl ?_
      refine AOps.gskip rfl rfl rfl rfl rfl rfl rfl rfl ?_
      refine AOps.gskip rfl rfl rfl rfl rfl rfl rfl rfl ?_
      refine AOps.gskip rfl rfl rfl rfl rfl rfl rfl rfl ?_
      refine AOps.gskip rfl rfl rfl rfl rfl rfl rfl rfl ?_
      refine AOps.gskip rfl rfl rfl rfl rfl rfl rfl rfl ?_
      refine AOps.cons rfl rfl (q_pick) ?_
      refine AOps.cons rfl rfl (q_assign) ?_
      refine AOps.nil ?_
      refine AWp.ret ?_
      show Fin te Try.f18 _ _
      refine q_ret (0) [_] [_] ?_
      simp only [withN, h1_1, h1_4]; rfl
  · skip
    refine AOps.cons rfl rfl (q_move) ?_
    refine AOps.gskip rfl rfl rfl rfl rfl rfl rfl rfl ?_
    refine AOps.gskip rfl rfl rfl rfl rfl rfl rfl rfl ?_
    refine AOps.cons rfl rfl (q_pick) ?_
    refine AOps.cons rfl rfl (q_move) ?_
    refine AOps.gskip rfl rfl rfl rfl rfl rfl rfl rfl ?_
    refine AOps.gskip rfl rfl rfl rfl rfl rfl rfl rfl ?_
    refine AOps.gskip rfl rfl rfl rfl rfl rfl rfl rfl ?_
    refine AOps.gskip rfl rfl rfl rfl rfl rfl rfl rfl ?_
    refine AOps.gskip rfl rfl rfl rfl rfl rfl rfl rfl ?_
    refine AOps.cons rfl rfl (q_pick) ?_
    refine AOps.cons rfl rfl (q_move) ?_
    refine AOps.gskip rfl rfl rfl rfl rfl rfl rfl rfl ?_
    refine AOps.gskip rfl rfl rfl rfl rfl rfl rfl rfl ?_
    refine AOps.gskip rfl rfl rfl rfl rfl rfl rfl rfl ?_
    refine AOps.gskip rfl rfl rfl rfl rfl rfl rfl rfl ?_
    refine AOps.gskip rfl rfl rfl rfl rfl rfl rfl rfl ?_
    refine AOps.gskip rfl rfl rfl rfl rfl rfl rfl rfl ?_
    refine AOps.cons rfl rfl (q_pick) ?_
    refine AOps.cons rfl rfl (q_assign) ?_
    refine AOps.nil ?_
    refine AWp.ret ?_
    show Fin te Try.f18 _ _
    refine q_ret (0) [_] [_] ?_
    simp only [withN, h1_1]; rfl

set_option maxRecDepth 20000 in
theorem c_ciceroneref01_Compare (a b : List UInt8) (ha : a.length ≤ 140737488355328) (hb : b.length ≤ 140737488355328) : AC Try.prog 25 [str a, str b] emp (Ret (i64 (cmpN a b))) := by
  have h1 := lowN_len a
  have h2 := lowN_len b
  have h3 := labN_len (lowN a)
  have h4 := labN_len (lowN b)
  have q1 : (labN (lowN a)).reverse.length = (labN (lowN a)).length := List.length_reverse
  have q2 : (labN (lowN b)).reverse.length = (labN (lowN b)).length := List.length_reverse
  refine AC.intro te_ok (fn := Try.f25) ⟨Try.func25, rfl, rfl⟩ (Nat.le_of_ble_eq_true rfl) ?_
  refine AWp.seq ?_
  refine AWp.region ?_
  refine AOps.cons rfl rfl (q_assign) ?_
  refine AOps.nil ?_
  refine AWp.seq ?_
  refine AWp.seq ?_
  refine AWp.region ?_
  refine AOps.cons rfl rfl (q_move) ?_
  refine AOps.bool rfl rfl (q_call (0) (hc := c_ciceroneref01_Can _ (by first | assumption | omega | decide | (simp; omega) | (simp [*]; done)))) (fun h1_1 => ?_) (fun h1_1 => ?_)
  · skip
    refine AOps.cons rfl rfl (q_not) ?_
    refine AOps.cons rfl rfl (q_move) ?_
    refine AOps.gcons rfl rfl rfl rfl rfl (q_move) ?_
    refine AOps.gbool rfl rfl rfl rfl rfl (q_call (0) (hc := c_ciceroneref01_Can _ (by first | assumption | omega | decide | (simp; omega) | (simp [*]; done)))) (fun h1_5 => ?_) (fun h1_5 => ?_)
    · skip
      refine AOps.gcons rfl rfl rfl rfl rfl (q_not) ?_
      refine AOps.cons rfl rfl (q_pick) ?_
      refine AOps.nil ?_
      refine AWp.cond_f rfl ?_
      refine AWp.skip ?_
      refine AWp.seq ?_
      refine AWp.region ?_
      refine AOps.cons rfl rfl (q_move) ?_
      refine AOps.cons rfl rfl (q_call (0) (hc := c_ciceroneref01_Lower _ (by first | assumption | omega | decide | (simp; omega) | (simp [*]; done)))) ?_
      refine AOps.cons rfl rfl (q_call (0) (hc := c_ciceroneref01_Labels _ (by first | assumption | omega | decide | (simp; omega) | (simp [*]; done)))) ?_
      refine AOps.cons rfl rfl (q_move) ?_
      refine AOps.cons rfl rfl (q_call (0) (hc := c_ciceroneref01_Lower _ (by first | assumption | omega | decide | (simp; omega) | (simp [*]; done)))) ?_
      refine AOps.cons rfl rfl (q_call (0) (hc := c_ciceroneref01_Labels _ (by first | assumption | omega | decide | (simp; omega) | (simp [*]; done)))) ?_
      refine AOps.cons rfl rfl (q_assign) ?_
      refine AOps.cons rfl rfl (q_assign) ?_
      refine AOps.nil ?_
      refine AWp.seq ?_
      refine AWp.seq ?_
      refine AWp.region ?_
      have hcn : cmpN a b = cmpL (labN (lowN a)).reverse (labN (lowN b)).reverse := by rw [cmpN, if_pos (by simp [h1_1, h1_5])]
      refine AOps.cons rfl rfl (q_assign) ?_
      refine AOps.nil ?_
      refine AWp.block ?_
      refine AWp.loopR (α := Nat) [4, 7, 8, 9, 24, 25, 26, 27, 28, 29, 30, 31, 32, 33, 34, 35, 36, 37, 38, 39, 40, 41, 42, 43, 44, 45, 46, 47, 48, 49, 50, 51, 52, 53, 54, 55] (fun k => [(7, i64 ((k : Int) + 1))]) (fun k => []) (fun k => k ≤ (labN (lowN a)).length ∧ k ≤ (labN (lowN b)).length ∧ cmpN a b = cmpL ((labN (lowN a)).reverse.drop k) ((labN (lowN b)).reverse.drop k)) (fun k => (labN (lowN a)).length - k) 0 ?_ (Back.mk' (HasT.cons HasT.nil) HasH.nil) ?_
      · exact ⟨Nat.zero_le _, Nat.zero_le _, hcn⟩
      · rintro k ⟨hk1, hk2, hc⟩
        refine AWp.seq ?_
        refine AWp.seq ?_
        refine AWp.region ?_
        refine AOps.cons rfl rfl (q_move) ?_
        refine AOps.cons rfl rfl (q_move) ?_
        refine AOps.cons rfl rfl (q_len) ?_
        refine AOps.dec rfl rfl (q_leq) (fun h5_3 => ?_) (fun h5_3 => ?_)
        · skip
          refine AOps.cons rfl rfl (q_move) ?_
          refine AOps.gcons rfl rfl rfl rfl rfl (q_move) ?_
          refine AOps.gcons rfl rfl rfl rfl rfl (q_move) ?_
          refine AOps.gcons rfl rfl rfl rfl rfl (q_len) ?_
          refine AOps.gdec rfl rfl rfl rfl rfl (q_leq) (fun h5_8 => ?_) (fun h5_8 => ?_)
          · skip
            refine AOps.cons rfl rfl (q_pick) ?_
            refine AOps.nil ?_
            refine AWp.cond_t rfl ?_
            refine AWp.skip ?_
            refine AWp.seq ?_
            refine AWp.block ?_
            refine AWp.seq ?_
            have r1 := rev_at (l := labN (lowN a)) (k := k) (by omega)
            have r2 := rev_at (l := labN (lowN b)) (k := k) (by omega)
            have hat := cmpL_at (a := (labN (lowN a)).reverse) (b := (labN (lowN b)).reverse) (i := k) (by omega) (by omega)
            refine AWp.draws [⟨0, [5], [], some 36, _, none⟩,
                ⟨1, [5], [], some 37, _, none⟩,
                ⟨2, [37], [], some 38, _, none⟩,
                ⟨3, [7], [], some 39, _, none⟩,
                ⟨4, [38, 39], [], some 40, _, none⟩,
                ⟨5, [36, 40], [], some 41, _, none⟩,
                ⟨6, [41], [], some 42, _, none⟩,
                ⟨7, [6], [], some 43, _, none⟩,
                ⟨8, [6], [], some 44, _, none⟩,
                ⟨9, [44], [], some 45, _, none⟩,
                ⟨10, [7], [], some 46, _, none⟩,
                ⟨11, [45, 46], [], some 47, _, none⟩,
                ⟨12, [43, 47], [], some 48, _, none⟩,
                ⟨13, [48], [], some 49, _, none⟩,
                ⟨14, [42], [], some 8, _, none⟩,
                ⟨15, [49], [], some 9, _, none⟩]
              [⟨0, [5], [], some 36, .any, none⟩,
                  ⟨1, [5], [], some 37, .any, none⟩,
                  ⟨2, [37], [], some 38, .any, none⟩,
                  ⟨3, [7], [], some 39, .any, none⟩,
                  ⟨4, [38, 39], [], some 40, .any, none⟩,
                  ⟨5, [36, 40], [], some 41, .any, none⟩,
                  ⟨6, [41], [], some 42, .any, none⟩,
                  ⟨7, [6], [], some 43, .any, none⟩,
                  ⟨8, [6], [], some 44, .any, none⟩,
                  ⟨9, [44], [], some 45, .any, none⟩,
                  ⟨10, [7], [], some 46, .any, none⟩,
                  ⟨11, [45, 46], [], some 47, .any, none⟩,
                  ⟨12, [43, 47], [], some 48, .any, none⟩,
                  ⟨13, [48], [], some 49, .any, none⟩,
                  ⟨14, [42], [], some 8, .any, none⟩,
                  ⟨15, [49], [], some 9, .any, none⟩]
              mixed_ok rfl (by kernel_rfl) ⟨DS.ok_over fun s0 => OpAt.go rfl rfl (q_move),
                  DS.ok_over fun s0 => OpAt.go rfl rfl (q_move),
                  DS.ok_over fun s0 => OpAt.go rfl rfl (q_len),
                  DS.ok_over fun s0 => OpAt.go rfl rfl (q_move),
                  DS.ok_over fun s0 => OpAt.go rfl rfl (q_sub),
                  DS.ok_over fun s0 => OpAt.go rfl rfl (q_ix),
                  DS.ok_over fun s0 => OpAt.go rfl rfl (q_load),
                  DS.ok_over fun s0 => OpAt.go rfl rfl (q_move),
                  DS.ok_over fun s0 => OpAt.go rfl rfl (q_move),
                  DS.ok_over fun s0 => OpAt.go rfl rfl (q_len),
                  DS.ok_over fun s0 => OpAt.go rfl rfl (q_move),
                  DS.ok_over fun s0 => OpAt.go rfl rfl (q_sub),
                  DS.ok_over fun s0 => OpAt.go rfl rfl (q_ix),
                  DS.ok_over fun s0 => OpAt.go rfl rfl (q_load),
                  DS.ok_over fun s0 => OpAt.go rfl rfl (q_assign),
                  DS.ok_over fun s0 => OpAt.go rfl rfl (q_assign), trivial⟩ ?_
            dsimp only [final, DS.upd, AS.seto]
            refine AWp.seq ?_
            refine AWp.seq ?_
            refine AWp.region ?_
            refine AOps.cons rfl rfl (q_move) ?_
            refine AOps.cons rfl rfl (q_move) ?_
            refine AOps.bool rfl rfl (q_slss) (fun h8_2 => ?_) (fun h8_2 => ?_)
            · skip
              refine AOps.nil ?_
              refine AWp.cond_t rfl ?_
              refine AWp.seq ?_
              refine AWp.region ?_
              refine AOps.cons rfl rfl (q_assign) ?_
              refine AOps.nil ?_
              refine AWp.ret ?_
              show Fin te Try.f25 _ _
              refine q_ret (0) [_] [_] ?_
              rw [r1, r2] at h8_2
              rw [hc, hat, show cmpS _ _ = -1 from if_pos h8_2]; rfl
            · skip
              refine AOps.nil ?_
              refine AWp.cond_f rfl ?_
              refine AWp.skip ?_
              refine AWp.seq ?_
              refine AWp.region ?_
              refine AOps.cons rfl rfl (q_move) ?_
              refine AOps.cons rfl rfl (q_move) ?_
              refine AOps.bool rfl rfl (q_sgtr) (fun h10_2 => ?_) (fun h10_2 => ?_)
              · skip
                refine AOps.nil ?_
                refine AWp.cond_t rfl ?_
                refine AWp.seq ?_
                refine AWp.region ?_
                refine AOps.cons rfl rfl (q_assign) ?_
                refine AOps.nil ?_
                refine AWp.ret ?_
                show Fin te Try.f25 _ _
                refine q_ret (0) [_] [_] ?_
                rw [r1, r2] at h8_2 h10_2
                rw [hc, hat, show cmpS _ _ = 1 from (if_neg (by rw [h8_2]; exact Bool.false_ne_true)).trans (if_pos h10_2)]; rfl
              · skip
                refine AOps.nil ?_
                refine AWp.cond_f rfl ?_
                refine AWp.skip ?_
                refine AWp.region ?_
                refine AOps.cons rfl rfl (q_move) ?_
                refine AOps.cons rfl rfl (q_add) ?_
                refine AOps.cons rfl rfl (q_assign) ?_
                refine AOps.nil ?_
                rw [r1, r2] at h8_2 h10_2
                refine ⟨k + 1, ?_, Back.mk' (HasT.cons HasT.nil) HasH.nil, ?_⟩
                · exact ⟨by omega, by omega, by rw [hc, hat, if_pos (by rw [cmpS, if_neg (by rw [h8_2]; exact Bool.false_ne_true), if_neg (by rw [h10_2]; exact Bool.false_ne_true)])]⟩
                · first | omega | (simp; omega)
          · skip
            refine AOps.cons rfl rfl (q_pick) ?_
            refine AOps.nil ?_
            refine AWp.cond_f rfl ?_
            refine AWp.exit ?_
            refine AWp.seq ?_
            refine AWp.seq ?_
            refine AWp.region ?_
            refine AOps.cons rfl rfl (q_move) ?_
            refine AOps.cons rfl rfl (q_len) ?_
            refine AOps.cons rfl rfl (q_move) ?_
            refine AOps.cons rfl rfl (q_len) ?_
            refine AOps.dec rfl rfl (q_lss) (fun h12_4 => ?_) (fun h12_4 => ?_)
            · skip
              refine AOps.nil ?_
              refine AWp.cond_t rfl ?_
              refine AWp.seq ?_
              refine AWp.region ?_
              refine AOps.cons rfl rfl (q_assign) ?_
              refine AOps.nil ?_
              refine AWp.ret ?_
              show Fin te Try.f25 _ _
              refine q_ret (0) [_] [_] ?_
              rw [hc, cmpL_b (by omega) (by omega)]; rfl
            · skip
              refine AOps.nil ?_
              refine AWp.cond_f rfl ?_
              refine AWp.skip ?_
              refine AWp.seq ?_
              refine AWp.seq ?_
              refine AWp.region ?_
              refine AOps.cons rfl rfl (q_move) ?_
              refine AOps.cons rfl rfl (q_len) ?_
              refine AOps.cons rfl rfl (q_move) ?_
              refine AOps.cons rfl rfl (q_len) ?_
              refine AOps.dec rfl rfl (q_gtr) (fun h14_4 => ?_) (fun h14_4 => ?_)
              · skip
                refine AOps.nil ?_
                refine AWp.cond_t rfl ?_
                refine AWp.seq ?_
                refine AWp.region ?_
                refine AOps.cons rfl rfl (q_assign) ?_
                refine AOps.nil ?_
                refine AWp.ret ?_
                show Fin te Try.f25 _ _
                refine q_ret (0) [_] [_] ?_
                rw [hc, cmpL_a (by omega) (by omega)]; rfl
              · skip
                refine AOps.nil ?_
                refine AWp.cond_f rfl ?_
                refine AWp.skip ?_
                refine AWp.seq ?_
                refine AWp.region ?_
                refine AOps.cons rfl rfl (q_assign) ?_
                refine AOps.nil ?_
                refine AWp.ret ?_
                show Fin te Try.f25 _ _
                refine q_ret (0) [_] [_] ?_
                rw [hc, cmpL_0 (by omega) (by omega)]; rfl
        · skip
          refine AOps.cons rfl rfl (q_move) ?_
          refine AOps.gskip rfl rfl rfl rfl rfl rfl rfl rfl ?_
          refine AOps.gskip rfl rfl rfl rfl rfl rfl rfl rfl ?_
          refine AOps.gskip rfl rfl rfl rfl rfl rfl rfl rfl ?_
          refine AOps.gskip rfl rfl rfl rfl rfl rfl rfl rfl ?_
          refine AOps.cons rfl rfl (q_pick) ?_
          refine AOps.nil ?_
          refine AWp.cond_f rfl ?_
          refine AWp.exit ?_
          refine AWp.seq ?_
          refine AWp.seq ?_
          refine AWp.region ?_
          refine AOps.cons rfl rfl (q_move) ?_
          refine AOps.cons rfl rfl (q_len) ?_
          refine AOps.cons rfl rfl (q_move) ?_
          refine AOps.cons rfl rfl (q_len) ?_
          refine AOps.dec rfl rfl (q_lss) (fun h12_4 => ?_) (fun h12_4 => ?_)
          · skip
            refine AOps.nil ?_
            refine AWp.cond_t rfl ?_
            refine AWp.seq ?_
            refine AWp.region ?_
            refine AOps.cons rfl rfl (q_assign) ?_
            refine AOps.nil ?_
            refine AWp.ret ?_
            show Fin te Try.f25 _ _
            refine q_ret (0) [_] [_] ?_
            rw [hc, cmpL_b (by omega) (by omega)]; rfl
          · skip
            refine AOps.nil ?_
            refine AWp.cond_f rfl ?_
            refine AWp.skip ?_
            refine AWp.seq ?_
            refine AWp.seq ?_
            refine AWp.region ?_
            refine AOps.cons rfl rfl (q_move) ?_
            refine AOps.cons rfl rfl (q_len) ?_
            refine AOps.cons rfl rfl (q_move) ?_
            refine AOps.cons rfl rfl (q_len) ?_
            refine AOps.dec rfl rfl (q_gtr) (fun h14_4 => ?_) (fun h14_4 => ?_)
            · skip
              refine AOps.nil ?_
              refine AWp.cond_t rfl ?_
              refine AWp.seq ?_
              refine AWp.region ?_
              refine AOps.cons rfl rfl (q_assign) ?_
              refine AOps.nil ?_
              refine AWp.ret ?_
              show Fin te Try.f25 _ _
              refine q_ret (0) [_] [_] ?_
              rw [hc, cmpL_a (by omega) (by omega)]; rfl
            · skip
              refine AOps.nil ?_
              refine AWp.cond_f rfl ?_
              refine AWp.skip ?_
              refine AWp.seq ?_
              refine AWp.region ?_
              refine AOps.cons rfl rfl (q_assign) ?_
              refine AOps.nil ?_
              refine AWp.ret ?_
              show Fin te Try.f25 _ _
              refine q_ret (0) [_] [_] ?_
              rw [hc, cmpL_0 (by omega) (by omega)]; rfl
    · skip
      refine AOps.gcons rfl rfl rfl rfl rfl (q_not) ?_
      refine AOps.cons rfl rfl (q_pick) ?_
      refine AOps.nil ?_
      refine AWp.cond_t rfl ?_
      refine AWp.seq ?_
      refine AWp.region ?_
      refine AOps.cons rfl rfl (q_assign) ?_
      refine AOps.nil ?_
      refine AWp.ret ?_
      show Fin te Try.f25 _ _
      refine q_ret (0) [_] [_] ?_
      rw [cmpN, if_neg (by simp [h1_5])]; rfl
  · skip
    refine AOps.cons rfl rfl (q_not) ?_
    refine AOps.cons rfl rfl (q_move) ?_
    refine AOps.gskip rfl rfl rfl rfl rfl rfl rfl rfl ?_
    refine AOps.gskip rfl rfl rfl rfl rfl rfl rfl rfl ?_
    refine AOps.gskip rfl rfl rfl rfl rfl rfl rfl rfl ?_
    refine AOps.cons rfl rfl (q_pick) ?_
    refine AOps.nil ?_
    refine AWp.cond_t rfl ?_
    refine AWp.seq ?_
    refine AWp.region ?_
    refine AOps.cons rfl rfl (q_assign) ?_
    refine AOps.nil ?_
    refine AWp.ret ?_
    show Fin te Try.f25 _ _
    refine q_ret (0) [_] [_] ?_
    rw [cmpN, if_neg (by simp [h1_1])]; rfl

set_option maxRecDepth 20000 in
theorem c_ciceroneplain_Name (l : List UInt8) (lv : Nat) (h : l.length ≤ 140737488351232) : AC Try.prog 19 [.fz lv l.length (cl bc l)] emp (Ret (str (plainN l))) := by
  obtain ⟨hpg, hpl⟩ := plain_good l
  refine AC.intro te_ok (fn := Try.f19) ⟨Try.func19, rfl, rfl⟩ (Nat.le_of_ble_eq_true rfl) ?_
  refine AWp.seq ?_
  refine AWp.region ?_
  refine AOps.cons rfl rfl (q_assign) ?_
  refine AOps.nil ?_
  refine AWp.seq ?_
  refine AWp.region ?_
  refine AOps.cons rfl rfl (q_nilrow 200 1 sc) ?_
  refine AOps.nil ?_
  refine AWp.seq ?_
  refine AWp.seq ?_
  refine AWp.region ?_
  refine AOps.cons rfl rfl (q_move) ?_
  refine AOps.cons rfl rfl (q_move) ?_
  refine AOps.cons rfl rfl (q_len) ?_
  refine AOps.cons rfl rfl (q_min) ?_
  refine AOps.cons rfl rfl (q_sl) ?_
  refine AOps.cons rfl rfl (q_len) ?_
  refine AOps.cons rfl rfl (q_move) ?_
  refine AOps.nil ?_
  refine AWp.block ?_
  refine AWp.loopR (α := Nat × List (List UInt8) × Nat) [3, 5, 12, 13, 14, 15, 16, 17, 18, 19, 20, 21, 22, 23, 24] (fun x_ => [(12, i64 (x_.1)), (3, .sl 200 (x_.2.2) 0 (x_.2.1).length 1)]) (fun x_ => [(200, .row (cl sc (x_.2.1)) 1 (x_.2.2))]) (fun x_ => (x_.1) ≤ (l.take (min (l.length : Int) 4).toNat).length ∧ (x_.2.1) = ((l.take (min (l.length : Int) 4).toNat).take (x_.1)).map pickN) (fun x_ => (l.take (min (l.length : Int) 4).toNat).length - (x_.1)) (0, [], 0) ?_ (Back.mk' (HasT.cons (HasT.cons HasT.nil)) (HasH.cons HasH.nil)) ?_
  · exact ⟨Nat.zero_le _, rfl⟩
  · rintro ⟨i, acc, v⟩ hI3
    change i ≤ (l.take (min (l.length : Int) 4).toNat).length ∧ acc = ((l.take (min (l.length : Int) 4).toNat).take i).map pickN at hI3
    obtain ⟨hi, hacc⟩ := hI3
    refine AWp.as (s' := AS.over _ [3, 5, 12, 13, 14, 15, 16, 17, 18, 19, 20, 21, 22, 23, 24] [(12, i64 i), (3, .sl 200 v 0 acc.length 1)] [(200, .row (cl sc acc) 1 v)]) rfl ?_
    have hal : acc.length = i := by rw [hacc, List.length_map, List.length_take]; omega
    have ht4 : (l.take (min (l.length : Int) 4).toNat).length ≤ 4 := by rw [List.length_take]; omega
    refine AWp.seq ?_
    refine AWp.region ?_
    refine AOps.dec rfl rfl (q_lss) (fun h3_0 => ?_) (fun h3_0 => ?_)
    · skip
      refine AOps.nil ?_
      refine AWp.seq ?_
      refine AWp.cond_t rfl ?_
      refine AWp.skip ?_
      refine AWp.seq ?_
      refine AWp.block ?_
      refine AWp.seq ?_
      refine AWp.region ?_
      refine AOps.cons rfl rfl (q_ix) ?_
      refine AOps.cons rfl rfl (q_load) ?_
      refine AOps.cons rfl rfl (q_assign) ?_
      refine AOps.nil ?_
      refine AWp.region ?_
      refine AOps.cons rfl rfl (q_move) ?_
      refine AOps.cons rfl rfl (q_bs 601 sc [_, _, _, _, _, _] [(_, _), (_, _), (_, _), (_, _), (_, _), (_, _)]) ?_
      refine AOps.cons rfl rfl (q_move) ?_
      refine AOps.cons rfl rfl (q_rem8 _ 6) ?_
      refine AOps.cons rfl rfl (q_ix) ?_
      refine AOps.cons rfl rfl (q_load) ?_
      refine AOps.cons rfl rfl (q_bs 606 sc [_] [(_, _)]) ?_
      refine AOps.cons rfl rfl (q_app) ?_
      refine AOps.cons rfl rfl (q_assign) ?_
      refine AOps.nil ?_
      refine AWp.region ?_
      refine AOps.cons rfl rfl (q_add) ?_
      refine AOps.cons rfl rfl (q_move) ?_
      refine AOps.nil ?_
      refine ⟨(i + 1, _, _), ?_, Back.mk' (HasT.cons (HasT.cons HasT.nil)) (HasH.cons HasH.nil), ?_⟩
      · try dsimp only
        exact ⟨by omega, by rw [hacc]; exact (take_map_step _ (by omega)).symm⟩
      · try dsimp only
        first | omega | (simp; omega)
    · skip
      refine AOps.nil ?_
      refine AWp.seq ?_
      refine AWp.cond_f rfl ?_
      refine AWp.exit ?_
      refine AWp.seq ?_
      refine AWp.region ?_
      obtain rfl : i = (l.take (min (l.length : Int) 4).toNat).length := by omega
      rw [List.take_length, show l.take (min (l.length : Int) 4).toNat = l.take 4 by rw [List.take_eq_take_iff]; omega] at hacc
      subst hacc
      have hpl2 : (joinN ((l.take 4).map pickN)).length ≤ 17 := hpl
      refine AOps.cons rfl rfl (q_move) ?_
      refine AOps.cons rfl rfl (q_call (0) (hc := (c_ciceroneref01_Join _ _ (by first | omega | (simp; omega))))) ?_
      refine AOps.cons rfl rfl (q_assign) ?_
      refine AOps.nil ?_
      refine AWp.ret ?_
      show Fin te Try.f19 _ _
      refine q_ret (0) [_] [_] ?_
      rfl

end Go.Proofs.Ytfojdjlhpejbpaa.Fw
