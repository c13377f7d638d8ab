/- The texts W01c, Q7, W03, W03b, W03c, M0, M1, W03d, Ws, Q8, Q9, Q10, Q11, one behind the other: what the walks and plain laws need; conditions stand with each theorem. -/
import Derived.Laws.MakeOwn
import Derived.Test.YtkfccjbihcbmiaaCat2
/- Walks of layer 1: the orders and the reference's. -/
set_option linter.unusedVariables false
set_option linter.unusedSimpArgs false
namespace Go.Proofs.Ytkfccjbihcbmiaa.Fw
open Go.RowKit


theorem can_labs {n : List UInt8} (h : canN n = true) : GoodN (labN n) ∧ n = joinN (labN n) ∧ n.length ≤ 255 := by
  obtain ⟨ls, g, rfl, hl⟩ := canN_iff.1 h
  rw [labN_join g hl]
  exact ⟨g, rfl, hl⟩
theorem labs_end (n : List UInt8) {i : Nat} (h : n.length ≤ i) : (labs (n.drop i)).isSome = false := by
  rw [List.drop_of_length_le h, labs]; rfl
theorem labs_at {n : List UInt8} {i : Nat} (hi : i < n.length) : (labs (n.drop i)).isSome = if (n.getD i 0).toNat = 0 then decide (i + 1 = n.length) else if 63 < (n.getD i 0).toNat then false else (labs (n.drop (i + 1 + (n.getD i 0).toNat))).isSome := by
  have hg : n.getD i 0 = n[i] := by rw [List.getD_eq_getElem?_getD, List.getElem?_eq_getElem hi]; rfl
  rw [List.drop_eq_getElem_cons hi, labs, ← hg]
  generalize n.getD i 0 = k
  have hz : k = 0 ↔ k.toNat = 0 := ⟨fun e => by rw [e]; rfl, fun e => UInt8.toNat_inj.1 (by simpa using e)⟩
  by_cases h0 : k.toNat = 0
  · rw [if_pos (hz.2 h0), if_pos h0]
    by_cases he : i + 1 = n.length
    · rw [if_pos (List.drop_of_length_le (by omega)), decide_eq_true he]; rfl
    · rw [if_neg (fun e => by have := congrArg List.length e; simp at this; omega), decide_eq_false he]; rfl
  · rw [if_neg (fun e => h0 (hz.1 e)), if_neg h0]
    by_cases h6 : 63 < k.toNat
    · rw [if_pos (Or.inl h6), if_pos h6]; rfl
    · rw [if_neg h6]
      by_cases hr : (n.drop (i + 1)).length < k.toNat
      · rw [if_pos (Or.inr hr), labs_end n (by simp at hr; omega)]; rfl
      · rw [if_neg (by omega), Option.isSome_map, List.drop_drop]
theorem at_root {n : List UInt8} {i : Nat} (h : n.drop i = joinN []) : i < n.length ∧ (n.getD i 0).toNat = 0 := by
  have hl := congrArg List.length h
  rw [joinN_nil, List.length_drop] at hl
  simp at hl
  have hi : i < n.length := by omega
  refine ⟨hi, ?_⟩
  rw [List.drop_eq_getElem_cons hi, joinN_nil] at h
  rw [List.getD_eq_getElem?_getD, List.getElem?_eq_getElem hi, Option.getD_some, (List.cons.inj h).1]
  rfl
theorem at_lab {n l : List UInt8} {ls : List (List UInt8)} {i : Nat} (g : GoodN (l :: ls)) (h : n.drop i = joinN (l :: ls)) : i < n.length ∧ (n.getD i 0).toNat = l.length ∧ i + 1 + l.length < n.length ∧ (n.take (i + 1 + l.length)).drop (i + 1) = l ∧ n.drop (i + 1 + l.length) = joinN ls ∧ 1 ≤ l.length ∧ l.length ≤ 63 := by
  have hl := congrArg List.length h
  have hp := joinN_length ls
  rw [joinN_cons, List.length_drop, List.length_cons, List.length_append] at hl
  have hi : i < n.length := by omega
  have h2 := h
  rw [List.drop_eq_getElem_cons hi, joinN_cons] at h2
  obtain ⟨e1, e2⟩ := List.cons.inj h2
  refine ⟨hi, ?_, by omega, ?_, ?_, g.head.1, g.head.2⟩
  · rw [List.getD_eq_getElem?_getD, List.getElem?_eq_getElem hi, Option.getD_some, e1]
    exact byte_len g.head.2
  · rw [List.drop_take, e2, show i + 1 + l.length - (i + 1) = l.length by omega, List.take_left]
  · rw [← List.drop_drop, e2, List.drop_left]
theorem low_len {n : List UInt8} (h : canN n = true) : lowN n = joinN (lowL (labN n)) ∧ (joinN (lowL (labN n))).length ≤ 255 := by
  obtain ⟨ls, g, rfl, hl⟩ := canN_iff.1 h
  rw [labN_join g hl, lowN_join g hl]
  exact ⟨rfl, by rw [low_length g]; exact hl⟩
theorem joinN_drop_le : ∀ (ls : List (List UInt8)) (j : Nat), (joinN (ls.drop j)).length ≤ (joinN ls).length
  | [], j => by simp
  | l :: ls, 0 => Nat.le_refl _
  | l :: ls, j + 1 => by
    have := joinN_drop_le ls j
    have := joinN_le (l := l) (ls := ls)
    simp only [List.drop_succ_cons]
    omega
theorem join_at {ls : List (List UInt8)} {i : Nat} (hi : i < ls.length) : joinN (ls.drop i) = byte ((ls.getD i default).length : Int) :: (ls.getD i default ++ joinN (ls.drop (i + 1))) := by
  have e : ls.getD i default = ls[i] := by rw [List.getD_eq_getElem?_getD, List.getElem?_eq_getElem hi]; rfl
  rw [List.drop_eq_getElem_cons hi, joinN_cons, e]
theorem take_map_step {α β : Type} [Inhabited α] (f : α → β) {l : List α} {i : Nat} (hi : i < l.length) : (l.take (i + 1)).map f = (l.take i).map f ++ [f (l.getD i default)] := by
  have e : l.getD i default = l[i] := by rw [List.getD_eq_getElem?_getD, List.getElem?_eq_getElem hi]; rfl
  rw [List.take_succ_eq_append_getElem hi, List.map_append, e]
  rfl
theorem getD_mem' {α : Type} [Inhabited α] {l : List α} {i : Nat} (hi : i < l.length) : l.getD i default ∈ l := by
  rw [List.getD_eq_getElem?_getD, List.getElem?_eq_getElem hi]; exact List.getElem_mem hi
theorem rev_at {α : Type} [Inhabited α] {l : List α} {k : Nat} (h : k < l.length) : l.getD ((l.length : Int) - ((k : Int) + 1)).toNat default = l.reverse.getD k default := by
  rw [List.getD_eq_getElem?_getD, List.getD_eq_getElem?_getD, List.getElem?_reverse h, show ((l.length : Int) - ((k : Int) + 1)).toNat = l.length - 1 - k by omega]
/-- The names of a law's draws. -/
def tblN : List (List UInt8) := [[97], [98], [119, 119, 119], [110, 115], [65], [120, 45, 49]]
def pickN (c : UInt8) : List UInt8 := tblN.getD (c % 6).toNat default
def plainN (b : List UInt8) : List UInt8 := joinN ((b.take 4).map pickN)
set_option maxRecDepth 10000 in
theorem pickN_good : ∀ c : UInt8, 1 ≤ (pickN c).length ∧ (pickN c).length ≤ 3 := by
  have h : ∀ k : _root_.Fin 256, 1 ≤ (pickN (UInt8.ofNat k.val)).length ∧ (pickN (UInt8.ofNat k.val)).length ≤ 3 := by decide
  intro c
  have := h ⟨c.toNat, c.toNat_lt⟩
  simpa using this
theorem joinN_small : ∀ {ls : List (List UInt8)}, (∀ l ∈ ls, l.length ≤ 3) → (joinN ls).length ≤ 4 * ls.length + 1
  | [], _ => by simp [joinN]
  | l :: ls, h => by
    have := joinN_small (ls := ls) fun x hx => h x (by simp [hx])
    have := h l (by simp)
    rw [joinN_cons]
    simp
    omega
theorem plain_good (b : List UInt8) : GoodN ((b.take 4).map pickN) ∧ (plainN b).length ≤ 17 := by
  refine ⟨fun l hl => ?_, ?_⟩
  · obtain ⟨c, _, rfl⟩ := List.mem_map.1 hl
    have := pickN_good c
    omega
  · have := joinN_small (ls := (b.take 4).map pickN) fun l hl => by
      obtain ⟨c, _, rfl⟩ := List.mem_map.1 hl
      exact (pickN_good c).2
    have h4 : ((b.take 4).map pickN).length ≤ 4 := by rw [List.length_map, List.length_take]; omega
    show (joinN _).length ≤ 17
    omega

set_option maxRecDepth 20000 in
set_option maxHeartbeats 2000000 in
theorem c_ciceroneref01_Can (n : List UInt8) (h : n.length ≤ 140737488355328) : AC Try.prog 12 [str n] emp (Ret (tf (canN n))) := by
  refine AC.intro te_ok (fn := Try.f12) ⟨Try.func12, rfl, rfl⟩ (Nat.le_of_ble_eq_true rfl) ?_
  refine AWp.seq ?_
  refine AWp.region ?_
  refine AOps.cons rfl rfl (q_assign) ?_
  refine AOps.nil ?_
  refine AWp.seq ?_
  refine AWp.seq ?_
  refine AWp.region ?_
  refine AOps.cons rfl rfl (q_move) ?_
  refine AOps.cons rfl rfl (q_len_str) ?_
  refine AOps.dec rfl rfl (q_gtr) (fun h1_2 => ?_) (fun h1_2 => ?_)
  · skip
    refine AOps.nil ?_
    refine AWp.cond_t rfl ?_
    refine AWp.seq ?_
    refine AWp.region ?_
    refine AOps.cons rfl rfl (q_assign) ?_
    refine AOps.nil ?_
    refine AWp.ret ?_
    show Fin te Try.f12 _ _
    refine q_ret (0) [_] [_] ?_
    have e : canN n = false := by rw [canN, decide_eq_false (by omega), Bool.and_false]
    rw [e]; rfl
  · skip
    refine AOps.nil ?_
    refine AWp.cond_f rfl ?_
    refine AWp.skip ?_
    refine AWp.seq ?_
    refine AWp.region ?_
    refine AOps.cons rfl rfl (q_assign) ?_
    refine AOps.nil ?_
    refine AWp.seq ?_
    refine AWp.block ?_
    refine AWp.loopR (α := Nat) [2, 3, 4, 8, 9, 10, 11, 12, 13, 14, 15, 16, 17, 18, 19, 20, 21, 22, 23, 24, 25, 26, 27, 28] (fun i => [(3, i64 i)]) (fun i => []) (fun i => (labs n).isSome = (labs (n.drop i)).isSome ∧ i ≤ 319) (fun i => n.length - i) 0 ?_ (Back.mk' (HasT.cons HasT.nil) HasH.nil) ?_
    · exact ⟨rfl, by omega⟩
    · rintro i ⟨hc, hi⟩
      refine AWp.seq ?_
      refine AWp.seq ?_
      refine AWp.region ?_
      refine AOps.cons rfl rfl (q_move) ?_
      refine AOps.cons rfl rfl (q_move) ?_
      refine AOps.cons rfl rfl (q_len_str) ?_
      refine AOps.dec rfl rfl (q_lss) (fun h4_3 => ?_) (fun h4_3 => ?_)
      · skip
        refine AOps.nil ?_
        refine AWp.cond_t rfl ?_
        refine AWp.skip ?_
        refine AWp.block ?_
        refine AWp.seq ?_
        refine AWp.region ?_
        have hk := (n.getD i 0).toNat_lt
        refine AOps.cons rfl rfl (q_move) ?_
        refine AOps.cons rfl rfl (q_move) ?_
        refine AOps.cons rfl rfl (q_ixs) ?_
        refine AOps.cons rfl rfl (q_conv_8i) ?_
        refine AOps.cons rfl rfl (q_assign) ?_
        refine AOps.nil ?_
        refine AWp.seq ?_
        refine AWp.seq ?_
        refine AWp.region ?_
        have hla := labs_at (n := n) (i := i) (by omega)
        refine AOps.cons rfl rfl (q_move) ?_
        refine AOps.dec rfl rfl (q_eql) (fun h6_1 => ?_) (fun h6_1 => ?_)
        · skip
          refine AOps.nil ?_
          refine AWp.cond_t rfl ?_
          refine AWp.seq ?_
          refine AWp.region ?_
          refine AOps.cons rfl rfl (q_move) ?_
          refine AOps.cons rfl rfl (q_move) ?_
          refine AOps.cons rfl rfl (q_len_str) ?_
          refine AOps.cons rfl rfl (q_sub) ?_
          refine AOps.cons rfl rfl (q_eql) ?_
          refine AOps.cons rfl rfl (q_assign) ?_
          refine AOps.nil ?_
          refine AWp.ret ?_
          show Fin te Try.f12 _ _
          refine q_ret (0) [_] [_] ?_
          have k1 : ((n.getD i 0).toNat : Int) = 0 := h6_1
          rw [if_pos (by omega)] at hla
          rw [canN, hc, hla, decide_eq_true (show n.length ≤ 255 by omega), Bool.and_true]
          exact congrArg tf (decide_eq_decide.2 (by omega))
        · skip
          refine AOps.nil ?_
          refine AWp.cond_f rfl ?_
          refine AWp.skip ?_
          refine AWp.seq ?_
          refine AWp.seq ?_
          refine AWp.region ?_
          refine AOps.cons rfl rfl (q_move) ?_
          refine AOps.dec rfl rfl (q_gtr) (fun h8_1 => ?_) (fun h8_1 => ?_)
          · skip
            refine AOps.nil ?_
            refine AWp.cond_t rfl ?_
            refine AWp.seq ?_
            refine AWp.region ?_
            refine AOps.cons rfl rfl (q_assign) ?_
            refine AOps.nil ?_
            refine AWp.ret ?_
            show Fin te Try.f12 _ _
            refine q_ret (0) [_] [_] ?_
            have k1 : ¬ ((n.getD i 0).toNat : Int) = 0 := h6_1
            have k2 : 63 < ((n.getD i 0).toNat : Int) := h8_1
            rw [if_neg (by omega), if_pos (by omega)] at hla
            rw [canN, hc, hla]; rfl
          · skip
            refine AOps.nil ?_
            refine AWp.cond_f rfl ?_
            refine AWp.skip ?_
            refine AWp.region ?_
            have k2 : ¬ 63 < ((n.getD i 0).toNat : Int) := h8_1
            have hk3 : ((n.getD (i : Int).toNat 0).toNat : Int) = ((n.getD i 0).toNat : Int) := rfl
            refine AOps.cons rfl rfl (q_move) ?_
            refine AOps.cons rfl rfl (q_move) ?_
            refine AOps.cons rfl rfl (q_add) ?_
            refine AOps.cons rfl rfl (q_add) ?_
            refine AOps.cons rfl rfl (q_assign) ?_
            refine AOps.nil ?_
            have k1 : ¬ ((n.getD i 0).toNat : Int) = 0 := h6_1
            have k2 : ¬ 63 < ((n.getD i 0).toNat : Int) := h8_1
            refine ⟨i + 1 + (n.getD i 0).toNat, ?_, Back.mk' (HasT.cons HasT.nil (h1 := by exact i64_eq (by show (i : Int) + (1 + ((n.getD i 0).toNat : Int)) = ((i + 1 + (n.getD i 0).toNat : Nat) : Int); omega)) ) HasH.nil, ?_⟩
            · exact ⟨by rw [hc, labs_at (by omega), if_neg (by omega), if_neg (by omega)], by omega⟩
            · omega
      · skip
        refine AOps.nil ?_
        refine AWp.cond_f rfl ?_
        refine AWp.exit ?_
        refine AWp.seq ?_
        refine AWp.region ?_
        refine AOps.cons rfl rfl (q_assign) ?_
        refine AOps.nil ?_
        refine AWp.ret ?_
        show Fin te Try.f12 _ _
        refine q_ret (0) [_] [_] ?_
        have e : canN n = false := by rw [canN, hc, labs_end n (by omega)]; rfl
        rw [e]; rfl

set_option maxRecDepth 20000 in
set_option maxHeartbeats 2000000 in
theorem c_ciceroneref01_Join (ls : List (List UInt8)) (lv : Nat) (hj : (joinN ls).length ≤ 140737488351232) : AC Try.prog 25 [.fz lv ls.length (cl sc ls)] emp (Ret (str (joinN ls))) := by
  refine AC.intro te_ok (fn := Try.f25) ⟨Try.func25, rfl, rfl⟩ (Nat.le_of_ble_eq_true rfl) ?_
  refine AWp.seq ?_
  refine AWp.region ?_
  refine AOps.cons rfl rfl (q_assign) ?_
  refine AOps.nil ?_
  refine AWp.seq ?_
  refine AWp.region ?_
  refine AOps.cons rfl rfl (q_assign) ?_
  refine AOps.nil ?_
  refine AWp.seq ?_
  refine AWp.seq ?_
  refine AWp.region ?_
  refine AOps.cons rfl rfl (q_move) ?_
  refine AOps.cons rfl rfl (q_len) ?_
  refine AOps.cons rfl rfl (q_move) ?_
  refine AOps.nil ?_
  refine AWp.block ?_
  refine AWp.loopR (α := Nat × List UInt8) [3, 5, 8, 9, 10, 11, 12, 13, 14, 15, 16, 17, 18, 19, 20, 21] (fun x_ => [(8, i64 (x_.1)), (3, str (x_.2))]) (fun x_ => []) (fun x_ => (x_.1) ≤ ls.length ∧ (x_.2) ++ joinN (ls.drop (x_.1)) = joinN ls) (fun x_ => ls.length - (x_.1)) (0, []) ?_ (Back.mk' (HasT.cons (HasT.cons HasT.nil)) HasH.nil) ?_
  · exact ⟨Nat.zero_le _, rfl⟩
  · rintro ⟨i, acc⟩ hI3
    change i ≤ ls.length ∧ acc ++ joinN (ls.drop i) = joinN ls at hI3
    obtain ⟨hi, hI⟩ := hI3
    refine AWp.as (s' := AS.over _ [3, 5, 8, 9, 10, 11, 12, 13, 14, 15, 16, 17, 18, 19, 20, 21] [(8, i64 i), (3, str acc)] []) rfl ?_
    have hll := congrArg List.length hI
    rw [List.length_append] at hll
    refine AWp.seq ?_
    refine AWp.region ?_
    refine AOps.dec rfl rfl (q_lss) (fun h3_0 => ?_) (fun h3_0 => ?_)
    · skip
      refine AOps.nil ?_
      refine AWp.seq ?_
      refine AWp.cond_t rfl ?_
      refine AWp.skip ?_
      refine AWp.seq ?_
      refine AWp.block ?_
      refine AWp.seq ?_
      refine AWp.region ?_
      have hja := join_at (ls := ls) (i := i) (by omega)
      rw [hja, List.length_cons, List.length_append] at hll
      have hll2 : acc.length + ((ls.getD (i : Int).toNat default).length + (joinN (ls.drop (i + 1))).length + 1) = (joinN ls).length := hll
      have hg3 : (ls[i]?.getD default).length = (ls.getD (i : Int).toNat default).length := congrArg List.length (List.getD_eq_getElem?_getD).symm
      have hg4 := joinN_length ls
      refine AOps.cons rfl rfl (q_ix) ?_
      refine AOps.cons rfl rfl (q_load) ?_
      refine AOps.cons rfl rfl (q_assign) ?_
      refine AOps.nil ?_
      refine AWp.region ?_
      refine AOps.cons rfl rfl (q_move) ?_
      refine AOps.cons rfl rfl (q_move) ?_
      refine AOps.cons rfl rfl (q_len_str) ?_
      refine AOps.cons rfl rfl (q_conv_u8) ?_
      refine AOps.cons rfl rfl (q_bs 604 bc [_] [(_, _)]) ?_
      refine AOps.cons rfl rfl (q_conv_ls) ?_
      refine AOps.cons rfl rfl (q_move) ?_
      refine AOps.cons rfl rfl (q_sadd) ?_
      refine AOps.cons rfl rfl (q_sadd) ?_
      refine AOps.cons rfl rfl (q_assign) ?_
      refine AOps.nil ?_
      refine AWp.region ?_
      refine AOps.cons rfl rfl (q_add) ?_
      refine AOps.cons rfl rfl (q_move) ?_
      refine AOps.nil ?_
      refine ⟨(i + 1, _), ?_, Back.mk' (HasT.cons (HasT.cons HasT.nil)) HasH.nil, ?_⟩
      · try dsimp only
        exact ⟨by omega, by rw [← hI, hja]; simp⟩
      · try dsimp only
        first | omega | (simp; omega)
    · skip
      refine AOps.nil ?_
      refine AWp.seq ?_
      refine AWp.cond_f rfl ?_
      refine AWp.exit ?_
      refine AWp.seq ?_
      refine AWp.region ?_
      refine AOps.cons rfl rfl (q_move) ?_
      refine AOps.cons rfl rfl (q_sadd) ?_
      refine AOps.cons rfl rfl (q_assign) ?_
      refine AOps.nil ?_
      refine AWp.ret ?_
      show Fin te Try.f25 _ _
      obtain rfl : i = ls.length := by omega
      rw [List.drop_length, joinN_nil] at hI
      refine q_ret (0) [_] [_] ?_
      exact congrArg (fun x => str x) hI

set_option maxRecDepth 20000 in
set_option maxHeartbeats 2000000 in
theorem c_ciceroneplain_Name (l : List UInt8) (lv : Nat) (h : l.length ≤ 140737488351232) : AC Try.prog 10 [.fz lv l.length (cl bc l)] emp (Ret (str (plainN l))) := by
  obtain ⟨hpg, hpl⟩ := plain_good l
  refine AC.intro te_ok (fn := Try.f10) ⟨Try.func10, rfl, rfl⟩ (Nat.le_of_ble_eq_true rfl) ?_
  refine AWp.seq ?_
  refine AWp.region ?_
  refine AOps.cons rfl rfl (q_assign) ?_
  refine AOps.nil ?_
  refine AWp.seq ?_
  refine AWp.region ?_
  refine AOps.cons rfl rfl (q_nilrow 200 1 sc) ?_
  refine AOps.nil ?_
  refine AWp.seq ?_
  refine AWp.seq ?_
  refine AWp.region ?_
  refine AOps.cons rfl rfl (q_move) ?_
  refine AOps.cons rfl rfl (q_move) ?_
  refine AOps.cons rfl rfl (q_len) ?_
  refine AOps.cons rfl rfl (q_min) ?_
  refine AOps.cons rfl rfl (q_sl) ?_
  refine AOps.cons rfl rfl (q_len) ?_
  refine AOps.cons rfl rfl (q_move) ?_
  refine AOps.nil ?_
  refine AWp.block ?_
  refine AWp.loopR (α := Nat × List (List UInt8) × Nat) [3, 5, 12, 13, 14, 15, 16, 17, 18, 19, 20, 21, 22, 23, 24] (fun x_ => [(12, i64 (x_.1)), (3, .sl 200 (x_.2.2) 0 (x_.2.1).length 1)]) (fun x_ => [(200, .row (cl sc (x_.2.1)) 1 (x_.2.2))]) (fun x_ => (x_.1) ≤ (l.take (min (l.length : Int) 4).toNat).length ∧ (x_.2.1) = ((l.take (min (l.length : Int) 4).toNat).take (x_.1)).map pickN) (fun x_ => (l.take (min (l.length : Int) 4).toNat).length - (x_.1)) (0, [], 0) ?_ (Back.mk' (HasT.cons (HasT.cons HasT.nil)) (HasH.cons HasH.nil)) ?_
  · exact ⟨Nat.zero_le _, rfl⟩
  · rintro ⟨i, acc, v⟩ hI3
    change i ≤ (l.take (min (l.length : Int) 4).toNat).length ∧ acc = ((l.take (min (l.length : Int) 4).toNat).take i).map pickN at hI3
    obtain ⟨hi, hacc⟩ := hI3
    refine AWp.as (s' := AS.over _ [3, 5, 12, 13, 14, 15, 16, 17, 18, 19, 20, 21, 22, 23, 24] [(12, i64 i), (3, .sl 200 v 0 acc.length 1)] [(200, .row (cl sc acc) 1 v)]) rfl ?_
    have hal : acc.length = i := by rw [hacc, List.length_map, List.length_take]; omega
    have ht4 : (l.take (min (l.length : Int) 4).toNat).length ≤ 4 := by rw [List.length_take]; omega
    refine AWp.seq ?_
    refine AWp.region ?_
    refine AOps.dec rfl rfl (q_lss) (fun h3_0 => ?_) (fun h3_0 => ?_)
    · skip
      refine AOps.nil ?_
      refine AWp.seq ?_
      refine AWp.cond_t rfl ?_
      refine AWp.skip ?_
      refine AWp.seq ?_
      refine AWp.block ?_
      refine AWp.seq ?_
      refine AWp.region ?_
      refine AOps.cons rfl rfl (q_ix) ?_
      refine AOps.cons rfl rfl (q_load) ?_
      refine AOps.cons rfl rfl (q_assign) ?_
      refine AOps.nil ?_
      refine AWp.region ?_
      refine AOps.cons rfl rfl (q_move) ?_
      refine AOps.cons rfl rfl (q_bs 601 sc [_, _, _, _, _, _] [(_, _), (_, _), (_, _), (_, _), (_, _), (_, _)]) ?_
      refine AOps.cons rfl rfl (q_move) ?_
      refine AOps.cons rfl rfl (q_rem8 _ 6) ?_
      refine AOps.cons rfl rfl (q_ix) ?_
      refine AOps.cons rfl rfl (q_load) ?_
      refine AOps.cons rfl rfl (q_bs 606 sc [_] [(_, _)]) ?_
      refine AOps.cons rfl rfl (q_app) ?_
      refine AOps.cons rfl rfl (q_assign) ?_
      refine AOps.nil ?_
      refine AWp.region ?_
      refine AOps.cons rfl rfl (q_add) ?_
      refine AOps.cons rfl rfl (q_move) ?_
      refine AOps.nil ?_
      refine ⟨(i + 1, _, _), ?_, Back.mk' (HasT.cons (HasT.cons HasT.nil)) (HasH.cons HasH.nil), ?_⟩
      · try dsimp only
        exact ⟨by omega, by rw [hacc]; exact (take_map_step _ (by omega)).symm⟩
      · try dsimp only
        first | omega | (simp; omega)
    · skip
      refine AOps.nil ?_
      refine AWp.seq ?_
      refine AWp.cond_f rfl ?_
      refine AWp.exit ?_
      refine AWp.seq ?_
      refine AWp.region ?_
      obtain rfl : i = (l.take (min (l.length : Int) 4).toNat).length := by omega
      rw [List.take_length, show l.take (min (l.length : Int) 4).toNat = l.take 4 by rw [List.take_eq_take_iff]; omega] at hacc
      subst hacc
      have hpl2 : (joinN ((l.take 4).map pickN)).length ≤ 17 := hpl
      refine AOps.cons rfl rfl (q_move) ?_
      refine AOps.cons rfl rfl (q_call (0) (hc := (c_ciceroneref01_Join _ _ (by first | omega | (simp; omega))))) ?_
      refine AOps.cons rfl rfl (q_assign) ?_
      refine AOps.nil ?_
      refine AWp.ret ?_
      show Fin te Try.f10 _ _
      refine q_ret (0) [_] [_] ?_
      rfl

end Go.Proofs.Ytkfccjbihcbmiaa.Fw

/- Q7: operations whose guard was passed by. -/
set_option linter.unusedVariables false
set_option linter.unusedSimpArgs false
namespace Go.Proofs.Ytkfccjbihcbmiaa.Fw
open Go.RowKit
theorem Sim.yielded_no {n : Nat} {ops : Array Oper} {s : AS} {w : World} {φ : PMap} {Λ : Lent} {a : Act} (hs : Sim n w φ Λ s a) {j : Nat} {oj : Oper} {d : Nat} (hj : ops[j]? = some oj) (hd : oj.dst = some d)
    (hb : s.t d = .v undef) : Go.yielded ops a.tmps j = none := by
  have h := hs.tmps d
  rw [hb] at h
  generalize hv : a.tmps.getD d undef = v at h
  cases h
  simp only [Go.yielded, hj, Option.bind_some, hd]
  cases hx : a.tmps[d]? with
  | none => rfl
  | some y =>
    rw [Array.getD_eq_getD_getElem?, hx] at hv
    simp only [Option.getD_some] at hv
    rw [hv]
    rfl
/-- The operation is passed by, as its guard was. -/
theorem AOps.gskipu {P : Program} {n : Nat} {ops : Array Oper} {Q : APost} {s : AS} {i : Nat} {rest : List Nat} {o : Oper} {j : Nat} {want : Bool} {oj : Oper} {d : Nat} {dd : Option Tmp} (ho : ops[i]? = some o) (hg : o.guard = some (j, want)) (hj : ops[j]? = some oj)
    (hd : oj.dst = some d) (hb : s.t d = .v undef) (hdd : o.dst = dd) (hn : dd.all (Nat.blt · n) = true) (hr : AOps P n ops Q rest (s.put dd (.v undef))) :
    AOps P n ops Q (i :: rest) s := by
  intro Λ w φ a hs QQ hQ
  have hy := hs.yielded_no hj hd hb
  have hw : ((none : Option Bool) == some want) = false := rfl
  simp only [wpOps, ho, Region.wanted, hg, hy, hw, Bool.false_eq_true, if_false]
  subst hdd
  exact hr Λ w φ _ (hs.put o.dst hn .v) QQ hQ
theorem OpAt.gskipu {P : Program} {n : Nat} {ops : Array Oper} {i : Nat} {o : Oper} {s : AS} {j : Nat} {want : Bool} {oj : Oper} {d : Nat} {dd : Option Tmp} (ho : ops[i]? = some o) (hg : o.guard = some (j, want)) (hj : ops[j]? = some oj)
    (hd : oj.dst = some d) (hb : s.t d = .v undef) (hdd : o.dst = dd) (hn : dd.all (Nat.blt · n) = true) : OpAt P n ops i s (s.put dd (.v undef)) := by
  intro Λ w φ a hs K QQ hK
  have hy := hs.yielded_no hj hd hb
  have hw : ((none : Option Bool) == some want) = false := rfl
  simp only [wpOp, ho, Region.wanted, hg, hy, hw, Bool.false_eq_true, if_false]
  subst hdd
  exact hK w φ _ (hs.put o.dst hn .v) (Goes.refl _ _)
theorem or256 {a b : Int} (ha : 0 ≤ a) (hb : 0 ≤ b ∧ b < 256) : (((a * 2 ^ 8).toNat ||| b.toNat : Nat) : Int) = a * 256 + b := by
  have e : (a * 2 ^ 8).toNat = 2 ^ 8 * a.toNat := by omega
  rw [e, ← Nat.two_pow_add_eq_or_of_lt (by omega : b.toNat < 2 ^ 8) a.toNat]
  omega
/-- A number with a byte behind. -/
theorem q_orb {n : Nat} {s : AS} {o : Oper} {d : Option Tmp} {t u : TypeId} {x y : Operand} {a b : Int} (ho : o.op = .binOp .or t x y u := by exact rfl) (hx : s.ev x = i64 (a * 2 ^ 8) := by exact rfl) (hy : s.ev y = i64 b := by exact rfl)
    (ha : 0 ≤ a ∧ a ≤ 36028797018963967 := by first | omega | decide | (simp; omega)) (hb : 0 ≤ b ∧ b < 256 := by first | omega | decide | (simp; omega))
    (hdd : o.dst = d := by conv => lhs; whnf) (hd : d.all (Nat.blt · n) = true := by exact rfl) : OpOk Try.prog n o s (s.put d (i64 (a * 256 + b))) := by
  rw [← or256 ha.1 hb]
  exact q_or ho hx hy (by omega) (by omega) hdd hd
end Go.Proofs.Ytkfccjbihcbmiaa.Fw

/- Walks of layer 3, the program's. -/
set_option linter.unusedVariables false
set_option linter.unusedSimpArgs false
namespace Go.Proofs.Ytkfccjbihcbmiaa.Fw
open Go.RowKit


/-- Texts, one behind the other; options, one behind the other. -/
def txtW (b : List UInt8) : Bool := if h : 0 < b.length then (if 1 + (b.getD 0 default).toNat ≤ b.length then txtW (b.drop (1 + (b.getD 0 default).toNat)) else false) else true
termination_by b.length
decreasing_by simp; omega
def txtR (b : List UInt8) : Bool := decide (0 < b.length) && txtW b
def optK (b : List UInt8) : Nat := 4 + ((b.getD 2 default).toNat * 256 + (b.getD 3 default).toNat)
def optR (b : List UInt8) : Bool := if h : 0 < b.length then (if 4 ≤ b.length ∧ optK b ≤ b.length then optR (b.drop (optK b)) else false) else true
termination_by b.length
decreasing_by simp [optK]; omega
theorem txtW_end {b : List UInt8} (h : b.length = 0) : txtW b = true := by rw [txtW, dif_neg (by omega)]
theorem txtW_step {b : List UInt8} (h : 0 < b.length) (h2 : 1 + (b.getD 0 default).toNat ≤ b.length) : txtW b = txtW (b.drop (1 + (b.getD 0 default).toNat)) := by rw [txtW, dif_pos h, if_pos h2]
theorem txtW_no {b : List UInt8} (h : 0 < b.length) (h2 : b.length < 1 + (b.getD 0 default).toNat) : txtW b = false := by rw [txtW, dif_pos h, if_neg (by omega)]
theorem optR_end {b : List UInt8} (h : b.length = 0) : optR b = true := by rw [optR, dif_neg (by omega)]
theorem optR_step {b : List UInt8} (h : 0 < b.length) (h4 : 4 ≤ b.length) (h2 : optK b ≤ b.length) : optR b = optR (b.drop (optK b)) := by rw [optR, dif_pos h, if_pos ⟨h4, h2⟩]
theorem optR_no {b : List UInt8} (h : 0 < b.length) (h2 : b.length < 4 ∨ b.length < optK b) : optR b = false := by rw [optR, dif_pos h, if_neg (by omega)]
theorem canN_big {b : List UInt8} (h : 255 < b.length) : canN b = false := by rw [canN, decide_eq_false (by omega), Bool.and_false]
/-- Data of a type, but for type 6. -/
def canR (t : Int) (d : List UInt8) : Bool :=
  if t < 0 ∨ 65535 < t ∨ 65535 < d.length then false else if t = 1 then decide (d.length = 4) else if t = 28 then decide (d.length = 16) else if t = 2 ∨ t = 5 ∨ t = 12 then canN d
  else if t = 15 then decide (2 < d.length) && canN (d.drop 2) else if t = 16 then txtR d else if t = 41 then optR d else true
theorem eq_step {a b : List (List UInt8)} {i : Nat} (ha : i < a.length) (hb : i < b.length) (h : a.take i = b.take i) (e : a.getD i default = b.getD i default) : a.take (i + 1) = b.take (i + 1) := by
  rw [List.take_succ_eq_append_getElem ha, List.take_succ_eq_append_getElem hb, h]
  rw [List.getD_eq_getElem?_getD, List.getD_eq_getElem?_getD, List.getElem?_eq_getElem ha, List.getElem?_eq_getElem hb, Option.getD_some, Option.getD_some] at e
  rw [e]
theorem canR_15 {t : Int} {b : List UInt8} (e : t = 15) (h : canR t b = true) : 2 < b.length := by
  subst e
  simp [canR] at h
  omega
def namR (t : Int) (d : List UInt8) : List (List UInt8) := if canR t d then (if t = 2 ∨ t = 5 ∨ t = 12 then [d] else if t = 15 then [d.drop 2] else []) else []

set_option maxRecDepth 20000 in
set_option maxHeartbeats 2000000 in
theorem c_rdata_whole (b : List UInt8) (lv : Nat) (h : b.length ≤ 140737488351232) : AC Try.prog 81 [.fz lv b.length (cl bc b)] emp (Ret (tf (canN b))) := by
  refine AC.intro te_ok (fn := Try.f81) ⟨Try.func81, rfl, rfl⟩ (Nat.le_of_ble_eq_true rfl) ?_
  refine AWp.seq ?_
  refine AWp.region ?_
  refine AOps.cons rfl rfl (q_assign) ?_
  refine AOps.nil ?_
  refine AWp.seq ?_
  refine AWp.region ?_
  refine AOps.cons rfl rfl (q_move) ?_
  refine AOps.cons rfl rfl (by first | exact q_conv_zs | exact q_conv_ls) ?_
  refine AOps.cons rfl rfl (q_call (0) (hc := c_name_Can _ (by first | assumption | omega | decide | (simp; omega) | (simp [*]; done)))) ?_
  refine AOps.cons rfl rfl (q_assign) ?_
  refine AOps.nil ?_
  refine AWp.ret ?_
  show Fin te Try.f81 _ _
  refine q_ret (0) [_] [_] ?_
  first | rfl | (simp; done)

set_option maxRecDepth 20000 in
set_option maxHeartbeats 2000000 in
theorem c_rdata_mail (b : List UInt8) (lv : Nat) (h : b.length ≤ 140737488351232) : AC Try.prog 82 [.fz lv b.length (cl bc b)] emp (Ret (tf (decide (2 < b.length) && canN (b.drop 2)))) := by
  refine AC.intro te_ok (fn := Try.f82) ⟨Try.func82, rfl, rfl⟩ (Nat.le_of_ble_eq_true rfl) ?_
  refine AWp.seq ?_
  refine AWp.region ?_
  refine AOps.cons rfl rfl (q_assign) ?_
  refine AOps.nil ?_
  refine AWp.seq ?_
  refine AWp.region ?_
  refine AOps.cons rfl rfl (q_move) ?_
  refine AOps.cons rfl rfl (q_len) ?_
  refine AOps.dec rfl rfl (q_gtr) (fun h1_2 => ?_) (fun h1_2 => ?_)
  · skip
    refine AOps.cons rfl rfl (q_move) ?_
    refine AOps.gcons rfl rfl rfl rfl rfl (q_move) ?_
    refine AOps.gcons rfl rfl rfl rfl rfl (q_sl) ?_
    refine AOps.gcons rfl rfl rfl rfl rfl (q_call (lv) (hc := c_rdata_whole _ _ (by first | assumption | omega | decide | (simp; omega) | (simp [*]; done)))) ?_
    refine AOps.cons rfl rfl (q_pick) ?_
    refine AOps.cons rfl rfl (q_assign) ?_
    refine AOps.nil ?_
    refine AWp.ret ?_
    show Fin te Try.f82 _ _
    refine q_ret (0) [_] [_] ?_
    rw [decide_eq_true (show 2 < b.length by omega)]; rfl
  · skip
    refine AOps.cons rfl rfl (q_move) ?_
    refine AOps.gskip rfl rfl rfl rfl rfl rfl rfl rfl ?_
    refine AOps.gskip rfl rfl rfl rfl rfl rfl rfl rfl ?_
    refine AOps.gskip rfl rfl rfl rfl rfl rfl rfl rfl ?_
    refine AOps.cons rfl rfl (q_pick) ?_
    refine AOps.cons rfl rfl (q_assign) ?_
    refine AOps.nil ?_
    refine AWp.ret ?_
    show Fin te Try.f82 _ _
    refine q_ret (0) [_] [_] ?_
    rw [decide_eq_false (show ¬ 2 < b.length by omega)]; rfl

set_option maxRecDepth 20000 in
set_option maxHeartbeats 2000000 in
theorem c_rdata_texts (b : List UInt8) (lv : Nat) (h : b.length ≤ 140737488351232) : AC Try.prog 83 [.fz lv b.length (cl bc b)] emp (Ret (tf (txtR b))) := by
  refine AC.intro te_ok (fn := Try.f83) ⟨Try.func83, rfl, rfl⟩ (Nat.le_of_ble_eq_true rfl) ?_
  refine AWp.seq ?_
  refine AWp.region ?_
  refine AOps.cons rfl rfl (q_assign) ?_
  refine AOps.nil ?_
  refine AWp.seq ?_
  refine AWp.region ?_
  refine AOps.cons rfl rfl (q_move) ?_
  refine AOps.cons rfl rfl (q_len) ?_
  refine AOps.cons rfl rfl (q_gtr) ?_
  refine AOps.cons rfl rfl (q_assign) ?_
  refine AOps.nil ?_
  refine AWp.seq ?_
  refine AWp.block ?_
  refine AWp.loopR (α := List UInt8) [0, 2, 4, 8, 9, 10, 11, 12, 13, 14, 15, 16, 17, 18, 19, 20, 21, 22] (fun c => [(0, .fz lv c.length (cl bc c))]) (fun c => []) (fun c => txtW c = txtW b ∧ c.length ≤ b.length) (fun c => c.length) b ?_ (Back.mk' (HasT.cons HasT.nil) HasH.nil) ?_
  · exact ⟨rfl, Nat.le_refl _⟩
  · rintro c ⟨hc, hl⟩
    refine AWp.seq ?_
    refine AWp.seq ?_
    refine AWp.region ?_
    refine AOps.cons rfl rfl (q_move) ?_
    refine AOps.cons rfl rfl (q_len) ?_
    refine AOps.dec rfl rfl (q_gtr) (fun h2_2 => ?_) (fun h2_2 => ?_)
    · skip
      refine AOps.nil ?_
      refine AWp.cond_t rfl ?_
      refine AWp.skip ?_
      refine AWp.block ?_
      refine AWp.seq ?_
      refine AWp.region ?_
      have hk := (c.getD 0 default).toNat_lt
      have he : (c.getD (Int.toNat 0) default).toNat = (c.getD 0 default).toNat := rfl
      have hs : (c[0]?.getD default).toNat = (c.getD 0 default).toNat := congrArg UInt8.toNat (List.getD_eq_getElem?_getD).symm
      refine AOps.cons rfl rfl (q_move) ?_
      refine AOps.cons rfl rfl (q_ix) ?_
      refine AOps.cons rfl rfl (q_load) ?_
      refine AOps.cons rfl rfl (q_conv_8i) ?_
      refine AOps.cons rfl rfl (q_add) ?_
      refine AOps.cons rfl rfl (q_assign) ?_
      refine AOps.nil ?_
      refine AWp.seq ?_
      refine AWp.seq ?_
      refine AWp.region ?_
      refine AOps.cons rfl rfl (q_move) ?_
      refine AOps.cons rfl rfl (q_move) ?_
      refine AOps.cons rfl rfl (q_len) ?_
      refine AOps.dec rfl rfl (q_gtr) (fun h4_3 => ?_) (fun h4_3 => ?_)
      · skip
        refine AOps.nil ?_
        refine AWp.cond_t rfl ?_
        refine AWp.seq ?_
        refine AWp.region ?_
        refine AOps.cons rfl rfl (q_assign) ?_
        refine AOps.nil ?_
        refine AWp.ret ?_
        show Fin te Try.f83 _ _
        refine q_ret (0) [_] [_] ?_
        rw [txtR, ← hc, txtW_no (by omega) (by omega), Bool.and_false]; rfl
      · skip
        refine AOps.nil ?_
        refine AWp.cond_f rfl ?_
        refine AWp.skip ?_
        refine AWp.region ?_
        refine AOps.cons rfl rfl (q_move) ?_
        refine AOps.cons rfl rfl (q_move) ?_
        refine AOps.cons rfl rfl (q_sl) ?_
        refine AOps.cons rfl rfl (q_assign) ?_
        refine AOps.nil ?_
        have e1 : ((1 : Int) + ((c.getD (Int.toNat 0) default).toNat : Int)).toNat = 1 + (c.getD 0 default).toNat := by omega
        refine ⟨_, ?_, Back.mk' (HasT.cons HasT.nil) HasH.nil, ?_⟩
        · rw [e1]; exact ⟨(txtW_step (by omega) (by omega)).symm.trans hc, by rw [List.length_drop]; omega⟩
        · rw [e1, List.length_drop]; omega
    · skip
      refine AOps.nil ?_
      refine AWp.cond_f rfl ?_
      refine AWp.exit ?_
      refine AWp.seq ?_
      refine AWp.region ?_
      refine AOps.cons rfl rfl (q_move) ?_
      refine AOps.cons rfl rfl (q_assign) ?_
      refine AOps.nil ?_
      refine AWp.ret ?_
      show Fin te Try.f83 _ _
      refine q_ret (0) [_] [_] ?_
      rw [txtR, ← hc, txtW_end (by omega), Bool.and_true]; exact congrArg tf (decide_eq_decide.2 (by omega))

set_option maxRecDepth 20000 in
set_option maxHeartbeats 2000000 in
theorem c_rdata_options (b : List UInt8) (lv : Nat) (h : b.length ≤ 140737488351232) : AC Try.prog 84 [.fz lv b.length (cl bc b)] emp (Ret (tf (optR b))) := by
  refine AC.intro te_ok (fn := Try.f84) ⟨Try.func84, rfl, rfl⟩ (Nat.le_of_ble_eq_true rfl) ?_
  refine AWp.seq ?_
  refine AWp.region ?_
  refine AOps.cons rfl rfl (q_assign) ?_
  refine AOps.nil ?_
  refine AWp.seq ?_
  refine AWp.block ?_
  refine AWp.loopR (α := List UInt8) [0, 2, 3, 4, 5, 6, 7, 8, 9, 10, 11, 12, 13, 14, 15, 16, 17, 18, 19, 20, 21, 22, 23, 24, 25, 26, 27] (fun c => [(0, .fz lv c.length (cl bc c))]) (fun c => []) (fun c => optR c = optR b ∧ c.length ≤ b.length) (fun c => c.length) b ?_ (Back.mk' (HasT.cons HasT.nil) HasH.nil) ?_
  · exact ⟨rfl, Nat.le_refl _⟩
  · rintro c ⟨hc, hl⟩
    refine AWp.seq ?_
    refine AWp.seq ?_
    refine AWp.region ?_
    refine AOps.cons rfl rfl (q_move) ?_
    refine AOps.cons rfl rfl (q_len) ?_
    refine AOps.dec rfl rfl (q_gtr) (fun h1_2 => ?_) (fun h1_2 => ?_)
    · skip
      refine AOps.nil ?_
      refine AWp.cond_t rfl ?_
      refine AWp.skip ?_
      refine AWp.block ?_
      refine AWp.seq ?_
      refine AWp.seq ?_
      refine AWp.region ?_
      refine AOps.cons rfl rfl (q_move) ?_
      refine AOps.cons rfl rfl (q_len) ?_
      refine AOps.dec rfl rfl (q_lss) (fun h2_2 => ?_) (fun h2_2 => ?_)
      · skip
        refine AOps.nil ?_
        refine AWp.cond_t rfl ?_
        refine AWp.seq ?_
        refine AWp.region ?_
        refine AOps.cons rfl rfl (q_assign) ?_
        refine AOps.nil ?_
        refine AWp.ret ?_
        show Fin te Try.f84 _ _
        refine q_ret (0) [_] [_] ?_
        rw [← hc, optR_no (by omega) (by omega)]; rfl
      · skip
        refine AOps.nil ?_
        refine AWp.cond_f rfl ?_
        refine AWp.skip ?_
        refine AWp.seq ?_
        have hk2 := (c.getD 2 default).toNat_lt
        have hk3 := (c.getD 3 default).toNat_lt
        have he2 : (c.getD (Int.toNat 2) default).toNat = (c.getD 2 default).toNat := rfl
        have he3 : (c.getD (Int.toNat 3) default).toNat = (c.getD 3 default).toNat := rfl
        have hs2 : (c[2]?.getD default).toNat = (c.getD 2 default).toNat := congrArg UInt8.toNat (List.getD_eq_getElem?_getD).symm
        have hs3 : (c[3]?.getD default).toNat = (c.getD 3 default).toNat := congrArg UInt8.toNat (List.getD_eq_getElem?_getD).symm
        refine AWp.draws [⟨0, [0], [], some 10, _, none⟩,
            ⟨1, [10], [], some 11, _, none⟩,
            ⟨2, [11], [], some 12, _, none⟩,
            ⟨3, [12], [], some 13, _, none⟩,
            ⟨4, [13], [], some 14, _, none⟩,
            ⟨5, [0], [], some 15, _, none⟩,
            ⟨6, [15], [], some 16, _, none⟩,
            ⟨7, [16], [], some 17, _, none⟩,
            ⟨8, [17], [], some 18, _, none⟩,
            ⟨9, [14, 18], [], some 19, _, none⟩,
            ⟨10, [19], [], some 20, _, none⟩,
            ⟨11, [20], [], some 3, _, none⟩]
          [⟨0, [0], [], some 10, .any, none⟩,
              ⟨1, [10], [], some 11, .any, none⟩,
              ⟨2, [11], [], some 12, .any, none⟩,
              ⟨3, [12], [], some 13, .any, none⟩,
              ⟨4, [13], [], some 14, .any, none⟩,
              ⟨5, [0], [], some 15, .any, none⟩,
              ⟨6, [15], [], some 16, .any, none⟩,
              ⟨7, [16], [], some 17, .any, none⟩,
              ⟨8, [17], [], some 18, .any, none⟩,
              ⟨9, [14, 18], [], some 19, .any, none⟩,
              ⟨10, [19], [], some 20, .any, none⟩,
              ⟨11, [20], [], some 3, .any, none⟩]
          mixed_ok rfl (by kernel_rfl) ⟨DS.ok_over fun s0 => OpAt.go rfl rfl (q_move),
              DS.ok_over fun s0 => OpAt.go rfl rfl (q_ix),
              DS.ok_over fun s0 => OpAt.go rfl rfl (q_load),
              DS.ok_over fun s0 => OpAt.go rfl rfl (q_conv_8i),
              DS.ok_over fun s0 => OpAt.go rfl rfl (q_shl 8),
              DS.ok_over fun s0 => OpAt.go rfl rfl (q_move),
              DS.ok_over fun s0 => OpAt.go rfl rfl (q_ix),
              DS.ok_over fun s0 => OpAt.go rfl rfl (q_load),
              DS.ok_over fun s0 => OpAt.go rfl rfl (q_conv_8i),
              DS.ok_over fun s0 => OpAt.go rfl rfl (q_orb),
              DS.ok_over fun s0 => OpAt.go rfl rfl (q_add),
              DS.ok_over fun s0 => OpAt.go rfl rfl (q_assign), trivial⟩ ?_
        dsimp only [final, DS.upd, AS.seto]
        refine AWp.seq ?_
        refine AWp.seq ?_
        refine AWp.region ?_
        refine AOps.cons rfl rfl (q_move) ?_
        refine AOps.cons rfl rfl (q_move) ?_
        refine AOps.cons rfl rfl (q_len) ?_
        refine AOps.dec rfl rfl (q_gtr) (fun h5_3 => ?_) (fun h5_3 => ?_)
        · skip
          refine AOps.nil ?_
          refine AWp.cond_t rfl ?_
          refine AWp.seq ?_
          refine AWp.region ?_
          refine AOps.cons rfl rfl (q_assign) ?_
          refine AOps.nil ?_
          refine AWp.ret ?_
          show Fin te Try.f84 _ _
          refine q_ret (0) [_] [_] ?_
          rw [← hc, optR_no (by omega) (Or.inr (by unfold optK; omega))]; rfl
        · skip
          refine AOps.nil ?_
          refine AWp.cond_f rfl ?_
          refine AWp.skip ?_
          refine AWp.region ?_
          refine AOps.cons rfl rfl (q_move) ?_
          refine AOps.cons rfl rfl (q_move) ?_
          refine AOps.cons rfl rfl (q_sl) ?_
          refine AOps.cons rfl rfl (q_assign) ?_
          refine AOps.nil ?_
          have e1 : (4 + (((c.getD (Int.toNat 2) default).toNat : Int) * 256 + ((c.getD (Int.toNat 3) default).toNat : Int))).toNat = optK c := by unfold optK; omega
          refine ⟨_, ?_, Back.mk' (HasT.cons HasT.nil) HasH.nil, ?_⟩
          · rw [e1]; exact ⟨(optR_step (by omega) (by omega) (by unfold optK; omega)).symm.trans hc, by rw [List.length_drop]; omega⟩
          · rw [e1, List.length_drop]; unfold optK; omega
    · skip
      refine AOps.nil ?_
      refine AWp.cond_f rfl ?_
      refine AWp.exit ?_
      refine AWp.seq ?_
      refine AWp.region ?_
      refine AOps.cons rfl rfl (q_assign) ?_
      refine AOps.nil ?_
      refine AWp.ret ?_
      show Fin te Try.f84 _ _
      refine q_ret (0) [_] [_] ?_
      rw [← hc, optR_end (by omega)]; rfl

set_option maxRecDepth 20000 in
set_option maxHeartbeats 2000000 in
theorem c_rdata_Can (t : Int) (b : List UInt8) (lv : Nat) (h : b.length ≤ 140737488351232) (ht : t ≠ 6) : AC Try.prog 53 [i64 t, .fz lv b.length (cl bc b)] emp (Ret (tf (canR t b))) := by
  refine AC.intro te_ok (fn := Try.f53) ⟨Try.func53, rfl, rfl⟩ (Nat.le_of_ble_eq_true rfl) ?_
  refine AWp.seq ?_
  refine AWp.region ?_
  refine AOps.cons rfl rfl (q_assign) ?_
  refine AOps.nil ?_
  refine AWp.seq ?_
  refine AWp.seq ?_
  refine AWp.region ?_
  refine AOps.cons rfl rfl (q_move) ?_
  refine AOps.dec rfl rfl (q_lss) (fun h1_1 => ?_) (fun h1_1 => ?_)
  · skip
    refine AOps.cons rfl rfl (q_move) ?_
    refine AOps.gskip rfl rfl rfl rfl rfl rfl rfl rfl ?_
    refine AOps.gskip rfl rfl rfl rfl rfl rfl rfl rfl ?_
    refine AOps.cons rfl rfl (q_pick) ?_
    refine AOps.cons rfl rfl (q_move) ?_
    refine AOps.gskip rfl rfl rfl rfl rfl rfl rfl rfl ?_
    refine AOps.gskip rfl rfl rfl rfl rfl rfl rfl rfl ?_
    refine AOps.gskip rfl rfl rfl rfl rfl rfl rfl rfl ?_
    refine AOps.cons rfl rfl (q_pick) ?_
    refine AOps.nil ?_
    refine AWp.cond_t rfl ?_
    refine AWp.seq ?_
    refine AWp.region ?_
    refine AOps.cons rfl rfl (q_assign) ?_
    refine AOps.nil ?_
    refine AWp.ret ?_
    show Fin te Try.f53 _ _
    refine q_ret (0) [_] [_] ?_
    rw [canR, if_pos (by omega)]; rfl
  · skip
    refine AOps.cons rfl rfl (q_move) ?_
    refine AOps.gcons rfl rfl rfl rfl rfl (q_move) ?_
    refine AOps.gdec rfl rfl rfl rfl rfl (q_gtr) (fun h1_4 => ?_) (fun h1_4 => ?_)
    · skip
      refine AOps.cons rfl rfl (q_pick) ?_
      refine AOps.cons rfl rfl (q_move) ?_
      refine AOps.gskip rfl rfl rfl rfl rfl rfl rfl rfl ?_
      refine AOps.gskip rfl rfl rfl rfl rfl rfl rfl rfl ?_
      refine AOps.gskip rfl rfl rfl rfl rfl rfl rfl rfl ?_
      refine AOps.cons rfl rfl (q_pick) ?_
      refine AOps.nil ?_
      refine AWp.cond_t rfl ?_
      refine AWp.seq ?_
      refine AWp.region ?_
      refine AOps.cons rfl rfl (q_assign) ?_
      refine AOps.nil ?_
      refine AWp.ret ?_
      show Fin te Try.f53 _ _
      refine q_ret (0) [_] [_] ?_
      rw [canR, if_pos (by omega)]; rfl
    · skip
      refine AOps.cons rfl rfl (q_pick) ?_
      refine AOps.cons rfl rfl (q_move) ?_
      refine AOps.gcons rfl rfl rfl rfl rfl (q_move) ?_
      refine AOps.gcons rfl rfl rfl rfl rfl (q_len) ?_
      refine AOps.gdec rfl rfl rfl rfl rfl (q_gtr) (fun h1_9 => ?_) (fun h1_9 => ?_)
      · skip
        refine AOps.cons rfl rfl (q_pick) ?_
        refine AOps.nil ?_
        refine AWp.cond_t rfl ?_
        refine AWp.seq ?_
        refine AWp.region ?_
        refine AOps.cons rfl rfl (q_assign) ?_
        refine AOps.nil ?_
        refine AWp.ret ?_
        show Fin te Try.f53 _ _
        refine q_ret (0) [_] [_] ?_
        rw [canR, if_pos (by omega)]; rfl
      · skip
        refine AOps.cons rfl rfl (q_pick) ?_
        refine AOps.nil ?_
        refine AWp.cond_f rfl ?_
        refine AWp.skip ?_
        refine AWp.seq ?_
        refine AWp.seq ?_
        refine AWp.region ?_
        refine AOps.cons rfl rfl (q_move) ?_
        refine AOps.nil ?_
        refine AWp.block ?_
        refine AWp.seq ?_
        refine AWp.region ?_
        refine AOps.dec rfl rfl (q_eql) (fun h4_0 => ?_) (fun h4_0 => ?_)
        · skip
          refine AOps.cons rfl rfl (q_assign) ?_
          refine AOps.nil ?_
          refine AWp.cond_t rfl ?_
          refine AWp.seq ?_
          refine AWp.region ?_
          refine AOps.cons rfl rfl (q_move) ?_
          refine AOps.cons rfl rfl (q_len) ?_
          refine AOps.cons rfl rfl (q_eql) ?_
          refine AOps.cons rfl rfl (q_assign) ?_
          refine AOps.nil ?_
          refine AWp.ret ?_
          show Fin te Try.f53 _ _
          refine q_ret (0) [_] [_] ?_
          rw [canR, if_neg (by omega), if_pos h4_0]; exact congrArg tf (decide_eq_decide.2 (by omega))
        · skip
          refine AOps.cons rfl rfl (q_assign) ?_
          refine AOps.nil ?_
          refine AWp.cond_f rfl ?_
          refine AWp.seq ?_
          refine AWp.region ?_
          refine AOps.dec rfl rfl (q_eql) (fun h6_0 => ?_) (fun h6_0 => ?_)
          · skip
            refine AOps.cons rfl rfl (q_assign) ?_
            refine AOps.nil ?_
            refine AWp.cond_t rfl ?_
            refine AWp.seq ?_
            refine AWp.region ?_
            refine AOps.cons rfl rfl (q_move) ?_
            refine AOps.cons rfl rfl (q_len) ?_
            refine AOps.cons rfl rfl (q_eql) ?_
            refine AOps.cons rfl rfl (q_assign) ?_
            refine AOps.nil ?_
            refine AWp.ret ?_
            show Fin te Try.f53 _ _
            refine q_ret (0) [_] [_] ?_
            rw [canR, if_neg (by omega), if_neg h4_0, if_pos h6_0]; exact congrArg tf (decide_eq_decide.2 (by omega))
          · skip
            refine AOps.cons rfl rfl (q_assign) ?_
            refine AOps.nil ?_
            refine AWp.cond_f rfl ?_
            refine AWp.seq ?_
            refine AWp.seq ?_
            refine AWp.region ?_
            refine AOps.dec rfl rfl (q_eql) (fun h8_0 => ?_) (fun h8_0 => ?_)
            · skip
              refine AOps.cons rfl rfl (q_assign) ?_
              refine AOps.nil ?_
              refine AWp.cond_t rfl ?_
              refine AWp.skip ?_
              refine AWp.cond_t rfl ?_
              refine AWp.seq ?_
              refine AWp.region ?_
              refine AOps.cons rfl rfl (q_move) ?_
              refine AOps.cons rfl rfl (q_call (lv) (hc := c_rdata_whole _ _ (by first | assumption | omega | decide | (simp; omega) | (simp [*]; done)))) ?_
              refine AOps.cons rfl rfl (q_assign) ?_
              refine AOps.nil ?_
              refine AWp.ret ?_
              show Fin te Try.f53 _ _
              refine q_ret (0) [_] [_] ?_
              rw [canR, if_neg (by omega), if_neg h4_0, if_neg h6_0, if_pos (by omega)]; rfl
            · skip
              refine AOps.cons rfl rfl (q_assign) ?_
              refine AOps.nil ?_
              refine AWp.cond_f rfl ?_
              refine AWp.seq ?_
              refine AWp.region ?_
              refine AOps.dec rfl rfl (q_eql) (fun h9_0 => ?_) (fun h9_0 => ?_)
              · skip
                refine AOps.cons rfl rfl (q_assign) ?_
                refine AOps.nil ?_
                refine AWp.cond_t rfl ?_
                refine AWp.skip ?_
                refine AWp.cond_t rfl ?_
                refine AWp.seq ?_
                refine AWp.region ?_
                refine AOps.cons rfl rfl (q_move) ?_
                refine AOps.cons rfl rfl (q_call (lv) (hc := c_rdata_whole _ _ (by first | assumption | omega | decide | (simp; omega) | (simp [*]; done)))) ?_
                refine AOps.cons rfl rfl (q_assign) ?_
                refine AOps.nil ?_
                refine AWp.ret ?_
                show Fin te Try.f53 _ _
                refine q_ret (0) [_] [_] ?_
                rw [canR, if_neg (by omega), if_neg h4_0, if_neg h6_0, if_pos (by omega)]; rfl
              · skip
                refine AOps.cons rfl rfl (q_assign) ?_
                refine AOps.nil ?_
                refine AWp.cond_f rfl ?_
                refine AWp.region ?_
                refine AOps.dec rfl rfl (q_eql) (fun h10_0 => ?_) (fun h10_0 => ?_)
                · skip
                  refine AOps.cons rfl rfl (q_assign) ?_
                  refine AOps.nil ?_
                  refine AWp.cond_t rfl ?_
                  refine AWp.seq ?_
                  refine AWp.region ?_
                  refine AOps.cons rfl rfl (q_move) ?_
                  refine AOps.cons rfl rfl (q_call (lv) (hc := c_rdata_whole _ _ (by first | assumption | omega | decide | (simp; omega) | (simp [*]; done)))) ?_
                  refine AOps.cons rfl rfl (q_assign) ?_
                  refine AOps.nil ?_
                  refine AWp.ret ?_
                  show Fin te Try.f53 _ _
                  refine q_ret (0) [_] [_] ?_
                  rw [canR, if_neg (by omega), if_neg h4_0, if_neg h6_0, if_pos (by omega)]; rfl
                · skip
                  refine AOps.cons rfl rfl (q_assign) ?_
                  refine AOps.nil ?_
                  refine AWp.cond_f rfl ?_
                  refine AWp.seq ?_
                  refine AWp.region ?_
                  refine AOps.dec rfl rfl (q_eql) (fun h12_0 => ?_) (fun h12_0 => ?_)
                  · skip
                    refine AOps.cons rfl rfl (q_assign) ?_
                    refine AOps.nil ?_
                    refine AWp.cond_t rfl ?_
                    refine AWp.seq ?_
                    refine AWp.region ?_
                    refine AOps.cons rfl rfl (q_move) ?_
                    refine AOps.cons rfl rfl (q_call (lv) (hc := c_rdata_mail _ _ (by first | assumption | omega | decide | (simp; omega) | (simp [*]; done)))) ?_
                    refine AOps.cons rfl rfl (q_assign) ?_
                    refine AOps.nil ?_
                    refine AWp.ret ?_
                    show Fin te Try.f53 _ _
                    refine q_ret (0) [_] [_] ?_
                    rw [canR, if_neg (by omega), if_neg h4_0, if_neg h6_0, if_neg (by omega), if_pos h12_0]; rfl
                  · skip
                    refine AOps.cons rfl rfl (q_assign) ?_
                    refine AOps.nil ?_
                    refine AWp.cond_f rfl ?_
                    refine AWp.seq ?_
                    refine AWp.region ?_
                    refine AOps.dec rfl rfl (q_eql) (fun h14_0 => ?_) (fun h14_0 => ?_)
                    · skip
                      refine AOps.cons rfl rfl (q_assign) ?_
                      refine AOps.nil ?_
                      refine AWp.cond_t rfl ?_
                      refine AWp.seq ?_
                      refine AWp.region ?_
                      refine AOps.cons rfl rfl (q_move) ?_
                      refine AOps.cons rfl rfl (q_call (lv) (hc := c_rdata_texts _ _ (by first | assumption | omega | decide | (simp; omega) | (simp [*]; done)))) ?_
                      refine AOps.cons rfl rfl (q_assign) ?_
                      refine AOps.nil ?_
                      refine AWp.ret ?_
                      show Fin te Try.f53 _ _
                      refine q_ret (0) [_] [_] ?_
                      rw [canR, if_neg (by omega), if_neg h4_0, if_neg h6_0, if_neg (by omega), if_neg h12_0, if_pos h14_0]; rfl
                    · skip
                      refine AOps.cons rfl rfl (q_assign) ?_
                      refine AOps.nil ?_
                      refine AWp.cond_f rfl ?_
                      refine AWp.seq ?_
                      refine AWp.region ?_
                      refine AOps.dec rfl rfl (q_eql) (fun h16_0 => ?_) (fun h16_0 => ?_)
                      · skip
                        refine AOps.cons rfl rfl (q_assign) ?_
                        refine AOps.nil ?_
                        refine AWp.cond_t rfl ?_
                        refine AWp.seq ?_
                        refine AWp.region ?_
                        refine AOps.cons rfl rfl (q_move) ?_
                        refine AOps.cons rfl rfl (q_call (lv) (hc := c_rdata_options _ _ (by first | assumption | omega | decide | (simp; omega) | (simp [*]; done)))) ?_
                        refine AOps.cons rfl rfl (q_assign) ?_
                        refine AOps.nil ?_
                        refine AWp.ret ?_
                        show Fin te Try.f53 _ _
                        refine q_ret (0) [_] [_] ?_
                        rw [canR, if_neg (by omega), if_neg h4_0, if_neg h6_0, if_neg (by omega), if_neg h12_0, if_neg h14_0, if_pos h16_0]; rfl
                      · skip
                        refine AOps.cons rfl rfl (q_assign) ?_
                        refine AOps.nil ?_
                        refine AWp.cond_f rfl ?_
                        refine AWp.seq ?_
                        refine AWp.region ?_
                        refine AOps.dec rfl rfl (q_eql) (fun h18_0 => ?_) (fun h18_0 => ?_)
                        · exfalso; omega
                        · skip
                          refine AOps.cons rfl rfl (q_assign) ?_
                          refine AOps.nil ?_
                          refine AWp.cond_f rfl ?_
                          refine AWp.skip ?_
                          refine AWp.seq ?_
                          refine AWp.region ?_
                          refine AOps.cons rfl rfl (q_assign) ?_
                          refine AOps.nil ?_
                          refine AWp.ret ?_
                          show Fin te Try.f53 _ _
                          refine q_ret (0) [_] [_] ?_
                          rw [canR, if_neg (by omega), if_neg h4_0, if_neg h6_0, if_neg (by omega), if_neg h12_0, if_neg h14_0, if_neg h16_0]; rfl

set_option maxRecDepth 20000 in
set_option maxHeartbeats 2000000 in
theorem c_rdata_Names (t : Int) (b : List UInt8) (lv : Nat) (h : b.length ≤ 140737488351232) (ht : t ≠ 6) : AC Try.prog 64 [i64 t, .fz lv b.length (cl bc b)] emp (Ret (.fz 0 (namR t b).length (cl sc (namR t b)))) := by
  refine AC.intro te_ok (fn := Try.f64) ⟨Try.func64, rfl, rfl⟩ (Nat.le_of_ble_eq_true rfl) ?_
  refine AWp.seq ?_
  refine AWp.region ?_
  refine AOps.cons rfl rfl (q_nilz (0) sc) ?_
  refine AOps.nil ?_
  refine AWp.seq ?_
  refine AWp.seq ?_
  refine AWp.region ?_
  refine AOps.cons rfl rfl (q_move) ?_
  refine AOps.cons rfl rfl (q_move) ?_
  refine AOps.bool rfl rfl (q_call (lv) (hc := c_rdata_Can _ _ _ (by first | assumption | omega | decide | (simp; omega) | (simp [*]; done)) (by first | assumption | omega | decide | (simp; omega) | (simp [*]; done)))) (fun h1_2 => ?_) (fun h1_2 => ?_)
  · skip
    refine AOps.cons rfl rfl (q_not) ?_
    refine AOps.nil ?_
    refine AWp.cond_f rfl ?_
    refine AWp.skip ?_
    refine AWp.seq ?_
    refine AWp.seq ?_
    refine AWp.region ?_
    refine AOps.cons rfl rfl (q_move) ?_
    refine AOps.nil ?_
    refine AWp.block ?_
    refine AWp.seq ?_
    refine AWp.seq ?_
    refine AWp.region ?_
    refine AOps.dec rfl rfl (q_eql) (fun h4_0 => ?_) (fun h4_0 => ?_)
    · skip
      refine AOps.cons rfl rfl (q_assign) ?_
      refine AOps.nil ?_
      refine AWp.cond_t rfl ?_
      refine AWp.skip ?_
      refine AWp.cond_t rfl ?_
      refine AWp.seq ?_
      refine AWp.region ?_
      refine AOps.cons rfl rfl (q_move) ?_
      refine AOps.cons rfl rfl (by first | exact q_conv_zs | exact q_conv_ls) ?_
      refine AOps.cons rfl rfl (q_bs 802 sc [_] [(_, _)]) ?_
      refine AOps.cons rfl rfl (q_assign) ?_
      refine AOps.nil ?_
      refine AWp.ret ?_
      show Fin te Try.f64 _ _
      refine q_ret (0) [_] [_] ?_
      rw [namR, if_pos h1_2, if_pos (by omega)]; rfl
    · skip
      refine AOps.cons rfl rfl (q_assign) ?_
      refine AOps.nil ?_
      refine AWp.cond_f rfl ?_
      refine AWp.seq ?_
      refine AWp.region ?_
      refine AOps.dec rfl rfl (q_eql) (fun h5_0 => ?_) (fun h5_0 => ?_)
      · skip
        refine AOps.cons rfl rfl (q_assign) ?_
        refine AOps.nil ?_
        refine AWp.cond_t rfl ?_
        refine AWp.skip ?_
        refine AWp.cond_t rfl ?_
        refine AWp.seq ?_
        refine AWp.region ?_
        refine AOps.cons rfl rfl (q_move) ?_
        refine AOps.cons rfl rfl (by first | exact q_conv_zs | exact q_conv_ls) ?_
        refine AOps.cons rfl rfl (q_bs 802 sc [_] [(_, _)]) ?_
        refine AOps.cons rfl rfl (q_assign) ?_
        refine AOps.nil ?_
        refine AWp.ret ?_
        show Fin te Try.f64 _ _
        refine q_ret (0) [_] [_] ?_
        rw [namR, if_pos h1_2, if_pos (by omega)]; rfl
      · skip
        refine AOps.cons rfl rfl (q_assign) ?_
        refine AOps.nil ?_
        refine AWp.cond_f rfl ?_
        refine AWp.region ?_
        refine AOps.dec rfl rfl (q_eql) (fun h6_0 => ?_) (fun h6_0 => ?_)
        · skip
          refine AOps.cons rfl rfl (q_assign) ?_
          refine AOps.nil ?_
          refine AWp.cond_t rfl ?_
          refine AWp.seq ?_
          refine AWp.region ?_
          refine AOps.cons rfl rfl (q_move) ?_
          refine AOps.cons rfl rfl (by first | exact q_conv_zs | exact q_conv_ls) ?_
          refine AOps.cons rfl rfl (q_bs 802 sc [_] [(_, _)]) ?_
          refine AOps.cons rfl rfl (q_assign) ?_
          refine AOps.nil ?_
          refine AWp.ret ?_
          show Fin te Try.f64 _ _
          refine q_ret (0) [_] [_] ?_
          rw [namR, if_pos h1_2, if_pos (by omega)]; rfl
        · skip
          refine AOps.cons rfl rfl (q_assign) ?_
          refine AOps.nil ?_
          refine AWp.cond_f rfl ?_
          refine AWp.seq ?_
          refine AWp.region ?_
          refine AOps.dec rfl rfl (q_eql) (fun h8_0 => ?_) (fun h8_0 => ?_)
          · skip
            refine AOps.cons rfl rfl (q_assign) ?_
            refine AOps.nil ?_
            refine AWp.cond_t rfl ?_
            refine AWp.seq ?_
            refine AWp.region ?_
            have h2 := canR_15 h8_0 h1_2
            refine AOps.cons rfl rfl (q_move) ?_
            refine AOps.cons rfl rfl (q_sl) ?_
            refine AOps.cons rfl rfl (by first | exact q_conv_zs | exact q_conv_ls) ?_
            refine AOps.cons rfl rfl (q_bs 1003 sc [_] [(_, _)]) ?_
            refine AOps.cons rfl rfl (q_assign) ?_
            refine AOps.nil ?_
            refine AWp.ret ?_
            show Fin te Try.f64 _ _
            refine q_ret (0) [_] [_] ?_
            rw [namR, if_pos h1_2, if_neg (by omega), if_pos h8_0]; rfl
          · skip
            refine AOps.cons rfl rfl (q_assign) ?_
            refine AOps.nil ?_
            refine AWp.cond_f rfl ?_
            refine AWp.seq ?_
            refine AWp.region ?_
            refine AOps.dec rfl rfl (q_eql) (fun h10_0 => ?_) (fun h10_0 => ?_)
            · exfalso; omega
            · skip
              refine AOps.cons rfl rfl (q_assign) ?_
              refine AOps.nil ?_
              refine AWp.cond_f rfl ?_
              refine AWp.skip ?_
              refine AWp.seq ?_
              refine AWp.region ?_
              refine AOps.cons rfl rfl (q_nilz (0) sc) ?_
              refine AOps.nil ?_
              refine AWp.ret ?_
              show Fin te Try.f64 _ _
              refine q_ret (0) [_] [_] ?_
              rw [namR, if_pos h1_2, if_neg (by omega), if_neg h8_0]; rfl
  · skip
    refine AOps.cons rfl rfl (q_not) ?_
    refine AOps.nil ?_
    refine AWp.cond_t rfl ?_
    refine AWp.seq ?_
    refine AWp.region ?_
    refine AOps.cons rfl rfl (q_nilz (0) sc) ?_
    refine AOps.nil ?_
    refine AWp.ret ?_
    show Fin te Try.f64 _ _
    refine q_ret (0) [_] [_] ?_
    rw [namR, if_neg (by simp [h1_2])]; rfl

end Go.Proofs.Ytkfccjbihcbmiaa.Fw

/- Walks of layer 3: the data of an SOA, the program's. -/
set_option linter.unusedVariables false
set_option linter.unusedSimpArgs false
namespace Go.Proofs.Ytkfccjbihcbmiaa.Fw
open Go.RowKit


/-- Where a walk from label to label ends. -/
def zer (b : List UInt8) (i : Nat) : Nat := if h : i < b.length ∧ ¬ (b.getD i default).toNat = 0 then zer b (i + 1 + (b.getD i default).toNat) else i
termination_by b.length - i
decreasing_by omega
theorem zer_step {b : List UInt8} {i : Nat} (h : i < b.length) (h2 : ¬ (b.getD i default).toNat = 0) : zer b i = zer b (i + 1 + (b.getD i default).toNat) := by rw [zer, dif_pos ⟨h, h2⟩]
theorem zer_end {b : List UInt8} {i : Nat} (h : ¬ (i < b.length ∧ ¬ (b.getD i default).toNat = 0)) : zer b i = i := by rw [zer, dif_neg h]
def cutO (b : List UInt8) : Bool := decide (zer b 0 < b.length) && canN (b.take (zer b 0 + 1))
def cutM (b : List UInt8) : List UInt8 := if cutO b then b.take (zer b 0 + 1) else []
def cutR (b : List UInt8) : List UInt8 := if cutO b then b.drop (zer b 0 + 1) else []
theorem cut_no {b : List UInt8} (h : cutO b = false) : cutM b = [] ∧ cutR b = [] := by simp [cutM, cutR, h]
theorem cut_len (b : List UInt8) : (cutM b).length ≤ 255 ∧ (cutR b).length ≤ b.length := by
  cases h : cutO b with
  | false => simp [cut_no h]
  | true =>
    have h2 := h
    simp only [cutO, Bool.and_eq_true] at h2
    rw [cutM, cutR, if_pos h, if_pos h]
    exact ⟨canN_len h2.2, by simp⟩
theorem zer_join : ∀ {ls : List (List UInt8)} {b r : List UInt8} {i : Nat}, GoodN ls → b.drop i = joinN ls ++ r → zer b i + 1 = i + (joinN ls).length
  | [], b, r, i, _, h => by
    have hl := congrArg List.length h
    simp [joinN_nil] at hl
    have hi : i < b.length := by omega
    rw [List.drop_eq_getElem_cons hi, joinN_nil, List.singleton_append] at h
    have e : (b.getD i default).toNat = 0 := by
      rw [List.getD_eq_getElem?_getD, List.getElem?_eq_getElem hi, Option.getD_some, (List.cons.inj h).1]; rfl
    rw [zer_end (by omega)]
    rfl
  | l :: ls, b, r, i, g, h => by
    have hl := congrArg List.length h
    have hb := byte_len g.head.2
    have hh := g.head
    simp [joinN_cons] at hl
    have hi : i < b.length := by omega
    have h2 := h
    rw [List.drop_eq_getElem_cons hi, joinN_cons, List.cons_append, List.append_assoc] at h2
    obtain ⟨e1, e2⟩ := List.cons.inj h2
    have e : (b.getD i default).toNat = l.length := by
      rw [List.getD_eq_getElem?_getD, List.getElem?_eq_getElem hi, Option.getD_some, e1]; exact hb
    have e3 : b.drop (i + 1 + l.length) = joinN ls ++ r := by rw [← List.drop_drop, e2, List.drop_left]
    rw [zer_step hi (by omega), e, zer_join g.tail e3, joinN_cons]
    simp
    omega
theorem cut_at {b : List UInt8} {k : Nat} (hk : k ≤ b.length) (h : canN (b.take k) = true) : cutO b = true ∧ cutM b = b.take k ∧ cutR b = b.drop k := by
  obtain ⟨ls, g, e, hl⟩ := canN_iff.1 h
  have hz : zer b 0 + 1 = k := by
    have hd : b.drop 0 = joinN ls ++ b.drop k := by rw [← e, List.take_append_drop, List.drop_zero]
    have := zer_join g hd
    have hlen := congrArg List.length e
    rw [List.length_take] at hlen
    omega
  have ho : cutO b = true := by rw [cutO, hz, h, decide_eq_true (by omega)]; rfl
  rw [cutM, cutR, if_pos ho, if_pos ho, hz]
  exact ⟨ho, rfl, rfl⟩
theorem cut_none {b : List UInt8} (h : ∀ j, 1 ≤ j → j ≤ b.length → j ≤ 255 → canN (b.take j) = false) : cutO b = false := by
  cases ho : cutO b with
  | false => rfl
  | true =>
    have h2 := ho
    simp only [cutO, Bool.and_eq_true, decide_eq_true_eq] at h2
    have h3 := canN_len h2.2
    rw [List.length_take] at h3
    rw [h (zer b 0 + 1) (by omega) (by omega) (by omega)] at h2
    cases h2.2
/-- A number of bytes. -/
def num (l : List UInt8) : Int := l.foldl (fun a x => a * 256 + (x.toNat : Int)) 0
theorem num_snoc (l : List UInt8) (x : UInt8) : num (l ++ [x]) = num l * 256 + x.toNat := by simp [num, List.foldl_append]
theorem num_step {l : List UInt8} {k : Nat} (h : k < l.length) : num (l.take (k + 1)) = num (l.take k) * 256 + (l.getD k default).toNat := by
  rw [List.take_succ_eq_append_getElem h, num_snoc, List.getD_eq_getElem?_getD, List.getElem?_eq_getElem h]
  rfl
theorem num_le : ∀ (k : Nat) (l : List UInt8), l.length = k → 0 ≤ num l ∧ num l < 256 ^ k
  | 0, l, h => by
    obtain rfl := List.eq_nil_of_length_eq_zero h
    simp [num]
  | k + 1, l, h => by
    have hs : l = l.take k ++ [l.getD k default] := by
      rw [List.getD_eq_getElem?_getD, List.getElem?_eq_getElem (by omega), Option.getD_some, ← List.take_succ_eq_append_getElem (by omega), List.take_of_length_le (by omega)]
    have := num_le k (l.take k) (by rw [List.length_take]; omega)
    have hx := (l.getD k default).toNat_lt
    rw [hs, num_snoc, Int.pow_succ]
    omega
theorem num_24 {l : List UInt8} {k : Nat} (h : k < 4) (hl : l.length = k) : 0 ≤ num l ∧ num l ≤ 16777215 := by
  have := num_le k l hl
  have e : k = 0 ∨ k = 1 ∨ k = 2 ∨ k = 3 := by omega
  rcases e with rfl | rfl | rfl | rfl <;> simp at this <;> omega
def dg (c : List UInt8) (j : Nat) : List UInt8 := (c.take (4 * (j : Int) + 4).toNat).drop (4 * (j : Int)).toNat
theorem dg_len {c : List UInt8} {j : Nat} (hc : c.length = 20) (hj : j < 5) : (dg c j).length = 4 := by rw [dg, List.length_drop, List.length_take]; omega
def wd (c : List UInt8) (j i : Nat) : Int := if j < i then num ((dg c j).take 4) else 0
structure Soa where
  m : List UInt8
  r : List UInt8
  n1 : Int
  n2 : Int
  n3 : Int
  n4 : Int
  n5 : Int
def soaA (x : Soa) : AV := .agg [str x.m, str x.r, i64 x.n1, i64 x.n2, i64 x.n3, i64 x.n4, i64 x.n5]
def soaO (b : List UInt8) : Bool := cutO b && (cutO (cutR b) && decide ((cutR (cutR b)).length = 20))
def soaV (b : List UInt8) : Soa := if soaO b then ⟨cutM b, cutM (cutR b), wd (cutR (cutR b)) 0 5, wd (cutR (cutR b)) 1 5, wd (cutR (cutR b)) 2 5, wd (cutR (cutR b)) 3 5, wd (cutR (cutR b)) 4 5⟩ else ⟨[], [], 0, 0, 0, 0, 0⟩
theorem soaV_no {b : List UInt8} (h : soaO b = false) : soaV b = ⟨[], [], 0, 0, 0, 0, 0⟩ := by rw [soaV, if_neg (by simp [h])]
theorem four_num {c : List UInt8} {j : Nat} (hc : c.length = 20) (hj : j < 5) : (((((c.getD (4 * j) default).toNat : Int) * 256 + ((c.getD (4 * j + 1) default).toNat : Int)) * 256 + ((c.getD (4 * j + 2) default).toNat : Int)) * 256 + ((c.getD (4 * j + 3) default).toNat : Int)) = wd c j 5 := by
  have hl := dg_len hc hj
  have hg : ∀ k, k < 4 → (dg c j).getD k default = c.getD (4 * j + k) default := by
    intro k hk
    rw [dg, List.getD_eq_getElem?_getD, List.getD_eq_getElem?_getD, List.getElem?_drop, List.getElem?_take, if_pos (by omega)]
    congr 2 <;> omega
  rw [wd, if_pos hj, num_step (by omega), num_step (by omega), num_step (by omega), num_step (by omega), hg 0 (by omega), hg 1 (by omega), hg 2 (by omega), hg 3 (by omega)]
  simp [num]

set_option maxRecDepth 20000 in
set_option maxHeartbeats 2000000 in
theorem c_rdata_cut (b : List UInt8) (lv : Nat) (h : b.length ≤ 140737488351232) : AC Try.prog 96 [.fz lv b.length (cl bc b)] emp (Ret (.tup [str (cutM b), .fz lv (cutR b).length (cl bc (cutR b)), tf (cutO b)])) := by
  refine AC.intro te_ok (fn := Try.f96) ⟨Try.func96, rfl, rfl⟩ (Nat.le_of_ble_eq_true rfl) ?_
  refine AWp.seq ?_
  refine AWp.region ?_
  refine AOps.cons rfl rfl (q_assign) ?_
  refine AOps.cons rfl rfl (q_nilz (lv) bc) ?_
  refine AOps.cons rfl rfl (q_assign) ?_
  refine AOps.nil ?_
  refine AWp.seq ?_
  refine AWp.region ?_
  refine AOps.cons rfl rfl (q_assign) ?_
  refine AOps.nil ?_
  refine AWp.seq ?_
  refine AWp.block ?_
  refine AWp.loopR (α := Nat) [5, 6, 7, 8, 9, 10, 11, 12, 13, 14, 15, 16, 17, 18, 19, 20, 21, 22, 23, 24] (fun i => [(5, i64 i)]) (fun i => []) (fun i => zer b i = zer b 0 ∧ i ≤ b.length + 255) (fun i => b.length - i) 0 ?_ (Back.mk' (HasT.cons HasT.nil) HasH.nil) ?_
  · exact ⟨rfl, Nat.zero_le _⟩
  · rintro i ⟨hz, hi⟩
    refine AWp.seq ?_
    refine AWp.seq ?_
    refine AWp.region ?_
    refine AOps.cons rfl rfl (q_move) ?_
    refine AOps.cons rfl rfl (q_move) ?_
    refine AOps.cons rfl rfl (q_len) ?_
    refine AOps.dec rfl rfl (q_lss) (fun h2_3 => ?_) (fun h2_3 => ?_)
    · skip
      refine AOps.cons rfl rfl (q_move) ?_
      refine AOps.gcons rfl rfl rfl rfl rfl (q_move) ?_
      refine AOps.gcons rfl rfl rfl rfl rfl (q_move) ?_
      refine AOps.gcons rfl rfl rfl rfl rfl (q_ix) ?_
      refine AOps.gcons rfl rfl rfl rfl rfl (q_load) ?_
      refine AOps.gdec rfl rfl rfl rfl rfl (q_neq) (fun h2_9 => ?_) (fun h2_9 => ?_)
      · skip
        refine AOps.cons rfl rfl (q_pick) ?_
        refine AOps.nil ?_
        refine AWp.cond_t rfl ?_
        refine AWp.skip ?_
        refine AWp.block ?_
        refine AWp.region ?_
        have hk := (b.getD i default).toNat_lt
        have he : (b.getD (i : Int).toNat default).toNat = (b.getD i default).toNat := rfl
        have k9 : ¬ (b.getD i default).toNat = 0 := fun e => h2_9 (by show ((b.getD i default).toNat : Int) = 0; omega)
        refine AOps.cons rfl rfl (q_move) ?_
        refine AOps.cons rfl rfl (q_move) ?_
        refine AOps.cons rfl rfl (q_move) ?_
        refine AOps.cons rfl rfl (q_ix) ?_
        refine AOps.cons rfl rfl (q_load) ?_
        refine AOps.cons rfl rfl (q_conv_8i) ?_
        refine AOps.cons rfl rfl (q_add) ?_
        refine AOps.cons rfl rfl (q_add) ?_
        refine AOps.cons rfl rfl (q_assign) ?_
        refine AOps.nil ?_
        refine ⟨i + 1 + (b.getD i default).toNat, ?_, Back.mk' (HasT.cons HasT.nil (h1 := by exact i64_eq (by show (i : Int) + (1 + ((b.getD i default).toNat : Int)) = ((i + 1 + (b.getD i default).toNat : Nat) : Int); omega)) ) HasH.nil, ?_⟩
        · exact ⟨(zer_step (by omega) k9).symm.trans hz, by omega⟩
        · omega
      · skip
        refine AOps.cons rfl rfl (q_pick) ?_
        refine AOps.nil ?_
        refine AWp.cond_f rfl ?_
        refine AWp.exit ?_
        refine AWp.seq ?_
        refine AWp.seq ?_
        refine AWp.region ?_
        have k9 : ((b.getD i default).toNat : Int) = 0 := Classical.not_not.1 h2_9
        have hz0 : zer b 0 = i := by rw [← hz]; exact zer_end (by omega)
        refine AOps.cons rfl rfl (q_move) ?_
        refine AOps.cons rfl rfl (q_move) ?_
        refine AOps.cons rfl rfl (q_len) ?_
        refine AOps.dec rfl rfl (q_geq) (fun h4_3 => ?_) (fun h4_3 => ?_)
        · exfalso; omega
        · skip
          refine AOps.cons rfl rfl (q_move) ?_
          have ei : ((i : Int) + 1).toNat = i + 1 := by omega
          refine AOps.gcons rfl rfl rfl rfl rfl (q_move) ?_
          refine AOps.gcons rfl rfl rfl rfl rfl (q_move) ?_
          refine AOps.gcons rfl rfl rfl rfl rfl (q_add) ?_
          refine AOps.gcons rfl rfl rfl rfl rfl (q_sl) ?_
          refine AOps.gcons rfl rfl rfl rfl rfl (by first | exact q_conv_zs | exact q_conv_ls) ?_
          refine AOps.gbool rfl rfl rfl rfl rfl (q_call (lv) (hc := c_name_Can _ (by first | assumption | omega | decide | (simp; omega) | (simp [*]; done)))) (fun h4_10 => ?_) (fun h4_10 => ?_)
          · skip
            refine AOps.gcons rfl rfl rfl rfl rfl (q_not) ?_
            refine AOps.cons rfl rfl (q_pick) ?_
            refine AOps.nil ?_
            refine AWp.cond_f rfl ?_
            refine AWp.skip ?_
            refine AWp.seq ?_
            refine AWp.draws [⟨0, [0], [], some 38, _, none⟩,
                ⟨1, [5], [], some 39, _, none⟩,
                ⟨2, [39], [], some 40, _, none⟩,
                ⟨3, [38, 40], [], some 41, _, none⟩,
                ⟨4, [41], [], some 42, _, none⟩,
                ⟨5, [0], [], some 43, _, none⟩,
                ⟨6, [5], [], some 44, _, none⟩,
                ⟨7, [44], [], some 45, _, none⟩,
                ⟨8, [43, 45], [], some 46, _, none⟩,
                ⟨9, [42], [], some 2, _, none⟩,
                ⟨10, [46], [], some 3, _, none⟩,
                ⟨11, [], [], some 4, _, none⟩]
              [⟨0, [0], [], some 38, .any, none⟩,
                  ⟨1, [5], [], some 39, .any, none⟩,
                  ⟨2, [39], [], some 40, .any, none⟩,
                  ⟨3, [38, 40], [], some 41, .any, none⟩,
                  ⟨4, [41], [], some 42, .any, none⟩,
                  ⟨5, [0], [], some 43, .any, none⟩,
                  ⟨6, [5], [], some 44, .any, none⟩,
                  ⟨7, [44], [], some 45, .any, none⟩,
                  ⟨8, [43, 45], [], some 46, .any, none⟩,
                  ⟨9, [42], [], some 2, .any, none⟩,
                  ⟨10, [46], [], some 3, .any, none⟩,
                  ⟨11, [], [], some 4, .any, none⟩]
              mixed_ok rfl (by kernel_rfl) ⟨DS.ok_over fun s0 => OpAt.go rfl rfl (q_move),
                  DS.ok_over fun s0 => OpAt.go rfl rfl (q_move),
                  DS.ok_over fun s0 => OpAt.go rfl rfl (q_add),
                  DS.ok_over fun s0 => OpAt.go rfl rfl (q_sl),
                  DS.ok_over fun s0 => OpAt.go rfl rfl (by first | exact q_conv_zs | exact q_conv_ls),
                  DS.ok_over fun s0 => OpAt.go rfl rfl (q_move),
                  DS.ok_over fun s0 => OpAt.go rfl rfl (q_move),
                  DS.ok_over fun s0 => OpAt.go rfl rfl (q_add),
                  DS.ok_over fun s0 => OpAt.go rfl rfl (q_sl),
                  DS.ok_over fun s0 => OpAt.go rfl rfl (q_assign),
                  DS.ok_over fun s0 => OpAt.go rfl rfl (q_assign),
                  DS.ok_over fun s0 => OpAt.go rfl rfl (q_assign), trivial⟩ ?_
            dsimp only [final, DS.upd, AS.seto]
            refine AWp.ret ?_
            show Fin te Try.f96 _ _
            refine q_ret (lv) [_, _, _] [_, _, _] ?_
            rw [ei] at h4_10
            obtain ⟨q1, q2, q3⟩ := cut_at (b := b) (k := i + 1) (by omega) h4_10
            rw [q1, q2, q3, ei]; rfl
          · skip
            refine AOps.gcons rfl rfl rfl rfl rfl (q_not) ?_
            refine AOps.cons rfl rfl (q_pick) ?_
            refine AOps.nil ?_
            refine AWp.cond_t rfl ?_
            refine AWp.seq ?_
            refine AWp.region ?_
            refine AOps.cons rfl rfl (q_assign) ?_
            refine AOps.cons rfl rfl (q_nilz (lv) bc) ?_
            refine AOps.cons rfl rfl (q_assign) ?_
            refine AOps.nil ?_
            refine AWp.ret ?_
            show Fin te Try.f96 _ _
            refine q_ret (lv) [_, _, _] [_, _, _] ?_
            have ho : cutO b = false := by rw [ei] at h4_10; rw [cutO, hz0, h4_10, Bool.and_false]
            rw [(cut_no ho).1, (cut_no ho).2, ho]; rfl
    · skip
      refine AOps.cons rfl rfl (q_move) ?_
      refine AOps.gskip rfl rfl rfl rfl rfl rfl rfl rfl ?_
      refine AOps.gskip rfl rfl rfl rfl rfl rfl rfl rfl ?_
      refine AOps.gskip rfl rfl rfl rfl rfl rfl rfl rfl ?_
      refine AOps.gskip rfl rfl rfl rfl rfl rfl rfl rfl ?_
      refine AOps.gskip rfl rfl rfl rfl rfl rfl rfl rfl ?_
      refine AOps.cons rfl rfl (q_pick) ?_
      refine AOps.nil ?_
      refine AWp.cond_f rfl ?_
      refine AWp.exit ?_
      refine AWp.seq ?_
      refine AWp.seq ?_
      refine AWp.region ?_
      have hz0 : zer b 0 = i := by rw [← hz]; exact zer_end (by omega)
      refine AOps.cons rfl rfl (q_move) ?_
      refine AOps.cons rfl rfl (q_move) ?_
      refine AOps.cons rfl rfl (q_len) ?_
      refine AOps.dec rfl rfl (q_geq) (fun h4_3 => ?_) (fun h4_3 => ?_)
      · skip
        refine AOps.cons rfl rfl (q_move) ?_
        have ei : ((i : Int) + 1).toNat = i + 1 := by omega
        refine AOps.gskip rfl rfl rfl rfl rfl rfl rfl rfl ?_
        refine AOps.gskip rfl rfl rfl rfl rfl rfl rfl rfl ?_
        refine AOps.gskip rfl rfl rfl rfl rfl rfl rfl rfl ?_
        refine AOps.gskip rfl rfl rfl rfl rfl rfl rfl rfl ?_
        refine AOps.gskip rfl rfl rfl rfl rfl rfl rfl rfl ?_
        refine AOps.gskip rfl rfl rfl rfl rfl rfl rfl rfl ?_
        refine AOps.gskip rfl rfl rfl rfl rfl rfl rfl rfl ?_
        refine AOps.cons rfl rfl (q_pick) ?_
        refine AOps.nil ?_
        refine AWp.cond_t rfl ?_
        refine AWp.seq ?_
        refine AWp.region ?_
        refine AOps.cons rfl rfl (q_assign) ?_
        refine AOps.cons rfl rfl (q_nilz (lv) bc) ?_
        refine AOps.cons rfl rfl (q_assign) ?_
        refine AOps.nil ?_
        refine AWp.ret ?_
        show Fin te Try.f96 _ _
        refine q_ret (lv) [_, _, _] [_, _, _] ?_
        have ho : cutO b = false := by rw [cutO, hz0, decide_eq_false (by omega)]; rfl
        rw [(cut_no ho).1, (cut_no ho).2, ho]; rfl
      · exfalso; omega

set_option maxRecDepth 20000 in
set_option maxHeartbeats 2000000 in
theorem c_rdata_SOA (b : List UInt8) (lv : Nat) (h : b.length ≤ 140737488351232) : AC Try.prog 85 [.fz lv b.length (cl bc b)] emp (Ret (.tup [soaA (soaV b), tf (soaO b)])) := by
  have hc1 := cut_len b
  have hc2 := cut_len (cutR b)
  refine AC.intro te_ok (fn := Try.f85) ⟨Try.func85, rfl, rfl⟩ (Nat.le_of_ble_eq_true rfl) ?_
  refine AWp.seq ?_
  refine AWp.region ?_
  refine AOps.cons rfl rfl (q_alloc 100) ?_
  refine AOps.cons rfl rfl (q_assign) ?_
  refine AOps.nil ?_
  refine AWp.seq ?_
  refine AWp.region ?_
  refine AOps.cons rfl rfl (q_alloc 200) ?_
  refine AOps.nil ?_
  refine AWp.seq ?_
  refine AWp.region ?_
  refine AOps.cons rfl rfl (q_assign) ?_
  refine AOps.nil ?_
  refine AWp.seq ?_
  refine AWp.region ?_
  refine AOps.cons rfl rfl (q_move) ?_
  refine AOps.cons rfl rfl (q_assign) ?_
  refine AOps.nil ?_
  refine AWp.seq ?_
  refine AWp.seq ?_
  refine AWp.region ?_
  refine AOps.cons rfl rfl (q_move) ?_
  refine AOps.cons rfl rfl (q_call (lv) (hc := c_rdata_cut _ _ (by first | assumption | omega | decide | (simp; omega) | (simp [*]; done)))) ?_
  refine AOps.cons rfl rfl (q_move) ?_
  refine AOps.cons rfl rfl (q_extract) ?_
  refine AOps.cons rfl rfl (q_extract) ?_
  refine AOps.bool rfl rfl (q_extract) (fun h4_5 => ?_) (fun h4_5 => ?_)
  · skip
    refine AOps.cons rfl rfl (q_fa) ?_
    refine AOps.cons rfl rfl (q_store) ?_
    refine AOps.cons rfl rfl (q_assign) ?_
    refine AOps.cons rfl rfl (q_assign) ?_
    refine AOps.nil ?_
    refine AWp.seq ?_
    refine AWp.region ?_
    refine AOps.cons rfl rfl (q_move) ?_
    refine AOps.cons rfl rfl (q_not) ?_
    refine AOps.nil ?_
    refine AWp.cond_f rfl ?_
    refine AWp.skip ?_
    refine AWp.seq ?_
    refine AWp.seq ?_
    refine AWp.region ?_
    refine AOps.cons rfl rfl (q_move) ?_
    refine AOps.cons rfl rfl (q_call (lv) (hc := c_rdata_cut _ _ (by first | assumption | omega | decide | (simp; omega) | (simp [*]; done)))) ?_
    refine AOps.cons rfl rfl (q_move) ?_
    refine AOps.cons rfl rfl (q_extract) ?_
    refine AOps.cons rfl rfl (q_extract) ?_
    refine AOps.bool rfl rfl (q_extract) (fun h7_5 => ?_) (fun h7_5 => ?_)
    · skip
      refine AOps.cons rfl rfl (q_fa) ?_
      refine AOps.cons rfl rfl (q_store) ?_
      refine AOps.cons rfl rfl (q_assign) ?_
      refine AOps.cons rfl rfl (q_assign) ?_
      refine AOps.nil ?_
      refine AWp.seq ?_
      refine AWp.region ?_
      refine AOps.cons rfl rfl (q_move) ?_
      refine AOps.cons rfl rfl (q_not) ?_
      refine AOps.cons rfl rfl (q_move) ?_
      refine AOps.gcons rfl rfl rfl rfl rfl (q_move) ?_
      refine AOps.gcons rfl rfl rfl rfl rfl (q_len) ?_
      refine AOps.gdec rfl rfl rfl rfl rfl (q_neq) (fun h8_5 => ?_) (fun h8_5 => ?_)
      · skip
        refine AOps.cons rfl rfl (q_pick) ?_
        refine AOps.nil ?_
        refine AWp.cond_t rfl ?_
        refine AWp.seq ?_
        refine AWp.region ?_
        refine AOps.cons rfl rfl (q_build []) ?_
        refine AOps.cons rfl rfl (q_store) ?_
        refine AOps.cons rfl rfl (q_assign) ?_
        refine AOps.nil ?_
        refine AWp.ret ?_
        show Fin te Try.f85 _ _
        refine q_ret (0) [_, _] [_, _] ?_
        have ho : soaO b = false := by rw [soaO, decide_eq_false (by omega), Bool.and_false, Bool.and_false]
        rw [soaV_no ho, ho]; rfl
      · skip
        refine AOps.cons rfl rfl (q_pick) ?_
        refine AOps.nil ?_
        refine AWp.cond_f rfl ?_
        refine AWp.skip ?_
        refine AWp.seq ?_
        refine AWp.seq ?_
        refine AWp.region ?_
        have hc20 : (cutR (cutR b)).length = 20 := by omega
        have hL5 : ([2, 3, 4, 5, 6] : List Nat).length = 5 := rfl
        refine AOps.cons rfl rfl (q_fa) ?_
        refine AOps.cons rfl rfl (q_fa) ?_
        refine AOps.cons rfl rfl (q_fa) ?_
        refine AOps.cons rfl rfl (q_fa) ?_
        refine AOps.cons rfl rfl (q_fa) ?_
        refine AOps.cons rfl rfl (q_bs 1105 (fun k => [AV.ptr 200 0 k]) [2, 3, 4, 5, 6] [(_, _), (_, _), (_, _), (_, _), (_, _)]) ?_
        refine AOps.cons rfl rfl (q_len) ?_
        refine AOps.cons rfl rfl (q_move) ?_
        refine AOps.nil ?_
        refine AWp.block ?_
        refine AWp.loopR (α := Nat) [7, 8, 10, 44, 45, 46, 47, 48, 49, 50, 51, 52, 53, 54, 55, 56, 57, 58, 59, 60, 61, 62, 63, 64, 65, 66, 67, 68, 69, 70, 71] (fun i => [(44, i64 i)]) (fun i => [(200, .box [str (cutM b), str (cutM (cutR b)), i64 (wd (cutR (cutR b)) 0 i), i64 (wd (cutR (cutR b)) 1 i), i64 (wd (cutR (cutR b)) 2 i), i64 (wd (cutR (cutR b)) 3 i), i64 (wd (cutR (cutR b)) 4 i)])]) (fun i => i ≤ 5) (fun i => 5 - i) 0 ?_ (Back.mk' (HasT.cons HasT.nil) (HasH.cons HasH.nil)) ?_
        · exact Nat.zero_le _
        · rintro i hi
          refine AWp.seq ?_
          refine AWp.region ?_
          refine AOps.dec rfl rfl (q_lss) (fun h11_0 => ?_) (fun h11_0 => ?_)
          · skip
            refine AOps.nil ?_
            refine AWp.seq ?_
            refine AWp.cond_t rfl ?_
            refine AWp.skip ?_
            refine AWp.seq ?_
            refine AWp.block ?_
            refine AWp.seq ?_
            refine AWp.region ?_
            obtain rfl | rfl | rfl | rfl | rfl : i = 0 ∨ i = 1 ∨ i = 2 ∨ i = 3 ∨ i = 4 := by omega
            · skip
              refine AOps.cons rfl rfl (q_move) ?_
              refine AOps.cons rfl rfl (q_ix) ?_
              refine AOps.cons rfl rfl (q_load (z := .ptr 200 0 2) (hy := rfl)) ?_
              refine AOps.cons rfl rfl (q_assign) ?_
              refine AOps.cons rfl rfl (q_assign) ?_
              refine AOps.nil ?_
              refine AWp.seq ?_
              refine AWp.region ?_
              refine AOps.cons rfl rfl (q_move) ?_
              refine AOps.cons rfl rfl (q_move) ?_
              refine AOps.cons rfl rfl (q_mul) ?_
              refine AOps.cons rfl rfl (q_move) ?_
              refine AOps.cons rfl rfl (q_mul) ?_
              refine AOps.cons rfl rfl (q_add) ?_
              refine AOps.cons rfl rfl (q_sl) ?_
              refine AOps.cons rfl rfl (q_len) ?_
              refine AOps.cons rfl rfl (q_move) ?_
              refine AOps.nil ?_
              refine AWp.block ?_
              refine AWp.loopR (α := Nat) [10, 57, 58, 59, 60, 61, 62, 63, 64, 65, 66, 67, 68, 69, 70] (fun k => [(57, i64 k)]) (fun k => [(200, .box [str (cutM b), str (cutM (cutR b)), i64 (num ((dg (cutR (cutR b)) 0).take k)), i64 (wd (cutR (cutR b)) 1 0), i64 (wd (cutR (cutR b)) 2 0), i64 (wd (cutR (cutR b)) 3 0), i64 (wd (cutR (cutR b)) 4 0)])]) (fun k => k ≤ 4) (fun k => 4 - k) 0 ?_ (Back.mk' (HasT.cons HasT.nil) (HasH.cons HasH.nil)) ?_
              · exact Nat.zero_le _
              · rintro k hk
                have hD := dg_len (j := 0) hc20 (by omega)
                have hn : k < 4 → 0 ≤ num ((dg (cutR (cutR b)) 0).take k) ∧ num ((dg (cutR (cutR b)) 0).take k) ≤ 16777215 := fun h4 => num_24 h4 (by rw [List.length_take]; omega)
                have hDl : ((dg (cutR (cutR b)) 0).length : Int) = 4 := by omega
                have hDl2 : ((List.drop (4 * ((0 : Nat) : Int)).toNat (List.take (4 * ((0 : Nat) : Int) + 4).toNat (cutR (cutR b)))).length : Int) = 4 := hDl
                have hby : ((List.drop (4 * ((0 : Nat) : Int)).toNat (List.take (4 * ((0 : Nat) : Int) + 4).toNat (cutR (cutR b)))).getD (k : Int).toNat default).toNat < 256 := ((dg (cutR (cutR b)) 0).getD k default).toNat_lt
                refine AWp.seq ?_
                refine AWp.region ?_
                refine AOps.dec rfl rfl (q_lss) (fun h14_0 => ?_) (fun h14_0 => ?_)
                · skip
                  refine AOps.nil ?_
                  refine AWp.seq ?_
                  refine AWp.cond_t rfl ?_
                  refine AWp.skip ?_
                  refine AWp.seq ?_
                  refine AWp.block ?_
                  refine AWp.seq ?_
                  refine AWp.region ?_
                  refine AOps.cons rfl rfl (q_ix) ?_
                  refine AOps.cons rfl rfl (q_load) ?_
                  refine AOps.cons rfl rfl (q_assign) ?_
                  refine AOps.nil ?_
                  refine AWp.region ?_
                  refine AOps.cons rfl rfl (q_move) ?_
                  refine AOps.cons rfl rfl (q_move) ?_
                  refine AOps.cons rfl rfl (q_nil) ?_
                  refine AOps.cons rfl rfl (q_load) ?_
                  refine AOps.cons rfl rfl (q_shl 8) ?_
                  refine AOps.cons rfl rfl (q_move) ?_
                  refine AOps.cons rfl rfl (q_conv_8i) ?_
                  refine AOps.cons rfl rfl (q_orb) ?_
                  refine AOps.cons rfl rfl (q_nil) ?_
                  refine AOps.cons rfl rfl (q_store) ?_
                  refine AOps.nil ?_
                  refine AWp.region ?_
                  refine AOps.cons rfl rfl (q_add) ?_
                  refine AOps.cons rfl rfl (q_move) ?_
                  refine AOps.nil ?_
                  have hst := num_step (l := dg (cutR (cutR b)) 0) (k := k) (by omega)
                  refine ⟨k + 1, ?_, Back.mk' (HasT.cons HasT.nil) (HasH.cons HasH.nil (h1 := by rw [hst]; rfl) ), ?_⟩
                  · omega
                  · omega
                · skip
                  refine AOps.nil ?_
                  refine AWp.seq ?_
                  refine AWp.cond_f rfl ?_
                  refine AWp.exit ?_
                  refine AWp.region ?_
                  obtain rfl : k = 4 := by omega
                  refine AOps.cons rfl rfl (q_add) ?_
                  refine AOps.cons rfl rfl (q_move) ?_
                  refine AOps.nil ?_
                  refine ⟨1, ?_, Back.mk' (HasT.cons HasT.nil) (HasH.cons HasH.nil), ?_⟩
                  · omega
                  · omega
            · skip
              refine AOps.cons rfl rfl (q_move) ?_
              refine AOps.cons rfl rfl (q_ix) ?_
              refine AOps.cons rfl rfl (q_load (z := .ptr 200 0 3) (hy := rfl)) ?_
              refine AOps.cons rfl rfl (q_assign) ?_
              refine AOps.cons rfl rfl (q_assign) ?_
              refine AOps.nil ?_
              refine AWp.seq ?_
              refine AWp.region ?_
              refine AOps.cons rfl rfl (q_move) ?_
              refine AOps.cons rfl rfl (q_move) ?_
              refine AOps.cons rfl rfl (q_mul) ?_
              refine AOps.cons rfl rfl (q_move) ?_
              refine AOps.cons rfl rfl (q_mul) ?_
              refine AOps.cons rfl rfl (q_add) ?_
              refine AOps.cons rfl rfl (q_sl) ?_
              refine AOps.cons rfl rfl (q_len) ?_
              refine AOps.cons rfl rfl (q_move) ?_
              refine AOps.nil ?_
              refine AWp.block ?_
              refine AWp.loopR (α := Nat) [10, 57, 58, 59, 60, 61, 62, 63, 64, 65, 66, 67, 68, 69, 70] (fun k => [(57, i64 k)]) (fun k => [(200, .box [str (cutM b), str (cutM (cutR b)), i64 (wd (cutR (cutR b)) 0 1), i64 (num ((dg (cutR (cutR b)) 1).take k)), i64 (wd (cutR (cutR b)) 2 1), i64 (wd (cutR (cutR b)) 3 1), i64 (wd (cutR (cutR b)) 4 1)])]) (fun k => k ≤ 4) (fun k => 4 - k) 0 ?_ (Back.mk' (HasT.cons HasT.nil) (HasH.cons HasH.nil)) ?_
              · exact Nat.zero_le _
              · rintro k hk
                have hD := dg_len (j := 1) hc20 (by omega)
                have hn : k < 4 → 0 ≤ num ((dg (cutR (cutR b)) 1).take k) ∧ num ((dg (cutR (cutR b)) 1).take k) ≤ 16777215 := fun h4 => num_24 h4 (by rw [List.length_take]; omega)
                have hDl : ((dg (cutR (cutR b)) 1).length : Int) = 4 := by omega
                have hDl2 : ((List.drop (4 * ((1 : Nat) : Int)).toNat (List.take (4 * ((1 : Nat) : Int) + 4).toNat (cutR (cutR b)))).length : Int) = 4 := hDl
                have hby : ((List.drop (4 * ((1 : Nat) : Int)).toNat (List.take (4 * ((1 : Nat) : Int) + 4).toNat (cutR (cutR b)))).getD (k : Int).toNat default).toNat < 256 := ((dg (cutR (cutR b)) 1).getD k default).toNat_lt
                refine AWp.seq ?_
                refine AWp.region ?_
                refine AOps.dec rfl rfl (q_lss) (fun h14_0 => ?_) (fun h14_0 => ?_)
                · skip
                  refine AOps.nil ?_
                  refine AWp.seq ?_
                  refine AWp.cond_t rfl ?_
                  refine AWp.skip ?_
                  refine AWp.seq ?_
                  refine AWp.block ?_
                  refine AWp.seq ?_
                  refine AWp.region ?_
                  refine AOps.cons rfl rfl (q_ix) ?_
                  refine AOps.cons rfl rfl (q_load) ?_
                  refine AOps.cons rfl rfl (q_assign) ?_
                  refine AOps.nil ?_
                  refine AWp.region ?_
                  refine AOps.cons rfl rfl (q_move) ?_
                  refine AOps.cons rfl rfl (q_move) ?_
                  refine AOps.cons rfl rfl (q_nil) ?_
                  refine AOps.cons rfl rfl (q_load) ?_
                  refine AOps.cons rfl rfl (q_shl 8) ?_
                  refine AOps.cons rfl rfl (q_move) ?_
                  refine AOps.cons rfl rfl (q_conv_8i) ?_
                  refine AOps.cons rfl rfl (q_orb) ?_
                  refine AOps.cons rfl rfl (q_nil) ?_
                  refine AOps.cons rfl rfl (q_store) ?_
                  refine AOps.nil ?_
                  refine AWp.region ?_
                  refine AOps.cons rfl rfl (q_add) ?_
                  refine AOps.cons rfl rfl (q_move) ?_
                  refine AOps.nil ?_
                  have hst := num_step (l := dg (cutR (cutR b)) 1) (k := k) (by omega)
                  refine ⟨k + 1, ?_, Back.mk' (HasT.cons HasT.nil) (HasH.cons HasH.nil (h1 := by rw [hst]; rfl) ), ?_⟩
                  · omega
                  · omega
                · skip
                  refine AOps.nil ?_
                  refine AWp.seq ?_
                  refine AWp.cond_f rfl ?_
                  refine AWp.exit ?_
                  refine AWp.region ?_
                  obtain rfl : k = 4 := by omega
                  refine AOps.cons rfl rfl (q_add) ?_
                  refine AOps.cons rfl rfl (q_move) ?_
                  refine AOps.nil ?_
                  refine ⟨2, ?_, Back.mk' (HasT.cons HasT.nil) (HasH.cons HasH.nil), ?_⟩
                  · omega
                  · omega
            · skip
              refine AOps.cons rfl rfl (q_move) ?_
              refine AOps.cons rfl rfl (q_ix) ?_
              refine AOps.cons rfl rfl (q_load (z := .ptr 200 0 4) (hy := rfl)) ?_
              refine AOps.cons rfl rfl (q_assign) ?_
              refine AOps.cons rfl rfl (q_assign) ?_
              refine AOps.nil ?_
              refine AWp.seq ?_
              refine AWp.region ?_
              refine AOps.cons rfl rfl (q_move) ?_
              refine AOps.cons rfl rfl (q_move) ?_
              refine AOps.cons rfl rfl (q_mul) ?_
              refine AOps.cons rfl rfl (q_move) ?_
              refine AOps.cons rfl rfl (q_mul) ?_
              refine AOps.cons rfl rfl (q_add) ?_
              refine AOps.cons rfl rfl (q_sl) ?_
              refine AOps.cons rfl rfl (q_len) ?_
              refine AOps.cons rfl rfl (q_move) ?_
              refine AOps.nil ?_
              refine AWp.block ?_
              refine AWp.loopR (α := Nat) [10, 57, 58, 59, 60, 61, 62, 63, 64, 65, 66, 67, 68, 69, 70] (fun k => [(57, i64 k)]) (fun k => [(200, .box [str (cutM b), str (cutM (cutR b)), i64 (wd (cutR (cutR b)) 0 2), i64 (wd (cutR (cutR b)) 1 2), i64 (num ((dg (cutR (cutR b)) 2).take k)), i64 (wd (cutR (cutR b)) 3 2), i64 (wd (cutR (cutR b)) 4 2)])]) (fun k => k ≤ 4) (fun k => 4 - k) 0 ?_ (Back.mk' (HasT.cons HasT.nil) (HasH.cons HasH.nil)) ?_
              · exact Nat.zero_le _
              · rintro k hk
                have hD := dg_len (j := 2) hc20 (by omega)
                have hn : k < 4 → 0 ≤ num ((dg (cutR (cutR b)) 2).take k) ∧ num ((dg (cutR (cutR b)) 2).take k) ≤ 16777215 := fun h4 => num_24 h4 (by rw [List.length_take]; omega)
                have hDl : ((dg (cutR (cutR b)) 2).length : Int) = 4 := by omega
                have hDl2 : ((List.drop (4 * ((2 : Nat) : Int)).toNat (List.take (4 * ((2 : Nat) : Int) + 4).toNat (cutR (cutR b)))).length : Int) = 4 := hDl
                have hby : ((List.drop (4 * ((2 : Nat) : Int)).toNat (List.take (4 * ((2 : Nat) : Int) + 4).toNat (cutR (cutR b)))).getD (k : Int).toNat default).toNat < 256 := ((dg (cutR (cutR b)) 2).getD k default).toNat_lt
                refine AWp.seq ?_
                refine AWp.region ?_
                refine AOps.dec rfl rfl (q_lss) (fun h14_0 => ?_) (fun h14_0 => ?_)
                · skip
                  refine AOps.nil ?_
                  refine AWp.seq ?_
                  refine AWp.cond_t rfl ?_
                  refine AWp.skip ?_
                  refine AWp.seq ?_
                  refine AWp.block ?_
                  refine AWp.seq ?_
                  refine AWp.region ?_
                  refine AOps.cons rfl rfl (q_ix) ?_
                  refine AOps.cons rfl rfl (q_load) ?_
                  refine AOps.cons rfl rfl (q_assign) ?_
                  refine AOps.nil ?_
                  refine AWp.region ?_
                  refine AOps.cons rfl rfl (q_move) ?_
                  refine AOps.cons rfl rfl (q_move) ?_
                  refine AOps.cons rfl rfl (q_nil) ?_
                  refine AOps.cons rfl rfl (q_load) ?_
                  refine AOps.cons rfl rfl (q_shl 8) ?_
                  refine AOps.cons rfl rfl (q_move) ?_
                  refine AOps.cons rfl rfl (q_conv_8i) ?_
                  refine AOps.cons rfl rfl (q_orb) ?_
                  refine AOps.cons rfl rfl (q_nil) ?_
                  refine AOps.cons rfl rfl (q_store) ?_
                  refine AOps.nil ?_
                  refine AWp.region ?_
                  refine AOps.cons rfl rfl (q_add) ?_
                  refine AOps.cons rfl rfl (q_move) ?_
                  refine AOps.nil ?_
                  have hst := num_step (l := dg (cutR (cutR b)) 2) (k := k) (by omega)
                  refine ⟨k + 1, ?_, Back.mk' (HasT.cons HasT.nil) (HasH.cons HasH.nil (h1 := by rw [hst]; rfl) ), ?_⟩
                  · omega
                  · omega
                · skip
                  refine AOps.nil ?_
                  refine AWp.seq ?_
                  refine AWp.cond_f rfl ?_
                  refine AWp.exit ?_
                  refine AWp.region ?_
                  obtain rfl : k = 4 := by omega
                  refine AOps.cons rfl rfl (q_add) ?_
                  refine AOps.cons rfl rfl (q_move) ?_
                  refine AOps.nil ?_
                  refine ⟨3, ?_, Back.mk' (HasT.cons HasT.nil) (HasH.cons HasH.nil), ?_⟩
                  · omega
                  · omega
            · skip
              refine AOps.cons rfl rfl (q_move) ?_
              refine AOps.cons rfl rfl (q_ix) ?_
              refine AOps.cons rfl rfl (q_load (z := .ptr 200 0 5) (hy := rfl)) ?_
              refine AOps.cons rfl rfl (q_assign) ?_
              refine AOps.cons rfl rfl (q_assign) ?_
              refine AOps.nil ?_
              refine AWp.seq ?_
              refine AWp.region ?_
              refine AOps.cons rfl rfl (q_move) ?_
              refine AOps.cons rfl rfl (q_move) ?_
              refine AOps.cons rfl rfl (q_mul) ?_
              refine AOps.cons rfl rfl (q_move) ?_
              refine AOps.cons rfl rfl (q_mul) ?_
              refine AOps.cons rfl rfl (q_add) ?_
              refine AOps.cons rfl rfl (q_sl) ?_
              refine AOps.cons rfl rfl (q_len) ?_
              refine AOps.cons rfl rfl (q_move) ?_
              refine AOps.nil ?_
              refine AWp.block ?_
              refine AWp.loopR (α := Nat) [10, 57, 58, 59, 60, 61, 62, 63, 64, 65, 66, 67, 68, 69, 70] (fun k => [(57, i64 k)]) (fun k => [(200, .box [str (cutM b), str (cutM (cutR b)), i64 (wd (cutR (cutR b)) 0 3), i64 (wd (cutR (cutR b)) 1 3), i64 (wd (cutR (cutR b)) 2 3), i64 (num ((dg (cutR (cutR b)) 3).take k)), i64 (wd (cutR (cutR b)) 4 3)])]) (fun k => k ≤ 4) (fun k => 4 - k) 0 ?_ (Back.mk' (HasT.cons HasT.nil) (HasH.cons HasH.nil)) ?_
              · exact Nat.zero_le _
              · rintro k hk
                have hD := dg_len (j := 3) hc20 (by omega)
                have hn : k < 4 → 0 ≤ num ((dg (cutR (cutR b)) 3).take k) ∧ num ((dg (cutR (cutR b)) 3).take k) ≤ 16777215 := fun h4 => num_24 h4 (by rw [List.length_take]; omega)
                have hDl : ((dg (cutR (cutR b)) 3).length : Int) = 4 := by omega
                have hDl2 : ((List.drop (4 * ((3 : Nat) : Int)).toNat (List.take (4 * ((3 : Nat) : Int) + 4).toNat (cutR (cutR b)))).length : Int) = 4 := hDl
                have hby : ((List.drop (4 * ((3 : Nat) : Int)).toNat (List.take (4 * ((3 : Nat) : Int) + 4).toNat (cutR (cutR b)))).getD (k : Int).toNat default).toNat < 256 := ((dg (cutR (cutR b)) 3).getD k default).toNat_lt
                refine AWp.seq ?_
                refine AWp.region ?_
                refine AOps.dec rfl rfl (q_lss) (fun h14_0 => ?_) (fun h14_0 => ?_)
                · skip
                  refine AOps.nil ?_
                  refine AWp.seq ?_
                  refine AWp.cond_t rfl ?_
                  refine AWp.skip ?_
                  refine AWp.seq ?_
                  refine AWp.block ?_
                  refine AWp.seq ?_
                  refine AWp.region ?_
                  refine AOps.cons rfl rfl (q_ix) ?_
                  refine AOps.cons rfl rfl (q_load) ?_
                  refine AOps.cons rfl rfl (q_assign) ?_
                  refine AOps.nil ?_
                  refine AWp.region ?_
                  refine AOps.cons rfl rfl (q_move) ?_
                  refine AOps.cons rfl rfl (q_move) ?_
                  refine AOps.cons rfl rfl (q_nil) ?_
                  refine AOps.cons rfl rfl (q_load) ?_
                  refine AOps.cons rfl rfl (q_shl 8) ?_
                  refine AOps.cons rfl rfl (q_move) ?_
                  refine AOps.cons rfl rfl (q_conv_8i) ?_
                  refine AOps.cons rfl rfl (q_orb) ?_
                  refine AOps.cons rfl rfl (q_nil) ?_
                  refine AOps.cons rfl rfl (q_store) ?_
                  refine AOps.nil ?_
                  refine AWp.region ?_
                  refine AOps.cons rfl rfl (q_add) ?_
                  refine AOps.cons rfl rfl (q_move) ?_
                  refine AOps.nil ?_
                  have hst := num_step (l := dg (cutR (cutR b)) 3) (k := k) (by omega)
                  refine ⟨k + 1, ?_, Back.mk' (HasT.cons HasT.nil) (HasH.cons HasH.nil (h1 := by rw [hst]; rfl) ), ?_⟩
                  · omega
                  · omega
                · skip
                  refine AOps.nil ?_
                  refine AWp.seq ?_
                  refine AWp.cond_f rfl ?_
                  refine AWp.exit ?_
                  refine AWp.region ?_
                  obtain rfl : k = 4 := by omega
                  refine AOps.cons rfl rfl (q_add) ?_
                  refine AOps.cons rfl rfl (q_move) ?_
                  refine AOps.nil ?_
                  refine ⟨4, ?_, Back.mk' (HasT.cons HasT.nil) (HasH.cons HasH.nil), ?_⟩
                  · omega
                  · omega
            · skip
              refine AOps.cons rfl rfl (q_move) ?_
              refine AOps.cons rfl rfl (q_ix) ?_
              refine AOps.cons rfl rfl (q_load (z := .ptr 200 0 6) (hy := rfl)) ?_
              refine AOps.cons rfl rfl (q_assign) ?_
              refine AOps.cons rfl rfl (q_assign) ?_
              refine AOps.nil ?_
              refine AWp.seq ?_
              refine AWp.region ?_
              refine AOps.cons rfl rfl (q_move) ?_
              refine AOps.cons rfl rfl (q_move) ?_
              refine AOps.cons rfl rfl (q_mul) ?_
              refine AOps.cons rfl rfl (q_move) ?_
              refine AOps.cons rfl rfl (q_mul) ?_
              refine AOps.cons rfl rfl (q_add) ?_
              refine AOps.cons rfl rfl (q_sl) ?_
              refine AOps.cons rfl rfl (q_len) ?_
              refine AOps.cons rfl rfl (q_move) ?_
              refine AOps.nil ?_
              refine AWp.block ?_
              refine AWp.loopR (α := Nat) [10, 57, 58, 59, 60, 61, 62, 63, 64, 65, 66, 67, 68, 69, 70] (fun k => [(57, i64 k)]) (fun k => [(200, .box [str (cutM b), str (cutM (cutR b)), i64 (wd (cutR (cutR b)) 0 4), i64 (wd (cutR (cutR b)) 1 4), i64 (wd (cutR (cutR b)) 2 4), i64 (wd (cutR (cutR b)) 3 4), i64 (num ((dg (cutR (cutR b)) 4).take k))])]) (fun k => k ≤ 4) (fun k => 4 - k) 0 ?_ (Back.mk' (HasT.cons HasT.nil) (HasH.cons HasH.nil)) ?_
              · exact Nat.zero_le _
              · rintro k hk
                have hD := dg_len (j := 4) hc20 (by omega)
                have hn : k < 4 → 0 ≤ num ((dg (cutR (cutR b)) 4).take k) ∧ num ((dg (cutR (cutR b)) 4).take k) ≤ 16777215 := fun h4 => num_24 h4 (by rw [List.length_take]; omega)
                have hDl : ((dg (cutR (cutR b)) 4).length : Int) = 4 := by omega
                have hDl2 : ((List.drop (4 * ((4 : Nat) : Int)).toNat (List.take (4 * ((4 : Nat) : Int) + 4).toNat (cutR (cutR b)))).length : Int) = 4 := hDl
                have hby : ((List.drop (4 * ((4 : Nat) : Int)).toNat (List.take (4 * ((4 : Nat) : Int) + 4).toNat (cutR (cutR b)))).getD (k : Int).toNat default).toNat < 256 := ((dg (cutR (cutR b)) 4).getD k default).toNat_lt
                refine AWp.seq ?_
                refine AWp.region ?_
                refine AOps.dec rfl rfl (q_lss) (fun h14_0 => ?_) (fun h14_0 => ?_)
                · skip
                  refine AOps.nil ?_
                  refine AWp.seq ?_
                  refine AWp.cond_t rfl ?_
                  refine AWp.skip ?_
                  refine AWp.seq ?_
                  refine AWp.block ?_
                  refine AWp.seq ?_
                  refine AWp.region ?_
                  refine AOps.cons rfl rfl (q_ix) ?_
                  refine AOps.cons rfl rfl (q_load) ?_
                  refine AOps.cons rfl rfl (q_assign) ?_
                  refine AOps.nil ?_
                  refine AWp.region ?_
                  refine AOps.cons rfl rfl (q_move) ?_
                  refine AOps.cons rfl rfl (q_move) ?_
                  refine AOps.cons rfl rfl (q_nil) ?_
                  refine AOps.cons rfl rfl (q_load) ?_
                  refine AOps.cons rfl rfl (q_shl 8) ?_
                  refine AOps.cons rfl rfl (q_move) ?_
                  refine AOps.cons rfl rfl (q_conv_8i) ?_
                  refine AOps.cons rfl rfl (q_orb) ?_
                  refine AOps.cons rfl rfl (q_nil) ?_
                  refine AOps.cons rfl rfl (q_store) ?_
                  refine AOps.nil ?_
                  refine AWp.region ?_
                  refine AOps.cons rfl rfl (q_add) ?_
                  refine AOps.cons rfl rfl (q_move) ?_
                  refine AOps.nil ?_
                  have hst := num_step (l := dg (cutR (cutR b)) 4) (k := k) (by omega)
                  refine ⟨k + 1, ?_, Back.mk' (HasT.cons HasT.nil) (HasH.cons HasH.nil (h1 := by rw [hst]; rfl) ), ?_⟩
                  · omega
                  · omega
                · skip
                  refine AOps.nil ?_
                  refine AWp.seq ?_
                  refine AWp.cond_f rfl ?_
                  refine AWp.exit ?_
                  refine AWp.region ?_
                  obtain rfl : k = 4 := by omega
                  refine AOps.cons rfl rfl (q_add) ?_
                  refine AOps.cons rfl rfl (q_move) ?_
                  refine AOps.nil ?_
                  refine ⟨5, ?_, Back.mk' (HasT.cons HasT.nil) (HasH.cons HasH.nil), ?_⟩
                  · omega
                  · omega
          · skip
            refine AOps.nil ?_
            refine AWp.seq ?_
            refine AWp.cond_f rfl ?_
            refine AWp.exit ?_
            refine AWp.seq ?_
            refine AWp.region ?_
            obtain rfl : i = 5 := by omega
            have ho : soaO b = true := by rw [soaO, h4_5, h7_5, decide_eq_true (by omega)]; rfl
            have hv : soaV b = ⟨cutM b, cutM (cutR b), wd (cutR (cutR b)) 0 5, wd (cutR (cutR b)) 1 5, wd (cutR (cutR b)) 2 5, wd (cutR (cutR b)) 3 5, wd (cutR (cutR b)) 4 5⟩ := by rw [soaV, if_pos ho]
            refine AOps.cons rfl rfl (q_load) ?_
            refine AOps.cons rfl rfl (q_store) ?_
            refine AOps.cons rfl rfl (q_assign) ?_
            refine AOps.nil ?_
            refine AWp.ret ?_
            show Fin te Try.f85 _ _
            refine q_ret (0) [_, _] [_, _] ?_
            rw [hv, ho]; rfl
    · skip
      refine AOps.cons rfl rfl (q_fa) ?_
      refine AOps.cons rfl rfl (q_store) ?_
      refine AOps.cons rfl rfl (q_assign) ?_
      refine AOps.cons rfl rfl (q_assign) ?_
      refine AOps.nil ?_
      refine AWp.seq ?_
      refine AWp.region ?_
      refine AOps.cons rfl rfl (q_move) ?_
      refine AOps.cons rfl rfl (q_not) ?_
      refine AOps.cons rfl rfl (q_move) ?_
      refine AOps.gskip rfl rfl rfl rfl rfl rfl rfl rfl ?_
      refine AOps.gskip rfl rfl rfl rfl rfl rfl rfl rfl ?_
      refine AOps.gskip rfl rfl rfl rfl rfl rfl rfl rfl ?_
      refine AOps.cons rfl rfl (q_pick) ?_
      refine AOps.nil ?_
      refine AWp.cond_t rfl ?_
      refine AWp.seq ?_
      refine AWp.region ?_
      refine AOps.cons rfl rfl (q_build []) ?_
      refine AOps.cons rfl rfl (q_store) ?_
      refine AOps.cons rfl rfl (q_assign) ?_
      refine AOps.nil ?_
      refine AWp.ret ?_
      show Fin te Try.f85 _ _
      refine q_ret (0) [_, _] [_, _] ?_
      have ho : soaO b = false := by rw [soaO, h7_5, Bool.false_and, Bool.and_false]
      rw [soaV_no ho, ho]; rfl
  · skip
    refine AOps.cons rfl rfl (q_fa) ?_
    refine AOps.cons rfl rfl (q_store) ?_
    refine AOps.cons rfl rfl (q_assign) ?_
    refine AOps.cons rfl rfl (q_assign) ?_
    refine AOps.nil ?_
    refine AWp.seq ?_
    refine AWp.region ?_
    refine AOps.cons rfl rfl (q_move) ?_
    refine AOps.cons rfl rfl (q_not) ?_
    refine AOps.nil ?_
    refine AWp.cond_t rfl ?_
    refine AWp.seq ?_
    refine AWp.region ?_
    refine AOps.cons rfl rfl (q_build []) ?_
    refine AOps.cons rfl rfl (q_store) ?_
    refine AOps.cons rfl rfl (q_assign) ?_
    refine AOps.nil ?_
    refine AWp.ret ?_
    show Fin te Try.f85 _ _
    refine q_ret (0) [_, _] [_, _] ?_
    have ho : soaO b = false := by rw [soaO, h4_5]; rfl
    rw [soaV_no ho, ho]; rfl

end Go.Proofs.Ytkfccjbihcbmiaa.Fw

/- Walks of layer 3: an SOA's bytes; the reference's. -/
set_option linter.unusedVariables false
set_option linter.unusedSimpArgs false
namespace Go.Proofs.Ytkfccjbihcbmiaa.Fw
open Go.RowKit


def ns (x : Soa) : List Int := [x.n1, x.n2, x.n3, x.n4, x.n5]
def fourB (n : Int) : List UInt8 := [byte (n / 2 ^ 24), byte (n / 2 ^ 16), byte (n / 2 ^ 8), byte n]
def okN (n : Int) : Bool := decide (0 ≤ n ∧ n ≤ 4294967295)
def mkO (x : Soa) : Bool := canN x.m && (canN x.r && (ns x).all okN)
def mkB (x : Soa) : List UInt8 := if mkO x then x.m ++ x.r ++ (ns x).flatMap fourB else []
def mkE (x : Soa) : Int := if mkO x then 0 else 1
theorem mk_no {x : Soa} (h : mkO x = false) : mkB x = [] ∧ mkE x = 1 := by simp [mkB, mkE, h]
theorem mk_yes {x : Soa} (h : mkO x = true) : mkB x = x.m ++ x.r ++ (ns x).flatMap fourB ∧ mkE x = 0 := by simp [mkB, mkE, h]
theorem mk_bad {x : Soa} {i : Nat} (h : i < 5) (hn : ¬ (0 ≤ (ns x).getD i default ∧ (ns x).getD i default ≤ 4294967295)) : mkO x = false := by
  have hm : (ns x).getD i default ∈ ns x := getD_mem' (l := ns x) h
  cases ho : mkO x with
  | false => rfl
  | true =>
    simp only [mkO, Bool.and_eq_true, List.all_eq_true] at ho
    have := ho.2.2 _ hm
    rw [okN, decide_eq_true_eq] at this
    exact absurd this hn
theorem mk_good {x : Soa} (h1 : canN x.m = true) (h2 : canN x.r = true) (h3 : ∀ n ∈ ns x, 0 ≤ n ∧ n ≤ 4294967295) : mkO x = true := by
  rw [mkO, h1, h2]
  simp only [Bool.true_and, List.all_eq_true]
  exact fun n hn => decide_eq_true (h3 n hn)
theorem ns_step {x : Soa} {i : Nat} (h : i < 5) (hI : ∀ n ∈ (ns x).take i, 0 ≤ n ∧ n ≤ 4294967295) (h1 : 0 ≤ (ns x).getD i default ∧ (ns x).getD i default ≤ 4294967295) : ∀ n ∈ (ns x).take (i + 1), 0 ≤ n ∧ n ≤ 4294967295 := by
  intro n hn
  have e : (ns x).take (i + 1) = (ns x).take i ++ [(ns x).getD i default] := by
    have := take_map_step (fun y => y) (l := ns x) (i := i) h
    simpa using this
  rw [e] at hn
  rcases List.mem_append.1 hn with hn | hn
  · exact hI n hn
  · rw [List.mem_singleton.1 hn]; exact h1
theorem ns_flat {x : Soa} {i : Nat} (h : i < 5) : ((ns x).take (i + 1)).flatMap fourB = ((ns x).take i).flatMap fourB ++ fourB ((ns x).getD i default) := by
  have e : (ns x).take (i + 1) = (ns x).take i ++ [(ns x).getD i default] := by
    have := take_map_step (fun y => y) (l := ns x) (i := i) h
    simpa using this
  rw [e, List.flatMap_append]
  simp
theorem ns_len {x : Soa} {i : Nat} (h : i ≤ 5) : (((ns x).take i).flatMap fourB).length = 4 * i := by
  have : i = 0 ∨ i = 1 ∨ i = 2 ∨ i = 3 ∨ i = 4 ∨ i = 5 := by omega
  rcases this with rfl | rfl | rfl | rfl | rfl | rfl <;> rfl
def fourR (b : List UInt8) : Int := (((((b.getD 0 default).toNat : Int) * 256 + ((b.getD 1 default).toNat : Int)) * 256 + ((b.getD 2 default).toNat : Int)) * 256 + ((b.getD 3 default).toNat : Int))
theorem fourR_drop {c : List UInt8} {j : Nat} (hc : c.length = 20) (hj : j < 5) : fourR (c.drop (4 * j)) = wd c j 5 := by
  rw [← four_num hc hj, fourR]
  have e : ∀ k, (c.drop (4 * j)).getD k default = c.getD (4 * j + k) default := fun k => by rw [List.getD_eq_getElem?_getD, List.getD_eq_getElem?_getD, List.getElem?_drop]
  rw [e 0, e 1, e 2, e 3]
  rfl
def canS (t : Int) (d : List UInt8) : Bool := if t = 6 then decide (d.length ≤ 65535) && soaO d else canR t d
def namS (t : Int) (d : List UInt8) : List (List UInt8) := if t = 6 then (if canS 6 d then [(soaV d).m, (soaV d).r] else []) else namR t d
theorem canS_ne {t : Int} {d : List UInt8} (h : t ≠ 6) : canS t d = canR t d := if_neg h
theorem namS_ne {t : Int} {d : List UInt8} (h : t ≠ 6) : namS t d = namR t d := if_neg h
theorem canS_6 {d : List UInt8} (h : d.length ≤ 65535) : canS 6 d = soaO d := by rw [canS, if_pos rfl, decide_eq_true h, Bool.true_and]
theorem canS_6n {d : List UInt8} (h : ¬ d.length ≤ 65535) : canS 6 d = false := by rw [canS, if_pos rfl, decide_eq_false h, Bool.false_and]
theorem soa_len (b : List UInt8) : (soaV b).m.length ≤ 255 ∧ (soaV b).r.length ≤ 255 := by
  have h1 := cut_len b
  have h2 := cut_len (cutR b)
  unfold soaV
  split
  · exact ⟨h1.1, h2.1⟩
  · simp

set_option maxRecDepth 20000 in
set_option maxHeartbeats 2000000 in
theorem c_bytes_Equal (l m : List UInt8) (lv lw : Nat) : AC Try.prog 20 [.fz lv l.length (cl bc l), .fz lw m.length (cl bc m)] emp (Ret (tf (decide (l = m)))) := by
  refine AC.intro te_ok (fn := Try.f20) ⟨Try.func20, rfl, rfl⟩ (Nat.le_of_ble_eq_true rfl) ?_
  refine AWp.seq ?_
  refine AWp.region ?_
  refine AOps.cons rfl rfl (q_assign) ?_
  refine AOps.nil ?_
  refine AWp.seq ?_
  refine AWp.region ?_
  refine AOps.cons rfl rfl (q_move) ?_
  refine AOps.cons rfl rfl (by first | exact q_conv_zs | exact q_conv_ls) ?_
  refine AOps.cons rfl rfl (q_move) ?_
  refine AOps.cons rfl rfl (by first | exact q_conv_zs | exact q_conv_ls) ?_
  refine AOps.cons rfl rfl (q_seql) ?_
  refine AOps.cons rfl rfl (q_assign) ?_
  refine AOps.nil ?_
  refine AWp.ret ?_
  show Fin te Try.f20 _ _
  refine q_ret (0) [_] [_] ?_
  first | rfl | (simp; done)

set_option maxRecDepth 20000 in
set_option maxHeartbeats 2000000 in
theorem c_bytes_Clone (l : List UInt8) (lv : Nat) (h : l.length ≤ 140737488351232) : AC Try.prog 16 [.fz lv l.length (cl bc l)] emp (Ret (.fz 0 l.length (cl bc l))) := by
  refine AC.intro te_ok (fn := Try.f16) ⟨Try.func16, rfl, rfl⟩ (Nat.le_of_ble_eq_true rfl) ?_
  refine AWp.seq ?_
  refine AWp.region ?_
  refine AOps.cons rfl rfl (q_nilz (0) bc) ?_
  refine AOps.nil ?_
  refine AWp.seq ?_
  refine AWp.seq ?_
  refine AWp.region ?_
  refine AOps.cons rfl rfl (q_move) ?_
  refine AOps.snil (fun h1_1 => ?_) ?_
  · skip
    refine AOps.nil ?_
    refine AWp.cond_t rfl ?_
    refine AWp.seq ?_
    refine AWp.region ?_
    refine AOps.cons rfl rfl (q_nilz (0) bc) ?_
    refine AOps.nil ?_
    refine AWp.ret ?_
    show Fin te Try.f16 _ _
    refine q_ret (0) [_] [_] ?_
    obtain rfl := List.eq_nil_of_length_eq_zero h1_1
    rfl
  · skip
    refine AOps.nil ?_
    refine AWp.cond_f rfl ?_
    refine AWp.skip ?_
    refine AWp.seq ?_
    refine AWp.region ?_
    refine AOps.cons rfl rfl (q_bs 400 bc [] []) ?_
    refine AOps.cons rfl rfl (q_move) ?_
    refine AOps.cons rfl rfl (q_app) ?_
    refine AOps.cons rfl rfl (q_assign) ?_
    refine AOps.nil ?_
    refine AWp.ret ?_
    show Fin te Try.f16 _ _
    refine q_ret (0) [_] [_] ?_
    rfl

set_option maxRecDepth 20000 in
set_option maxHeartbeats 2000000 in
theorem co_Clone (l : List UInt8) (lv : Nat) (h : l.length ≤ 140737488351232) : AC Try.prog 16 [.fz lv l.length (cl bc l)] (hlook []) (RetH (.sl 8 0 0 l.length 1) [(8, .row (cl bc l) 1 0)]) := by
  refine AC.intro te_ok (fn := Try.f16) ⟨Try.func16, rfl, rfl⟩ (Nat.le_of_ble_eq_true rfl) ?_
  refine AWp.seq ?_
  refine AWp.region ?_
  refine AOps.cons rfl rfl (q_nilz (0) bc) ?_
  refine AOps.nil ?_
  refine AWp.seq ?_
  refine AWp.seq ?_
  refine AWp.region ?_
  refine AOps.cons rfl rfl (q_move) ?_
  refine AOps.snil (fun h1_1 => ?_) ?_
  · skip
    refine AOps.nil ?_
    refine AWp.cond_t rfl ?_
    refine AWp.seq ?_
    refine AWp.region ?_
    refine AOps.cons rfl rfl (q_nilrow 8 1 bc) ?_
    refine AOps.nil ?_
    refine AWp.ret ?_
    show Fin te Try.f16 _ _
    obtain rfl := List.eq_nil_of_length_eq_zero h1_1
    refine q_retH (0) [8] [_] [.sl 8 0 0 _ 1] [(8, .row (cl bc _) 1 0)] ?_
    rfl
  · skip
    refine AOps.nil ?_
    refine AWp.cond_f rfl ?_
    refine AWp.skip ?_
    refine AWp.seq ?_
    refine AWp.region ?_
    refine AOps.cons rfl rfl (q_bs 8 bc [] []) ?_
    refine AOps.cons rfl rfl (q_move) ?_
    refine AOps.cons rfl rfl (q_app) ?_
    refine AOps.cons rfl rfl (q_assign) ?_
    refine AOps.nil ?_
    refine AWp.ret ?_
    show Fin te Try.f16 _ _
    refine q_retH (0) [8] [_] [.sl 8 0 0 _ 1] [(8, .row (cl bc _) 1 0)] ?_
    rfl

set_option maxRecDepth 20000 in
set_option maxHeartbeats 2000000 in
theorem c_ciceroneref03_First (b : List UInt8) (lv : Nat) (h : b.length ≤ 140737488351232) : AC Try.prog 97 [.fz lv b.length (cl bc b)] emp (Ret (.tup [str (cutM b), .fz lv (cutR b).length (cl bc (cutR b)), tf (cutO b)])) := by
  refine AC.intro te_ok (fn := Try.f97) ⟨Try.func97, rfl, rfl⟩ (Nat.le_of_ble_eq_true rfl) ?_
  refine AWp.seq ?_
  refine AWp.region ?_
  refine AOps.cons rfl rfl (q_assign) ?_
  refine AOps.cons rfl rfl (q_nilz (lv) bc) ?_
  refine AOps.cons rfl rfl (q_assign) ?_
  refine AOps.nil ?_
  refine AWp.seq ?_
  refine AWp.seq ?_
  refine AWp.region ?_
  refine AOps.cons rfl rfl (q_assign) ?_
  refine AOps.nil ?_
  refine AWp.block ?_
  refine AWp.loopR (α := Nat) [2, 3, 4, 5, 6, 7, 8, 9, 10, 11, 12, 13, 14, 15, 16, 17, 18, 19, 20, 21, 22, 23, 24, 25, 26, 27] (fun k => [(5, i64 k)]) (fun k => []) (fun k => 1 ≤ k ∧ k ≤ 256 ∧ ∀ j, 1 ≤ j → j < k → canN (b.take j) = false) (fun k => 256 - k) 1 ?_ (Back.mk' (HasT.cons HasT.nil) HasH.nil) ?_
  · exact ⟨by omega, by omega, fun j h1 h2 => by omega⟩
  · rintro k ⟨hk1, hk2, hk⟩
    refine AWp.seq ?_
    refine AWp.seq ?_
    refine AWp.region ?_
    refine AOps.cons rfl rfl (q_move) ?_
    refine AOps.cons rfl rfl (q_move) ?_
    refine AOps.cons rfl rfl (q_len) ?_
    refine AOps.dec rfl rfl (q_leq) (fun h2_3 => ?_) (fun h2_3 => ?_)
    · skip
      refine AOps.cons rfl rfl (q_move) ?_
      refine AOps.gcons rfl rfl rfl rfl rfl (q_move) ?_
      refine AOps.gdec rfl rfl rfl rfl rfl (q_leq) (fun h2_6 => ?_) (fun h2_6 => ?_)
      · skip
        refine AOps.cons rfl rfl (q_pick) ?_
        refine AOps.nil ?_
        refine AWp.cond_t rfl ?_
        refine AWp.skip ?_
        refine AWp.seq ?_
        refine AWp.block ?_
        refine AWp.seq ?_
        refine AWp.region ?_
        refine AOps.cons rfl rfl (q_move) ?_
        refine AOps.cons rfl rfl (q_move) ?_
        refine AOps.cons rfl rfl (q_sl) ?_
        refine AOps.cons rfl rfl (by first | exact q_conv_zs | exact q_conv_ls) ?_
        refine AOps.bool rfl rfl (q_call (lv) (hc := c_ciceroneref01_Can _ (by first | assumption | omega | decide | (simp; omega) | (simp [*]; done)))) (fun h4_4 => ?_) (fun h4_4 => ?_)
        · skip
          refine AOps.nil ?_
          refine AWp.cond_t rfl ?_
          refine AWp.seq ?_
          refine AWp.draws [⟨0, [0], [], some 21, _, none⟩,
              ⟨1, [5], [], some 22, _, none⟩,
              ⟨2, [21, 22], [], some 23, _, none⟩,
              ⟨3, [23], [], some 24, _, none⟩,
              ⟨4, [0], [], some 25, _, none⟩,
              ⟨5, [5], [], some 26, _, none⟩,
              ⟨6, [25, 26], [], some 27, _, none⟩,
              ⟨7, [24], [], some 2, _, none⟩,
              ⟨8, [27], [], some 3, _, none⟩,
              ⟨9, [], [], some 4, _, none⟩]
            [⟨0, [0], [], some 21, .any, none⟩,
                ⟨1, [5], [], some 22, .any, none⟩,
                ⟨2, [21, 22], [], some 23, .any, none⟩,
                ⟨3, [23], [], some 24, .any, none⟩,
                ⟨4, [0], [], some 25, .any, none⟩,
                ⟨5, [5], [], some 26, .any, none⟩,
                ⟨6, [25, 26], [], some 27, .any, none⟩,
                ⟨7, [24], [], some 2, .any, none⟩,
                ⟨8, [27], [], some 3, .any, none⟩,
                ⟨9, [], [], some 4, .any, none⟩]
            mixed_ok rfl (by kernel_rfl) ⟨DS.ok_over fun s0 => OpAt.go rfl rfl (q_move),
                DS.ok_over fun s0 => OpAt.go rfl rfl (q_move),
                DS.ok_over fun s0 => OpAt.go rfl rfl (q_sl),
                DS.ok_over fun s0 => OpAt.go rfl rfl (by first | exact q_conv_zs | exact q_conv_ls),
                DS.ok_over fun s0 => OpAt.go rfl rfl (q_move),
                DS.ok_over fun s0 => OpAt.go rfl rfl (q_move),
                DS.ok_over fun s0 => OpAt.go rfl rfl (q_sl),
                DS.ok_over fun s0 => OpAt.go rfl rfl (q_assign),
                DS.ok_over fun s0 => OpAt.go rfl rfl (q_assign),
                DS.ok_over fun s0 => OpAt.go rfl rfl (q_assign), trivial⟩ ?_
          dsimp only [final, DS.upd, AS.seto]
          refine AWp.ret ?_
          show Fin te Try.f97 _ _
          refine q_ret (lv) [_, _, _] [_, _, _] ?_
          obtain ⟨q1, q2, q3⟩ := cut_at (b := b) (k := k) (by omega) h4_4
          rw [q1, q2, q3]; rfl
        · skip
          refine AOps.nil ?_
          refine AWp.cond_f rfl ?_
          refine AWp.skip ?_
          refine AWp.region ?_
          refine AOps.cons rfl rfl (q_move) ?_
          refine AOps.cons rfl rfl (q_add) ?_
          refine AOps.cons rfl rfl (q_assign) ?_
          refine AOps.nil ?_
          refine ⟨k + 1, ?_, Back.mk' (HasT.cons HasT.nil) HasH.nil, ?_⟩
          · refine ⟨by omega, by omega, fun j h1 h2 => ?_⟩
            by_cases e : j = k
            · subst e; exact h4_4
            · exact hk j h1 (by omega)
          · omega
      · skip
        refine AOps.cons rfl rfl (q_pick) ?_
        refine AOps.nil ?_
        refine AWp.cond_f rfl ?_
        refine AWp.exit ?_
        refine AWp.seq ?_
        refine AWp.region ?_
        refine AOps.cons rfl rfl (q_assign) ?_
        refine AOps.cons rfl rfl (q_nilz (lv) bc) ?_
        refine AOps.cons rfl rfl (q_assign) ?_
        refine AOps.nil ?_
        refine AWp.ret ?_
        show Fin te Try.f97 _ _
        refine q_ret (lv) [_, _, _] [_, _, _] ?_
        have ho := cut_none (b := b) (fun j h1 h2 h3 => hk j h1 (by omega))
        rw [(cut_no ho).1, (cut_no ho).2, ho]; rfl
    · skip
      refine AOps.cons rfl rfl (q_move) ?_
      refine AOps.gskip rfl rfl rfl rfl rfl rfl rfl rfl ?_
      refine AOps.gskip rfl rfl rfl rfl rfl rfl rfl rfl ?_
      refine AOps.cons rfl rfl (q_pick) ?_
      refine AOps.nil ?_
      refine AWp.cond_f rfl ?_
      refine AWp.exit ?_
      refine AWp.seq ?_
      refine AWp.region ?_
      refine AOps.cons rfl rfl (q_assign) ?_
      refine AOps.cons rfl rfl (q_nilz (lv) bc) ?_
      refine AOps.cons rfl rfl (q_assign) ?_
      refine AOps.nil ?_
      refine AWp.ret ?_
      show Fin te Try.f97 _ _
      refine q_ret (lv) [_, _, _] [_, _, _] ?_
      have ho := cut_none (b := b) (fun j h1 h2 h3 => hk j h1 (by omega))
      rw [(cut_no ho).1, (cut_no ho).2, ho]; rfl

set_option maxRecDepth 20000 in
set_option maxHeartbeats 2000000 in
theorem c_ciceroneref03_four (b : List UInt8) (lv : Nat) (h : b.length ≤ 140737488351232) (h4 : 4 ≤ b.length) : AC Try.prog 98 [.fz lv b.length (cl bc b)] emp (Ret (i64 (fourR b))) := by
  have f0 := (b.getD (Int.toNat 0) default).toNat_lt
  have g0 := (b[0]?.getD default).toNat_lt
  have f1 := (b.getD (Int.toNat 1) default).toNat_lt
  have g1 := (b[1]?.getD default).toNat_lt
  have f2 := (b.getD (Int.toNat 2) default).toNat_lt
  have g2 := (b[2]?.getD default).toNat_lt
  have f3 := (b.getD (Int.toNat 3) default).toNat_lt
  have g3 := (b[3]?.getD default).toNat_lt
  refine AC.intro te_ok (fn := Try.f98) ⟨Try.func98, rfl, rfl⟩ (Nat.le_of_ble_eq_true rfl) ?_
  refine AWp.seq ?_
  refine AWp.region ?_
  refine AOps.cons rfl rfl (q_assign) ?_
  refine AOps.nil ?_
  refine AWp.seq ?_
  refine AWp.draws [⟨0, [0], [], some 3, _, none⟩,
      ⟨1, [3], [], some 4, _, none⟩,
      ⟨2, [4], [], some 5, _, none⟩,
      ⟨3, [5], [], some 6, _, none⟩,
      ⟨4, [6], [], some 7, _, none⟩,
      ⟨5, [0], [], some 8, _, none⟩,
      ⟨6, [8], [], some 9, _, none⟩,
      ⟨7, [9], [], some 10, _, none⟩,
      ⟨8, [10], [], some 11, _, none⟩,
      ⟨9, [7, 11], [], some 12, _, none⟩,
      ⟨10, [12], [], some 13, _, none⟩,
      ⟨11, [0], [], some 14, _, none⟩,
      ⟨12, [14], [], some 15, _, none⟩,
      ⟨13, [15], [], some 16, _, none⟩,
      ⟨14, [16], [], some 17, _, none⟩,
      ⟨15, [13, 17], [], some 18, _, none⟩,
      ⟨16, [18], [], some 19, _, none⟩,
      ⟨17, [0], [], some 20, _, none⟩,
      ⟨18, [20], [], some 21, _, none⟩,
      ⟨19, [21], [], some 22, _, none⟩,
      ⟨20, [22], [], some 23, _, none⟩,
      ⟨21, [19, 23], [], some 24, _, none⟩,
      ⟨22, [24], [], some 2, _, none⟩]
    [⟨0, [0], [], some 3, .any, none⟩,
        ⟨1, [3], [], some 4, .any, none⟩,
        ⟨2, [4], [], some 5, .any, none⟩,
        ⟨3, [5], [], some 6, .any, none⟩,
        ⟨4, [6], [], some 7, .any, none⟩,
        ⟨5, [0], [], some 8, .any, none⟩,
        ⟨6, [8], [], some 9, .any, none⟩,
        ⟨7, [9], [], some 10, .any, none⟩,
        ⟨8, [10], [], some 11, .any, none⟩,
        ⟨9, [7, 11], [], some 12, .any, none⟩,
        ⟨10, [12], [], some 13, .any, none⟩,
        ⟨11, [0], [], some 14, .any, none⟩,
        ⟨12, [14], [], some 15, .any, none⟩,
        ⟨13, [15], [], some 16, .any, none⟩,
        ⟨14, [16], [], some 17, .any, none⟩,
        ⟨15, [13, 17], [], some 18, .any, none⟩,
        ⟨16, [18], [], some 19, .any, none⟩,
        ⟨17, [0], [], some 20, .any, none⟩,
        ⟨18, [20], [], some 21, .any, none⟩,
        ⟨19, [21], [], some 22, .any, none⟩,
        ⟨20, [22], [], some 23, .any, none⟩,
        ⟨21, [19, 23], [], some 24, .any, none⟩,
        ⟨22, [24], [], some 2, .any, none⟩]
    mixed_ok rfl (by kernel_rfl) ⟨DS.ok_over fun s0 => OpAt.go rfl rfl (q_move),
        DS.ok_over fun s0 => OpAt.go rfl rfl (q_ix),
        DS.ok_over fun s0 => OpAt.go rfl rfl (q_load),
        DS.ok_over fun s0 => OpAt.go rfl rfl (q_conv_8i),
        DS.ok_over fun s0 => OpAt.go rfl rfl (q_mul),
        DS.ok_over fun s0 => OpAt.go rfl rfl (q_move),
        DS.ok_over fun s0 => OpAt.go rfl rfl (q_ix),
        DS.ok_over fun s0 => OpAt.go rfl rfl (q_load),
        DS.ok_over fun s0 => OpAt.go rfl rfl (q_conv_8i),
        DS.ok_over fun s0 => OpAt.go rfl rfl (q_add),
        DS.ok_over fun s0 => OpAt.go rfl rfl (q_mul),
        DS.ok_over fun s0 => OpAt.go rfl rfl (q_move),
        DS.ok_over fun s0 => OpAt.go rfl rfl (q_ix),
        DS.ok_over fun s0 => OpAt.go rfl rfl (q_load),
        DS.ok_over fun s0 => OpAt.go rfl rfl (q_conv_8i),
        DS.ok_over fun s0 => OpAt.go rfl rfl (q_add),
        DS.ok_over fun s0 => OpAt.go rfl rfl (q_mul),
        DS.ok_over fun s0 => OpAt.go rfl rfl (q_move),
        DS.ok_over fun s0 => OpAt.go rfl rfl (q_ix),
        DS.ok_over fun s0 => OpAt.go rfl rfl (q_load),
        DS.ok_over fun s0 => OpAt.go rfl rfl (q_conv_8i),
        DS.ok_over fun s0 => OpAt.go rfl rfl (q_add),
        DS.ok_over fun s0 => OpAt.go rfl rfl (q_assign), trivial⟩ ?_
  dsimp only [final, DS.upd, AS.seto]
  refine AWp.ret ?_
  show Fin te Try.f98 _ _
  refine q_ret (0) [_] [_] ?_
  rfl

set_option maxRecDepth 20000 in
set_option maxHeartbeats 2000000 in
theorem c_ciceroneref03_SOA (b : List UInt8) (lv : Nat) (h : b.length ≤ 140737488351232) : AC Try.prog 88 [.fz lv b.length (cl bc b)] emp (Ret (.tup [soaA (soaV b), tf (soaO b)])) := by
  have hc1 := cut_len b
  have hc2 := cut_len (cutR b)
  refine AC.intro te_ok (fn := Try.f88) ⟨Try.func88, rfl, rfl⟩ (Nat.le_of_ble_eq_true rfl) ?_
  refine AWp.seq ?_
  refine AWp.region ?_
  refine AOps.cons rfl rfl (q_alloc 100) ?_
  refine AOps.cons rfl rfl (q_assign) ?_
  refine AOps.nil ?_
  refine AWp.seq ?_
  refine AWp.region ?_
  refine AOps.cons rfl rfl (q_move) ?_
  refine AOps.cons rfl rfl (q_call (lv) (hc := c_ciceroneref03_First _ _ (by first | assumption | omega | decide | (simp; omega) | (simp [*]; done)))) ?_
  refine AOps.cons rfl rfl (q_move) ?_
  refine AOps.cons rfl rfl (q_extract) ?_
  refine AOps.cons rfl rfl (q_extract) ?_
  refine AOps.bool rfl rfl (q_extract) (fun h1_5 => ?_) (fun h1_5 => ?_)
  · skip
    refine AOps.cons rfl rfl (q_assign) ?_
    refine AOps.cons rfl rfl (q_assign) ?_
    refine AOps.cons rfl rfl (q_assign) ?_
    refine AOps.nil ?_
    refine AWp.seq ?_
    refine AWp.seq ?_
    refine AWp.region ?_
    refine AOps.cons rfl rfl (q_move) ?_
    refine AOps.cons rfl rfl (q_not) ?_
    refine AOps.nil ?_
    refine AWp.cond_f rfl ?_
    refine AWp.skip ?_
    refine AWp.seq ?_
    refine AWp.region ?_
    refine AOps.cons rfl rfl (q_move) ?_
    refine AOps.cons rfl rfl (q_call (lv) (hc := c_ciceroneref03_First _ _ (by first | assumption | omega | decide | (simp; omega) | (simp [*]; done)))) ?_
    refine AOps.cons rfl rfl (q_move) ?_
    refine AOps.cons rfl rfl (q_extract) ?_
    refine AOps.cons rfl rfl (q_extract) ?_
    refine AOps.bool rfl rfl (q_extract) (fun h4_5 => ?_) (fun h4_5 => ?_)
    · skip
      refine AOps.cons rfl rfl (q_assign) ?_
      refine AOps.cons rfl rfl (q_assign) ?_
      refine AOps.cons rfl rfl (q_assign) ?_
      refine AOps.nil ?_
      refine AWp.seq ?_
      refine AWp.seq ?_
      refine AWp.region ?_
      refine AOps.cons rfl rfl (q_move) ?_
      refine AOps.cons rfl rfl (q_not) ?_
      refine AOps.cons rfl rfl (q_move) ?_
      refine AOps.gcons rfl rfl rfl rfl rfl (q_move) ?_
      refine AOps.gcons rfl rfl rfl rfl rfl (q_len) ?_
      refine AOps.gdec rfl rfl rfl rfl rfl (q_neq) (fun h5_5 => ?_) (fun h5_5 => ?_)
      · skip
        refine AOps.cons rfl rfl (q_pick) ?_
        refine AOps.nil ?_
        refine AWp.cond_t rfl ?_
        refine AWp.seq ?_
        refine AWp.region ?_
        refine AOps.cons rfl rfl (q_build []) ?_
        refine AOps.cons rfl rfl (q_store) ?_
        refine AOps.cons rfl rfl (q_assign) ?_
        refine AOps.nil ?_
        refine AWp.ret ?_
        show Fin te Try.f88 _ _
        refine q_ret (0) [_, _] [_, _] ?_
        have ho : soaO b = false := by rw [soaO, decide_eq_false (by omega), Bool.and_false, Bool.and_false]
        rw [soaV_no ho, ho]; rfl
      · skip
        refine AOps.cons rfl rfl (q_pick) ?_
        refine AOps.nil ?_
        refine AWp.cond_f rfl ?_
        refine AWp.skip ?_
        refine AWp.seq ?_
        have hc20 : (cutR (cutR b)).length = 20 := by omega
        have ho : soaO b = true := by rw [soaO, h1_5, h4_5, decide_eq_true (by omega)]; rfl
        have hv : soaV b = ⟨cutM b, cutM (cutR b), wd (cutR (cutR b)) 0 5, wd (cutR (cutR b)) 1 5, wd (cutR (cutR b)) 2 5, wd (cutR (cutR b)) 3 5, wd (cutR (cutR b)) 4 5⟩ := by rw [soaV, if_pos ho]
        have e0 : fourR (cutR (cutR b)) = wd (cutR (cutR b)) 0 5 := fourR_drop (j := 0) hc20 (by omega)
        have e1 : fourR ((cutR (cutR b)).drop (Int.toNat 4)) = wd (cutR (cutR b)) 1 5 := fourR_drop (j := 1) hc20 (by omega)
        have e2 : fourR ((cutR (cutR b)).drop (Int.toNat 8)) = wd (cutR (cutR b)) 2 5 := fourR_drop (j := 2) hc20 (by omega)
        have e3 : fourR ((cutR (cutR b)).drop (Int.toNat 12)) = wd (cutR (cutR b)) 3 5 := fourR_drop (j := 3) hc20 (by omega)
        have e4 : fourR ((cutR (cutR b)).drop (Int.toNat 16)) = wd (cutR (cutR b)) 4 5 := fourR_drop (j := 4) hc20 (by omega)
        refine AWp.draws [⟨0, [4], [], some 31, _, none⟩,
            ⟨1, [7], [], some 32, _, none⟩,
            ⟨2, [5], [], some 33, _, none⟩,
            ⟨3, [33], [], some 34, _, none⟩,
            ⟨4, [5], [], some 35, _, none⟩,
            ⟨5, [35], [], some 36, _, none⟩,
            ⟨6, [36], [], some 37, _, none⟩,
            ⟨7, [5], [], some 38, _, none⟩,
            ⟨8, [38], [], some 39, _, none⟩,
            ⟨9, [39], [], some 40, _, none⟩,
            ⟨10, [5], [], some 41, _, none⟩,
            ⟨11, [41], [], some 42, _, none⟩,
            ⟨12, [42], [], some 43, _, none⟩,
            ⟨13, [5], [], some 44, _, none⟩,
            ⟨14, [44], [], some 45, _, none⟩,
            ⟨15, [45], [], some 46, _, none⟩,
            ⟨16, [31, 32, 34, 37, 40, 43, 46], [], some 47, _, none⟩,
            ⟨17, [2, 47], [100], none, _, some (100, _)⟩,
            ⟨18, [], [], some 3, _, none⟩]
          [⟨0, [4], [], some 31, .any, none⟩,
              ⟨1, [7], [], some 32, .any, none⟩,
              ⟨2, [5], [], some 33, .any, none⟩,
              ⟨3, [33], [], some 34, .any, none⟩,
              ⟨4, [5], [], some 35, .any, none⟩,
              ⟨5, [35], [], some 36, .any, none⟩,
              ⟨6, [36], [], some 37, .any, none⟩,
              ⟨7, [5], [], some 38, .any, none⟩,
              ⟨8, [38], [], some 39, .any, none⟩,
              ⟨9, [39], [], some 40, .any, none⟩,
              ⟨10, [5], [], some 41, .any, none⟩,
              ⟨11, [41], [], some 42, .any, none⟩,
              ⟨12, [42], [], some 43, .any, none⟩,
              ⟨13, [5], [], some 44, .any, none⟩,
              ⟨14, [44], [], some 45, .any, none⟩,
              ⟨15, [45], [], some 46, .any, none⟩,
              ⟨16, [31, 32, 34, 37, 40, 43, 46], [], some 47, .any, none⟩,
              ⟨17, [2, 47], [100], none, .any, some (100, .box [])⟩,
              ⟨18, [], [], some 3, .any, none⟩]
          mixed_ok rfl (by kernel_rfl) ⟨DS.ok_over fun s0 => OpAt.go rfl rfl (q_move),
              DS.ok_over fun s0 => OpAt.go rfl rfl (q_move),
              DS.ok_over fun s0 => OpAt.go rfl rfl (q_move),
              DS.ok_over fun s0 => OpAt.go rfl rfl (q_call (lv) (hc := c_ciceroneref03_four _ _ (by first | assumption | omega | decide | (simp; omega) | (simp [*]; done)) (by first | assumption | omega | decide | (simp; omega) | (simp [*]; done)))),
              DS.ok_over fun s0 => OpAt.go rfl rfl (q_move),
              DS.ok_over fun s0 => OpAt.go rfl rfl (q_sl),
              DS.ok_over fun s0 => OpAt.go rfl rfl (q_call (lv) (hc := c_ciceroneref03_four _ _ (by first | assumption | omega | decide | (simp; omega) | (simp [*]; done)) (by first | assumption | omega | decide | (simp; omega) | (simp [*]; done)))),
              DS.ok_over fun s0 => OpAt.go rfl rfl (q_move),
              DS.ok_over fun s0 => OpAt.go rfl rfl (q_sl),
              DS.ok_over fun s0 => OpAt.go rfl rfl (q_call (lv) (hc := c_ciceroneref03_four _ _ (by first | assumption | omega | decide | (simp; omega) | (simp [*]; done)) (by first | assumption | omega | decide | (simp; omega) | (simp [*]; done)))),
              DS.ok_over fun s0 => OpAt.go rfl rfl (q_move),
              DS.ok_over fun s0 => OpAt.go rfl rfl (q_sl),
              DS.ok_over fun s0 => OpAt.go rfl rfl (q_call (lv) (hc := c_ciceroneref03_four _ _ (by first | assumption | omega | decide | (simp; omega) | (simp [*]; done)) (by first | assumption | omega | decide | (simp; omega) | (simp [*]; done)))),
              DS.ok_over fun s0 => OpAt.go rfl rfl (q_move),
              DS.ok_over fun s0 => OpAt.go rfl rfl (q_sl),
              DS.ok_over fun s0 => OpAt.go rfl rfl (q_call (lv) (hc := c_ciceroneref03_four _ _ (by first | assumption | omega | decide | (simp; omega) | (simp [*]; done)) (by first | assumption | omega | decide | (simp; omega) | (simp [*]; done)))),
              DS.ok_over fun s0 => OpAt.go rfl rfl (q_build [(_, _), (_, _), (_, _), (_, _), (_, _), (_, _), (_, _)]),
              DS.ok_over fun s0 => OpAt.go rfl rfl (q_store),
              DS.ok_over fun s0 => OpAt.go rfl rfl (q_assign), trivial⟩ ?_
        dsimp only [final, DS.upd, AS.seto]
        refine AWp.ret ?_
        show Fin te Try.f88 _ _
        refine q_ret (0) [_, _] [_, _] ?_
        rw [e0, e1, e2, e3, e4, hv, ho]; rfl
    · skip
      refine AOps.cons rfl rfl (q_assign) ?_
      refine AOps.cons rfl rfl (q_assign) ?_
      refine AOps.cons rfl rfl (q_assign) ?_
      refine AOps.nil ?_
      refine AWp.seq ?_
      refine AWp.seq ?_
      refine AWp.region ?_
      refine AOps.cons rfl rfl (q_move) ?_
      refine AOps.cons rfl rfl (q_not) ?_
      refine AOps.cons rfl rfl (q_move) ?_
      refine AOps.gskip rfl rfl rfl rfl rfl rfl rfl rfl ?_
      refine AOps.gskip rfl rfl rfl rfl rfl rfl rfl rfl ?_
      refine AOps.gskip rfl rfl rfl rfl rfl rfl rfl rfl ?_
      refine AOps.cons rfl rfl (q_pick) ?_
      refine AOps.nil ?_
      refine AWp.cond_t rfl ?_
      refine AWp.seq ?_
      refine AWp.region ?_
      refine AOps.cons rfl rfl (q_build []) ?_
      refine AOps.cons rfl rfl (q_store) ?_
      refine AOps.cons rfl rfl (q_assign) ?_
      refine AOps.nil ?_
      refine AWp.ret ?_
      show Fin te Try.f88 _ _
      refine q_ret (0) [_, _] [_, _] ?_
      have ho : soaO b = false := by rw [soaO, h4_5, Bool.false_and, Bool.and_false]
      rw [soaV_no ho, ho]; rfl
  · skip
    refine AOps.cons rfl rfl (q_assign) ?_
    refine AOps.cons rfl rfl (q_assign) ?_
    refine AOps.cons rfl rfl (q_assign) ?_
    refine AOps.nil ?_
    refine AWp.seq ?_
    refine AWp.seq ?_
    refine AWp.region ?_
    refine AOps.cons rfl rfl (q_move) ?_
    refine AOps.cons rfl rfl (q_not) ?_
    refine AOps.nil ?_
    refine AWp.cond_t rfl ?_
    refine AWp.seq ?_
    refine AWp.region ?_
    refine AOps.cons rfl rfl (q_build []) ?_
    refine AOps.cons rfl rfl (q_store) ?_
    refine AOps.cons rfl rfl (q_assign) ?_
    refine AOps.nil ?_
    refine AWp.ret ?_
    show Fin te Try.f88 _ _
    refine q_ret (0) [_, _] [_, _] ?_
    have ho : soaO b = false := by rw [soaO, h1_5]; rfl
    rw [soaV_no ho, ho]; rfl

set_option maxRecDepth 20000 in
set_option maxHeartbeats 2000000 in
theorem c_ciceroneref03_texts (b : List UInt8) (lv : Nat) (h : b.length ≤ 140737488351232) : AC Try.prog 89 [.fz lv b.length (cl bc b)] emp (Ret (tf (txtR b))) := by
  refine AC.intro te_ok (fn := Try.f89) ⟨Try.func89, rfl, rfl⟩ (Nat.le_of_ble_eq_true rfl) ?_
  refine AWp.seq ?_
  refine AWp.region ?_
  refine AOps.cons rfl rfl (q_assign) ?_
  refine AOps.nil ?_
  refine AWp.seq ?_
  refine AWp.seq ?_
  refine AWp.region ?_
  refine AOps.cons rfl rfl (q_move) ?_
  refine AOps.cons rfl rfl (q_len) ?_
  refine AOps.dec rfl rfl (q_eql) (fun h1_2 => ?_) (fun h1_2 => ?_)
  · skip
    refine AOps.nil ?_
    refine AWp.cond_t rfl ?_
    refine AWp.seq ?_
    refine AWp.region ?_
    refine AOps.cons rfl rfl (q_assign) ?_
    refine AOps.nil ?_
    refine AWp.ret ?_
    show Fin te Try.f89 _ _
    refine q_ret (0) [_] [_] ?_
    rw [txtR, decide_eq_false (by omega)]; rfl
  · skip
    refine AOps.nil ?_
    refine AWp.cond_f rfl ?_
    refine AWp.skip ?_
    refine AWp.seq ?_
    refine AWp.block ?_
    refine AWp.loopR (α := List UInt8) [0, 2, 3, 7, 8, 9, 10, 11, 12, 13, 14, 15, 16, 17, 18, 19, 20, 21, 22] (fun c => [(0, .fz lv c.length (cl bc c))]) (fun c => []) (fun c => txtW c = txtW b ∧ c.length ≤ b.length) (fun c => c.length) b ?_ (Back.mk' (HasT.cons HasT.nil) HasH.nil) ?_
    · exact ⟨rfl, Nat.le_refl _⟩
    · rintro c ⟨hc, hl⟩
      refine AWp.seq ?_
      refine AWp.seq ?_
      refine AWp.region ?_
      refine AOps.cons rfl rfl (q_move) ?_
      refine AOps.cons rfl rfl (q_len) ?_
      refine AOps.dec rfl rfl (q_gtr) (fun h3_2 => ?_) (fun h3_2 => ?_)
      · skip
        refine AOps.nil ?_
        refine AWp.cond_t rfl ?_
        refine AWp.skip ?_
        refine AWp.block ?_
        refine AWp.seq ?_
        refine AWp.region ?_
        have hk := (c.getD 0 default).toNat_lt
        have he : (c.getD (Int.toNat 0) default).toNat = (c.getD 0 default).toNat := rfl
        have hs : (c[0]?.getD default).toNat = (c.getD 0 default).toNat := congrArg UInt8.toNat (List.getD_eq_getElem?_getD).symm
        refine AOps.cons rfl rfl (q_move) ?_
        refine AOps.cons rfl rfl (q_ix) ?_
        refine AOps.cons rfl rfl (q_load) ?_
        refine AOps.cons rfl rfl (q_conv_8i) ?_
        refine AOps.cons rfl rfl (q_assign) ?_
        refine AOps.nil ?_
        refine AWp.seq ?_
        refine AWp.seq ?_
        refine AWp.region ?_
        refine AOps.cons rfl rfl (q_move) ?_
        refine AOps.cons rfl rfl (q_len) ?_
        refine AOps.cons rfl rfl (q_move) ?_
        refine AOps.cons rfl rfl (q_add) ?_
        refine AOps.dec rfl rfl (q_lss) (fun h5_4 => ?_) (fun h5_4 => ?_)
        · skip
          refine AOps.nil ?_
          refine AWp.cond_t rfl ?_
          refine AWp.seq ?_
          refine AWp.region ?_
          refine AOps.cons rfl rfl (q_assign) ?_
          refine AOps.nil ?_
          refine AWp.ret ?_
          show Fin te Try.f89 _ _
          refine q_ret (0) [_] [_] ?_
          rw [txtR, ← hc, txtW_no (by omega) (by omega), Bool.and_false]; rfl
        · skip
          refine AOps.nil ?_
          refine AWp.cond_f rfl ?_
          refine AWp.skip ?_
          refine AWp.region ?_
          refine AOps.cons rfl rfl (q_move) ?_
          refine AOps.cons rfl rfl (q_move) ?_
          refine AOps.cons rfl rfl (q_add) ?_
          refine AOps.cons rfl rfl (q_sl) ?_
          refine AOps.cons rfl rfl (q_assign) ?_
          refine AOps.nil ?_
          have e1 : ((1 : Int) + ((c.getD (Int.toNat 0) default).toNat : Int)).toNat = 1 + (c.getD 0 default).toNat := by omega
          refine ⟨_, ?_, Back.mk' (HasT.cons HasT.nil) HasH.nil, ?_⟩
          · rw [e1]; exact ⟨(txtW_step (by omega) (by omega)).symm.trans hc, by rw [List.length_drop]; omega⟩
          · rw [e1, List.length_drop]; omega
      · skip
        refine AOps.nil ?_
        refine AWp.cond_f rfl ?_
        refine AWp.exit ?_
        refine AWp.seq ?_
        refine AWp.region ?_
        refine AOps.cons rfl rfl (q_assign) ?_
        refine AOps.nil ?_
        refine AWp.ret ?_
        show Fin te Try.f89 _ _
        refine q_ret (0) [_] [_] ?_
        rw [txtR, ← hc, txtW_end (by omega), Bool.and_true, decide_eq_true (by omega)]; rfl

set_option maxRecDepth 20000 in
set_option maxHeartbeats 2000000 in
theorem c_ciceroneref03_options (b : List UInt8) (lv : Nat) (h : b.length ≤ 140737488351232) : AC Try.prog 90 [.fz lv b.length (cl bc b)] emp (Ret (tf (optR b))) := by
  refine AC.intro te_ok (fn := Try.f90) ⟨Try.func90, rfl, rfl⟩ (Nat.le_of_ble_eq_true rfl) ?_
  refine AWp.seq ?_
  refine AWp.region ?_
  refine AOps.cons rfl rfl (q_assign) ?_
  refine AOps.nil ?_
  refine AWp.seq ?_
  refine AWp.block ?_
  refine AWp.loopR (α := List UInt8) [0, 2, 3, 4, 5, 6, 7, 8, 9, 10, 11, 12, 13, 14, 15, 16, 17, 18, 19, 20, 21, 22, 23, 24, 25, 26, 27, 28] (fun c => [(0, .fz lv c.length (cl bc c))]) (fun c => []) (fun c => optR c = optR b ∧ c.length ≤ b.length) (fun c => c.length) b ?_ (Back.mk' (HasT.cons HasT.nil) HasH.nil) ?_
  · exact ⟨rfl, Nat.le_refl _⟩
  · rintro c ⟨hc, hl⟩
    refine AWp.seq ?_
    refine AWp.seq ?_
    refine AWp.region ?_
    refine AOps.cons rfl rfl (q_move) ?_
    refine AOps.cons rfl rfl (q_len) ?_
    refine AOps.dec rfl rfl (q_gtr) (fun h1_2 => ?_) (fun h1_2 => ?_)
    · skip
      refine AOps.nil ?_
      refine AWp.cond_t rfl ?_
      refine AWp.skip ?_
      refine AWp.block ?_
      refine AWp.seq ?_
      refine AWp.seq ?_
      refine AWp.region ?_
      refine AOps.cons rfl rfl (q_move) ?_
      refine AOps.cons rfl rfl (q_len) ?_
      refine AOps.dec rfl rfl (q_lss) (fun h2_2 => ?_) (fun h2_2 => ?_)
      · skip
        refine AOps.nil ?_
        refine AWp.cond_t rfl ?_
        refine AWp.seq ?_
        refine AWp.region ?_
        refine AOps.cons rfl rfl (q_assign) ?_
        refine AOps.nil ?_
        refine AWp.ret ?_
        show Fin te Try.f90 _ _
        refine q_ret (0) [_] [_] ?_
        rw [← hc, optR_no (by omega) (by omega)]; rfl
      · skip
        refine AOps.nil ?_
        refine AWp.cond_f rfl ?_
        refine AWp.skip ?_
        refine AWp.seq ?_
        have hk2 := (c.getD 2 default).toNat_lt
        have hk3 := (c.getD 3 default).toNat_lt
        have he2 : (c.getD (Int.toNat 2) default).toNat = (c.getD 2 default).toNat := rfl
        have he3 : (c.getD (Int.toNat 3) default).toNat = (c.getD 3 default).toNat := rfl
        have hs2 : (c[2]?.getD default).toNat = (c.getD 2 default).toNat := congrArg UInt8.toNat (List.getD_eq_getElem?_getD).symm
        have hs3 : (c[3]?.getD default).toNat = (c.getD 3 default).toNat := congrArg UInt8.toNat (List.getD_eq_getElem?_getD).symm
        refine AWp.draws [⟨0, [0], [], some 10, _, none⟩,
            ⟨1, [10], [], some 11, _, none⟩,
            ⟨2, [11], [], some 12, _, none⟩,
            ⟨3, [12], [], some 13, _, none⟩,
            ⟨4, [13], [], some 14, _, none⟩,
            ⟨5, [0], [], some 15, _, none⟩,
            ⟨6, [15], [], some 16, _, none⟩,
            ⟨7, [16], [], some 17, _, none⟩,
            ⟨8, [17], [], some 18, _, none⟩,
            ⟨9, [14, 18], [], some 19, _, none⟩,
            ⟨10, [19], [], some 3, _, none⟩]
          [⟨0, [0], [], some 10, .any, none⟩,
              ⟨1, [10], [], some 11, .any, none⟩,
              ⟨2, [11], [], some 12, .any, none⟩,
              ⟨3, [12], [], some 13, .any, none⟩,
              ⟨4, [13], [], some 14, .any, none⟩,
              ⟨5, [0], [], some 15, .any, none⟩,
              ⟨6, [15], [], some 16, .any, none⟩,
              ⟨7, [16], [], some 17, .any, none⟩,
              ⟨8, [17], [], some 18, .any, none⟩,
              ⟨9, [14, 18], [], some 19, .any, none⟩,
              ⟨10, [19], [], some 3, .any, none⟩]
          mixed_ok rfl (by kernel_rfl) ⟨DS.ok_over fun s0 => OpAt.go rfl rfl (q_move),
              DS.ok_over fun s0 => OpAt.go rfl rfl (q_ix),
              DS.ok_over fun s0 => OpAt.go rfl rfl (q_load),
              DS.ok_over fun s0 => OpAt.go rfl rfl (q_conv_8i),
              DS.ok_over fun s0 => OpAt.go rfl rfl (q_mul),
              DS.ok_over fun s0 => OpAt.go rfl rfl (q_move),
              DS.ok_over fun s0 => OpAt.go rfl rfl (q_ix),
              DS.ok_over fun s0 => OpAt.go rfl rfl (q_load),
              DS.ok_over fun s0 => OpAt.go rfl rfl (q_conv_8i),
              DS.ok_over fun s0 => OpAt.go rfl rfl (q_add),
              DS.ok_over fun s0 => OpAt.go rfl rfl (q_assign), trivial⟩ ?_
        dsimp only [final, DS.upd, AS.seto]
        refine AWp.seq ?_
        refine AWp.seq ?_
        refine AWp.region ?_
        refine AOps.cons rfl rfl (q_move) ?_
        refine AOps.cons rfl rfl (q_len) ?_
        refine AOps.cons rfl rfl (q_move) ?_
        refine AOps.cons rfl rfl (q_add) ?_
        refine AOps.dec rfl rfl (q_lss) (fun h5_4 => ?_) (fun h5_4 => ?_)
        · skip
          refine AOps.nil ?_
          refine AWp.cond_t rfl ?_
          refine AWp.seq ?_
          refine AWp.region ?_
          refine AOps.cons rfl rfl (q_assign) ?_
          refine AOps.nil ?_
          refine AWp.ret ?_
          show Fin te Try.f90 _ _
          refine q_ret (0) [_] [_] ?_
          rw [← hc, optR_no (by omega) (Or.inr (by unfold optK; omega))]; rfl
        · skip
          refine AOps.nil ?_
          refine AWp.cond_f rfl ?_
          refine AWp.skip ?_
          refine AWp.region ?_
          refine AOps.cons rfl rfl (q_move) ?_
          refine AOps.cons rfl rfl (q_move) ?_
          refine AOps.cons rfl rfl (q_add) ?_
          refine AOps.cons rfl rfl (q_sl) ?_
          refine AOps.cons rfl rfl (q_assign) ?_
          refine AOps.nil ?_
          have e1 : (4 + (((c.getD (Int.toNat 2) default).toNat : Int) * 256 + ((c.getD (Int.toNat 3) default).toNat : Int))).toNat = optK c := by unfold optK; omega
          refine ⟨_, ?_, Back.mk' (HasT.cons HasT.nil) HasH.nil, ?_⟩
          · rw [e1]; exact ⟨(optR_step (by omega) (by omega) (by unfold optK; omega)).symm.trans hc, by rw [List.length_drop]; omega⟩
          · rw [e1, List.length_drop]; unfold optK; omega
    · skip
      refine AOps.nil ?_
      refine AWp.cond_f rfl ?_
      refine AWp.exit ?_
      refine AWp.seq ?_
      refine AWp.region ?_
      refine AOps.cons rfl rfl (q_assign) ?_
      refine AOps.nil ?_
      refine AWp.ret ?_
      show Fin te Try.f90 _ _
      refine q_ret (0) [_] [_] ?_
      rw [← hc, optR_end (by omega)]; rfl

set_option maxRecDepth 20000 in
set_option maxHeartbeats 2000000 in
theorem c_Can6 (b : List UInt8) (lv : Nat) (h : b.length ≤ 140737488351232) : AC Try.prog 53 [i64 6, .fz lv b.length (cl bc b)] emp (Ret (tf (canS 6 b))) := by
  refine AC.intro te_ok (fn := Try.f53) ⟨Try.func53, rfl, rfl⟩ (Nat.le_of_ble_eq_true rfl) ?_
  refine AWp.seq ?_
  refine AWp.region ?_
  refine AOps.cons rfl rfl (q_assign) ?_
  refine AOps.nil ?_
  refine AWp.seq ?_
  refine AWp.seq ?_
  refine AWp.region ?_
  refine AOps.cons rfl rfl (q_move) ?_
  refine AOps.dec rfl rfl (q_lss) (fun h1_1 => ?_) (fun h1_1 => ?_)
  · exfalso; omega
  · skip
    refine AOps.cons rfl rfl (q_move) ?_
    refine AOps.gcons rfl rfl rfl rfl rfl (q_move) ?_
    refine AOps.gdec rfl rfl rfl rfl rfl (q_gtr) (fun h1_4 => ?_) (fun h1_4 => ?_)
    · exfalso; omega
    · skip
      refine AOps.cons rfl rfl (q_pick) ?_
      refine AOps.cons rfl rfl (q_move) ?_
      refine AOps.gcons rfl rfl rfl rfl rfl (q_move) ?_
      refine AOps.gcons rfl rfl rfl rfl rfl (q_len) ?_
      refine AOps.gdec rfl rfl rfl rfl rfl (q_gtr) (fun h1_9 => ?_) (fun h1_9 => ?_)
      · skip
        refine AOps.cons rfl rfl (q_pick) ?_
        refine AOps.nil ?_
        refine AWp.cond_t rfl ?_
        refine AWp.seq ?_
        refine AWp.region ?_
        refine AOps.cons rfl rfl (q_assign) ?_
        refine AOps.nil ?_
        refine AWp.ret ?_
        show Fin te Try.f53 _ _
        refine q_ret (0) [_] [_] ?_
        rw [canS_6n (by omega)]; rfl
      · skip
        refine AOps.cons rfl rfl (q_pick) ?_
        refine AOps.nil ?_
        refine AWp.cond_f rfl ?_
        refine AWp.skip ?_
        refine AWp.seq ?_
        refine AWp.seq ?_
        refine AWp.region ?_
        refine AOps.cons rfl rfl (q_move) ?_
        refine AOps.nil ?_
        refine AWp.block ?_
        refine AWp.seq ?_
        refine AWp.region ?_
        refine AOps.dec rfl rfl (q_eql) (fun h4_0 => ?_) (fun h4_0 => ?_)
        · exfalso; omega
        · skip
          refine AOps.cons rfl rfl (q_assign) ?_
          refine AOps.nil ?_
          refine AWp.cond_f rfl ?_
          refine AWp.seq ?_
          refine AWp.region ?_
          refine AOps.dec rfl rfl (q_eql) (fun h6_0 => ?_) (fun h6_0 => ?_)
          · exfalso; omega
          · skip
            refine AOps.cons rfl rfl (q_assign) ?_
            refine AOps.nil ?_
            refine AWp.cond_f rfl ?_
            refine AWp.seq ?_
            refine AWp.seq ?_
            refine AWp.region ?_
            refine AOps.dec rfl rfl (q_eql) (fun h8_0 => ?_) (fun h8_0 => ?_)
            · exfalso; omega
            · skip
              refine AOps.cons rfl rfl (q_assign) ?_
              refine AOps.nil ?_
              refine AWp.cond_f rfl ?_
              refine AWp.seq ?_
              refine AWp.region ?_
              refine AOps.dec rfl rfl (q_eql) (fun h9_0 => ?_) (fun h9_0 => ?_)
              · exfalso; omega
              · skip
                refine AOps.cons rfl rfl (q_assign) ?_
                refine AOps.nil ?_
                refine AWp.cond_f rfl ?_
                refine AWp.region ?_
                refine AOps.dec rfl rfl (q_eql) (fun h10_0 => ?_) (fun h10_0 => ?_)
                · exfalso; omega
                · skip
                  refine AOps.cons rfl rfl (q_assign) ?_
                  refine AOps.nil ?_
                  refine AWp.cond_f rfl ?_
                  refine AWp.seq ?_
                  refine AWp.region ?_
                  refine AOps.dec rfl rfl (q_eql) (fun h12_0 => ?_) (fun h12_0 => ?_)
                  · exfalso; omega
                  · skip
                    refine AOps.cons rfl rfl (q_assign) ?_
                    refine AOps.nil ?_
                    refine AWp.cond_f rfl ?_
                    refine AWp.seq ?_
                    refine AWp.region ?_
                    refine AOps.dec rfl rfl (q_eql) (fun h14_0 => ?_) (fun h14_0 => ?_)
                    · exfalso; omega
                    · skip
                      refine AOps.cons rfl rfl (q_assign) ?_
                      refine AOps.nil ?_
                      refine AWp.cond_f rfl ?_
                      refine AWp.seq ?_
                      refine AWp.region ?_
                      refine AOps.dec rfl rfl (q_eql) (fun h16_0 => ?_) (fun h16_0 => ?_)
                      · exfalso; omega
                      · skip
                        refine AOps.cons rfl rfl (q_assign) ?_
                        refine AOps.nil ?_
                        refine AWp.cond_f rfl ?_
                        refine AWp.seq ?_
                        refine AWp.region ?_
                        refine AOps.dec rfl rfl (q_eql) (fun h18_0 => ?_) (fun h18_0 => ?_)
                        · skip
                          refine AOps.cons rfl rfl (q_assign) ?_
                          refine AOps.nil ?_
                          refine AWp.cond_t rfl ?_
                          refine AWp.seq ?_
                          refine AWp.region ?_
                          refine AOps.cons rfl rfl (q_move) ?_
                          refine AOps.cons rfl rfl (q_call (lv) (hc := c_rdata_SOA _ _ (by first | assumption | omega | decide | (simp; omega) | (simp [*]; done)))) ?_
                          refine AOps.cons rfl rfl (q_move) ?_
                          refine AOps.cons rfl rfl (q_extract) ?_
                          refine AOps.cons rfl rfl (q_extract) ?_
                          refine AOps.cons rfl rfl (q_alloc 2005) ?_
                          refine AOps.cons rfl rfl (q_store) ?_
                          refine AOps.cons rfl rfl (q_assign) ?_
                          refine AOps.nil ?_
                          refine AWp.seq ?_
                          refine AWp.region ?_
                          refine AOps.cons rfl rfl (q_move) ?_
                          refine AOps.cons rfl rfl (q_assign) ?_
                          refine AOps.nil ?_
                          refine AWp.ret ?_
                          show Fin te Try.f53 _ _
                          refine q_ret (0) [_] [_] ?_
                          rw [canS_6 (by omega)]; rfl
                        · exfalso; omega

set_option maxRecDepth 20000 in
set_option maxHeartbeats 2000000 in
theorem c_Names6 (b : List UInt8) (lv : Nat) (h : b.length ≤ 140737488351232) : AC Try.prog 64 [i64 6, .fz lv b.length (cl bc b)] emp (Ret (.fz 0 (namS 6 b).length (cl sc (namS 6 b)))) := by
  refine AC.intro te_ok (fn := Try.f64) ⟨Try.func64, rfl, rfl⟩ (Nat.le_of_ble_eq_true rfl) ?_
  refine AWp.seq ?_
  refine AWp.region ?_
  refine AOps.cons rfl rfl (q_nilz (0) sc) ?_
  refine AOps.nil ?_
  refine AWp.seq ?_
  refine AWp.seq ?_
  refine AWp.region ?_
  refine AOps.cons rfl rfl (q_move) ?_
  refine AOps.cons rfl rfl (q_move) ?_
  refine AOps.bool rfl rfl (q_call (lv) (hc := c_Can6 b lv h)) (fun h1_2 => ?_) (fun h1_2 => ?_)
  · skip
    refine AOps.cons rfl rfl (q_not) ?_
    refine AOps.nil ?_
    refine AWp.cond_f rfl ?_
    refine AWp.skip ?_
    refine AWp.seq ?_
    refine AWp.seq ?_
    refine AWp.region ?_
    refine AOps.cons rfl rfl (q_move) ?_
    refine AOps.nil ?_
    refine AWp.block ?_
    refine AWp.seq ?_
    refine AWp.seq ?_
    refine AWp.region ?_
    refine AOps.dec rfl rfl (q_eql) (fun h4_0 => ?_) (fun h4_0 => ?_)
    · exfalso; omega
    · skip
      refine AOps.cons rfl rfl (q_assign) ?_
      refine AOps.nil ?_
      refine AWp.cond_f rfl ?_
      refine AWp.seq ?_
      refine AWp.region ?_
      refine AOps.dec rfl rfl (q_eql) (fun h5_0 => ?_) (fun h5_0 => ?_)
      · exfalso; omega
      · skip
        refine AOps.cons rfl rfl (q_assign) ?_
        refine AOps.nil ?_
        refine AWp.cond_f rfl ?_
        refine AWp.region ?_
        refine AOps.dec rfl rfl (q_eql) (fun h6_0 => ?_) (fun h6_0 => ?_)
        · exfalso; omega
        · skip
          refine AOps.cons rfl rfl (q_assign) ?_
          refine AOps.nil ?_
          refine AWp.cond_f rfl ?_
          refine AWp.seq ?_
          refine AWp.region ?_
          refine AOps.dec rfl rfl (q_eql) (fun h8_0 => ?_) (fun h8_0 => ?_)
          · exfalso; omega
          · skip
            refine AOps.cons rfl rfl (q_assign) ?_
            refine AOps.nil ?_
            refine AWp.cond_f rfl ?_
            refine AWp.seq ?_
            refine AWp.region ?_
            refine AOps.dec rfl rfl (q_eql) (fun h10_0 => ?_) (fun h10_0 => ?_)
            · skip
              refine AOps.cons rfl rfl (q_assign) ?_
              refine AOps.nil ?_
              refine AWp.cond_t rfl ?_
              refine AWp.seq ?_
              refine AWp.region ?_
              refine AOps.cons rfl rfl (q_move) ?_
              refine AOps.cons rfl rfl (q_call (lv) (hc := c_rdata_SOA _ _ (by first | assumption | omega | decide | (simp; omega) | (simp [*]; done)))) ?_
              refine AOps.cons rfl rfl (q_move) ?_
              refine AOps.cons rfl rfl (q_extract) ?_
              refine AOps.cons rfl rfl (q_extract) ?_
              refine AOps.cons rfl rfl (q_alloc 1205) ?_
              refine AOps.cons rfl rfl (q_store) ?_
              refine AOps.cons rfl rfl (q_assign) ?_
              refine AOps.nil ?_
              refine AWp.seq ?_
              refine AWp.region ?_
              refine AOps.cons rfl rfl (q_fa) ?_
              refine AOps.cons rfl rfl (q_load) ?_
              refine AOps.cons rfl rfl (q_fa) ?_
              refine AOps.cons rfl rfl (q_load) ?_
              refine AOps.cons rfl rfl (q_bs 1304 sc [_, _] [(_, _), (_, _)]) ?_
              refine AOps.cons rfl rfl (q_assign) ?_
              refine AOps.nil ?_
              refine AWp.ret ?_
              show Fin te Try.f64 _ _
              refine q_ret (0) [_] [_] ?_
              rw [namS, if_pos rfl, if_pos h1_2]; rfl
            · exfalso; omega
  · skip
    refine AOps.cons rfl rfl (q_not) ?_
    refine AOps.nil ?_
    refine AWp.cond_t rfl ?_
    refine AWp.seq ?_
    refine AWp.region ?_
    refine AOps.cons rfl rfl (q_nilz (0) sc) ?_
    refine AOps.nil ?_
    refine AWp.ret ?_
    show Fin te Try.f64 _ _
    refine q_ret (0) [_] [_] ?_
    rw [namS, if_pos rfl, if_neg (by simp [h1_2])]; rfl

end Go.Proofs.Ytkfccjbihcbmiaa.Fw

/- Messages: sameness and copies. -/
set_option linter.unusedVariables false
set_option linter.unusedSimpArgs false
namespace Go.Proofs.Ytkfccjbihcbmiaa.Fw
open Go.RowKit


structure Rr where
  nm : List UInt8
  ty : Int
  cs : Int
  ttl : Int
  da : List UInt8
  deriving Inhabited, DecidableEq
structure Qu where
  nm : List UInt8
  ty : Int
  cs : Int
  deriving Inhabited, DecidableEq
structure Hdr where
  id : Int
  resp : Bool
  op : Int
  aa : Bool
  tc : Bool
  rd : Bool
  ra : Bool
  code : Int
  deriving Inhabited, DecidableEq
structure Msg where
  h : Hdr
  qs : List Qu
  an : List Rr
  au : List Rr
  ad : List Rr
  deriving Inhabited, DecidableEq
def rrc (x : Rr) : List AV := [str x.nm, i64 x.ty, i64 x.cs, i64 x.ttl, .fz 0 x.da.length (cl bc x.da)]
def quc (x : Qu) : List AV := [str x.nm, i64 x.ty, i64 x.cs]
def msgC (m : Msg) : List AV := [i64 m.h.id, tf m.h.resp, i64 m.h.op, tf m.h.aa, tf m.h.tc, tf m.h.rd, tf m.h.ra, i64 m.h.code, .fz 0 m.qs.length (cl quc m.qs), .fz 0 m.an.length (cl rrc m.an), .fz 0 m.au.length (cl rrc m.au), .fz 0 m.ad.length (cl rrc m.ad)]
def RrsOk (l : List Rr) : Prop := l.length * 64 ≤ 140737488351232 ∧ ∀ x ∈ l, x.da.length ≤ 140737488351232
def MsgOk (m : Msg) : Prop := m.qs.length * 32 ≤ 140737488351232 ∧ RrsOk m.an ∧ RrsOk m.au ∧ RrsOk m.ad
theorem rr_eq {a b : Rr} : a = b ↔ a.nm = b.nm ∧ a.ty = b.ty ∧ a.cs = b.cs ∧ a.ttl = b.ttl ∧ a.da = b.da := by cases a; cases b; simp
theorem qu_eq {a b : Qu} : a = b ↔ a.nm = b.nm ∧ a.ty = b.ty ∧ a.cs = b.cs := by cases a; cases b; simp
theorem msg_eq {a b : Msg} : a = b ↔ a.h = b.h ∧ a.qs = b.qs ∧ a.an = b.an ∧ a.au = b.au ∧ a.ad = b.ad := by cases a; cases b; simp
theorem quV (x y : Qu) : eqV ((quc x).map unv) ((quc y).map unv) = decide (x = y) := by
  cases x; cases y
  simp [quc, eqV, eq1, unv]
theorem hdV (x y : Hdr) : eqV [.int .i64 x.id, .bool x.resp, .int .i64 x.op, .bool x.aa, .bool x.tc, .bool x.rd, .bool x.ra, .int .i64 x.code] [.int .i64 y.id, .bool y.resp, .int .i64 y.op, .bool y.aa, .bool y.tc, .bool y.rd, .bool y.ra, .int .i64 y.code] = decide (x = y) := by
  cases x; cases y
  rw [Bool.eq_iff_iff]
  simp [eqV, eq1]
theorem eq_step' {α : Type} [Inhabited α] {a b : List α} {i : Nat} (ha : i < a.length) (hb : i < b.length) (h : a.take i = b.take i) (e : a.getD i default = b.getD i default) : a.take (i + 1) = b.take (i + 1) := by
  rw [List.take_succ_eq_append_getElem ha, List.take_succ_eq_append_getElem hb, h]
  rw [List.getD_eq_getElem?_getD, List.getD_eq_getElem?_getD, List.getElem?_eq_getElem ha, List.getElem?_eq_getElem hb, Option.getD_some, Option.getD_some] at e
  rw [e]
theorem take_step' {α : Type} [Inhabited α] {l : List α} {i : Nat} (hi : i < l.length) : l.take (i + 1) = l.take i ++ [l.getD i default] := by
  have := take_map_step (fun y => y) (l := l) hi
  simpa using this

set_option maxRecDepth 20000 in
set_option maxHeartbeats 2000000 in
theorem c_wire_Same_1 (a b : Rr) : AC Try.prog 46 [.agg (rrc a), .agg (rrc b)] emp (Ret (tf (decide (a = b)))) := by
  refine AC.intro te_ok (fn := Try.f46) ⟨Try.func46, rfl, rfl⟩ (Nat.le_of_ble_eq_true rfl) ?_
  refine AWp.seq ?_
  refine AWp.region ?_
  refine AOps.cons rfl rfl (q_box 100) ?_
  refine AOps.cons rfl rfl (q_box 101) ?_
  refine AOps.cons rfl rfl (q_assign) ?_
  refine AOps.nil ?_
  refine AWp.seq ?_
  refine AWp.region ?_
  refine AOps.cons rfl rfl (q_fa) ?_
  refine AOps.cons rfl rfl (q_load) ?_
  refine AOps.cons rfl rfl (q_fa) ?_
  refine AOps.cons rfl rfl (q_load) ?_
  refine AOps.dec rfl rfl (q_seql) (fun h1_4 => ?_) (fun h1_4 => ?_)
  · skip
    refine AOps.cons rfl rfl (q_move) ?_
    refine AOps.gcons rfl rfl rfl rfl rfl (q_fa) ?_
    refine AOps.gcons rfl rfl rfl rfl rfl (q_load) ?_
    refine AOps.gcons rfl rfl rfl rfl rfl (q_fa) ?_
    refine AOps.gcons rfl rfl rfl rfl rfl (q_load) ?_
    refine AOps.gdec rfl rfl rfl rfl rfl (q_eql) (fun h1_10 => ?_) (fun h1_10 => ?_)
    · skip
      refine AOps.cons rfl rfl (q_pick) ?_
      refine AOps.cons rfl rfl (q_move) ?_
      refine AOps.gcons rfl rfl rfl rfl rfl (q_fa) ?_
      refine AOps.gcons rfl rfl rfl rfl rfl (q_load) ?_
      refine AOps.gcons rfl rfl rfl rfl rfl (q_fa) ?_
      refine AOps.gcons rfl rfl rfl rfl rfl (q_load) ?_
      refine AOps.gdec rfl rfl rfl rfl rfl (q_eql) (fun h1_17 => ?_) (fun h1_17 => ?_)
      · skip
        refine AOps.cons rfl rfl (q_pick) ?_
        refine AOps.cons rfl rfl (q_move) ?_
        refine AOps.gcons rfl rfl rfl rfl rfl (q_fa) ?_
        refine AOps.gcons rfl rfl rfl rfl rfl (q_load) ?_
        refine AOps.gcons rfl rfl rfl rfl rfl (q_fa) ?_
        refine AOps.gcons rfl rfl rfl rfl rfl (q_load) ?_
        refine AOps.gdec rfl rfl rfl rfl rfl (q_eql) (fun h1_24 => ?_) (fun h1_24 => ?_)
        · skip
          refine AOps.cons rfl rfl (q_pick) ?_
          refine AOps.cons rfl rfl (q_move) ?_
          refine AOps.gcons rfl rfl rfl rfl rfl (q_fa) ?_
          refine AOps.gcons rfl rfl rfl rfl rfl (q_load) ?_
          refine AOps.gcons rfl rfl rfl rfl rfl (q_fa) ?_
          refine AOps.gcons rfl rfl rfl rfl rfl (q_load) ?_
          refine AOps.gcons rfl rfl rfl rfl rfl (q_call (0) (hc := c_bytes_Equal _ _ _ _)) ?_
          refine AOps.cons rfl rfl (q_pick) ?_
          refine AOps.cons rfl rfl (q_assign) ?_
          refine AOps.nil ?_
          refine AWp.ret ?_
          show Fin te Try.f46 _ _
          refine q_ret (0) [_] [_] ?_
          exact congrArg tf (decide_eq_decide.2 (by rw [rr_eq]; simp [*]))
        · skip
          refine AOps.cons rfl rfl (q_pick) ?_
          refine AOps.cons rfl rfl (q_move) ?_
          refine AOps.gskip rfl rfl rfl rfl rfl rfl rfl rfl ?_
          refine AOps.gskip rfl rfl rfl rfl rfl rfl rfl rfl ?_
          refine AOps.gskip rfl rfl rfl rfl rfl rfl rfl rfl ?_
          refine AOps.gskip rfl rfl rfl rfl rfl rfl rfl rfl ?_
          refine AOps.gskip rfl rfl rfl rfl rfl rfl rfl rfl ?_
          refine AOps.cons rfl rfl (q_pick) ?_
          refine AOps.cons rfl rfl (q_assign) ?_
          refine AOps.nil ?_
          refine AWp.ret ?_
          show Fin te Try.f46 _ _
          refine q_ret (0) [_] [_] ?_
          rw [decide_eq_false (fun e => h1_24 (by rw [e]))]; rfl
      · skip
        refine AOps.cons rfl rfl (q_pick) ?_
        refine AOps.cons rfl rfl (q_move) ?_
        refine AOps.gskip rfl rfl rfl rfl rfl rfl rfl rfl ?_
        refine AOps.gskip rfl rfl rfl rfl rfl rfl rfl rfl ?_
        refine AOps.gskip rfl rfl rfl rfl rfl rfl rfl rfl ?_
        refine AOps.gskip rfl rfl rfl rfl rfl rfl rfl rfl ?_
        refine AOps.gskip rfl rfl rfl rfl rfl rfl rfl rfl ?_
        refine AOps.cons rfl rfl (q_pick) ?_
        refine AOps.cons rfl rfl (q_move) ?_
        refine AOps.gskip rfl rfl rfl rfl rfl rfl rfl rfl ?_
        refine AOps.gskip rfl rfl rfl rfl rfl rfl rfl rfl ?_
        refine AOps.gskip rfl rfl rfl rfl rfl rfl rfl rfl ?_
        refine AOps.gskip rfl rfl rfl rfl rfl rfl rfl rfl ?_
        refine AOps.gskip rfl rfl rfl rfl rfl rfl rfl rfl ?_
        refine AOps.cons rfl rfl (q_pick) ?_
        refine AOps.cons rfl rfl (q_assign) ?_
        refine AOps.nil ?_
        refine AWp.ret ?_
        show Fin te Try.f46 _ _
        refine q_ret (0) [_] [_] ?_
        rw [decide_eq_false (fun e => h1_17 (by rw [e]))]; rfl
    · skip
      refine AOps.cons rfl rfl (q_pick) ?_
      refine AOps.cons rfl rfl (q_move) ?_
      refine AOps.gskip rfl rfl rfl rfl rfl rfl rfl rfl ?_
      refine AOps.gskip rfl rfl rfl rfl rfl rfl rfl rfl ?_
      refine AOps.gskip rfl rfl rfl rfl rfl rfl rfl rfl ?_
      refine AOps.gskip rfl rfl rfl rfl rfl rfl rfl rfl ?_
      refine AOps.gskip rfl rfl rfl rfl rfl rfl rfl rfl ?_
      refine AOps.cons rfl rfl (q_pick) ?_
      refine AOps.cons rfl rfl (q_move) ?_
      refine AOps.gskip rfl rfl rfl rfl rfl rfl rfl rfl ?_
      refine AOps.gskip rfl rfl rfl rfl rfl rfl rfl rfl ?_
      refine AOps.gskip rfl rfl rfl rfl rfl rfl rfl rfl ?_
      refine AOps.gskip rfl rfl rfl rfl rfl rfl rfl rfl ?_
      refine AOps.gskip rfl rfl rfl rfl rfl rfl rfl rfl ?_
      refine AOps.cons rfl rfl (q_pick) ?_
      refine AOps.cons rfl rfl (q_move) ?_
      refine AOps.gskip rfl rfl rfl rfl rfl rfl rfl rfl ?_
      refine AOps.gskip rfl rfl rfl rfl rfl rfl rfl rfl ?_
      refine AOps.gskip rfl rfl rfl rfl rfl rfl rfl rfl ?_
      refine AOps.gskip rfl rfl rfl rfl rfl rfl rfl rfl ?_
      refine AOps.gskip rfl rfl rfl rfl rfl rfl rfl rfl ?_
      refine AOps.cons rfl rfl (q_pick) ?_
      refine AOps.cons rfl rfl (q_assign) ?_
      refine AOps.nil ?_
      refine AWp.ret ?_
      show Fin te Try.f46 _ _
      refine q_ret (0) [_] [_] ?_
      rw [decide_eq_false (fun e => h1_10 (by rw [e]))]; rfl
  · skip
    refine AOps.cons rfl rfl (q_move) ?_
    refine AOps.gskip rfl rfl rfl rfl rfl rfl rfl rfl ?_
    refine AOps.gskip rfl rfl rfl rfl rfl rfl rfl rfl ?_
    refine AOps.gskip rfl rfl rfl rfl rfl rfl rfl rfl ?_
    refine AOps.gskip rfl rfl rfl rfl rfl rfl rfl rfl ?_
    refine AOps.gskip rfl rfl rfl rfl rfl rfl rfl rfl ?_
    refine AOps.cons rfl rfl (q_pick) ?_
    refine AOps.cons rfl rfl (q_move) ?_
    refine AOps.gskip rfl rfl rfl rfl rfl rfl rfl rfl ?_
    refine AOps.gskip rfl rfl rfl rfl rfl rfl rfl rfl ?_
    refine AOps.gskip rfl rfl rfl rfl rfl rfl rfl rfl ?_
    refine AOps.gskip rfl rfl rfl rfl rfl rfl rfl rfl ?_
    refine AOps.gskip rfl rfl rfl rfl rfl rfl rfl rfl ?_
    refine AOps.cons rfl rfl (q_pick) ?_
    refine AOps.cons rfl rfl (q_move) ?_
    refine AOps.gskip rfl rfl rfl rfl rfl rfl rfl rfl ?_
    refine AOps.gskip rfl rfl rfl rfl rfl rfl rfl rfl ?_
    refine AOps.gskip rfl rfl rfl rfl rfl rfl rfl rfl ?_
    refine AOps.gskip rfl rfl rfl rfl rfl rfl rfl rfl ?_
    refine AOps.gskip rfl rfl rfl rfl rfl rfl rfl rfl ?_
    refine AOps.cons rfl rfl (q_pick) ?_
    refine AOps.cons rfl rfl (q_move) ?_
    refine AOps.gskip rfl rfl rfl rfl rfl rfl rfl rfl ?_
    refine AOps.gskip rfl rfl rfl rfl rfl rfl rfl rfl ?_
    refine AOps.gskip rfl rfl rfl rfl rfl rfl rfl rfl ?_
    refine AOps.gskip rfl rfl rfl rfl rfl rfl rfl rfl ?_
    refine AOps.gskip rfl rfl rfl rfl rfl rfl rfl rfl ?_
    refine AOps.cons rfl rfl (q_pick) ?_
    refine AOps.cons rfl rfl (q_assign) ?_
    refine AOps.nil ?_
    refine AWp.ret ?_
    show Fin te Try.f46 _ _
    refine q_ret (0) [_] [_] ?_
    rw [decide_eq_false (fun e => h1_4 (by rw [e]))]; rfl

set_option maxRecDepth 20000 in
set_option maxHeartbeats 2000000 in
theorem c_ciceroneplain_sameRR (a b : Rr) : AC Try.prog 76 [.agg (rrc a), .agg (rrc b)] emp (Ret (tf (decide (a = b)))) := by
  refine AC.intro te_ok (fn := Try.f76) ⟨Try.func76, rfl, rfl⟩ (Nat.le_of_ble_eq_true rfl) ?_
  refine AWp.seq ?_
  refine AWp.region ?_
  refine AOps.cons rfl rfl (q_box 100) ?_
  refine AOps.cons rfl rfl (q_box 101) ?_
  refine AOps.cons rfl rfl (q_assign) ?_
  refine AOps.nil ?_
  refine AWp.seq ?_
  refine AWp.region ?_
  refine AOps.cons rfl rfl (q_fa) ?_
  refine AOps.cons rfl rfl (q_load) ?_
  refine AOps.cons rfl rfl (q_fa) ?_
  refine AOps.cons rfl rfl (q_load) ?_
  refine AOps.dec rfl rfl (q_seql) (fun h1_4 => ?_) (fun h1_4 => ?_)
  · skip
    refine AOps.cons rfl rfl (q_move) ?_
    refine AOps.gcons rfl rfl rfl rfl rfl (q_fa) ?_
    refine AOps.gcons rfl rfl rfl rfl rfl (q_load) ?_
    refine AOps.gcons rfl rfl rfl rfl rfl (q_fa) ?_
    refine AOps.gcons rfl rfl rfl rfl rfl (q_load) ?_
    refine AOps.gdec rfl rfl rfl rfl rfl (q_eql) (fun h1_10 => ?_) (fun h1_10 => ?_)
    · skip
      refine AOps.cons rfl rfl (q_pick) ?_
      refine AOps.cons rfl rfl (q_move) ?_
      refine AOps.gcons rfl rfl rfl rfl rfl (q_fa) ?_
      refine AOps.gcons rfl rfl rfl rfl rfl (q_load) ?_
      refine AOps.gcons rfl rfl rfl rfl rfl (q_fa) ?_
      refine AOps.gcons rfl rfl rfl rfl rfl (q_load) ?_
      refine AOps.gdec rfl rfl rfl rfl rfl (q_eql) (fun h1_17 => ?_) (fun h1_17 => ?_)
      · skip
        refine AOps.cons rfl rfl (q_pick) ?_
        refine AOps.cons rfl rfl (q_move) ?_
        refine AOps.gcons rfl rfl rfl rfl rfl (q_fa) ?_
        refine AOps.gcons rfl rfl rfl rfl rfl (q_load) ?_
        refine AOps.gcons rfl rfl rfl rfl rfl (q_fa) ?_
        refine AOps.gcons rfl rfl rfl rfl rfl (q_load) ?_
        refine AOps.gdec rfl rfl rfl rfl rfl (q_eql) (fun h1_24 => ?_) (fun h1_24 => ?_)
        · skip
          refine AOps.cons rfl rfl (q_pick) ?_
          refine AOps.cons rfl rfl (q_move) ?_
          refine AOps.gcons rfl rfl rfl rfl rfl (q_fa) ?_
          refine AOps.gcons rfl rfl rfl rfl rfl (q_load) ?_
          refine AOps.gcons rfl rfl rfl rfl rfl (q_fa) ?_
          refine AOps.gcons rfl rfl rfl rfl rfl (q_load) ?_
          refine AOps.gcons rfl rfl rfl rfl rfl (q_call (0) (hc := c_bytes_Equal _ _ _ _)) ?_
          refine AOps.cons rfl rfl (q_pick) ?_
          refine AOps.cons rfl rfl (q_assign) ?_
          refine AOps.nil ?_
          refine AWp.ret ?_
          show Fin te Try.f76 _ _
          refine q_ret (0) [_] [_] ?_
          exact congrArg tf (decide_eq_decide.2 (by rw [rr_eq]; simp [*]))
        · skip
          refine AOps.cons rfl rfl (q_pick) ?_
          refine AOps.cons rfl rfl (q_move) ?_
          refine AOps.gskip rfl rfl rfl rfl rfl rfl rfl rfl ?_
          refine AOps.gskip rfl rfl rfl rfl rfl rfl rfl rfl ?_
          refine AOps.gskip rfl rfl rfl rfl rfl rfl rfl rfl ?_
          refine AOps.gskip rfl rfl rfl rfl rfl rfl rfl rfl ?_
          refine AOps.gskip rfl rfl rfl rfl rfl rfl rfl rfl ?_
          refine AOps.cons rfl rfl (q_pick) ?_
          refine AOps.cons rfl rfl (q_assign) ?_
          refine AOps.nil ?_
          refine AWp.ret ?_
          show Fin te Try.f76 _ _
          refine q_ret (0) [_] [_] ?_
          rw [decide_eq_false (fun e => h1_24 (by rw [e]))]; rfl
      · skip
        refine AOps.cons rfl rfl (q_pick) ?_
        refine AOps.cons rfl rfl (q_move) ?_
        refine AOps.gskip rfl rfl rfl rfl rfl rfl rfl rfl ?_
        refine AOps.gskip rfl rfl rfl rfl rfl rfl rfl rfl ?_
        refine AOps.gskip rfl rfl rfl rfl rfl rfl rfl rfl ?_
        refine AOps.gskip rfl rfl rfl rfl rfl rfl rfl rfl ?_
        refine AOps.gskip rfl rfl rfl rfl rfl rfl rfl rfl ?_
        refine AOps.cons rfl rfl (q_pick) ?_
        refine AOps.cons rfl rfl (q_move) ?_
        refine AOps.gskip rfl rfl rfl rfl rfl rfl rfl rfl ?_
        refine AOps.gskip rfl rfl rfl rfl rfl rfl rfl rfl ?_
        refine AOps.gskip rfl rfl rfl rfl rfl rfl rfl rfl ?_
        refine AOps.gskip rfl rfl rfl rfl rfl rfl rfl rfl ?_
        refine AOps.gskip rfl rfl rfl rfl rfl rfl rfl rfl ?_
        refine AOps.cons rfl rfl (q_pick) ?_
        refine AOps.cons rfl rfl (q_assign) ?_
        refine AOps.nil ?_
        refine AWp.ret ?_
        show Fin te Try.f76 _ _
        refine q_ret (0) [_] [_] ?_
        rw [decide_eq_false (fun e => h1_17 (by rw [e]))]; rfl
    · skip
      refine AOps.cons rfl rfl (q_pick) ?_
      refine AOps.cons rfl rfl (q_move) ?_
      refine AOps.gskip rfl rfl rfl rfl rfl rfl rfl rfl ?_
      refine AOps.gskip rfl rfl rfl rfl rfl rfl rfl rfl ?_
      refine AOps.gskip rfl rfl rfl rfl rfl rfl rfl rfl ?_
      refine AOps.gskip rfl rfl rfl rfl rfl rfl rfl rfl ?_
      refine AOps.gskip rfl rfl rfl rfl rfl rfl rfl rfl ?_
      refine AOps.cons rfl rfl (q_pick) ?_
      refine AOps.cons rfl rfl (q_move) ?_
      refine AOps.gskip rfl rfl rfl rfl rfl rfl rfl rfl ?_
      refine AOps.gskip rfl rfl rfl rfl rfl rfl rfl rfl ?_
      refine AOps.gskip rfl rfl rfl rfl rfl rfl rfl rfl ?_
      refine AOps.gskip rfl rfl rfl rfl rfl rfl rfl rfl ?_
      refine AOps.gskip rfl rfl rfl rfl rfl rfl rfl rfl ?_
      refine AOps.cons rfl rfl (q_pick) ?_
      refine AOps.cons rfl rfl (q_move) ?_
      refine AOps.gskip rfl rfl rfl rfl rfl rfl rfl rfl ?_
      refine AOps.gskip rfl rfl rfl rfl rfl rfl rfl rfl ?_
      refine AOps.gskip rfl rfl rfl rfl rfl rfl rfl rfl ?_
      refine AOps.gskip rfl rfl rfl rfl rfl rfl rfl rfl ?_
      refine AOps.gskip rfl rfl rfl rfl rfl rfl rfl rfl ?_
      refine AOps.cons rfl rfl (q_pick) ?_
      refine AOps.cons rfl rfl (q_assign) ?_
      refine AOps.nil ?_
      refine AWp.ret ?_
      show Fin te Try.f76 _ _
      refine q_ret (0) [_] [_] ?_
      rw [decide_eq_false (fun e => h1_10 (by rw [e]))]; rfl
  · skip
    refine AOps.cons rfl rfl (q_move) ?_
    refine AOps.gskip rfl rfl rfl rfl rfl rfl rfl rfl ?_
    refine AOps.gskip rfl rfl rfl rfl rfl rfl rfl rfl ?_
    refine AOps.gskip rfl rfl rfl rfl rfl rfl rfl rfl ?_
    refine AOps.gskip rfl rfl rfl rfl rfl rfl rfl rfl ?_
    refine AOps.gskip rfl rfl rfl rfl rfl rfl rfl rfl ?_
    refine AOps.cons rfl rfl (q_pick) ?_
    refine AOps.cons rfl rfl (q_move) ?_
    refine AOps.gskip rfl rfl rfl rfl rfl rfl rfl rfl ?_
    refine AOps.gskip rfl rfl rfl rfl rfl rfl rfl rfl ?_
    refine AOps.gskip rfl rfl rfl rfl rfl rfl rfl rfl ?_
    refine AOps.gskip rfl rfl rfl rfl rfl rfl rfl rfl ?_
    refine AOps.gskip rfl rfl rfl rfl rfl rfl rfl rfl ?_
    refine AOps.cons rfl rfl (q_pick) ?_
    refine AOps.cons rfl rfl (q_move) ?_
    refine AOps.gskip rfl rfl rfl rfl rfl rfl rfl rfl ?_
    refine AOps.gskip rfl rfl rfl rfl rfl rfl rfl rfl ?_
    refine AOps.gskip rfl rfl rfl rfl rfl rfl rfl rfl ?_
    refine AOps.gskip rfl rfl rfl rfl rfl rfl rfl rfl ?_
    refine AOps.gskip rfl rfl rfl rfl rfl rfl rfl rfl ?_
    refine AOps.cons rfl rfl (q_pick) ?_
    refine AOps.cons rfl rfl (q_move) ?_
    refine AOps.gskip rfl rfl rfl rfl rfl rfl rfl rfl ?_
    refine AOps.gskip rfl rfl rfl rfl rfl rfl rfl rfl ?_
    refine AOps.gskip rfl rfl rfl rfl rfl rfl rfl rfl ?_
    refine AOps.gskip rfl rfl rfl rfl rfl rfl rfl rfl ?_
    refine AOps.gskip rfl rfl rfl rfl rfl rfl rfl rfl ?_
    refine AOps.cons rfl rfl (q_pick) ?_
    refine AOps.cons rfl rfl (q_assign) ?_
    refine AOps.nil ?_
    refine AWp.ret ?_
    show Fin te Try.f76 _ _
    refine q_ret (0) [_] [_] ?_
    rw [decide_eq_false (fun e => h1_4 (by rw [e]))]; rfl

set_option maxRecDepth 20000 in
set_option maxHeartbeats 2000000 in
theorem c_Equal_qu (a b : List Qu) (lv lw : Nat) (ha : a.length ≤ 140737488351232) : AC Try.prog 43 [.fz lv a.length (cl quc a), .fz lw b.length (cl quc b)] emp (Ret (tf (decide (a = b)))) := by
  refine AC.intro te_ok (fn := Try.f43) ⟨Try.func43, rfl, rfl⟩ (Nat.le_of_ble_eq_true rfl) ?_
  refine AWp.seq ?_
  refine AWp.region ?_
  refine AOps.cons rfl rfl (q_assign) ?_
  refine AOps.nil ?_
  refine AWp.seq ?_
  refine AWp.seq ?_
  refine AWp.region ?_
  refine AOps.cons rfl rfl (q_move) ?_
  refine AOps.cons rfl rfl (q_len) ?_
  refine AOps.cons rfl rfl (q_move) ?_
  refine AOps.cons rfl rfl (q_len) ?_
  refine AOps.dec rfl rfl (q_neq) (fun h1_4 => ?_) (fun h1_4 => ?_)
  · skip
    refine AOps.nil ?_
    refine AWp.cond_t rfl ?_
    refine AWp.seq ?_
    refine AWp.region ?_
    refine AOps.cons rfl rfl (q_assign) ?_
    refine AOps.nil ?_
    refine AWp.ret ?_
    show Fin te Try.f43 _ _
    refine q_ret (0) [_] [_] ?_
    rw [decide_eq_false (fun e => h1_4 (by rw [e]))]; rfl
  · skip
    refine AOps.nil ?_
    refine AWp.cond_f rfl ?_
    refine AWp.skip ?_
    refine AWp.seq ?_
    refine AWp.seq ?_
    refine AWp.region ?_
    refine AOps.cons rfl rfl (q_move) ?_
    refine AOps.cons rfl rfl (q_len) ?_
    refine AOps.cons rfl rfl (q_move) ?_
    refine AOps.nil ?_
    refine AWp.block ?_
    refine AWp.loopR (α := Nat) [4, 5, 13, 14, 15, 16, 17, 18, 19, 20, 21, 22, 23, 24, 25] (fun i => [(13, i64 i)]) (fun i => []) (fun i => i ≤ a.length ∧ a.take i = b.take i) (fun i => a.length - i) 0 ?_ (Back.mk' (HasT.cons HasT.nil) HasH.nil) ?_
    · exact ⟨Nat.zero_le _, rfl⟩
    · rintro i ⟨hi, hI⟩
      have hlen : a.length = b.length := by omega
      refine AWp.seq ?_
      refine AWp.region ?_
      refine AOps.dec rfl rfl (q_lss) (fun h4_0 => ?_) (fun h4_0 => ?_)
      · skip
        refine AOps.nil ?_
        refine AWp.seq ?_
        refine AWp.cond_t rfl ?_
        refine AWp.skip ?_
        refine AWp.seq ?_
        refine AWp.block ?_
        refine AWp.seq ?_
        refine AWp.region ?_
        refine AOps.cons rfl rfl (q_move) ?_
        refine AOps.cons rfl rfl (q_assign) ?_
        refine AOps.nil ?_
        refine AWp.seq ?_
        by_cases he : a.getD i default = b.getD i default
        · skip
          refine AWp.draws [⟨0, [0], [], some 16, _, none⟩,
              ⟨1, [5], [], some 17, _, none⟩,
              ⟨2, [16, 17], [], some 18, _, none⟩,
              ⟨3, [18], [], some 19, _, none⟩,
              ⟨4, [1], [], some 20, _, none⟩,
              ⟨5, [5], [], some 21, _, none⟩,
              ⟨6, [20, 21], [], some 22, _, none⟩,
              ⟨7, [22], [], some 23, _, none⟩,
              ⟨8, [19, 23], [], some 24, _, none⟩]
            [⟨0, [0], [], some 16, .any, none⟩,
                ⟨1, [5], [], some 17, .any, none⟩,
                ⟨2, [16, 17], [], some 18, .any, none⟩,
                ⟨3, [18], [], some 19, .any, none⟩,
                ⟨4, [1], [], some 20, .any, none⟩,
                ⟨5, [5], [], some 21, .any, none⟩,
                ⟨6, [20, 21], [], some 22, .any, none⟩,
                ⟨7, [22], [], some 23, .any, none⟩,
                ⟨8, [19, 23], [], some 24, .any, none⟩]
            mixed_ok rfl (by kernel_rfl) ⟨DS.ok_over fun s0 => OpAt.go rfl rfl (q_move),
                DS.ok_over fun s0 => OpAt.go rfl rfl (q_move),
                DS.ok_over fun s0 => OpAt.go rfl rfl (q_ix),
                DS.ok_over fun s0 => OpAt.go rfl rfl (q_load),
                DS.ok_over fun s0 => OpAt.go rfl rfl (q_move),
                DS.ok_over fun s0 => OpAt.go rfl rfl (q_move),
                DS.ok_over fun s0 => OpAt.go rfl rfl (q_ix),
                DS.ok_over fun s0 => OpAt.go rfl rfl (q_load),
                DS.ok_over fun s0 => OpAt.go rfl rfl ((OpOk.bool_is (c := false) (q_eqp) ((congrArg (! ·) ((quV (a.getD i default) (b.getD i default)).trans (decide_eq_true he)))))), trivial⟩ ?_
          dsimp only [final, DS.upd, AS.seto]
          refine AWp.cond_f rfl ?_
          refine AWp.skip ?_
          refine AWp.region ?_
          refine AOps.cons rfl rfl (q_add) ?_
          refine AOps.cons rfl rfl (q_move) ?_
          refine AOps.nil ?_
          refine ⟨i + 1, ?_, Back.mk' (HasT.cons HasT.nil) HasH.nil, ?_⟩
          · exact ⟨by omega, eq_step' (by omega) (by omega) hI he⟩
          · first | omega | (simp; omega)
        · skip
          refine AWp.draws [⟨0, [0], [], some 16, _, none⟩,
              ⟨1, [5], [], some 17, _, none⟩,
              ⟨2, [16, 17], [], some 18, _, none⟩,
              ⟨3, [18], [], some 19, _, none⟩,
              ⟨4, [1], [], some 20, _, none⟩,
              ⟨5, [5], [], some 21, _, none⟩,
              ⟨6, [20, 21], [], some 22, _, none⟩,
              ⟨7, [22], [], some 23, _, none⟩,
              ⟨8, [19, 23], [], some 24, _, none⟩]
            [⟨0, [0], [], some 16, .any, none⟩,
                ⟨1, [5], [], some 17, .any, none⟩,
                ⟨2, [16, 17], [], some 18, .any, none⟩,
                ⟨3, [18], [], some 19, .any, none⟩,
                ⟨4, [1], [], some 20, .any, none⟩,
                ⟨5, [5], [], some 21, .any, none⟩,
                ⟨6, [20, 21], [], some 22, .any, none⟩,
                ⟨7, [22], [], some 23, .any, none⟩,
                ⟨8, [19, 23], [], some 24, .any, none⟩]
            mixed_ok rfl (by kernel_rfl) ⟨DS.ok_over fun s0 => OpAt.go rfl rfl (q_move),
                DS.ok_over fun s0 => OpAt.go rfl rfl (q_move),
                DS.ok_over fun s0 => OpAt.go rfl rfl (q_ix),
                DS.ok_over fun s0 => OpAt.go rfl rfl (q_load),
                DS.ok_over fun s0 => OpAt.go rfl rfl (q_move),
                DS.ok_over fun s0 => OpAt.go rfl rfl (q_move),
                DS.ok_over fun s0 => OpAt.go rfl rfl (q_ix),
                DS.ok_over fun s0 => OpAt.go rfl rfl (q_load),
                DS.ok_over fun s0 => OpAt.go rfl rfl ((OpOk.bool_is (c := true) (q_eqp) ((congrArg (! ·) ((quV (a.getD i default) (b.getD i default)).trans (decide_eq_false he)))))), trivial⟩ ?_
          dsimp only [final, DS.upd, AS.seto]
          refine AWp.cond_t rfl ?_
          refine AWp.seq ?_
          refine AWp.region ?_
          refine AOps.cons rfl rfl (q_assign) ?_
          refine AOps.nil ?_
          refine AWp.ret ?_
          show Fin te Try.f43 _ _
          refine q_ret (0) [_] [_] ?_
          rw [decide_eq_false (fun e => he (by rw [e]))]; rfl
      · skip
        refine AOps.nil ?_
        refine AWp.seq ?_
        refine AWp.cond_f rfl ?_
        refine AWp.exit ?_
        refine AWp.seq ?_
        refine AWp.region ?_
        refine AOps.cons rfl rfl (q_assign) ?_
        refine AOps.nil ?_
        refine AWp.ret ?_
        show Fin te Try.f43 _ _
        refine q_ret (0) [_] [_] ?_
        have e : a = b := by rw [List.take_of_length_le (by omega), List.take_of_length_le (by omega)] at hI; exact hI
        rw [decide_eq_true e]; rfl

set_option maxRecDepth 20000 in
set_option maxHeartbeats 2000000 in
theorem c_EqualFunc_rr (l m : List Rr) (lv lw : Nat) {fid : Nat} (hl : l.length ≤ 140737488351232) (hg : ∀ x y : Rr, AC Try.prog fid [.agg (rrc x), .agg (rrc y)] emp (Ret (tf (decide (x = y))))) : AC Try.prog 47 [.fz lv l.length (cl rrc l), .fz lw m.length (cl rrc m), .fn (.func fid) [] []] emp (Ret (tf (decide (l = m)))) := by
  refine AC.intro te_ok (fn := Try.f47) ⟨Try.func47, rfl, rfl⟩ (Nat.le_of_ble_eq_true rfl) ?_
  refine AWp.seq ?_
  refine AWp.region ?_
  refine AOps.cons rfl rfl (q_assign) ?_
  refine AOps.nil ?_
  refine AWp.seq ?_
  refine AWp.seq ?_
  refine AWp.region ?_
  refine AOps.cons rfl rfl (q_move) ?_
  refine AOps.cons rfl rfl (q_len) ?_
  refine AOps.cons rfl rfl (q_move) ?_
  refine AOps.cons rfl rfl (q_len) ?_
  refine AOps.dec rfl rfl (q_neq) (fun h1_4 => ?_) (fun h1_4 => ?_)
  · skip
    refine AOps.nil ?_
    refine AWp.cond_t rfl ?_
    refine AWp.seq ?_
    refine AWp.region ?_
    refine AOps.cons rfl rfl (q_assign) ?_
    refine AOps.nil ?_
    refine AWp.ret ?_
    show Fin te Try.f47 _ _
    refine q_ret (0) [_] [_] ?_
    rw [decide_eq_false (fun e => h1_4 (by rw [e]))]; rfl
  · skip
    refine AOps.nil ?_
    refine AWp.cond_f rfl ?_
    refine AWp.skip ?_
    refine AWp.seq ?_
    refine AWp.seq ?_
    refine AWp.region ?_
    refine AOps.cons rfl rfl (q_move) ?_
    refine AOps.cons rfl rfl (q_len) ?_
    refine AOps.cons rfl rfl (q_move) ?_
    refine AOps.nil ?_
    refine AWp.block ?_
    refine AWp.loopR (α := Nat) [6, 7, 8, 9, 17, 18, 19, 20, 21, 22, 23, 24, 25, 26, 27, 28, 29, 30, 31] (fun i => [(17, i64 i)]) (fun i => []) (fun i => i ≤ l.length ∧ l.take i = m.take i) (fun i => l.length - i) 0 ?_ (Back.mk' (HasT.cons HasT.nil) HasH.nil) ?_
    · exact ⟨Nat.zero_le _, rfl⟩
    · rintro i ⟨hi, hI⟩
      have hlen : l.length = m.length := by omega
      refine AWp.seq ?_
      refine AWp.region ?_
      refine AOps.dec rfl rfl (q_lss) (fun h4_0 => ?_) (fun h4_0 => ?_)
      · skip
        refine AOps.nil ?_
        refine AWp.seq ?_
        refine AWp.cond_t rfl ?_
        refine AWp.skip ?_
        refine AWp.seq ?_
        refine AWp.block ?_
        refine AWp.seq ?_
        refine AWp.region ?_
        refine AOps.cons rfl rfl (q_move) ?_
        refine AOps.cons rfl rfl (q_ix) ?_
        refine AOps.cons rfl rfl (q_load) ?_
        refine AOps.cons rfl rfl (q_alloc 603) ?_
        refine AOps.cons rfl rfl (q_assign) ?_
        refine AOps.cons rfl rfl (q_store) ?_
        refine AOps.nil ?_
        refine AWp.seq ?_
        refine AWp.region ?_
        refine AOps.cons rfl rfl (q_move) ?_
        refine AOps.cons rfl rfl (q_move) ?_
        refine AOps.cons rfl rfl (q_ix) ?_
        refine AOps.cons rfl rfl (q_load) ?_
        refine AOps.cons rfl rfl (q_alloc 704) ?_
        refine AOps.cons rfl rfl (q_store) ?_
        refine AOps.nil ?_
        refine AWp.seq ?_
        refine AWp.region ?_
        refine AOps.cons rfl rfl (q_move) ?_
        refine AOps.cons rfl rfl (q_load) ?_
        refine AOps.cons rfl rfl (q_load) ?_
        refine AOps.bool rfl rfl (q_call (0) (hc := (hg (l.getD i default) (m.getD i default)))) (fun h7_3 => ?_) (fun h7_3 => ?_)
        · skip
          refine AOps.cons rfl rfl (q_not) ?_
          refine AOps.nil ?_
          refine AWp.cond_f rfl ?_
          refine AWp.skip ?_
          refine AWp.region ?_
          refine AOps.cons rfl rfl (q_add) ?_
          refine AOps.cons rfl rfl (q_move) ?_
          refine AOps.nil ?_
          refine ⟨i + 1, ?_, Back.mk' (HasT.cons HasT.nil) HasH.nil, ?_⟩
          · exact ⟨by omega, eq_step' (by omega) (by omega) hI (of_decide_eq_true h7_3)⟩
          · first | omega | (simp; omega)
        · skip
          refine AOps.cons rfl rfl (q_not) ?_
          refine AOps.nil ?_
          refine AWp.cond_t rfl ?_
          refine AWp.seq ?_
          refine AWp.region ?_
          refine AOps.cons rfl rfl (q_assign) ?_
          refine AOps.nil ?_
          refine AWp.ret ?_
          show Fin te Try.f47 _ _
          refine q_ret (0) [_] [_] ?_
          rw [decide_eq_false (fun e => by rw [e] at h7_3; simp at h7_3)]; rfl
      · skip
        refine AOps.nil ?_
        refine AWp.seq ?_
        refine AWp.cond_f rfl ?_
        refine AWp.exit ?_
        refine AWp.seq ?_
        refine AWp.region ?_
        refine AOps.cons rfl rfl (q_assign) ?_
        refine AOps.nil ?_
        refine AWp.ret ?_
        show Fin te Try.f47 _ _
        refine q_ret (0) [_] [_] ?_
        have e : l = m := by rw [List.take_of_length_le (by omega), List.take_of_length_le (by omega)] at hI; exact hI
        rw [decide_eq_true e]; rfl

set_option maxRecDepth 20000 in
set_option maxHeartbeats 2000000 in
theorem c_ciceroneplain_SameRRs (l m : List Rr) (lv lw : Nat) (hl : l.length ≤ 140737488351232) : AC Try.prog 44 [.fz lv l.length (cl rrc l), .fz lw m.length (cl rrc m)] emp (Ret (tf (decide (l = m)))) := by
  refine AC.intro te_ok (fn := Try.f44) ⟨Try.func44, rfl, rfl⟩ (Nat.le_of_ble_eq_true rfl) ?_
  refine AWp.seq ?_
  refine AWp.region ?_
  refine AOps.cons rfl rfl (q_assign) ?_
  refine AOps.nil ?_
  refine AWp.seq ?_
  refine AWp.region ?_
  refine AOps.cons rfl rfl (q_move) ?_
  refine AOps.cons rfl rfl (q_move) ?_
  refine AOps.cons rfl rfl (q_call (lv + lw) (hA := by exact ⟨fv_okb rfl (ble_of (by omega)), fv_okb rfl (ble_of (by omega)), fv_ok rfl, trivial⟩) (hc := (c_EqualFunc_rr l m lv lw hl c_ciceroneplain_sameRR))) ?_
  refine AOps.cons rfl rfl (q_assign) ?_
  refine AOps.nil ?_
  refine AWp.ret ?_
  show Fin te Try.f44 _ _
  refine q_ret (0) [_] [_] ?_
  rfl

set_option maxRecDepth 20000 in
set_option maxHeartbeats 2000000 in
theorem c_Clone_qu (l : List Qu) (lv : Nat) (h : l.length * 32 ≤ 140737488351232) : AC Try.prog 55 [.fz lv l.length (cl quc l)] emp (Ret (.fz 0 l.length (cl quc l))) := by
  refine AC.intro te_ok (fn := Try.f55) ⟨Try.func55, rfl, rfl⟩ (Nat.le_of_ble_eq_true rfl) ?_
  refine AWp.seq ?_
  refine AWp.region ?_
  refine AOps.cons rfl rfl (q_nilz (0) quc) ?_
  refine AOps.nil ?_
  refine AWp.seq ?_
  refine AWp.seq ?_
  refine AWp.region ?_
  refine AOps.cons rfl rfl (q_move) ?_
  refine AOps.snil (fun h1_1 => ?_) ?_
  · skip
    refine AOps.nil ?_
    refine AWp.cond_t rfl ?_
    refine AWp.seq ?_
    refine AWp.region ?_
    refine AOps.cons rfl rfl (q_nilz (0) quc) ?_
    refine AOps.nil ?_
    refine AWp.ret ?_
    show Fin te Try.f55 _ _
    refine q_ret (0) [_] [_] ?_
    obtain rfl := List.eq_nil_of_length_eq_zero h1_1
    rfl
  · skip
    refine AOps.nil ?_
    refine AWp.cond_f rfl ?_
    refine AWp.skip ?_
    refine AWp.seq ?_
    refine AWp.region ?_
    refine AOps.cons rfl rfl (q_bs 400 quc [] []) ?_
    refine AOps.cons rfl rfl (q_move) ?_
    refine AOps.cons rfl rfl (q_app) ?_
    refine AOps.cons rfl rfl (q_assign) ?_
    refine AOps.nil ?_
    refine AWp.ret ?_
    show Fin te Try.f55 _ _
    refine q_ret (0) [_] [_] ?_
    rfl

set_option maxRecDepth 20000 in
set_option maxHeartbeats 2000000 in
theorem c_ciceroneplain_RRs (l : List Rr) (lv : Nat) (h : RrsOk l) : AC Try.prog 56 [.fz lv l.length (cl rrc l)] emp (Ret (.fz 0 l.length (cl rrc l))) := by
  obtain ⟨hb, hd⟩ := id h
  refine AC.intro te_ok (fn := Try.f56) ⟨Try.func56, rfl, rfl⟩ (Nat.le_of_ble_eq_true rfl) ?_
  refine AWp.seq ?_
  refine AWp.region ?_
  refine AOps.cons rfl rfl (q_nilz (0) rrc) ?_
  refine AOps.nil ?_
  refine AWp.seq ?_
  refine AWp.region ?_
  refine AOps.cons rfl rfl (q_nilrow 200 5 rrc) ?_
  refine AOps.nil ?_
  refine AWp.seq ?_
  refine AWp.seq ?_
  refine AWp.region ?_
  refine AOps.cons rfl rfl (q_move) ?_
  refine AOps.cons rfl rfl (q_len) ?_
  refine AOps.cons rfl rfl (q_move) ?_
  refine AOps.nil ?_
  refine AWp.block ?_
  refine AWp.loopR (α := Nat × List Rr × Nat) [3, 5, 8, 9, 10, 11, 12, 13, 14, 15, 16, 17, 18, 19, 20] (fun x_ => [(8, i64 (x_.1)), (3, .sl 200 (x_.2.2) 0 (x_.2.1).length 5)]) (fun x_ => [(200, .row (cl rrc (x_.2.1)) 5 (x_.2.2))]) (fun x_ => (x_.1) ≤ l.length ∧ (x_.2.1) = l.take (x_.1)) (fun x_ => l.length - (x_.1)) (0, [], 0) ?_ (Back.mk' (HasT.cons (HasT.cons HasT.nil)) (HasH.cons HasH.nil)) ?_
  · exact ⟨Nat.zero_le _, rfl⟩
  · rintro ⟨i, acc, v⟩ hI3
    change i ≤ l.length ∧ acc = l.take i at hI3
    obtain ⟨hi, hacc⟩ := hI3
    refine AWp.as (s' := AS.over _ [3, 5, 8, 9, 10, 11, 12, 13, 14, 15, 16, 17, 18, 19, 20] [(8, i64 i), (3, .sl 200 v 0 acc.length 5)] [(200, .row (cl rrc acc) 5 v)]) rfl ?_
    have hal : acc.length = i := by rw [hacc, List.length_take]; omega
    refine AWp.seq ?_
    refine AWp.region ?_
    refine AOps.dec rfl rfl (q_lss) (fun h3_0 => ?_) (fun h3_0 => ?_)
    · skip
      refine AOps.nil ?_
      refine AWp.seq ?_
      refine AWp.cond_t rfl ?_
      refine AWp.skip ?_
      refine AWp.seq ?_
      refine AWp.block ?_
      refine AWp.seq ?_
      refine AWp.region ?_
      have hdi : (l.getD i default).da.length ≤ 140737488351232 := hd _ (getD_mem' (by omega))
      refine AOps.cons rfl rfl (q_ix) ?_
      refine AOps.cons rfl rfl (q_load) ?_
      refine AOps.cons rfl rfl (q_alloc 502) ?_
      refine AOps.cons rfl rfl (q_store) ?_
      refine AOps.nil ?_
      refine AWp.seq ?_
      refine AWp.region ?_
      refine AOps.cons rfl rfl (q_fa) ?_
      refine AOps.cons rfl rfl (q_load) ?_
      refine AOps.cons rfl rfl (q_call (0) (hc := c_bytes_Clone _ _ (by first | assumption | omega | decide | (simp; omega) | (simp [*]; done)))) ?_
      refine AOps.cons rfl rfl (q_fa) ?_
      refine AOps.cons rfl rfl (q_store) ?_
      refine AOps.nil ?_
      refine AWp.region ?_
      refine AOps.cons rfl rfl (q_move) ?_
      refine AOps.cons rfl rfl (q_load) ?_
      refine AOps.cons rfl rfl (q_bs 702 rrc [_] [(_, _)]) ?_
      refine AOps.cons rfl rfl (q_app) ?_
      refine AOps.cons rfl rfl (q_assign) ?_
      refine AOps.nil ?_
      refine AWp.region ?_
      refine AOps.cons rfl rfl (q_add) ?_
      refine AOps.cons rfl rfl (q_move) ?_
      refine AOps.nil ?_
      refine ⟨(i + 1, _, _), ?_, Back.mk' (HasT.cons (HasT.cons HasT.nil)) (HasH.cons HasH.nil), ?_⟩
      · try dsimp only
        exact ⟨by omega, by rw [take_step' (by omega), ← hacc]; rfl⟩
      · try dsimp only
        first | omega | (simp; omega)
    · skip
      refine AOps.nil ?_
      refine AWp.seq ?_
      refine AWp.cond_f rfl ?_
      refine AWp.exit ?_
      refine AWp.seq ?_
      refine AWp.region ?_
      refine AOps.cons rfl rfl (q_move) ?_
      refine AOps.cons rfl rfl (q_assign) ?_
      refine AOps.nil ?_
      refine AWp.ret ?_
      show Fin te Try.f56 _ _
      obtain rfl : acc = l := by rw [hacc, List.take_of_length_le (by omega)]
      refine q_ret (0) [_] [_] ?_
      rfl

end Go.Proofs.Ytkfccjbihcbmiaa.Fw

/- Messages: sameness and copies, of whole ones. -/
set_option linter.unusedVariables false
set_option linter.unusedSimpArgs false
namespace Go.Proofs.Ytkfccjbihcbmiaa.Fw
open Go.RowKit

set_option maxRecDepth 20000 in
set_option maxHeartbeats 2000000 in
theorem c_wire_Same (a b : Msg) (ha : MsgOk a) (hb : MsgOk b) : AC Try.prog 21 [.agg (msgC a), .agg (msgC b)] emp (Ret (tf (decide (a = b)))) := by
  obtain ⟨a1, ⟨a2, _⟩, ⟨a3, _⟩, ⟨a4, _⟩⟩ := id ha
  obtain ⟨b1, ⟨b2, _⟩, ⟨b3, _⟩, ⟨b4, _⟩⟩ := id hb
  refine AC.intro te_ok (fn := Try.f21) ⟨Try.func21, rfl, rfl⟩ (Nat.le_of_ble_eq_true rfl) ?_
  refine AWp.seq ?_
  refine AWp.region ?_
  refine AOps.cons rfl rfl (q_box 100) ?_
  refine AOps.cons rfl rfl (q_box 101) ?_
  refine AOps.cons rfl rfl (q_assign) ?_
  refine AOps.nil ?_
  refine AWp.seq ?_
  refine AWp.region ?_
  refine AOps.cons rfl rfl (q_assign) ?_
  refine AOps.nil ?_
  refine AWp.seq ?_
  refine AWp.region ?_
  refine AOps.cons rfl rfl (q_fa) ?_
  refine AOps.cons rfl rfl (q_load) ?_
  refine AOps.cons rfl rfl (q_fa) ?_
  refine AOps.cons rfl rfl (q_load) ?_
  refine AOps.bool rfl rfl (q_eqp) (fun h2_4 => ?_) (fun h2_4 => ?_)
  · skip
    refine AOps.cons rfl rfl (q_move) ?_
    refine AOps.gcons rfl rfl rfl rfl rfl (q_fa) ?_
    refine AOps.gcons rfl rfl rfl rfl rfl (q_load) ?_
    refine AOps.gcons rfl rfl rfl rfl rfl (q_fa) ?_
    refine AOps.gcons rfl rfl rfl rfl rfl (q_load) ?_
    refine AOps.gbool rfl rfl rfl rfl rfl (q_call (0) (hc := (c_Equal_qu a.qs b.qs 0 0 (by omega)))) (fun h2_10 => ?_) (fun h2_10 => ?_)
    · skip
      refine AOps.cons rfl rfl (q_pick) ?_
      refine AOps.cons rfl rfl (q_move) ?_
      refine AOps.gcons rfl rfl rfl rfl rfl (q_fa) ?_
      refine AOps.gcons rfl rfl rfl rfl rfl (q_load) ?_
      refine AOps.gcons rfl rfl rfl rfl rfl (q_fa) ?_
      refine AOps.gcons rfl rfl rfl rfl rfl (q_load) ?_
      refine AOps.gcons rfl rfl rfl rfl rfl (q_move) ?_
      refine AOps.gbool rfl rfl rfl rfl rfl (q_call (0) (hc := (c_EqualFunc_rr a.an b.an 0 0 (by omega) c_wire_Same_1))) (fun h2_18 => ?_) (fun h2_18 => ?_)
      · skip
        refine AOps.cons rfl rfl (q_pick) ?_
        refine AOps.cons rfl rfl (q_move) ?_
        refine AOps.gcons rfl rfl rfl rfl rfl (q_fa) ?_
        refine AOps.gcons rfl rfl rfl rfl rfl (q_load) ?_
        refine AOps.gcons rfl rfl rfl rfl rfl (q_fa) ?_
        refine AOps.gcons rfl rfl rfl rfl rfl (q_load) ?_
        refine AOps.gcons rfl rfl rfl rfl rfl (q_move) ?_
        refine AOps.gbool rfl rfl rfl rfl rfl (q_call (0) (hc := (c_EqualFunc_rr a.au b.au 0 0 (by omega) c_wire_Same_1))) (fun h2_26 => ?_) (fun h2_26 => ?_)
        · skip
          refine AOps.cons rfl rfl (q_pick) ?_
          refine AOps.cons rfl rfl (q_move) ?_
          refine AOps.gcons rfl rfl rfl rfl rfl (q_fa) ?_
          refine AOps.gcons rfl rfl rfl rfl rfl (q_load) ?_
          refine AOps.gcons rfl rfl rfl rfl rfl (q_fa) ?_
          refine AOps.gcons rfl rfl rfl rfl rfl (q_load) ?_
          refine AOps.gcons rfl rfl rfl rfl rfl (q_move) ?_
          refine AOps.gcons rfl rfl rfl rfl rfl (q_call (0) (hc := (c_EqualFunc_rr a.ad b.ad 0 0 (by omega) c_wire_Same_1))) ?_
          refine AOps.cons rfl rfl (q_pick) ?_
          refine AOps.cons rfl rfl (q_assign) ?_
          refine AOps.nil ?_
          refine AWp.ret ?_
          show Fin te Try.f21 _ _
          refine q_ret (0) [_] [_] ?_
          have e : a.h = b.h := of_decide_eq_true ((hdV a.h b.h).symm.trans h2_4)
          have e1 := of_decide_eq_true h2_10
          have e2 := of_decide_eq_true h2_18
          have e3 := of_decide_eq_true h2_26
          exact congrArg tf (decide_eq_decide.2 (by rw [msg_eq]; exact ⟨fun q => ⟨e, e1, e2, e3, q⟩, fun q => q.2.2.2.2⟩))
        · skip
          refine AOps.cons rfl rfl (q_pick) ?_
          refine AOps.cons rfl rfl (q_move) ?_
          refine AOps.gskip rfl rfl rfl rfl rfl rfl rfl rfl ?_
          refine AOps.gskip rfl rfl rfl rfl rfl rfl rfl rfl ?_
          refine AOps.gskip rfl rfl rfl rfl rfl rfl rfl rfl ?_
          refine AOps.gskip rfl rfl rfl rfl rfl rfl rfl rfl ?_
          refine AOps.gskip rfl rfl rfl rfl rfl rfl rfl rfl ?_
          refine AOps.gskip rfl rfl rfl rfl rfl rfl rfl rfl ?_
          refine AOps.cons rfl rfl (q_pick) ?_
          refine AOps.cons rfl rfl (q_assign) ?_
          refine AOps.nil ?_
          refine AWp.ret ?_
          show Fin te Try.f21 _ _
          refine q_ret (0) [_] [_] ?_
          rw [decide_eq_false (fun q => (of_decide_eq_false h2_26) (by rw [q]))]; rfl
      · skip
        refine AOps.cons rfl rfl (q_pick) ?_
        refine AOps.cons rfl rfl (q_move) ?_
        refine AOps.gskip rfl rfl rfl rfl rfl rfl rfl rfl ?_
        refine AOps.gskip rfl rfl rfl rfl rfl rfl rfl rfl ?_
        refine AOps.gskip rfl rfl rfl rfl rfl rfl rfl rfl ?_
        refine AOps.gskip rfl rfl rfl rfl rfl rfl rfl rfl ?_
        refine AOps.gskip rfl rfl rfl rfl rfl rfl rfl rfl ?_
        refine AOps.gskip rfl rfl rfl rfl rfl rfl rfl rfl ?_
        refine AOps.cons rfl rfl (q_pick) ?_
        refine AOps.cons rfl rfl (q_move) ?_
        refine AOps.gskip rfl rfl rfl rfl rfl rfl rfl rfl ?_
        refine AOps.gskip rfl rfl rfl rfl rfl rfl rfl rfl ?_
        refine AOps.gskip rfl rfl rfl rfl rfl rfl rfl rfl ?_
        refine AOps.gskip rfl rfl rfl rfl rfl rfl rfl rfl ?_
        refine AOps.gskip rfl rfl rfl rfl rfl rfl rfl rfl ?_
        refine AOps.gskip rfl rfl rfl rfl rfl rfl rfl rfl ?_
        refine AOps.cons rfl rfl (q_pick) ?_
        refine AOps.cons rfl rfl (q_assign) ?_
        refine AOps.nil ?_
        refine AWp.ret ?_
        show Fin te Try.f21 _ _
        refine q_ret (0) [_] [_] ?_
        rw [decide_eq_false (fun q => (of_decide_eq_false h2_18) (by rw [q]))]; rfl
    · skip
      refine AOps.cons rfl rfl (q_pick) ?_
      refine AOps.cons rfl rfl (q_move) ?_
      refine AOps.gskip rfl rfl rfl rfl rfl rfl rfl rfl ?_
      refine AOps.gskip rfl rfl rfl rfl rfl rfl rfl rfl ?_
      refine AOps.gskip rfl rfl rfl rfl rfl rfl rfl rfl ?_
      refine AOps.gskip rfl rfl rfl rfl rfl rfl rfl rfl ?_
      refine AOps.gskip rfl rfl rfl rfl rfl rfl rfl rfl ?_
      refine AOps.gskip rfl rfl rfl rfl rfl rfl rfl rfl ?_
      refine AOps.cons rfl rfl (q_pick) ?_
      refine AOps.cons rfl rfl (q_move) ?_
      refine AOps.gskip rfl rfl rfl rfl rfl rfl rfl rfl ?_
      refine AOps.gskip rfl rfl rfl rfl rfl rfl rfl rfl ?_
      refine AOps.gskip rfl rfl rfl rfl rfl rfl rfl rfl ?_
      refine AOps.gskip rfl rfl rfl rfl rfl rfl rfl rfl ?_
      refine AOps.gskip rfl rfl rfl rfl rfl rfl rfl rfl ?_
      refine AOps.gskip rfl rfl rfl rfl rfl rfl rfl rfl ?_
      refine AOps.cons rfl rfl (q_pick) ?_
      refine AOps.cons rfl rfl (q_move) ?_
      refine AOps.gskip rfl rfl rfl rfl rfl rfl rfl rfl ?_
      refine AOps.gskip rfl rfl rfl rfl rfl rfl rfl rfl ?_
      refine AOps.gskip rfl rfl rfl rfl rfl rfl rfl rfl ?_
      refine AOps.gskip rfl rfl rfl rfl rfl rfl rfl rfl ?_
      refine AOps.gskip rfl rfl rfl rfl rfl rfl rfl rfl ?_
      refine AOps.gskip rfl rfl rfl rfl rfl rfl rfl rfl ?_
      refine AOps.cons rfl rfl (q_pick) ?_
      refine AOps.cons rfl rfl (q_assign) ?_
      refine AOps.nil ?_
      refine AWp.ret ?_
      show Fin te Try.f21 _ _
      refine q_ret (0) [_] [_] ?_
      rw [decide_eq_false (fun q => (of_decide_eq_false h2_10) (by rw [q]))]; rfl
  · skip
    refine AOps.cons rfl rfl (q_move) ?_
    refine AOps.gskip rfl rfl rfl rfl rfl rfl rfl rfl ?_
    refine AOps.gskip rfl rfl rfl rfl rfl rfl rfl rfl ?_
    refine AOps.gskip rfl rfl rfl rfl rfl rfl rfl rfl ?_
    refine AOps.gskip rfl rfl rfl rfl rfl rfl rfl rfl ?_
    refine AOps.gskip rfl rfl rfl rfl rfl rfl rfl rfl ?_
    refine AOps.cons rfl rfl (q_pick) ?_
    refine AOps.cons rfl rfl (q_move) ?_
    refine AOps.gskip rfl rfl rfl rfl rfl rfl rfl rfl ?_
    refine AOps.gskip rfl rfl rfl rfl rfl rfl rfl rfl ?_
    refine AOps.gskip rfl rfl rfl rfl rfl rfl rfl rfl ?_
    refine AOps.gskip rfl rfl rfl rfl rfl rfl rfl rfl ?_
    refine AOps.gskip rfl rfl rfl rfl rfl rfl rfl rfl ?_
    refine AOps.gskip rfl rfl rfl rfl rfl rfl rfl rfl ?_
    refine AOps.cons rfl rfl (q_pick) ?_
    refine AOps.cons rfl rfl (q_move) ?_
    refine AOps.gskip rfl rfl rfl rfl rfl rfl rfl rfl ?_
    refine AOps.gskip rfl rfl rfl rfl rfl rfl rfl rfl ?_
    refine AOps.gskip rfl rfl rfl rfl rfl rfl rfl rfl ?_
    refine AOps.gskip rfl rfl rfl rfl rfl rfl rfl rfl ?_
    refine AOps.gskip rfl rfl rfl rfl rfl rfl rfl rfl ?_
    refine AOps.gskip rfl rfl rfl rfl rfl rfl rfl rfl ?_
    refine AOps.cons rfl rfl (q_pick) ?_
    refine AOps.cons rfl rfl (q_move) ?_
    refine AOps.gskip rfl rfl rfl rfl rfl rfl rfl rfl ?_
    refine AOps.gskip rfl rfl rfl rfl rfl rfl rfl rfl ?_
    refine AOps.gskip rfl rfl rfl rfl rfl rfl rfl rfl ?_
    refine AOps.gskip rfl rfl rfl rfl rfl rfl rfl rfl ?_
    refine AOps.gskip rfl rfl rfl rfl rfl rfl rfl rfl ?_
    refine AOps.gskip rfl rfl rfl rfl rfl rfl rfl rfl ?_
    refine AOps.cons rfl rfl (q_pick) ?_
    refine AOps.cons rfl rfl (q_assign) ?_
    refine AOps.nil ?_
    refine AWp.ret ?_
    show Fin te Try.f21 _ _
    refine q_ret (0) [_] [_] ?_
    have e : decide (a.h = b.h) = false := (hdV a.h b.h).symm.trans h2_4
    rw [decide_eq_false (fun q => (of_decide_eq_false e) (by rw [q]))]; rfl

set_option maxRecDepth 20000 in
set_option maxHeartbeats 2000000 in
theorem c_ciceroneplain_SameMessage (a b : Msg) (ha : MsgOk a) (hb : MsgOk b) : AC Try.prog 18 [.agg (msgC a), .agg (msgC b)] emp (Ret (tf (decide (a = b)))) := by
  obtain ⟨a1, ⟨a2, _⟩, ⟨a3, _⟩, ⟨a4, _⟩⟩ := id ha
  obtain ⟨b1, ⟨b2, _⟩, ⟨b3, _⟩, ⟨b4, _⟩⟩ := id hb
  refine AC.intro te_ok (fn := Try.f18) ⟨Try.func18, rfl, rfl⟩ (Nat.le_of_ble_eq_true rfl) ?_
  refine AWp.seq ?_
  refine AWp.region ?_
  refine AOps.cons rfl rfl (q_box 100) ?_
  refine AOps.cons rfl rfl (q_box 101) ?_
  refine AOps.cons rfl rfl (q_assign) ?_
  refine AOps.nil ?_
  refine AWp.seq ?_
  refine AWp.region ?_
  refine AOps.cons rfl rfl (q_fa) ?_
  refine AOps.cons rfl rfl (q_load) ?_
  refine AOps.cons rfl rfl (q_fa) ?_
  refine AOps.cons rfl rfl (q_load) ?_
  refine AOps.bool rfl rfl (q_eqp) (fun h1_4 => ?_) (fun h1_4 => ?_)
  · skip
    refine AOps.cons rfl rfl (q_move) ?_
    refine AOps.gcons rfl rfl rfl rfl rfl (q_fa) ?_
    refine AOps.gcons rfl rfl rfl rfl rfl (q_load) ?_
    refine AOps.gcons rfl rfl rfl rfl rfl (q_fa) ?_
    refine AOps.gcons rfl rfl rfl rfl rfl (q_load) ?_
    refine AOps.gbool rfl rfl rfl rfl rfl (q_call (0) (hc := (c_Equal_qu a.qs b.qs 0 0 (by omega)))) (fun h1_10 => ?_) (fun h1_10 => ?_)
    · skip
      refine AOps.cons rfl rfl (q_pick) ?_
      refine AOps.cons rfl rfl (q_move) ?_
      refine AOps.gcons rfl rfl rfl rfl rfl (q_fa) ?_
      refine AOps.gcons rfl rfl rfl rfl rfl (q_load) ?_
      refine AOps.gcons rfl rfl rfl rfl rfl (q_fa) ?_
      refine AOps.gcons rfl rfl rfl rfl rfl (q_load) ?_
      refine AOps.gbool rfl rfl rfl rfl rfl (q_call (0) (hc := (c_ciceroneplain_SameRRs a.an b.an 0 0 (by omega)))) (fun h1_17 => ?_) (fun h1_17 => ?_)
      · skip
        refine AOps.cons rfl rfl (q_pick) ?_
        refine AOps.cons rfl rfl (q_move) ?_
        refine AOps.gcons rfl rfl rfl rfl rfl (q_fa) ?_
        refine AOps.gcons rfl rfl rfl rfl rfl (q_load) ?_
        refine AOps.gcons rfl rfl rfl rfl rfl (q_fa) ?_
        refine AOps.gcons rfl rfl rfl rfl rfl (q_load) ?_
        refine AOps.gbool rfl rfl rfl rfl rfl (q_call (0) (hc := (c_ciceroneplain_SameRRs a.au b.au 0 0 (by omega)))) (fun h1_24 => ?_) (fun h1_24 => ?_)
        · skip
          refine AOps.cons rfl rfl (q_pick) ?_
          refine AOps.cons rfl rfl (q_move) ?_
          refine AOps.gcons rfl rfl rfl rfl rfl (q_fa) ?_
          refine AOps.gcons rfl rfl rfl rfl rfl (q_load) ?_
          refine AOps.gcons rfl rfl rfl rfl rfl (q_fa) ?_
          refine AOps.gcons rfl rfl rfl rfl rfl (q_load) ?_
          refine AOps.gcons rfl rfl rfl rfl rfl (q_call (0) (hc := (c_ciceroneplain_SameRRs a.ad b.ad 0 0 (by omega)))) ?_
          refine AOps.cons rfl rfl (q_pick) ?_
          refine AOps.cons rfl rfl (q_assign) ?_
          refine AOps.nil ?_
          refine AWp.ret ?_
          show Fin te Try.f18 _ _
          refine q_ret (0) [_] [_] ?_
          have e : a.h = b.h := of_decide_eq_true ((hdV a.h b.h).symm.trans h1_4)
          have e1 := of_decide_eq_true h1_10
          have e2 := of_decide_eq_true h1_17
          have e3 := of_decide_eq_true h1_24
          exact congrArg tf (decide_eq_decide.2 (by rw [msg_eq]; exact ⟨fun q => ⟨e, e1, e2, e3, q⟩, fun q => q.2.2.2.2⟩))
        · skip
          refine AOps.cons rfl rfl (q_pick) ?_
          refine AOps.cons rfl rfl (q_move) ?_
          refine AOps.gskip rfl rfl rfl rfl rfl rfl rfl rfl ?_
          refine AOps.gskip rfl rfl rfl rfl rfl rfl rfl rfl ?_
          refine AOps.gskip rfl rfl rfl rfl rfl rfl rfl rfl ?_
          refine AOps.gskip rfl rfl rfl rfl rfl rfl rfl rfl ?_
          refine AOps.gskip rfl rfl rfl rfl rfl rfl rfl rfl ?_
          refine AOps.cons rfl rfl (q_pick) ?_
          refine AOps.cons rfl rfl (q_assign) ?_
          refine AOps.nil ?_
          refine AWp.ret ?_
          show Fin te Try.f18 _ _
          refine q_ret (0) [_] [_] ?_
          rw [decide_eq_false (fun q => (of_decide_eq_false h1_24) (by rw [q]))]; rfl
      · skip
        refine AOps.cons rfl rfl (q_pick) ?_
        refine AOps.cons rfl rfl (q_move) ?_
        refine AOps.gskip rfl rfl rfl rfl rfl rfl rfl rfl ?_
        refine AOps.gskip rfl rfl rfl rfl rfl rfl rfl rfl ?_
        refine AOps.gskip rfl rfl rfl rfl rfl rfl rfl rfl ?_
        refine AOps.gskip rfl rfl rfl rfl rfl rfl rfl rfl ?_
        refine AOps.gskip rfl rfl rfl rfl rfl rfl rfl rfl ?_
        refine AOps.cons rfl rfl (q_pick) ?_
        refine AOps.cons rfl rfl (q_move) ?_
        refine AOps.gskip rfl rfl rfl rfl rfl rfl rfl rfl ?_
        refine AOps.gskip rfl rfl rfl rfl rfl rfl rfl rfl ?_
        refine AOps.gskip rfl rfl rfl rfl rfl rfl rfl rfl ?_
        refine AOps.gskip rfl rfl rfl rfl rfl rfl rfl rfl ?_
        refine AOps.gskip rfl rfl rfl rfl rfl rfl rfl rfl ?_
        refine AOps.cons rfl rfl (q_pick) ?_
        refine AOps.cons rfl rfl (q_assign) ?_
        refine AOps.nil ?_
        refine AWp.ret ?_
        show Fin te Try.f18 _ _
        refine q_ret (0) [_] [_] ?_
        rw [decide_eq_false (fun q => (of_decide_eq_false h1_17) (by rw [q]))]; rfl
    · skip
      refine AOps.cons rfl rfl (q_pick) ?_
      refine AOps.cons rfl rfl (q_move) ?_
      refine AOps.gskip rfl rfl rfl rfl rfl rfl rfl rfl ?_
      refine AOps.gskip rfl rfl rfl rfl rfl rfl rfl rfl ?_
      refine AOps.gskip rfl rfl rfl rfl rfl rfl rfl rfl ?_
      refine AOps.gskip rfl rfl rfl rfl rfl rfl rfl rfl ?_
      refine AOps.gskip rfl rfl rfl rfl rfl rfl rfl rfl ?_
      refine AOps.cons rfl rfl (q_pick) ?_
      refine AOps.cons rfl rfl (q_move) ?_
      refine AOps.gskip rfl rfl rfl rfl rfl rfl rfl rfl ?_
      refine AOps.gskip rfl rfl rfl rfl rfl rfl rfl rfl ?_
      refine AOps.gskip rfl rfl rfl rfl rfl rfl rfl rfl ?_
      refine AOps.gskip rfl rfl rfl rfl rfl rfl rfl rfl ?_
      refine AOps.gskip rfl rfl rfl rfl rfl rfl rfl rfl ?_
      refine AOps.cons rfl rfl (q_pick) ?_
      refine AOps.cons rfl rfl (q_move) ?_
      refine AOps.gskip rfl rfl rfl rfl rfl rfl rfl rfl ?_
      refine AOps.gskip rfl rfl rfl rfl rfl rfl rfl rfl ?_
      refine AOps.gskip rfl rfl rfl rfl rfl rfl rfl rfl ?_
      refine AOps.gskip rfl rfl rfl rfl rfl rfl rfl rfl ?_
      refine AOps.gskip rfl rfl rfl rfl rfl rfl rfl rfl ?_
      refine AOps.cons rfl rfl (q_pick) ?_
      refine AOps.cons rfl rfl (q_assign) ?_
      refine AOps.nil ?_
      refine AWp.ret ?_
      show Fin te Try.f18 _ _
      refine q_ret (0) [_] [_] ?_
      rw [decide_eq_false (fun q => (of_decide_eq_false h1_10) (by rw [q]))]; rfl
  · skip
    refine AOps.cons rfl rfl (q_move) ?_
    refine AOps.gskip rfl rfl rfl rfl rfl rfl rfl rfl ?_
    refine AOps.gskip rfl rfl rfl rfl rfl rfl rfl rfl ?_
    refine AOps.gskip rfl rfl rfl rfl rfl rfl rfl rfl ?_
    refine AOps.gskip rfl rfl rfl rfl rfl rfl rfl rfl ?_
    refine AOps.gskip rfl rfl rfl rfl rfl rfl rfl rfl ?_
    refine AOps.cons rfl rfl (q_pick) ?_
    refine AOps.cons rfl rfl (q_move) ?_
    refine AOps.gskip rfl rfl rfl rfl rfl rfl rfl rfl ?_
    refine AOps.gskip rfl rfl rfl rfl rfl rfl rfl rfl ?_
    refine AOps.gskip rfl rfl rfl rfl rfl rfl rfl rfl ?_
    refine AOps.gskip rfl rfl rfl rfl rfl rfl rfl rfl ?_
    refine AOps.gskip rfl rfl rfl rfl rfl rfl rfl rfl ?_
    refine AOps.cons rfl rfl (q_pick) ?_
    refine AOps.cons rfl rfl (q_move) ?_
    refine AOps.gskip rfl rfl rfl rfl rfl rfl rfl rfl ?_
    refine AOps.gskip rfl rfl rfl rfl rfl rfl rfl rfl ?_
    refine AOps.gskip rfl rfl rfl rfl rfl rfl rfl rfl ?_
    refine AOps.gskip rfl rfl rfl rfl rfl rfl rfl rfl ?_
    refine AOps.gskip rfl rfl rfl rfl rfl rfl rfl rfl ?_
    refine AOps.cons rfl rfl (q_pick) ?_
    refine AOps.cons rfl rfl (q_move) ?_
    refine AOps.gskip rfl rfl rfl rfl rfl rfl rfl rfl ?_
    refine AOps.gskip rfl rfl rfl rfl rfl rfl rfl rfl ?_
    refine AOps.gskip rfl rfl rfl rfl rfl rfl rfl rfl ?_
    refine AOps.gskip rfl rfl rfl rfl rfl rfl rfl rfl ?_
    refine AOps.gskip rfl rfl rfl rfl rfl rfl rfl rfl ?_
    refine AOps.cons rfl rfl (q_pick) ?_
    refine AOps.cons rfl rfl (q_assign) ?_
    refine AOps.nil ?_
    refine AWp.ret ?_
    show Fin te Try.f18 _ _
    refine q_ret (0) [_] [_] ?_
    have e : decide (a.h = b.h) = false := (hdV a.h b.h).symm.trans h1_4
    rw [decide_eq_false (fun q => (of_decide_eq_false e) (by rw [q]))]; rfl

set_option maxRecDepth 20000 in
set_option maxHeartbeats 2000000 in
theorem c_ciceroneplain_Message (m : Msg) (h : MsgOk m) : AC Try.prog 23 [.agg (msgC m)] emp (Ret (.agg (msgC m))) := by
  obtain ⟨q1, q2, q3, q4⟩ := id h
  refine AC.intro te_ok (fn := Try.f23) ⟨Try.func23, rfl, rfl⟩ (Nat.le_of_ble_eq_true rfl) ?_
  refine AWp.seq ?_
  refine AWp.region ?_
  refine AOps.cons rfl rfl (q_box 100) ?_
  refine AOps.cons rfl rfl (q_alloc 101) ?_
  refine AOps.nil ?_
  refine AWp.seq ?_
  refine AWp.region ?_
  refine AOps.cons rfl rfl (q_fa) ?_
  refine AOps.cons rfl rfl (q_load) ?_
  refine AOps.cons rfl rfl (q_call (0) (hc := (c_Clone_qu m.qs 0 q1))) ?_
  refine AOps.cons rfl rfl (q_fa) ?_
  refine AOps.cons rfl rfl (q_store) ?_
  refine AOps.nil ?_
  refine AWp.seq ?_
  refine AWp.draws [⟨0, [1], [100], some 7, _, none⟩,
      ⟨1, [7], [100], some 8, _, none⟩,
      ⟨2, [8], [], some 9, _, none⟩,
      ⟨3, [1], [100], some 10, _, none⟩,
      ⟨4, [10], [100], some 11, _, none⟩,
      ⟨5, [11], [], some 12, _, none⟩,
      ⟨6, [1], [100], some 13, _, none⟩,
      ⟨7, [13], [100], some 14, _, none⟩,
      ⟨8, [14], [], some 15, _, none⟩,
      ⟨9, [1], [100], some 16, _, none⟩,
      ⟨10, [9, 16], [100], none, _, some (100, _)⟩,
      ⟨11, [1], [100], some 17, _, none⟩,
      ⟨12, [12, 17], [100], none, _, some (100, _)⟩,
      ⟨13, [1], [100], some 18, _, none⟩,
      ⟨14, [15, 18], [100], none, _, some (100, _)⟩]
    [⟨0, [1], [100], some 7, .any, none⟩,
        ⟨1, [7], [100], some 8, .any, none⟩,
        ⟨2, [8], [], some 9, .any, none⟩,
        ⟨3, [1], [100], some 10, .any, none⟩,
        ⟨4, [10], [100], some 11, .any, none⟩,
        ⟨5, [11], [], some 12, .any, none⟩,
        ⟨6, [1], [100], some 13, .any, none⟩,
        ⟨7, [13], [100], some 14, .any, none⟩,
        ⟨8, [14], [], some 15, .any, none⟩,
        ⟨9, [1], [100], some 16, .any, none⟩,
        ⟨10, [9, 16], [100], none, .any, some (100, .box [])⟩,
        ⟨11, [1], [100], some 17, .any, none⟩,
        ⟨12, [12, 17], [100], none, .any, some (100, .box [])⟩,
        ⟨13, [1], [100], some 18, .any, none⟩,
        ⟨14, [15, 18], [100], none, .any, some (100, .box [])⟩]
    mixed_ok rfl (by kernel_rfl) ⟨DS.ok_over fun s0 => OpAt.go rfl rfl (q_fa),
        DS.ok_over fun s0 => OpAt.go rfl rfl (q_load),
        DS.ok_over fun s0 => OpAt.go rfl rfl (q_call (0) (hc := (c_ciceroneplain_RRs m.an 0 q2))),
        DS.ok_over fun s0 => OpAt.go rfl rfl (q_fa),
        DS.ok_over fun s0 => OpAt.go rfl rfl (q_load),
        DS.ok_over fun s0 => OpAt.go rfl rfl (q_call (0) (hc := (c_ciceroneplain_RRs m.au 0 q3))),
        DS.ok_over fun s0 => OpAt.go rfl rfl (q_fa),
        DS.ok_over fun s0 => OpAt.go rfl rfl (q_load),
        DS.ok_over fun s0 => OpAt.go rfl rfl (q_call (0) (hc := (c_ciceroneplain_RRs m.ad 0 q4))),
        DS.ok_over fun s0 => OpAt.go rfl rfl (q_fa),
        DS.ok_over fun s0 => OpAt.go rfl rfl (q_store),
        DS.ok_over fun s0 => OpAt.go rfl rfl (q_fa),
        DS.ok_over fun s0 => OpAt.go rfl rfl (q_store),
        DS.ok_over fun s0 => OpAt.go rfl rfl (q_fa),
        DS.ok_over fun s0 => OpAt.go rfl rfl (q_store), trivial⟩ ?_
  dsimp only [final, DS.upd, AS.seto]
  refine AWp.seq ?_
  refine AWp.region ?_
  refine AOps.cons rfl rfl (q_load) ?_
  refine AOps.cons rfl rfl (q_store) ?_
  refine AOps.nil ?_
  refine AWp.ret ?_
  show Fin te Try.f23 _ _
  refine q_ret (0) [_] [_] ?_
  rfl

end Go.Proofs.Ytkfccjbihcbmiaa.Fw

/- Walks of layer 3: the reference's data and names. -/
set_option linter.unusedVariables false
set_option linter.unusedSimpArgs false
namespace Go.Proofs.Ytkfccjbihcbmiaa.Fw
open Go.RowKit

theorem num_four (n : Int) (h : 0 ≤ n ∧ n ≤ 4294967295) : num (fourB n) = n := by
  have h0 := byte_toNat (n / 2 ^ 24)
  have h1 := byte_toNat (n / 2 ^ 16)
  have h2 := byte_toNat (n / 2 ^ 8)
  have h3 := byte_toNat n
  simp only [num, fourB, List.foldl_cons, List.foldl_nil, h0, h1, h2, h3]
  omega
theorem byte_id {x : UInt8} {a : Int} (h : a % 256 = x.toNat) : byte a = x := by
  have h1 := byte_toNat a
  exact UInt8.toNat_inj.1 (by omega)
theorem four_num' (a b c d : UInt8) : fourB (num [a, b, c, d]) = [a, b, c, d] := by
  have ha := a.toNat_lt
  have hb := b.toNat_lt
  have hc := c.toNat_lt
  have hd := d.toNat_lt
  simp only [num, List.foldl_cons, List.foldl_nil, fourB]
  rw [byte_id (x := a) (by omega), byte_id (x := b) (by omega), byte_id (x := c) (by omega), byte_id (x := d) (by omega)]
theorem cut_app {m r : List UInt8} (h : canN m = true) : cutO (m ++ r) = true ∧ cutM (m ++ r) = m ∧ cutR (m ++ r) = r := by
  obtain ⟨h1, h2, h3⟩ := cut_at (b := m ++ r) (k := m.length) (by simp) (by rw [List.take_left]; exact h)
  rw [List.take_left] at h2
  rw [List.drop_left] at h3
  exact ⟨h1, h2, h3⟩
theorem wd_flat (x : Soa) (j : Nat) (hj : j < 5) : wd ((ns x).flatMap fourB) j 5 = num (fourB ((ns x).getD j default)) := by
  have : j = 0 ∨ j = 1 ∨ j = 2 ∨ j = 3 ∨ j = 4 := by omega
  rcases this with rfl | rfl | rfl | rfl | rfl <;> rfl
theorem soa_make {x : Soa} (h : mkO x = true) : soaO (mkB x) = true ∧ soaV (mkB x) = x ∧ (mkB x).length ≤ 530 := by
  have h2 := h
  simp only [mkO, Bool.and_eq_true, List.all_eq_true] at h2
  obtain ⟨h3, h4, h5⟩ := h2
  have hg : ∀ n ∈ ns x, 0 ≤ n ∧ n ≤ 4294967295 := fun n hn => of_decide_eq_true (h5 n hn)
  rw [(mk_yes h).1, List.append_assoc]
  obtain ⟨a1, a2, a3⟩ := cut_app (r := x.r ++ (ns x).flatMap fourB) h3
  obtain ⟨b1, b2, b3⟩ := cut_app (r := (ns x).flatMap fourB) h4
  have hl : ((ns x).flatMap fourB).length = 20 := rfl
  have ho : soaO (x.m ++ (x.r ++ (ns x).flatMap fourB)) = true := by
    rw [soaO, a1, a3, b1, b3, hl]; rfl
  refine ⟨ho, ?_, ?_⟩
  · rw [soaV, if_pos ho, a2, a3, b2, b3, wd_flat x 0 (by omega), wd_flat x 1 (by omega), wd_flat x 2 (by omega), wd_flat x 3 (by omega), wd_flat x 4 (by omega)]
    rw [num_four _ (hg _ (getD_mem' (l := ns x) (i := 0) (by show _ < 5; omega))), num_four _ (hg _ (getD_mem' (l := ns x) (i := 1) (by show _ < 5; omega))), num_four _ (hg _ (getD_mem' (l := ns x) (i := 2) (by show _ < 5; omega))),
      num_four _ (hg _ (getD_mem' (l := ns x) (i := 3) (by show _ < 5; omega))), num_four _ (hg _ (getD_mem' (l := ns x) (i := 4) (by show _ < 5; omega)))]
    rfl
  · have := canN_len h3
    have := canN_len h4
    simp only [List.length_append, hl]
    omega
theorem five_of {c : List UInt8} (hc : c.length = 20) : c = ([wd c 0 5, wd c 1 5, wd c 2 5, wd c 3 5, wd c 4 5] : List Int).flatMap fourB := by
  match c, hc with
  | [a0, a1, a2, a3, a4, a5, a6, a7, a8, a9, b0, b1, b2, b3, b4, b5, b6, b7, b8, b9], _ =>
    have e0 : wd [a0, a1, a2, a3, a4, a5, a6, a7, a8, a9, b0, b1, b2, b3, b4, b5, b6, b7, b8, b9] 0 5 = num [a0, a1, a2, a3] := rfl
    have e1 : wd [a0, a1, a2, a3, a4, a5, a6, a7, a8, a9, b0, b1, b2, b3, b4, b5, b6, b7, b8, b9] 1 5 = num [a4, a5, a6, a7] := rfl
    have e2 : wd [a0, a1, a2, a3, a4, a5, a6, a7, a8, a9, b0, b1, b2, b3, b4, b5, b6, b7, b8, b9] 2 5 = num [a8, a9, b0, b1] := rfl
    have e3 : wd [a0, a1, a2, a3, a4, a5, a6, a7, a8, a9, b0, b1, b2, b3, b4, b5, b6, b7, b8, b9] 3 5 = num [b2, b3, b4, b5] := rfl
    have e4 : wd [a0, a1, a2, a3, a4, a5, a6, a7, a8, a9, b0, b1, b2, b3, b4, b5, b6, b7, b8, b9] 4 5 = num [b6, b7, b8, b9] := rfl
    rw [e0, e1, e2, e3, e4]
    simp only [List.flatMap_cons, List.flatMap_nil, four_num']
    rfl
theorem cut_back {b : List UInt8} (h : cutO b = true) : b = cutM b ++ cutR b ∧ canN (cutM b) = true := by
  rw [cutM, cutR, if_pos h, if_pos h, List.take_append_drop]
  simp only [cutO, Bool.and_eq_true] at h
  exact ⟨rfl, h.2⟩
theorem wd_le {c : List UInt8} {j : Nat} (hc : c.length = 20) (hj : j < 5) : 0 ≤ wd c j 5 ∧ wd c j 5 ≤ 4294967295 := by
  have h1 := dg_len hc hj
  have h2 := num_le 4 ((dg c j).take 4) (by rw [List.length_take]; omega)
  rw [wd, if_pos hj]
  omega
theorem make_soa {d : List UInt8} (h : soaO d = true) : mkO (soaV d) = true ∧ mkB (soaV d) = d := by
  have h2 := h
  simp only [soaO, Bool.and_eq_true, decide_eq_true_eq] at h2
  obtain ⟨h3, h4, h5⟩ := h2
  obtain ⟨a1, a2⟩ := cut_back h3
  obtain ⟨b1, b2⟩ := cut_back h4
  have hv : soaV d = ⟨cutM d, cutM (cutR d), wd (cutR (cutR d)) 0 5, wd (cutR (cutR d)) 1 5, wd (cutR (cutR d)) 2 5, wd (cutR (cutR d)) 3 5, wd (cutR (cutR d)) 4 5⟩ := by rw [soaV, if_pos h]
  have ho : mkO (soaV d) = true := by
    rw [hv]
    refine mk_good a2 b2 ?_
    intro n hn
    simp only [ns, List.mem_cons, List.not_mem_nil, or_false] at hn
    rcases hn with rfl | rfl | rfl | rfl | rfl <;> exact wd_le h5 (by omega)
  refine ⟨ho, ?_⟩
  rw [(mk_yes ho).1, hv]
  show cutM d ++ cutM (cutR d) ++ ([wd (cutR (cutR d)) 0 5, wd (cutR (cutR d)) 1 5, wd (cutR (cutR d)) 2 5, wd (cutR (cutR d)) 3 5, wd (cutR (cutR d)) 4 5] : List Int).flatMap fourB = d
  rw [← five_of h5, List.append_assoc, ← b1, ← a1]
theorem can_1234 : canR 1 [1, 2, 3, 4] = true := by simp [canR]
theorem namR_le (t : Int) (d : List UInt8) : (namR t d).length ≤ 1 := by
  unfold namR
  split
  · split
    · simp
    · split <;> simp
  · simp
theorem namS_le (t : Int) (d : List UInt8) : (namS t d).length ≤ 2 := by
  have := namR_le t d
  unfold namS
  split
  · split <;> simp
  · omega

set_option maxRecDepth 20000 in
set_option maxHeartbeats 2000000 in
theorem c_ciceroneref03_Can (t : Int) (b : List UInt8) (lv : Nat) (h : b.length ≤ 140737488351232) : AC Try.prog 59 [i64 t, .fz lv b.length (cl bc b)] emp (Ret (tf (canS t b))) := by
  refine AC.intro te_ok (fn := Try.f59) ⟨Try.func59, rfl, rfl⟩ (Nat.le_of_ble_eq_true rfl) ?_
  refine AWp.seq ?_
  refine AWp.region ?_
  refine AOps.cons rfl rfl (q_assign) ?_
  refine AOps.nil ?_
  refine AWp.seq ?_
  refine AWp.seq ?_
  refine AWp.region ?_
  refine AOps.cons rfl rfl (q_move) ?_
  refine AOps.dec rfl rfl (q_lss) (fun h1_1 => ?_) (fun h1_1 => ?_)
  · skip
    refine AOps.cons rfl rfl (q_move) ?_
    refine AOps.gskip rfl rfl rfl rfl rfl rfl rfl rfl ?_
    refine AOps.gskip rfl rfl rfl rfl rfl rfl rfl rfl ?_
    refine AOps.cons rfl rfl (q_pick) ?_
    refine AOps.cons rfl rfl (q_move) ?_
    refine AOps.gskip rfl rfl rfl rfl rfl rfl rfl rfl ?_
    refine AOps.gskip rfl rfl rfl rfl rfl rfl rfl rfl ?_
    refine AOps.gskip rfl rfl rfl rfl rfl rfl rfl rfl ?_
    refine AOps.cons rfl rfl (q_pick) ?_
    refine AOps.nil ?_
    refine AWp.cond_t rfl ?_
    refine AWp.seq ?_
    refine AWp.region ?_
    refine AOps.cons rfl rfl (q_assign) ?_
    refine AOps.nil ?_
    refine AWp.ret ?_
    show Fin te Try.f59 _ _
    refine q_ret (0) [_] [_] ?_
    rw [canS_ne (by omega), canR, if_pos (by omega)]; rfl
  · skip
    refine AOps.cons rfl rfl (q_move) ?_
    refine AOps.gcons rfl rfl rfl rfl rfl (q_move) ?_
    refine AOps.gdec rfl rfl rfl rfl rfl (q_gtr) (fun h1_4 => ?_) (fun h1_4 => ?_)
    · skip
      refine AOps.cons rfl rfl (q_pick) ?_
      refine AOps.cons rfl rfl (q_move) ?_
      refine AOps.gskip rfl rfl rfl rfl rfl rfl rfl rfl ?_
      refine AOps.gskip rfl rfl rfl rfl rfl rfl rfl rfl ?_
      refine AOps.gskip rfl rfl rfl rfl rfl rfl rfl rfl ?_
      refine AOps.cons rfl rfl (q_pick) ?_
      refine AOps.nil ?_
      refine AWp.cond_t rfl ?_
      refine AWp.seq ?_
      refine AWp.region ?_
      refine AOps.cons rfl rfl (q_assign) ?_
      refine AOps.nil ?_
      refine AWp.ret ?_
      show Fin te Try.f59 _ _
      refine q_ret (0) [_] [_] ?_
      rw [canS_ne (by omega), canR, if_pos (by omega)]; rfl
    · skip
      refine AOps.cons rfl rfl (q_pick) ?_
      refine AOps.cons rfl rfl (q_move) ?_
      refine AOps.gcons rfl rfl rfl rfl rfl (q_move) ?_
      refine AOps.gcons rfl rfl rfl rfl rfl (q_len) ?_
      refine AOps.gdec rfl rfl rfl rfl rfl (q_gtr) (fun h1_9 => ?_) (fun h1_9 => ?_)
      · skip
        refine AOps.cons rfl rfl (q_pick) ?_
        refine AOps.nil ?_
        refine AWp.cond_t rfl ?_
        refine AWp.seq ?_
        refine AWp.region ?_
        refine AOps.cons rfl rfl (q_assign) ?_
        refine AOps.nil ?_
        refine AWp.ret ?_
        show Fin te Try.f59 _ _
        refine q_ret (0) [_] [_] ?_
        by_cases h6 : t = 6
        · subst h6; rw [canS_6n (by omega)]; rfl
        · rw [canS_ne h6, canR, if_pos (by omega)]; rfl
      · skip
        refine AOps.cons rfl rfl (q_pick) ?_
        refine AOps.nil ?_
        refine AWp.cond_f rfl ?_
        refine AWp.skip ?_
        refine AWp.seq ?_
        refine AWp.seq ?_
        refine AWp.region ?_
        have hne : t ≠ 6 → canS t b = canR t b := canS_ne
        refine AOps.cons rfl rfl (q_move) ?_
        refine AOps.nil ?_
        refine AWp.block ?_
        refine AWp.seq ?_
        refine AWp.region ?_
        refine AOps.dec rfl rfl (q_eql) (fun h4_0 => ?_) (fun h4_0 => ?_)
        · skip
          refine AOps.cons rfl rfl (q_assign) ?_
          refine AOps.nil ?_
          refine AWp.cond_t rfl ?_
          refine AWp.seq ?_
          refine AWp.region ?_
          refine AOps.cons rfl rfl (q_move) ?_
          refine AOps.cons rfl rfl (q_len) ?_
          refine AOps.cons rfl rfl (q_eql) ?_
          refine AOps.cons rfl rfl (q_assign) ?_
          refine AOps.nil ?_
          refine AWp.ret ?_
          show Fin te Try.f59 _ _
          refine q_ret (0) [_] [_] ?_
          rw [canS_ne (by omega), canR, if_neg (by omega), if_pos h4_0]; exact congrArg tf (decide_eq_decide.2 (by omega))
        · skip
          refine AOps.cons rfl rfl (q_assign) ?_
          refine AOps.nil ?_
          refine AWp.cond_f rfl ?_
          refine AWp.seq ?_
          refine AWp.region ?_
          refine AOps.dec rfl rfl (q_eql) (fun h6_0 => ?_) (fun h6_0 => ?_)
          · skip
            refine AOps.cons rfl rfl (q_assign) ?_
            refine AOps.nil ?_
            refine AWp.cond_t rfl ?_
            refine AWp.seq ?_
            refine AWp.region ?_
            refine AOps.cons rfl rfl (q_move) ?_
            refine AOps.cons rfl rfl (q_len) ?_
            refine AOps.cons rfl rfl (q_eql) ?_
            refine AOps.cons rfl rfl (q_assign) ?_
            refine AOps.nil ?_
            refine AWp.ret ?_
            show Fin te Try.f59 _ _
            refine q_ret (0) [_] [_] ?_
            rw [canS_ne (by omega), canR, if_neg (by omega), if_neg h4_0, if_pos h6_0]; exact congrArg tf (decide_eq_decide.2 (by omega))
          · skip
            refine AOps.cons rfl rfl (q_assign) ?_
            refine AOps.nil ?_
            refine AWp.cond_f rfl ?_
            refine AWp.seq ?_
            refine AWp.seq ?_
            refine AWp.region ?_
            refine AOps.dec rfl rfl (q_eql) (fun h8_0 => ?_) (fun h8_0 => ?_)
            · skip
              refine AOps.cons rfl rfl (q_assign) ?_
              refine AOps.nil ?_
              refine AWp.cond_t rfl ?_
              refine AWp.skip ?_
              refine AWp.cond_t rfl ?_
              refine AWp.seq ?_
              refine AWp.region ?_
              refine AOps.cons rfl rfl (q_move) ?_
              refine AOps.cons rfl rfl (by first | exact q_conv_zs | exact q_conv_ls) ?_
              refine AOps.cons rfl rfl (q_call (lv) (hc := c_ciceroneref01_Can _ (by first | assumption | omega | decide | (simp; omega) | (simp [*]; done)))) ?_
              refine AOps.cons rfl rfl (q_assign) ?_
              refine AOps.nil ?_
              refine AWp.ret ?_
              show Fin te Try.f59 _ _
              refine q_ret (0) [_] [_] ?_
              rw [canS_ne (by omega), canR, if_neg (by omega), if_neg h4_0, if_neg h6_0, if_pos (by omega)]; rfl
            · skip
              refine AOps.cons rfl rfl (q_assign) ?_
              refine AOps.nil ?_
              refine AWp.cond_f rfl ?_
              refine AWp.seq ?_
              refine AWp.region ?_
              refine AOps.dec rfl rfl (q_eql) (fun h9_0 => ?_) (fun h9_0 => ?_)
              · skip
                refine AOps.cons rfl rfl (q_assign) ?_
                refine AOps.nil ?_
                refine AWp.cond_t rfl ?_
                refine AWp.skip ?_
                refine AWp.cond_t rfl ?_
                refine AWp.seq ?_
                refine AWp.region ?_
                refine AOps.cons rfl rfl (q_move) ?_
                refine AOps.cons rfl rfl (by first | exact q_conv_zs | exact q_conv_ls) ?_
                refine AOps.cons rfl rfl (q_call (lv) (hc := c_ciceroneref01_Can _ (by first | assumption | omega | decide | (simp; omega) | (simp [*]; done)))) ?_
                refine AOps.cons rfl rfl (q_assign) ?_
                refine AOps.nil ?_
                refine AWp.ret ?_
                show Fin te Try.f59 _ _
                refine q_ret (0) [_] [_] ?_
                rw [canS_ne (by omega), canR, if_neg (by omega), if_neg h4_0, if_neg h6_0, if_pos (by omega)]; rfl
              · skip
                refine AOps.cons rfl rfl (q_assign) ?_
                refine AOps.nil ?_
                refine AWp.cond_f rfl ?_
                refine AWp.region ?_
                refine AOps.dec rfl rfl (q_eql) (fun h10_0 => ?_) (fun h10_0 => ?_)
                · skip
                  refine AOps.cons rfl rfl (q_assign) ?_
                  refine AOps.nil ?_
                  refine AWp.cond_t rfl ?_
                  refine AWp.seq ?_
                  refine AWp.region ?_
                  refine AOps.cons rfl rfl (q_move) ?_
                  refine AOps.cons rfl rfl (by first | exact q_conv_zs | exact q_conv_ls) ?_
                  refine AOps.cons rfl rfl (q_call (lv) (hc := c_ciceroneref01_Can _ (by first | assumption | omega | decide | (simp; omega) | (simp [*]; done)))) ?_
                  refine AOps.cons rfl rfl (q_assign) ?_
                  refine AOps.nil ?_
                  refine AWp.ret ?_
                  show Fin te Try.f59 _ _
                  refine q_ret (0) [_] [_] ?_
                  rw [canS_ne (by omega), canR, if_neg (by omega), if_neg h4_0, if_neg h6_0, if_pos (by omega)]; rfl
                · skip
                  refine AOps.cons rfl rfl (q_assign) ?_
                  refine AOps.nil ?_
                  refine AWp.cond_f rfl ?_
                  refine AWp.seq ?_
                  refine AWp.region ?_
                  refine AOps.dec rfl rfl (q_eql) (fun h12_0 => ?_) (fun h12_0 => ?_)
                  · skip
                    refine AOps.cons rfl rfl (q_assign) ?_
                    refine AOps.nil ?_
                    refine AWp.cond_t rfl ?_
                    refine AWp.seq ?_
                    refine AWp.region ?_
                    refine AOps.cons rfl rfl (q_move) ?_
                    refine AOps.cons rfl rfl (q_len) ?_
                    refine AOps.dec rfl rfl (q_gtr) (fun h13_2 => ?_) (fun h13_2 => ?_)
                    · skip
                      refine AOps.cons rfl rfl (q_move) ?_
                      refine AOps.gcons rfl rfl rfl rfl rfl (q_move) ?_
                      refine AOps.gcons rfl rfl rfl rfl rfl (q_sl) ?_
                      refine AOps.gcons rfl rfl rfl rfl rfl (by first | exact q_conv_zs | exact q_conv_ls) ?_
                      refine AOps.gcons rfl rfl rfl rfl rfl (q_call (lv) (hc := c_ciceroneref01_Can _ (by first | assumption | omega | decide | (simp; omega) | (simp [*]; done)))) ?_
                      refine AOps.cons rfl rfl (q_pick) ?_
                      refine AOps.cons rfl rfl (q_assign) ?_
                      refine AOps.nil ?_
                      refine AWp.ret ?_
                      show Fin te Try.f59 _ _
                      refine q_ret (0) [_] [_] ?_
                      rw [canS_ne (by omega), canR, if_neg (by omega), if_neg h4_0, if_neg h6_0, if_neg (by omega), if_pos h12_0, decide_eq_true (by omega)]; rfl
                    · skip
                      refine AOps.cons rfl rfl (q_move) ?_
                      refine AOps.gskip rfl rfl rfl rfl rfl rfl rfl rfl ?_
                      refine AOps.gskip rfl rfl rfl rfl rfl rfl rfl rfl ?_
                      refine AOps.gskip rfl rfl rfl rfl rfl rfl rfl rfl ?_
                      refine AOps.gskip rfl rfl rfl rfl rfl rfl rfl rfl ?_
                      refine AOps.cons rfl rfl (q_pick) ?_
                      refine AOps.cons rfl rfl (q_assign) ?_
                      refine AOps.nil ?_
                      refine AWp.ret ?_
                      show Fin te Try.f59 _ _
                      refine q_ret (0) [_] [_] ?_
                      rw [canS_ne (by omega), canR, if_neg (by omega), if_neg h4_0, if_neg h6_0, if_neg (by omega), if_pos h12_0, decide_eq_false (by omega)]; rfl
                  · skip
                    refine AOps.cons rfl rfl (q_assign) ?_
                    refine AOps.nil ?_
                    refine AWp.cond_f rfl ?_
                    refine AWp.seq ?_
                    refine AWp.region ?_
                    refine AOps.dec rfl rfl (q_eql) (fun h14_0 => ?_) (fun h14_0 => ?_)
                    · skip
                      refine AOps.cons rfl rfl (q_assign) ?_
                      refine AOps.nil ?_
                      refine AWp.cond_t rfl ?_
                      refine AWp.seq ?_
                      refine AWp.region ?_
                      refine AOps.cons rfl rfl (q_move) ?_
                      refine AOps.cons rfl rfl (q_call (lv) (hc := c_ciceroneref03_SOA _ _ (by first | assumption | omega | decide | (simp; omega) | (simp [*]; done)))) ?_
                      refine AOps.cons rfl rfl (q_move) ?_
                      refine AOps.cons rfl rfl (q_extract) ?_
                      refine AOps.cons rfl rfl (q_extract) ?_
                      refine AOps.cons rfl rfl (q_alloc 1605) ?_
                      refine AOps.cons rfl rfl (q_store) ?_
                      refine AOps.cons rfl rfl (q_assign) ?_
                      refine AOps.nil ?_
                      refine AWp.seq ?_
                      refine AWp.region ?_
                      refine AOps.cons rfl rfl (q_move) ?_
                      refine AOps.cons rfl rfl (q_assign) ?_
                      refine AOps.nil ?_
                      refine AWp.ret ?_
                      show Fin te Try.f59 _ _
                      refine q_ret (0) [_] [_] ?_
                      obtain rfl : t = 6 := h14_0
                      rw [canS_6 (by omega)]; rfl
                    · skip
                      refine AOps.cons rfl rfl (q_assign) ?_
                      refine AOps.nil ?_
                      refine AWp.cond_f rfl ?_
                      refine AWp.seq ?_
                      refine AWp.region ?_
                      refine AOps.dec rfl rfl (q_eql) (fun h17_0 => ?_) (fun h17_0 => ?_)
                      · skip
                        refine AOps.cons rfl rfl (q_assign) ?_
                        refine AOps.nil ?_
                        refine AWp.cond_t rfl ?_
                        refine AWp.seq ?_
                        refine AWp.region ?_
                        refine AOps.cons rfl rfl (q_move) ?_
                        refine AOps.cons rfl rfl (q_call (lv) (hc := c_ciceroneref03_texts _ _ (by first | assumption | omega | decide | (simp; omega) | (simp [*]; done)))) ?_
                        refine AOps.cons rfl rfl (q_assign) ?_
                        refine AOps.nil ?_
                        refine AWp.ret ?_
                        show Fin te Try.f59 _ _
                        refine q_ret (0) [_] [_] ?_
                        rw [canS_ne (by omega), canR, if_neg (by omega), if_neg h4_0, if_neg h6_0, if_neg (by omega), if_neg h12_0, if_pos h17_0]; rfl
                      · skip
                        refine AOps.cons rfl rfl (q_assign) ?_
                        refine AOps.nil ?_
                        refine AWp.cond_f rfl ?_
                        refine AWp.seq ?_
                        refine AWp.region ?_
                        refine AOps.dec rfl rfl (q_eql) (fun h19_0 => ?_) (fun h19_0 => ?_)
                        · skip
                          refine AOps.cons rfl rfl (q_assign) ?_
                          refine AOps.nil ?_
                          refine AWp.cond_t rfl ?_
                          refine AWp.seq ?_
                          refine AWp.region ?_
                          refine AOps.cons rfl rfl (q_move) ?_
                          refine AOps.cons rfl rfl (q_call (lv) (hc := c_ciceroneref03_options _ _ (by first | assumption | omega | decide | (simp; omega) | (simp [*]; done)))) ?_
                          refine AOps.cons rfl rfl (q_assign) ?_
                          refine AOps.nil ?_
                          refine AWp.ret ?_
                          show Fin te Try.f59 _ _
                          refine q_ret (0) [_] [_] ?_
                          rw [canS_ne (by omega), canR, if_neg (by omega), if_neg h4_0, if_neg h6_0, if_neg (by omega), if_neg h12_0, if_neg h17_0, if_pos h19_0]; rfl
                        · skip
                          refine AOps.cons rfl rfl (q_assign) ?_
                          refine AOps.nil ?_
                          refine AWp.cond_f rfl ?_
                          refine AWp.skip ?_
                          refine AWp.seq ?_
                          refine AWp.region ?_
                          refine AOps.cons rfl rfl (q_assign) ?_
                          refine AOps.nil ?_
                          refine AWp.ret ?_
                          show Fin te Try.f59 _ _
                          refine q_ret (0) [_] [_] ?_
                          rw [canS_ne (by omega), canR, if_neg (by omega), if_neg h4_0, if_neg h6_0, if_neg (by omega), if_neg h12_0, if_neg h17_0, if_neg h19_0]; rfl

set_option maxRecDepth 20000 in
set_option maxHeartbeats 2000000 in
theorem c_ciceroneref03_Names (t : Int) (b : List UInt8) (lv : Nat) (h : b.length ≤ 140737488351232) : AC Try.prog 67 [i64 t, .fz lv b.length (cl bc b)] emp (Ret (.fz 0 (namS t b).length (cl sc (namS t b)))) := by
  refine AC.intro te_ok (fn := Try.f67) ⟨Try.func67, rfl, rfl⟩ (Nat.le_of_ble_eq_true rfl) ?_
  refine AWp.seq ?_
  refine AWp.region ?_
  refine AOps.cons rfl rfl (q_nilz (0) sc) ?_
  refine AOps.nil ?_
  refine AWp.seq ?_
  refine AWp.seq ?_
  refine AWp.region ?_
  refine AOps.cons rfl rfl (q_move) ?_
  refine AOps.cons rfl rfl (q_move) ?_
  refine AOps.bool rfl rfl (q_call (lv) (hc := c_ciceroneref03_Can _ _ _ (by first | assumption | omega | decide | (simp; omega) | (simp [*]; done)))) (fun h1_2 => ?_) (fun h1_2 => ?_)
  · skip
    refine AOps.cons rfl rfl (q_not) ?_
    refine AOps.nil ?_
    refine AWp.cond_f rfl ?_
    refine AWp.skip ?_
    refine AWp.seq ?_
    refine AWp.seq ?_
    refine AWp.region ?_
    refine AOps.cons rfl rfl (q_move) ?_
    refine AOps.nil ?_
    refine AWp.block ?_
    refine AWp.seq ?_
    refine AWp.seq ?_
    refine AWp.region ?_
    refine AOps.dec rfl rfl (q_eql) (fun h4_0 => ?_) (fun h4_0 => ?_)
    · skip
      refine AOps.cons rfl rfl (q_assign) ?_
      refine AOps.nil ?_
      refine AWp.cond_t rfl ?_
      refine AWp.skip ?_
      refine AWp.cond_t rfl ?_
      refine AWp.seq ?_
      refine AWp.region ?_
      refine AOps.cons rfl rfl (q_move) ?_
      refine AOps.cons rfl rfl (by first | exact q_conv_zs | exact q_conv_ls) ?_
      refine AOps.cons rfl rfl (q_bs 802 sc [_] [(_, _)]) ?_
      refine AOps.cons rfl rfl (q_assign) ?_
      refine AOps.nil ?_
      refine AWp.ret ?_
      show Fin te Try.f67 _ _
      refine q_ret (0) [_] [_] ?_
      rw [canS_ne (by omega)] at h1_2
      rw [namS_ne (by omega), namR, if_pos h1_2, if_pos (by omega)]; rfl
    · skip
      refine AOps.cons rfl rfl (q_assign) ?_
      refine AOps.nil ?_
      refine AWp.cond_f rfl ?_
      refine AWp.seq ?_
      refine AWp.region ?_
      refine AOps.dec rfl rfl (q_eql) (fun h5_0 => ?_) (fun h5_0 => ?_)
      · skip
        refine AOps.cons rfl rfl (q_assign) ?_
        refine AOps.nil ?_
        refine AWp.cond_t rfl ?_
        refine AWp.skip ?_
        refine AWp.cond_t rfl ?_
        refine AWp.seq ?_
        refine AWp.region ?_
        refine AOps.cons rfl rfl (q_move) ?_
        refine AOps.cons rfl rfl (by first | exact q_conv_zs | exact q_conv_ls) ?_
        refine AOps.cons rfl rfl (q_bs 802 sc [_] [(_, _)]) ?_
        refine AOps.cons rfl rfl (q_assign) ?_
        refine AOps.nil ?_
        refine AWp.ret ?_
        show Fin te Try.f67 _ _
        refine q_ret (0) [_] [_] ?_
        rw [canS_ne (by omega)] at h1_2
        rw [namS_ne (by omega), namR, if_pos h1_2, if_pos (by omega)]; rfl
      · skip
        refine AOps.cons rfl rfl (q_assign) ?_
        refine AOps.nil ?_
        refine AWp.cond_f rfl ?_
        refine AWp.region ?_
        refine AOps.dec rfl rfl (q_eql) (fun h6_0 => ?_) (fun h6_0 => ?_)
        · skip
          refine AOps.cons rfl rfl (q_assign) ?_
          refine AOps.nil ?_
          refine AWp.cond_t rfl ?_
          refine AWp.seq ?_
          refine AWp.region ?_
          refine AOps.cons rfl rfl (q_move) ?_
          refine AOps.cons rfl rfl (by first | exact q_conv_zs | exact q_conv_ls) ?_
          refine AOps.cons rfl rfl (q_bs 802 sc [_] [(_, _)]) ?_
          refine AOps.cons rfl rfl (q_assign) ?_
          refine AOps.nil ?_
          refine AWp.ret ?_
          show Fin te Try.f67 _ _
          refine q_ret (0) [_] [_] ?_
          rw [canS_ne (by omega)] at h1_2
          rw [namS_ne (by omega), namR, if_pos h1_2, if_pos (by omega)]; rfl
        · skip
          refine AOps.cons rfl rfl (q_assign) ?_
          refine AOps.nil ?_
          refine AWp.cond_f rfl ?_
          refine AWp.seq ?_
          refine AWp.region ?_
          refine AOps.dec rfl rfl (q_eql) (fun h8_0 => ?_) (fun h8_0 => ?_)
          · skip
            refine AOps.cons rfl rfl (q_assign) ?_
            refine AOps.nil ?_
            refine AWp.cond_t rfl ?_
            refine AWp.seq ?_
            refine AWp.region ?_
            have hm := h1_2
            rw [canS_ne (by omega)] at hm
            have h2 := canR_15 h8_0 hm
            refine AOps.cons rfl rfl (q_move) ?_
            refine AOps.cons rfl rfl (q_sl) ?_
            refine AOps.cons rfl rfl (by first | exact q_conv_zs | exact q_conv_ls) ?_
            refine AOps.cons rfl rfl (q_bs 1003 sc [_] [(_, _)]) ?_
            refine AOps.cons rfl rfl (q_assign) ?_
            refine AOps.nil ?_
            refine AWp.ret ?_
            show Fin te Try.f67 _ _
            refine q_ret (0) [_] [_] ?_
            rw [namS_ne (by omega), namR, if_pos hm, if_neg (by omega), if_pos h8_0]; rfl
          · skip
            refine AOps.cons rfl rfl (q_assign) ?_
            refine AOps.nil ?_
            refine AWp.cond_f rfl ?_
            refine AWp.seq ?_
            refine AWp.region ?_
            refine AOps.dec rfl rfl (q_eql) (fun h10_0 => ?_) (fun h10_0 => ?_)
            · skip
              refine AOps.cons rfl rfl (q_assign) ?_
              refine AOps.nil ?_
              refine AWp.cond_t rfl ?_
              refine AWp.seq ?_
              refine AWp.region ?_
              refine AOps.cons rfl rfl (q_move) ?_
              refine AOps.cons rfl rfl (q_call (lv) (hc := c_ciceroneref03_SOA _ _ (by first | assumption | omega | decide | (simp; omega) | (simp [*]; done)))) ?_
              refine AOps.cons rfl rfl (q_move) ?_
              refine AOps.cons rfl rfl (q_extract) ?_
              refine AOps.cons rfl rfl (q_extract) ?_
              refine AOps.cons rfl rfl (q_alloc 1205) ?_
              refine AOps.cons rfl rfl (q_store) ?_
              refine AOps.cons rfl rfl (q_assign) ?_
              refine AOps.nil ?_
              refine AWp.seq ?_
              refine AWp.region ?_
              refine AOps.cons rfl rfl (q_fa) ?_
              refine AOps.cons rfl rfl (q_load) ?_
              refine AOps.cons rfl rfl (q_fa) ?_
              refine AOps.cons rfl rfl (q_load) ?_
              refine AOps.cons rfl rfl (q_bs 1304 sc [_, _] [(_, _), (_, _)]) ?_
              refine AOps.cons rfl rfl (q_assign) ?_
              refine AOps.nil ?_
              refine AWp.ret ?_
              show Fin te Try.f67 _ _
              refine q_ret (0) [_] [_] ?_
              obtain rfl : t = 6 := h10_0
              rw [namS, if_pos rfl, if_pos h1_2]; rfl
            · skip
              refine AOps.cons rfl rfl (q_assign) ?_
              refine AOps.nil ?_
              refine AWp.cond_f rfl ?_
              refine AWp.skip ?_
              refine AWp.seq ?_
              refine AWp.region ?_
              refine AOps.cons rfl rfl (q_nilz (0) sc) ?_
              refine AOps.nil ?_
              refine AWp.ret ?_
              show Fin te Try.f67 _ _
              refine q_ret (0) [_] [_] ?_
              rw [canS_ne h10_0] at h1_2
              rw [namS_ne h10_0, namR, if_pos h1_2, if_neg (by omega), if_neg h8_0]; rfl
  · skip
    refine AOps.cons rfl rfl (q_not) ?_
    refine AOps.nil ?_
    refine AWp.cond_t rfl ?_
    refine AWp.seq ?_
    refine AWp.region ?_
    refine AOps.cons rfl rfl (q_nilz (0) sc) ?_
    refine AOps.nil ?_
    refine AWp.ret ?_
    show Fin te Try.f67 _ _
    refine q_ret (0) [_] [_] ?_
    by_cases h6 : t = 6
    · subst h6; rw [namS, if_pos rfl, if_neg (by simp [h1_2])]; rfl
    · rw [canS_ne h6] at h1_2; rw [namS_ne h6, namR, if_neg (by simp [h1_2])]; rfl

end Go.Proofs.Ytkfccjbihcbmiaa.Fw

/- Walks of functions of Go's package slices; their conditions stand ahead. -/
set_option linter.unusedVariables false
set_option linter.unusedSimpArgs false
namespace Go.Proofs.Ytkfccjbihcbmiaa.Fw
open Go.RowKit


/-- Where the first that g holds of stands, or -1. -/
def idx {α : Type} (g : α → Bool) : List α → Int
  | [] => -1
  | a :: l => if g a then 0 else if idx g l = -1 then -1 else idx g l + 1
theorem idx_ge {α : Type} (g : α → Bool) : ∀ l, -1 ≤ idx g l
  | [] => by simp [idx]
  | a :: l => by
    have := idx_ge g l
    simp only [idx]
    split
    · omega
    · split <;> omega
theorem idx_none {α : Type} {g : α → Bool} : ∀ {l : List α}, (∀ x ∈ l, g x = false) → idx g l = -1
  | [], _ => rfl
  | a :: l, h => by
    simp [idx, h a (by simp), idx_none (l := l) fun x hx => h x (by simp [hx])]
theorem idx_at {α : Type} [Inhabited α] {g : α → Bool} : ∀ {l : List α} {i : Nat}, i < l.length → (∀ x ∈ l.take i, g x = false) → g (l.getD i default) = true → idx g l = i
  | [], i, h, _, _ => by simp at h
  | a :: l, 0, _, _, h => by
    have : g a = true := by simpa using h
    simp [idx, this]
  | a :: l, i + 1, h, h1, h2 => by
    have h3 : g a = false := h1 a (by simp)
    have h4 := idx_at (l := l) (i := i) (g := g) (by simpa using h) (fun x hx => h1 x (by simp [hx])) (by simpa using h2)
    simp only [idx, h3, Bool.false_eq_true, if_false, h4]
    rw [if_neg (by omega)]
    omega
theorem idx_step {α : Type} [Inhabited α] {g : α → Bool} {l : List α} {i : Nat} (h : i < l.length) (h1 : ∀ x ∈ l.take i, g x = false) (h2 : g (l.getD i default) = false) : ∀ x ∈ l.take (i + 1), g x = false := by
  intro x hx
  rw [List.take_succ_eq_append_getElem h] at hx
  rcases List.mem_append.1 hx with hx | hx
  · exact h1 x hx
  · simp only [List.mem_singleton] at hx
    subst hx
    simpa [List.getD_eq_getElem?_getD, List.getElem?_eq_getElem h] using h2
theorem idx_any_iff {α : Type} {g : α → Bool} : ∀ {l : List α}, 0 ≤ idx g l ↔ l.any g = true
  | [] => by simp [idx]
  | a :: l => by
    have h1 := idx_ge g l
    have h2 := idx_any_iff (g := g) (l := l)
    unfold idx
    rw [List.any_cons]
    by_cases ha : g a = true
    · simp [ha]
    · rw [if_neg ha]
      simp only [Bool.not_eq_true] at ha
      rw [ha, Bool.false_or, ← h2]
      split <;> omega
theorem idx_any {α : Type} {g : α → Bool} {l : List α} : decide (0 ≤ idx g l) = l.any g := by
  rw [Bool.eq_iff_iff, decide_eq_true_iff]
  exact idx_any_iff
theorem fvs_caps {h : Heap} {lo hi l : Nat} {a b : AV} {caps : List AV} (e : FVal h lo hi a b) (hl : l ≤ lo) (hc : AV.oks l caps = true) : FVals h lo hi (a :: caps) (b :: caps) := ⟨e, fvs_ok (AV.oks_mono hl hc)⟩

set_option maxRecDepth 20000 in
set_option maxHeartbeats 2000000 in
theorem c_IndexFunc_int (l : List (Int)) (lv lv' lw : Nat) (caps : List AV) (g : Int → Bool) {fid : Nat} (hl : l.length ≤ 140737488351232) (hcaps : AV.oks lw caps = true) (hg : ∀ x ∈ l, AC Try.prog fid (i64 x :: caps) emp (Ret (tf (g x)))) : AC Try.prog 95 [.fz lv l.length (cl (ic) l), .fn (.func fid) [] caps] emp (Ret (i64 (idx g l))) := by
  refine AC.intro te_ok (fn := Try.f95) ⟨Try.func95, rfl, rfl⟩ (Nat.le_of_ble_eq_true rfl) ?_
  refine AWp.seq ?_
  refine AWp.region ?_
  refine AOps.cons rfl rfl (q_assign) ?_
  refine AOps.nil ?_
  refine AWp.seq ?_
  refine AWp.seq ?_
  refine AWp.region ?_
  refine AOps.cons rfl rfl (q_move) ?_
  refine AOps.cons rfl rfl (q_len) ?_
  refine AOps.cons rfl rfl (q_move) ?_
  refine AOps.nil ?_
  refine AWp.block ?_
  refine AWp.loopR (α := Nat) [4, 5, 8, 9, 10, 11, 12, 13, 14, 15, 16, 17, 18] (fun i => [(8, i64 i)]) (fun i => []) (fun i => i ≤ l.length ∧ ∀ x ∈ l.take i, g x = false) (fun i => l.length - i) 0 ?_ (Back.mk' (HasT.cons HasT.nil) HasH.nil) ?_
  · exact ⟨Nat.zero_le _, by simp⟩
  · rintro i ⟨hi, hI⟩
    refine AWp.seq ?_
    refine AWp.region ?_
    refine AOps.dec rfl rfl (q_lss) (fun h2_0 => ?_) (fun h2_0 => ?_)
    · skip
      refine AOps.nil ?_
      refine AWp.seq ?_
      refine AWp.cond_t rfl ?_
      refine AWp.skip ?_
      refine AWp.seq ?_
      refine AWp.block ?_
      refine AWp.seq ?_
      refine AWp.region ?_
      refine AOps.cons rfl rfl (q_move) ?_
      refine AOps.cons rfl rfl (q_assign) ?_
      refine AOps.nil ?_
      refine AWp.seq ?_
      refine AWp.region ?_
      refine AOps.cons rfl rfl (q_move) ?_
      refine AOps.cons rfl rfl (q_move) ?_
      refine AOps.cons rfl rfl (q_move) ?_
      refine AOps.cons rfl rfl (q_ix) ?_
      refine AOps.cons rfl rfl (q_load) ?_
      refine AOps.bool rfl rfl (q_call (lv + lv' + lw) (hA := by exact fvs_caps (l := lw) (fv_okb rfl (by first | rfl | exact ble_of (by omega) | (simp [AV.ok, AV.oks]; done))) (by omega) hcaps) (hc := (hg _ (getD_mem (i := i) (by omega))))) (fun h4_5 => ?_) (fun h4_5 => ?_)
      · skip
        refine AOps.nil ?_
        refine AWp.cond_t rfl ?_
        refine AWp.seq ?_
        refine AWp.region ?_
        refine AOps.cons rfl rfl (q_move) ?_
        refine AOps.cons rfl rfl (q_assign) ?_
        refine AOps.nil ?_
        refine AWp.ret ?_
        show Fin te Try.f95 _ _
        refine q_ret (0) [_] [_] ?_
        exact i64_eq (idx_at (by omega) hI h4_5).symm
      · skip
        refine AOps.nil ?_
        refine AWp.cond_f rfl ?_
        refine AWp.skip ?_
        refine AWp.region ?_
        refine AOps.cons rfl rfl (q_add) ?_
        refine AOps.cons rfl rfl (q_move) ?_
        refine AOps.nil ?_
        refine ⟨i + 1, ?_, Back.mk' (HasT.cons HasT.nil) HasH.nil, ?_⟩
        · exact ⟨by omega, idx_step (by omega) hI h4_5⟩
        · first | omega | (simp; omega)
    · skip
      refine AOps.nil ?_
      refine AWp.seq ?_
      refine AWp.cond_f rfl ?_
      refine AWp.exit ?_
      refine AWp.seq ?_
      refine AWp.region ?_
      refine AOps.cons rfl rfl (q_assign) ?_
      refine AOps.nil ?_
      refine AWp.ret ?_
      show Fin te Try.f95 _ _
      refine q_ret (0) [_] [_] ?_
      exact i64_eq (idx_none (by rwa [List.take_of_length_le (by omega)] at hI)).symm

set_option maxRecDepth 20000 in
set_option maxHeartbeats 2000000 in
theorem c_ContainsFunc_int (l : List (Int)) (lv lv' lw : Nat) (caps : List AV) (g : Int → Bool) {fid : Nat} (hl : l.length ≤ 140737488351232) (hcaps : AV.oks lw caps = true) (hg : ∀ x ∈ l, AC Try.prog fid (i64 x :: caps) emp (Ret (tf (g x)))) : AC Try.prog 79 [.fz lv l.length (cl (ic) l), .fn (.func fid) [] caps] emp (Ret (tf (l.any g))) := by
  refine AC.intro te_ok (fn := Try.f79) ⟨Try.func79, rfl, rfl⟩ (Nat.le_of_ble_eq_true rfl) ?_
  refine AWp.seq ?_
  refine AWp.region ?_
  refine AOps.cons rfl rfl (q_assign) ?_
  refine AOps.nil ?_
  refine AWp.seq ?_
  refine AWp.region ?_
  refine AOps.cons rfl rfl (q_move) ?_
  refine AOps.cons rfl rfl (q_move) ?_
  refine AOps.cons rfl rfl (q_call (lv + lv' + lw) (hA := by exact ⟨fv_okb rfl (ble_of (by omega)), fv_okb (b := .fn (.func fid) [] caps) rfl (by simp [AV.ok, AV.oks, AV.oks_mono (show lw ≤ lv + lv' + lw by omega) hcaps]), trivial⟩) (hc := (c_IndexFunc_int l lv lv' lw caps g hl hcaps hg))) ?_
  refine AOps.cons rfl rfl (q_geq) ?_
  refine AOps.cons rfl rfl (q_assign) ?_
  refine AOps.nil ?_
  refine AWp.ret ?_
  show Fin te Try.f79 _ _
  refine q_ret (0) [_] [_] ?_
  exact congrArg tf idx_any

end Go.Proofs.Ytkfccjbihcbmiaa.Fw

/- Q8: temporaries that are nil. -/
set_option linter.unusedVariables false
set_option linter.unusedSimpArgs false
namespace Go.Proofs.Ytkfccjbihcbmiaa.Fw
open Go.RowKit
/-- A temporary that is nil: an empty row of one's own. -/
theorem Weak.niltmp (k id esz : Nat) {α : Type} (f : α → List AV) {s : AS} (hk : s.t k = .v (.slice none 0 0) := by exact rfl) (hid : s.h id = none := by exact rfl) :
    Weak s ((s.seth id (some (.row (cl f []) esz 0))).put (some k) (.sl id 0 0 ([] : List α).length esz)) := by
  intro n Λ w φ a hs
  have hn := hs.hs.dom id hid
  have hc : Chg w φ Λ s.h id ⟨none, 0⟩ w := ⟨hs.hs, Nat.le_refl _, rfl, rfl, rfl, fun _ _ _ => rfl, (fun b' o' h => by cases h), (fun l hl => by rw [hn] at hl; cases hl), (fun l hl => by rw [hn] at hl; cases hl)⟩
  have h1 : HSim w (upd φ id (some ⟨none, 0⟩)) Λ (upd s.h id (some (.row (cl f []) esz 0))) := hc.hsim ⟨rfl, .inl ⟨rfl, rfl⟩⟩
  refine ⟨upd φ id (some ⟨none, 0⟩), ⟨hs.defs, hs.size, fun i => ?_, h1⟩, hc.goes⟩
  show Rep w _ Λ (upd s.t k (.sl id 0 0 0 esz) i) _
  by_cases he : i = k
  · subst he
    rw [upd_same]
    have := hs.tmps i
    rw [hk] at this
    generalize a.tmps.getD i undef = v at this
    cases this
    exact .sl0 (upd_same _ _ _) rfl
  · rw [upd_other _ _ _ _ he]
    exact hc.rep (hs.tmps i)
end Go.Proofs.Ytkfccjbihcbmiaa.Fw

/- Q9: slices with three indices, of frozen lists. -/
set_option linter.unusedVariables false
set_option linter.unusedSimpArgs false
namespace Go.Proofs.Ytkfccjbihcbmiaa.Fw
open Go.RowKit
section
variable {n : Nat} {s : AS} {o : Oper} {d : Option Tmp}
/-- A part of a frozen list with a capacity that is told by another temporary of the same value. -/
theorem ok_slice_fz3 {P : Program} {te : TE} (hte : TEok P te) {t e : TypeId} {x y z : Operand} {lo : Option Operand} {lv m : Nat} {cells cs : List AV} {p q : Nat} {ti tj : TI} (ho : o.op = .slice t x lo (some y) (some z))
    (hx : s.ev x = .fz lv m cells) (ht : te.get t = some ti) (hk : ti.k = .slice e) (he : te.get e = some tj) (hm : ∀ c, Bnd s (some z) c q) (hh : Bnd s (some y) m q) (hl : Bnd s lo 0 p) (h1 : p ≤ q) (h2 : q ≤ m)
    (hcl : cells.length = m * tj.size) (hcs : (cells.drop (p * tj.size)).take ((q - p) * tj.size) = cs) (hp : 0 < tj.size) (hdd : o.dst = d) (hd : d.all (Nat.blt · n) = true) :
    OpOk P n o s (s.put d (.fz lv (q - p) cs)) :=
  .val hdd hd fun Λ w φ a hs => by
    have hu := (hte.tells ht).slice hk
    have hr := hs.ev x
    rw [hx] at hr
    have hlen : cs.length = (q - p) * tj.size := by
      rw [← hcs, List.length_take, List.length_drop, hcl, ← Nat.sub_mul]
      exact Nat.min_eq_left (Nat.mul_le_mul_right _ (by omega))
    have hb : ∀ cap, m ≤ cap → ∃ mm, q ≤ mm ∧ mm ≤ cap ∧ (Instr.sliceBounds true m cap (lo.map a.eval) ((some y).map a.eval) ((some z).map a.eval)).run P w = .ok (p, q, mm) w := by
      intro cap hcap
      exact ⟨q, Nat.le_refl _, by omega, run_sliceBounds hs (hm cap) hh hl (fun _ => rfl) h1 (Nat.le_refl _) (by omega)⟩
    by_cases hz : q - p = 0
    · have hcs0 : cs = [] := List.eq_nil_of_length_eq_zero (by rw [hlen, hz]; simp)
      subst hcs0
      rw [hz]
      obtain ⟨ad, cap, hv⟩ := rep_len (m := m) hr rfl
      have hcap : m ≤ cap := by
        rw [hv] at hr
        cases hr with
        | fz0 => exact Nat.zero_le _
        | fz => assumption
      obtain ⟨mm, g1, g2, g3⟩ := hb cap hcap
      simp only [Option.map_some] at g3
      refine ⟨.slice (if mm = p then ad else ad.map (·.add (p * tj.size))) 0 (mm - p), ?_, .fz0⟩
      · simp [execOp, ho, hv, Instr.sliceAt, Instr.slice, run_underlying hu, g3, (hte.tells he).run_sizeOf, hz]
    · obtain ⟨b, of, cap, hv, hcap, vf, r1, r2, r3, r4⟩ := rep_fz_part hr (p * tj.size) ((q - p) * tj.size) hcs (by rw [hlen]; exact Nat.mul_pos (by omega) hp)
      obtain ⟨mm, g1, g2, g3⟩ := hb cap hcap
      simp only [Option.map_some] at g3
      have hne : mm ≠ p := by omega
      refine ⟨.slice (some ⟨b, of + p * tj.size, none⟩) (q - p) (mm - p), ?_, .fz vf r1 (by omega) r2 r3 r4 (by rw [hlen]; exact Nat.mul_pos (by omega) hp)⟩
      simp [execOp, ho, hv, Instr.sliceAt, Instr.slice, run_underlying hu, g3, (hte.tells he).run_sizeOf, hne, Addr.add_lit]
/-- A list's beginning, its capacity told. -/
theorem q_sl3 {t e : TypeId} {x y z : Operand} {lv : Nat} {α : Type} {f : α → List AV} {l : List α} {k k' : IntKind} {j : Int} {ti tj : TI} (ho : o.op = .slice t x none (some y) (some z) := by exact rfl) (hx : s.ev x = .fz lv l.length (cl f l) := by exact rfl)
    (ht : te.get t = some ti := by exact rfl) (hk : ti.k = .slice e := by exact rfl) (he : te.get e = some tj := by exact rfl) (hy : s.ev y = .v (.int k j) := by exact rfl) (hz : s.ev z = .v (.int k' j) := by exact rfl) (hf : ∀ x, (f x).length = tj.size := by exact fun _ => rfl)
    (h0 : 0 ≤ j := by first | omega | decide | (simp; omega)) (h2 : j ≤ l.length := by first | omega | decide | (simp; omega)) (hp : 0 < tj.size := by exact Nat.le_of_ble_eq_true rfl)
    (hdd : o.dst = d := by conv => lhs; whnf) (hd : d.all (Nat.blt · n) = true := by exact rfl) : OpOk Try.prog n o s (s.put d (.fz lv (l.take j.toNat).length (cl f (l.take j.toNat)))) := by
  have e1 : (l.take j.toNat).length = j.toNat - 0 := by rw [List.length_take]; omega
  rw [e1]
  refine ok_slice_fz3 te_ok ho hx ht hk he (fun c => ⟨k', j, hz, h0, rfl⟩) ⟨k, j, hy, h0, rfl⟩ rfl (Nat.zero_le _) (by omega) (cl_length hf l) ?_ hp hdd hd
  rw [Nat.zero_mul, List.drop_zero, Nat.sub_zero, cl_take hf]
end
end Go.Proofs.Ytkfccjbihcbmiaa.Fw

/- Q10: sums that wrap round; slices that are made with a length. -/
set_option linter.unusedVariables false
set_option linter.unusedSimpArgs false
namespace Go.Proofs.Ytkfccjbihcbmiaa.Fw
open Go.RowKit
section
variable {n : Nat} {s : AS} {o : Oper} {d : Option Tmp}
theorem q_addw {t u : TypeId} {x y : Operand} {k : IntKind} {a b : Int} (ho : o.op = .binOp .add t x y u := by exact rfl) (hx : s.ev x = .v (.int k a) := by exact rfl) (hy : s.ev y = .v (.int k b) := by exact rfl)
    (hdd : o.dst = d := by conv => lhs; whnf) (hd : d.all (Nat.blt · n) = true := by exact rfl) : OpOk Try.prog n o s (s.put d (.v (.int k (k.wrap (a + b))))) := ok_bin ho hx hy br_add hdd hd
theorem ok_make {P : Program} {te : TE} (hte : TEok P te) {t e : TypeId} {x y : Operand} {k k' : IntKind} {c id : Nat} {ti tj : TI} (ho : o.op = .makeSlice t x y) (hx : s.ev x = .v (.int k c)) (hy : s.ev y = .v (.int k' c))
    (ht : te.get t = some ti) (hk : ti.k = .slice e) (he : te.get e = some tj) (hid : s.h id = none) (hz : Nat.beq tj.zero.length tj.size = true) (hb : tj.bytes * c ≤ 140737488351232) (h63 : c ≤ 9223372036854775807)
    (hdd : o.dst = d) (hd : d.all (Nat.blt · n) = true) : OpOk P n o s ((s.seth id (some (.row (repZ tj.zero c) tj.size 0))).put d (.sl id 0 0 c tj.size)) :=
  .chg hdd hd fun Λ w φ a hs => by
    have hu := (hte.tells ht).slice hk
    obtain ⟨f, z, z1, z2, z3, z4, z5, z6, z7⟩ := (hte.tells he).info
    have hzl := Nat.eq_of_beq_eq_true hz
    have hb' : (f.bytes : Int) * (c : Int) ≤ 281474976710656 := by
      have : ((f.bytes * c : Nat) : Int) ≤ 281474976710656 := by rw [z3]; omega
      rwa [Int.natCast_mul] at this
    have hrun := run_make (P := P) w t e f z hu z1 z4 k k' (c : Int) (c : Int) (by omega) (Int.le_refl _) hb' (by omega)
    simp only [Int.toNat_natCast] at hrun
    have hrep : ListRep w φ Λ (madeCells z.cells (c * f.size)) (repZ tj.zero c) := zeros_many z5 c _ (by rw [z2, hzl])
    have hc := Chg.alloc hs.hs hid (.cells (madeCells z.cells (c * f.size)) e) 0 0
    have hsz : (madeCells z.cells (c * f.size)).size = c * f.size := size_madeCells _ _
    refine ⟨_, _, _, ?_, hc, objRep_row (w0 := w) (by rw [repZ_length, hzl, hsz, z2]; exact Nat.le_refl _) (fun j q hj => ?_), .slice (some ⟨w.heap.size, 0, none⟩) c c, .inl rfl, ?_⟩
    · simp [execOp, ho, ev_v hs hx, ev_v hs hy, hrun]
    · obtain ⟨v, hv, hr⟩ := hrep.2 j q hj
      rw [Nat.zero_add] at hv
      exact ⟨v, hv, hc.rep hr⟩
    · have hcs : (madeCells z.cells (c * f.size)).size = c * tj.size := by rw [hsz, z2]
      exact Rep.sl (off := 0) (upd_same _ _ _) rfl rfl (heap_alloc_new w _) (by omega) (Nat.le_refl _)
theorem repZ_cl {α : Type} {f : α → List AV} {a : α} {zs : List ZC} (h : zs.map (fun z => AV.v z.val) = f a) : ∀ c, repZ zs c = cl f (List.replicate c a)
  | 0 => rfl
  | c + 1 => by rw [repZ, repZ_cl h c, h]; rfl
/-- A slice of so many elements, all alike. -/
theorem q_make (id : Nat) {α : Type} (f : α → List AV) (a : α) (c : Nat) {t e : TypeId} {x y : Operand} {k k' : IntKind} {ti tj : TI} (ho : o.op = .makeSlice t x y := by exact rfl) (hx : s.ev x = .v (.int k c) := by exact rfl) (hy : s.ev y = .v (.int k' c) := by exact rfl)
    (ht : te.get t = some ti := by exact rfl) (hk : ti.k = .slice e := by exact rfl) (he : te.get e = some tj := by exact rfl) (hid : s.h id = none := by exact rfl) (hz : Nat.beq tj.zero.length tj.size = true := by exact rfl)
    (hf : tj.zero.map (fun z => AV.v z.val) = f a := by exact rfl) (hb : tj.bytes * c ≤ 140737488351232 := by first | omega | (simp; omega)) (h63 : c ≤ 9223372036854775807 := by omega)
    (hdd : o.dst = d := by conv => lhs; whnf) (hd : d.all (Nat.blt · n) = true := by exact rfl) : OpOk Try.prog n o s ((s.seth id (some (.row (cl f (List.replicate c a)) tj.size 0))).put d (.sl id 0 0 (List.replicate c a).length tj.size)) := by
  rw [List.length_replicate, ← repZ_cl hf]
  exact ok_make te_ok ho hx hy ht hk he hid hz hb h63 hdd hd
/-- u64: a number eight bits up; a number with a byte behind. -/
theorem wrapu64 {a : Int} (h0 : 0 ≤ a) (h1 : a < 18446744073709551616) : IntKind.u64.wrap a = a := by
  have : IntKind.u64.wrap a = a % 18446744073709551616 := by simp [IntKind.wrap, IntKind.signed, IntKind.bits]
  rw [this]; omega
theorem q_shlu8 {t u : TypeId} {x y : Operand} {k' : IntKind} {a : Int} (ho : o.op = .binOp .shl t x y u := by exact rfl) (hx : s.ev x = .v (.int .u64 a) := by exact rfl) (hy : s.ev y = .v (.int k' 8) := by exact rfl)
    (h0 : 0 ≤ a ∧ a < 72057594037927936 := by first | omega | decide | (simp; omega)) (hdd : o.dst = d := by conv => lhs; whnf) (hd : d.all (Nat.blt · n) = true := by exact rfl) :
    OpOk Try.prog n o s (s.put d (.v (.int .u64 (a * 2 ^ 8)))) := by
  have h := br_shl (P := Try.prog) (t := t) (x := x) (y := y) (k := .u64) (k' := k') (a := a) (b := 8) (by decide)
  have e : a * 2 ^ min (8 : Int).toNat IntKind.u64.bits = a * 2 ^ 8 := rfl
  rw [e, wrapu64 (by omega) (by omega)] at h
  exact ok_bin ho hx hy h hdd hd
theorem q_orbu {t u : TypeId} {x y : Operand} {a b : Int} (ho : o.op = .binOp .or t x y u := by exact rfl) (hx : s.ev x = .v (.int .u64 (a * 2 ^ 8)) := by exact rfl) (hy : s.ev y = .v (.int .u64 b) := by exact rfl)
    (ha : 0 ≤ a ∧ a < 72057594037927936 := by first | omega | decide | (simp; omega)) (hb : 0 ≤ b ∧ b < 256 := by first | omega | decide | (simp; omega))
    (hdd : o.dst = d := by conv => lhs; whnf) (hd : d.all (Nat.blt · n) = true := by exact rfl) : OpOk Try.prog n o s (s.put d (.v (.int .u64 (a * 256 + b)))) := by
  have h := br_or (P := Try.prog) (t := t) (x := x) (y := y) (k := .u64) (a := a * 2 ^ 8) (b := b)
  have e1 : IntKind.u64.bits = 64 := rfl
  rw [e1, BitVec.toNat_or, ofInt_toNat (by omega) (by omega), ofInt_toNat hb.1 (by omega), or256 ha.1 hb, wrapu64 (by omega) (by omega)] at h
  exact ok_bin ho hx hy h hdd hd
end
end Go.Proofs.Ytkfccjbihcbmiaa.Fw

/- Q11: a row that is given up where it was made: its slice is frozen from then on. -/
set_option linter.unusedVariables false
set_option linter.unusedSimpArgs false
namespace Go.Proofs.Ytkfccjbihcbmiaa.Fw
open Go.RowKit
section
variable {n : Nat} {s : AS} {o : Oper} {d : Option Tmp}
theorem OpOk.weak {P : Program} {s1 s2 : AS} (h : OpOk P n o s s1) (hw : Weak s1 s2) : OpOk P n o s s2 := by
  intro Λ w φ a hs next QQ hn
  refine h Λ w φ a hs next QQ fun w' φ' a' hs' g => ?_
  obtain ⟨φ2, hs2, g2⟩ := hw n Λ w' φ' a' hs'
  exact hn w' φ2 a' hs2 (g.trans g2)
theorem Weak.kill (d id ver esz : Nat) {α : Type} {f : α → List AV} {l : List α} (hd : s.t d = .sl id ver 0 l.length esz) (hob : s.h id = some (.row (cl f l) esz ver)) (hf : ∀ x, (f x).length = esz) (h5 : 0 < esz)
    (h3 : ∀ x, AV.oks 0 (f x) = true) : Weak s ((s.seth id (some (.row [] esz (ver + 1)))).put (some d) (.fz 0 l.length (cl f l))) := by
  intro n Λ w φ a hs
  obtain ⟨l0, hl0, hv0⟩ := hs.hs.ver (ver := ver) (cells := cl f l) hob (by simp [AObj.at])
  have hc : Chg w φ Λ s.h id ⟨none, ver + 1⟩ w := ⟨hs.hs, Nat.le_refl _, rfl, rfl, rfl, fun _ _ _ => rfl, (fun b' o' h => by cases h), (fun l hl => .inr (by rw [hl0] at hl; cases hl; show l0.ver < ver + 1; omega)), (fun l hl e => by rw [hl0] at hl; cases hl; subst e; simp at hv0)⟩
  have h1 : HSim w (upd φ id (some ⟨none, ver + 1⟩)) Λ (upd s.h id (some (.row [] esz (ver + 1)))) := hc.hsim ⟨rfl, .inl ⟨rfl, rfl⟩⟩
  refine ⟨upd φ id (some ⟨none, ver + 1⟩), ⟨hs.defs, hs.size, fun i => ?_, h1⟩, hc.goes⟩
  show Rep w _ Λ (upd s.t d (.fz 0 l.length (cl f l)) i) _
  by_cases hi : i = d
  · subst hi
    rw [upd_same]
    have hr := hs.tmps i
    rw [hd] at hr
    by_cases hz : l = []
    · subst hz
      obtain ⟨ad, cap, e⟩ := rep_len hr rfl
      rw [e]
      exact .fz0
    · have hpos : 0 < l.length := List.length_pos_iff.2 hz
      have hcl : (cl f l).length = l.length * esz := cl_length hf l
      have hcp : 0 < (cl f l).length := by rw [hcl]; exact Nat.mul_pos hpos h5
      obtain ⟨l1, b0, oo0, arr, T, lo, hi, g1, g2, g3, g4, g5, g6, g7⟩ := hs.hs.at (ver := ver) (cells := cl f l) hob (by simp [AObj.at]) hcp
      generalize hv : a.tmps.getD i undef = v at hr ⊢
      generalize hL : l.length = L at hr ⊢
      cases hr with
      | slx e1 e2 => rw [g1] at e1; cases e1; omega
      | sl0 e1 e2 => omega
      | sl e1 e2 e3 e4 e5 e6 =>
        rw [g1] at e1
        cases e1
        rw [g3] at e3
        cases e3
        refine .fz (fun j => arr.getD (oo0 + 0 + j) undef) ⟨?_, fun k hk => (hs.hs.lt id l1 b0 oo0 g1 g3).2 k⟩ e6 (cl_mem fun x _ => AV.oks_iff.1 (h3 x)) (fun j hj => ?_) (fun j c hj => ?_) hcp
        · rintro ⟨id', l', o', q1, q2⟩
          by_cases e : id' = id
          · subst e; rw [upd_same] at q1; cases q1; cases q2
          · rw [upd_other _ _ _ _ e] at q1
            exact e (hs.hs.inj id' id l' l1 b0 o' oo0 q1 g1 q2 g3)
        · have : oo0 + 0 + j < arr.size := by omega
          simp only [World.cell?, g4, Array.getD, this, dif_pos, getElem?_pos]
          rfl
        · obtain ⟨u, q1, q2⟩ := g7 j c hj
          have q3 : arr[oo0 + 0 + j]? = some u := q1
          rw [Array.getD_eq_getD_getElem?, q3]
          exact hc.rep q2
  · rw [upd_other _ _ _ _ hi]
    exact hc.rep (hs.tmps i)
theorem seth_seth (s : AS) (id : Nat) (a b : Option AObj) : (s.seth id a).seth id b = s.seth id b := by
  simp only [AS.seth]
  congr 1
  funext i
  by_cases h : i = id
  · subst h; rw [upd_same, upd_same]
  · rw [upd_other _ _ _ _ h, upd_other _ _ _ _ h, upd_other _ _ _ _ h]
theorem put_put (s : AS) (d : Nat) (x y : AV) : (s.put (some d) x).put (some d) y = s.put (some d) y := by
  simp only [AS.put]
  congr 1
  funext i
  by_cases h : i = d
  · subst h; rw [upd_same, upd_same]
  · rw [upd_other _ _ _ _ h, upd_other _ _ _ _ h, upd_other _ _ _ _ h]
/-- What is appended to an own row is frozen; the row is given up. -/
theorem q_appz {dd : Nat} {t t2 e : TypeId} {x y : Operand} {id ver esz bt : Nat} {α : Type} {f : α → List AV} {l m : List α} {ti tj tk : TI} (ho : o.op = .call { callee := .builtin .append, args := #[x, y], argTypes := #[t, t2] } := by exact rfl)
    (hx : s.ev x = .sl id ver 0 l.length esz := by exact rfl) (hob : s.h id = some (.row (cl f l) esz ver) := by exact rfl) (ht : te.get t = some ti := by exact rfl) (hk : ti.k = .slice e := by exact rfl) (he : te.get e = some tj := by exact rfl)
    (hesz : tj.size = esz := by exact rfl) (hbt : tj.bytes = bt := by conv => lhs; whnf) (ht2 : te.get t2 = some tk := by exact rfl) (hk2 : (match tk.k with | .slice _ | .str => true | _ => false) = true := by exact rfl)
    (hsrc : SrcTo s y f esz m := by first | exact .sl rfl rfl .row (fun _ => rfl) | exact .fz rfl (fun _ => rfl) | exact .str rfl | exact .nil rfl) (hf : ∀ x, (f x).length = esz := by exact fun _ => rfl) (h1 : ∀ x, (f x).all AV.one = true := by exact fun _ => rfl)
    (h3 : ∀ x, AV.oks 0 (f x) = true := by exact fun _ => rfl) (h5 : 0 < esz := by exact Nat.le_of_ble_eq_true rfl)
    (hb : (l.length + m.length) * bt ≤ 140737488355328 := by first | omega | (simp; omega)) (hbp : 0 < bt := by exact Nat.le_of_ble_eq_true rfl)
    (hdd : o.dst = some dd := by conv => lhs; whnf) (hd : (some dd).all (Nat.blt · n) = true := by exact rfl) :
    OpOk Try.prog n o s ((s.seth id (some (.row [] esz (ver + 2)))).put (some dd) (.fz 0 (l ++ m).length (cl f (l ++ m)))) := by
  have h := q_app (n := n) (d := some dd) ho hx hob ht hk he hesz hbt ht2 hk2 hsrc hf h1 hb hbp hdd hd
  have h2 := h.weak (Weak.kill (s := (s.seth id (some (.row (cl f (l ++ m)) esz (ver + 1)))).put (some dd) (.sl id (ver + 1) 0 (l ++ m).length esz)) dd id (ver + 1) esz (f := f) (l := l ++ m) (upd_same _ _ _) (upd_same _ _ _) hf h5 h3)
  have e : ∀ (a b : Option AObj) (u v : AV), (((s.seth id a).put (some dd) u).seth id b).put (some dd) v = (s.seth id b).put (some dd) v := by
    intro a b u v
    have e1 : ((s.seth id a).put (some dd) u).seth id b = ((s.seth id a).seth id b).put (some dd) u := rfl
    rw [e1, seth_seth, put_put]
  rwa [e] at h2
end
end Go.Proofs.Ytkfccjbihcbmiaa.Fw

