/- The texts W01b, W01c, Q7, W03, W03b, W03c, W03d, W08, W08b, Q8, W08c, one behind the other: what the walks and plain laws need; conditions stand with each theorem. -/
import Derived.Test.YtaemmklgofddmaaCat2
/- Walks of layer 1, the program's, second part. -/
set_option linter.unusedVariables false
set_option linter.unusedSimpArgs false
namespace Go.Proofs.Ytaemmklgofddmaa.Fw
open Go.RowKit


/-- The order of two texts, and of two lists of texts. -/
def cmpS (x y : List UInt8) : Int := if Op.bytesLess x y then -1 else if !(Op.bytesLess x y || x == y) then 1 else 0
def cmpL : List (List UInt8) → List (List UInt8) → Int
  | [], [] => 0
  | [], _ :: _ => -1
  | _ :: _, [] => 1
  | x :: a, y :: b => if cmpS x y = 0 then cmpL a b else cmpS x y
def cmpN (a b : List UInt8) : Int := if canN a && canN b then cmpL (labN (lowN a)).reverse (labN (lowN b)).reverse else 0
theorem cmpS_le (x y : List UInt8) : -1 ≤ cmpS x y ∧ cmpS x y ≤ 1 := by unfold cmpS; split <;> (try split) <;> omega
theorem cmpL_le : ∀ a b : List (List UInt8), -1 ≤ cmpL a b ∧ cmpL a b ≤ 1
  | [], [] => by simp [cmpL]
  | [], _ :: _ => by simp [cmpL]
  | _ :: _, [] => by simp [cmpL]
  | x :: a, y :: b => by
    have := cmpS_le x y
    have := cmpL_le a b
    unfold cmpL
    split <;> omega
theorem cmpN_le (a b : List UInt8) : -1 ≤ cmpN a b ∧ cmpN a b ≤ 1 := by
  have := cmpL_le (labN (lowN a)).reverse (labN (lowN b)).reverse
  unfold cmpN
  split <;> omega
theorem cmpL_at {a b : List (List UInt8)} {i : Nat} (ha : i < a.length) (hb : i < b.length) : cmpL (a.drop i) (b.drop i) = if cmpS (a.getD i default) (b.getD i default) = 0 then cmpL (a.drop (i + 1)) (b.drop (i + 1)) else cmpS (a.getD i default) (b.getD i default) := by
  rw [List.drop_eq_getElem_cons ha, List.drop_eq_getElem_cons hb, cmpL]
  simp only [List.getD_eq_getElem?_getD, List.getElem?_eq_getElem ha, List.getElem?_eq_getElem hb, Option.getD_some]
theorem cmpL_a {a b : List (List UInt8)} {i : Nat} (ha : i < a.length) (hb : b.length = i) : cmpL (a.drop i) (b.drop i) = 1 := by
  rw [List.drop_eq_getElem_cons ha, List.drop_of_length_le (l := b) (by omega), cmpL]
theorem cmpL_b {a b : List (List UInt8)} {i : Nat} (ha : a.length = i) (hb : i < b.length) : cmpL (a.drop i) (b.drop i) = -1 := by
  rw [List.drop_eq_getElem_cons hb, List.drop_of_length_le (l := a) (by omega), cmpL]
theorem cmpL_0 {a b : List (List UInt8)} {i : Nat} (ha : a.length = i) (hb : b.length = i) : cmpL (a.drop i) (b.drop i) = 0 := by
  rw [List.drop_of_length_le (l := a) (by omega), List.drop_of_length_le (l := b) (by omega), cmpL]
/-- Half-way through turning a list round: the i outermost at each side have changed places. -/
def Half {α : Type} (l m : List α) (i : Nat) : Prop := m.length = l.length ∧ ∀ k, k < l.length → m[k]? = if k < i ∨ l.length ≤ k + i then l[l.length - 1 - k]? else l[k]?
theorem Half.start {α : Type} (l : List α) : Half l l 0 := ⟨rfl, fun k h => by rw [if_neg (by omega)]⟩
theorem Half.done {α : Type} {l m : List α} {i : Nat} (h : Half l m i) (hi : l.length ≤ 2 * i + 1) : m = l.reverse := by
  obtain ⟨h1, h2⟩ := h
  apply List.ext_getElem?
  intro k
  by_cases hk : k < l.length
  · rw [h2 k hk, List.getElem?_reverse hk]
    split
    · rfl
    · rw [show l.length - 1 - k = k by omega]
  · rw [List.getElem?_eq_none (by omega), List.getElem?_eq_none (by simp; omega)]
theorem Half.step {α : Type} [Inhabited α] {l m : List α} {i j : Nat} (h : Half l m i) (hi : i < j) (hj : j + i + 1 = l.length) : Half l ((m.set i (m.getD j default)).set j (m.getD i default)) (i + 1) := by
  obtain ⟨h1, h2⟩ := h
  refine ⟨by simp [h1], fun k hk => ?_⟩
  have hm : ∀ k, k < l.length → m[k]? = some (m.getD k default) := fun k hk => by rw [List.getD_eq_getElem?_getD, List.getElem?_eq_getElem (by omega)]; rfl
  rw [List.getElem?_set]
  by_cases e : j = k
  · subst e
    rw [if_pos rfl, if_pos (by simp; omega), if_pos (by omega), ← hm i (by omega), h2 i (by omega), if_neg (by omega), show l.length - 1 - j = i by omega]
  · rw [if_neg e, List.getElem?_set]
    by_cases e2 : i = k
    · subst e2
      rw [if_pos rfl, if_pos (by omega), if_pos (by omega), ← hm j (by omega), h2 j (by omega), if_neg (by omega), show l.length - 1 - i = j by omega]
    · rw [if_neg e2, h2 k hk]
      by_cases e3 : k < i ∨ l.length ≤ k + i
      · rw [if_pos e3, if_pos (by omega)]
      · rw [if_neg e3, if_neg (by omega)]
theorem next_of {n : List UInt8} (hc : canN n = true) (h0 : ¬ n = [0]) : nextB n = false := by
  cases hb : nextB n with
  | false => rfl
  | true => exact absurd (labN_end hc hb).2 h0
theorem lowN_len (n : List UInt8) : (lowN n).length ≤ 255 := by
  unfold lowN
  split
  · rename_i h; rw [List.length_map]; exact canN_len h
  · simp
theorem tailN_len (n : List UInt8) (k : Int) : (tailN n k).length ≤ 255 := by
  unfold tailN
  split
  · rename_i h
    by_cases e : (labN n).length - min (max k 0).toNat (labN n).length < (labN n).length
    · exact (tail_step h e).2
    · rw [List.drop_of_length_le (by omega)]; simp [joinN]
  · simp
theorem cntN_le (n : List UInt8) : 0 ≤ cntN n ∧ cntN n ≤ 254 := by have := labN_len n; unfold cntN; omega

set_option maxRecDepth 20000 in
theorem c_name_Same (a b : List UInt8) (ha : a.length ≤ 140737488355328) (hb : b.length ≤ 140737488355328) : AC Try.prog 52 [str a, str b] emp (Ret (tf (sameN a b))) := by
  have h1 := lowN_len a
  have h2 := lowN_len b
  refine AC.intro te_ok (fn := Try.f52) ⟨Try.func52, rfl, rfl⟩ (Nat.le_of_ble_eq_true rfl) ?_
  refine AWp.seq ?_
  refine AWp.region ?_
  refine AOps.cons rfl rfl (q_assign) ?_
  refine AOps.nil ?_
  refine AWp.seq ?_
  refine AWp.region ?_
  refine AOps.cons rfl rfl (q_move) ?_
  refine AOps.bool rfl rfl (q_call (0) (hc := c_name_Can _ (by first | assumption | omega | decide | (simp; omega) | (simp [*]; done)))) (fun h1_1 => ?_) (fun h1_1 => ?_)
  · skip
    refine AOps.cons rfl rfl (q_move) ?_
    refine AOps.gcons rfl rfl rfl rfl rfl (q_move) ?_
    refine AOps.gbool rfl rfl rfl rfl rfl (q_call (0) (hc := c_name_Can _ (by first | assumption | omega | decide | (simp; omega) | (simp [*]; done)))) (fun h1_4 => ?_) (fun h1_4 => ?_)
    · skip
      refine AOps.cons rfl rfl (q_pick) ?_
      refine AOps.cons rfl rfl (q_move) ?_
      refine AOps.gcons rfl rfl rfl rfl rfl (q_move) ?_
      refine AOps.gcons rfl rfl rfl rfl rfl (q_call (0) (hc := c_name_Lower _ (by first | assumption | omega | decide | (simp; omega) | (simp [*]; done)))) ?_
      refine AOps.gcons rfl rfl rfl rfl rfl (q_move) ?_
      refine AOps.gcons rfl rfl rfl rfl rfl (q_call (0) (hc := c_name_Lower _ (by first | assumption | omega | decide | (simp; omega) | (simp [*]; done)))) ?_
      refine AOps.gcons rfl rfl rfl rfl rfl (q_seql) ?_
      refine AOps.cons rfl rfl (q_pick) ?_
      refine AOps.cons rfl rfl (q_assign) ?_
      refine AOps.nil ?_
      refine AWp.ret ?_
      show Fin te Try.f52 _ _
      refine q_ret (0) [_] [_] ?_
      simp only [sameN, h1_1, h1_4]; rfl
    · skip
      refine AOps.cons rfl rfl (q_pick) ?_
      refine AOps.cons rfl rfl (q_move) ?_
      refine AOps.gskip rfl rfl rfl rfl rfl rfl rfl rfl ?_
      refine AOps.gskip rfl rfl rfl rfl rfl rfl rfl rfl ?_
      refine AOps.gskip rfl rfl rfl rfl rfl rfl rfl rfl ?_
      refine AOps.gskip rfl rfl rfl rfl rfl rfl rfl rfl ?_
      refine AOps.gskip rfl rfl rfl rfl rfl rfl rfl rfl ?_
      refine AOps.cons rfl rfl (q_pick) ?_
      refine AOps.cons rfl rfl (q_assign) ?_
      refine AOps.nil ?_
      refine AWp.ret ?_
      show Fin te Try.f52 _ _
      refine q_ret (0) [_] [_] ?_
      simp only [sameN, h1_1, h1_4]; rfl
  · skip
    refine AOps.cons rfl rfl (q_move) ?_
    refine AOps.gskip rfl rfl rfl rfl rfl rfl rfl rfl ?_
    refine AOps.gskip rfl rfl rfl rfl rfl rfl rfl rfl ?_
    refine AOps.cons rfl rfl (q_pick) ?_
    refine AOps.cons rfl rfl (q_move) ?_
    refine AOps.gskip rfl rfl rfl rfl rfl rfl rfl rfl ?_
    refine AOps.gskip rfl rfl rfl rfl rfl rfl rfl rfl ?_
    refine AOps.gskip rfl rfl rfl rfl rfl rfl rfl rfl ?_
    refine AOps.gskip rfl rfl rfl rfl rfl rfl rfl rfl ?_
    refine AOps.gskip rfl rfl rfl rfl rfl rfl rfl rfl ?_
    refine AOps.cons rfl rfl (q_pick) ?_
    refine AOps.cons rfl rfl (q_assign) ?_
    refine AOps.nil ?_
    refine AWp.ret ?_
    show Fin te Try.f52 _ _
    refine q_ret (0) [_] [_] ?_
    simp only [sameN, h1_1]; rfl

set_option maxRecDepth 20000 in
theorem c_name_Count (n : List UInt8) (h : n.length ≤ 140737488355328) : AC Try.prog 69 [str n] emp (Ret (i64 (cntN n))) := by
  refine AC.intro te_ok (fn := Try.f69) ⟨Try.func69, rfl, rfl⟩ (Nat.le_of_ble_eq_true rfl) ?_
  refine AWp.seq ?_
  refine AWp.region ?_
  refine AOps.cons rfl rfl (q_assign) ?_
  refine AOps.nil ?_
  refine AWp.seq ?_
  refine AWp.region ?_
  refine AOps.cons rfl rfl (q_move) ?_
  refine AOps.cons rfl rfl (q_callB (0) [] [(8, 2018)] [(_, _)] (hc := co_labels _ (by first | assumption | omega | decide | (simp; omega) | (simp [*]; done)))) ?_
  refine AOps.cons rfl rfl (q_len) ?_
  refine AOps.cons rfl rfl (q_assign) ?_
  refine AOps.nil ?_
  refine AWp.ret ?_
  show Fin te Try.f69 _ _
  refine q_ret (0) [_] [_] ?_
  rfl

set_option maxRecDepth 20000 in
theorem c_name_Tail (n : List UInt8) (h : n.length ≤ 140737488355328) (k : Int) (hk : -9223372036854775808 ≤ k ∧ k ≤ 9223372036854775807) : AC Try.prog 70 [str n, i64 k] emp (Ret (str (tailN n k))) := by
  have hll := labN_len n
  have hm : max k 0 = ((max k 0).toNat : Int) := by omega
  refine AC.intro te_ok (fn := Try.f70) ⟨Try.func70, rfl, rfl⟩ (Nat.le_of_ble_eq_true rfl) ?_
  refine AWp.seq ?_
  refine AWp.region ?_
  refine AOps.cons rfl rfl (q_assign) ?_
  refine AOps.nil ?_
  refine AWp.seq ?_
  refine AWp.seq ?_
  refine AWp.region ?_
  refine AOps.cons rfl rfl (q_move) ?_
  refine AOps.bool rfl rfl (q_call (0) (hc := c_name_Can _ (by first | assumption | omega | decide | (simp; omega) | (simp [*]; done)))) (fun h1_1 => ?_) (fun h1_1 => ?_)
  · skip
    refine AOps.cons rfl rfl (q_not) ?_
    refine AOps.nil ?_
    refine AWp.cond_f rfl ?_
    refine AWp.skip ?_
    refine AWp.seq ?_
    refine AWp.seq ?_
    refine AWp.region ?_
    refine AOps.cons rfl rfl (q_move) ?_
    refine AOps.cons rfl rfl (q_call (0) (hc := c_name_Count _ (by first | assumption | omega | decide | (simp; omega) | (simp [*]; done)))) ?_
    refine AOps.cons rfl rfl (q_assign) ?_
    refine AOps.nil ?_
    refine AWp.block ?_
    refine AWp.loopR (α := Nat) [0, 5, 11, 12, 13, 14, 15, 16, 17, 18, 19, 20, 21, 22] (fun j => [(0, str (joinN ((labN n).drop j))), (5, i64 ((labN n).length - j))]) (fun j => []) (fun j => j ≤ (labN n).length - min (max k 0).toNat (labN n).length) (fun j => (labN n).length - j) 0 ?_ (Back.mk' (HasT.cons (HasT.cons HasT.nil (h1 := by exact i64_eq (by unfold cntN; omega)) ) (h1 := by rw [← tail_start h1_1]; rfl) ) HasH.nil) ?_
    · exact Nat.zero_le _
    · rintro j hI4
      refine AWp.seq ?_
      refine AWp.seq ?_
      refine AWp.region ?_
      refine AOps.cons rfl rfl (q_move) ?_
      refine AOps.cons rfl rfl (q_move) ?_
      refine AOps.cons rfl rfl (q_max) ?_
      refine AOps.dec rfl rfl (q_gtr) (fun h4_3 => ?_) (fun h4_3 => ?_)
      · skip
        refine AOps.nil ?_
        refine AWp.cond_t rfl ?_
        refine AWp.skip ?_
        refine AWp.seq ?_
        refine AWp.block ?_
        refine AWp.region ?_
        have hj2 := (tail_step h1_1 (j := j) (by omega)).2
        refine AOps.cons rfl rfl (q_move) ?_
        refine AOps.cons rfl rfl (q_call (0) (hc := c_name_next _ (by first | assumption | omega | decide | (simp; omega) | (simp [*]; done)))) ?_
        refine AOps.cons rfl rfl (q_move) ?_
        refine AOps.cons rfl rfl (q_extract) ?_
        refine AOps.cons rfl rfl (q_extract) ?_
        refine AOps.cons rfl rfl (q_extract) ?_
        refine AOps.cons rfl rfl (q_assign) ?_
        refine AOps.nil ?_
        refine AWp.region ?_
        refine AOps.cons rfl rfl (q_move) ?_
        refine AOps.cons rfl rfl (q_sub) ?_
        refine AOps.cons rfl rfl (q_assign) ?_
        refine AOps.nil ?_
        have hj : j < (labN n).length := by omega
        refine ⟨j + 1, ?_, Back.mk' (HasT.cons (HasT.cons HasT.nil (h1 := by exact i64_eq (by omega)) ) (h1 := by rw [← (tail_step h1_1 hj).1]; rfl) ) HasH.nil, ?_⟩
        · omega
        · omega
      · skip
        refine AOps.nil ?_
        refine AWp.cond_f rfl ?_
        refine AWp.exit ?_
        refine AWp.seq ?_
        refine AWp.region ?_
        refine AOps.cons rfl rfl (q_move) ?_
        refine AOps.cons rfl rfl (q_assign) ?_
        refine AOps.nil ?_
        refine AWp.ret ?_
        show Fin te Try.f70 _ _
        refine q_ret (0) [_] [_] ?_
        rw [tailN, if_pos h1_1, show j = (labN n).length - min (max k 0).toNat (labN n).length by omega]; rfl
  · skip
    refine AOps.cons rfl rfl (q_not) ?_
    refine AOps.nil ?_
    refine AWp.cond_t rfl ?_
    refine AWp.seq ?_
    refine AWp.region ?_
    refine AOps.cons rfl rfl (q_assign) ?_
    refine AOps.nil ?_
    refine AWp.ret ?_
    show Fin te Try.f70 _ _
    refine q_ret (0) [_] [_] ?_
    rw [tailN, if_neg (by simp [h1_1])]; rfl

set_option maxRecDepth 20000 in
theorem c_name_Within (a b : List UInt8) (ha : a.length ≤ 140737488355328) (hb : b.length ≤ 140737488355328) : AC Try.prog 53 [str a, str b] emp (Ret (tf (withN a b))) := by
  have h1 := cntN_le a
  have h2 := cntN_le b
  have h3 := tailN_len a (cntN b)
  refine AC.intro te_ok (fn := Try.f53) ⟨Try.func53, rfl, rfl⟩ (Nat.le_of_ble_eq_true rfl) ?_
  refine AWp.seq ?_
  refine AWp.region ?_
  refine AOps.cons rfl rfl (q_assign) ?_
  refine AOps.nil ?_
  refine AWp.seq ?_
  refine AWp.region ?_
  refine AOps.cons rfl rfl (q_move) ?_
  refine AOps.bool rfl rfl (q_call (0) (hc := c_name_Can _ (by first | assumption | omega | decide | (simp; omega) | (simp [*]; done)))) (fun h1_1 => ?_) (fun h1_1 => ?_)
  · skip
    refine AOps.cons rfl rfl (q_move) ?_
    refine AOps.gcons rfl rfl rfl rfl rfl (q_move) ?_
    refine AOps.gbool rfl rfl rfl rfl rfl (q_call (0) (hc := c_name_Can _ (by first | assumption | omega | decide | (simp; omega) | (simp [*]; done)))) (fun h1_4 => ?_) (fun h1_4 => ?_)
    · skip
      refine AOps.cons rfl rfl (q_pick) ?_
      refine AOps.cons rfl rfl (q_move) ?_
      refine AOps.gcons rfl rfl rfl rfl rfl (q_move) ?_
      refine AOps.gcons rfl rfl rfl rfl rfl (q_call (0) (hc := c_name_Count _ (by first | assumption | omega | decide | (simp; omega) | (simp [*]; done)))) ?_
      refine AOps.gcons rfl rfl rfl rfl rfl (q_move) ?_
      refine AOps.gcons rfl rfl rfl rfl rfl (q_call (0) (hc := c_name_Count _ (by first | assumption | omega | decide | (simp; omega) | (simp [*]; done)))) ?_
      refine AOps.gdec rfl rfl rfl rfl rfl (q_geq) (fun h1_11 => ?_) (fun h1_11 => ?_)
      · skip
        refine AOps.cons rfl rfl (q_pick) ?_
        refine AOps.cons rfl rfl (q_move) ?_
        refine AOps.gcons rfl rfl rfl rfl rfl (q_move) ?_
        refine AOps.gcons rfl rfl rfl rfl rfl (q_move) ?_
        refine AOps.gcons rfl rfl rfl rfl rfl (q_call (0) (hc := c_name_Count _ (by first | assumption | omega | decide | (simp; omega) | (simp [*]; done)))) ?_
        refine AOps.gcons rfl rfl rfl rfl rfl (q_call (0) (hc := c_name_Tail _ (by first | assumption | omega | decide | (simp; omega) | (simp [*]; done)) _ (by first | assumption | omega | decide | (simp; omega) | (simp [*]; done)))) ?_
        refine AOps.gcons rfl rfl rfl rfl rfl (q_move) ?_
        refine AOps.gcons rfl rfl rfl rfl rfl (q_call (0) (hc := c_name_Same _ _ (by first | assumption | omega | decide | (simp; omega) | (simp [*]; done)) (by first | assumption | omega | decide | (simp; omega) | (simp [*]; done)))) ?_
        refine AOps.cons rfl rfl (q_pick) ?_
        refine AOps.cons rfl rfl (q_assign) ?_
        refine AOps.nil ?_
        refine AWp.ret ?_
        show Fin te Try.f53 _ _
        refine q_ret (0) [_] [_] ?_
        simp only [withN, h1_1, h1_4, decide_eq_true (show cntN b ≤ cntN a by omega)]; rfl
      · skip
        refine AOps.cons rfl rfl (q_pick) ?_
        refine AOps.cons rfl rfl (q_move) ?_
        refine AOps.gskip rfl rfl rfl rfl rfl rfl rfl rfl ?_
        refine AOps.gskip rfl rfl rfl rfl rfl rfl rfl rfl ?_
        refine AOps.gskip rfl rfl rfl rfl rfl rfl rfl rfl ?_
        refine AOps.gskip rfl rfl rfl rfl rfl rfl rfl rfl ?_
        refine AOps.gskip rfl rfl rfl rfl rfl rfl rfl rfl ?_
        refine AOps.gskip rfl rfl rfl rfl rfl rfl rfl rfl ?_
        refine AOps.cons rfl rfl (q_pick) ?_
        refine AOps.cons rfl rfl (q_assign) ?_
        refine AOps.nil ?_
        refine AWp.ret ?_
        show Fin te Try.f53 _ _
        refine q_ret (0) [_] [_] ?_
        simp only [withN, h1_1, h1_4, decide_eq_false (show ¬ cntN b ≤ cntN a by omega)]; rfl
    · skip
      refine AOps.cons rfl rfl (q_pick) ?_
      refine AOps.cons rfl rfl (q_move) ?_
      refine AOps.gskip rfl rfl rfl rfl rfl rfl rfl rfl ?_
      refine AOps.gskip rfl rfl rfl rfl rfl rfl rfl rfl ?_
      refine AOps.gskip rfl rfl rfl rfl rfl rfl rfl rfl ?_
      refine AOps.gskip rfl rfl rfl rfl rfl rfl rfl rfl ?_
      refine AOps.gskip rfl rfl rfl rfl rfl rfl rfl rfl ?_
      refine AOps.cons rfl rfl (q_pick) ?_
      refine AOps.cons rfl rfl (q_move) ?_
      refine AOps.gskip rfl rfl rfl rfl rfl rfl rfl rfl ?_
      refine AOps.gskip rfl rfl rfl rfl rfl rfl rfl rfl ?_
      refine AOps.gskip rfl rfl rfl rfl rfl rfl rfl rfl ?_
      refine AOps.gskip rfl rfl rfl rfl rfl rfl rfl rfl ?_
      refine AOps.gskip rfl rfl rfl rfl rfl rfl rfl rfl ?_
      refine AOps.gskip rfl rfl rfl rfl rfl rfl rfl rfl ?_
      refine AOps.cons rfl rfl (q_pick) ?_
      refine AOps.cons rfl rfl (q_assign) ?_
      refine AOps.nil ?_
      refine AWp.ret ?_
      show Fin te Try.f53 _ _
      refine q_ret (0) [_] [_] ?_
      simp only [withN, h1_1, h1_4]; rfl
  · skip
    refine AOps.cons rfl rfl (q_move) ?_
    refine AOps.gskip rfl rfl rfl rfl rfl rfl rfl rfl ?_
    refine AOps.gskip rfl rfl rfl rfl rfl rfl rfl rfl ?_
    refine AOps.cons rfl rfl (q_pick) ?_
    refine AOps.cons rfl rfl (q_move) ?_
    refine AOps.gskip rfl rfl rfl rfl rfl rfl rfl rfl ?_
    refine AOps.gskip rfl rfl rfl rfl rfl rfl rfl rfl ?_
    refine AOps.gskip rfl rfl rfl rfl rfl rfl rfl rfl ?_
    refine AOps.gskip rfl rfl rfl rfl rfl rfl rfl rfl ?_
    refine AOps.gskip rfl rfl rfl rfl rfl rfl rfl rfl ?_
    refine AOps.cons rfl rfl (q_pick) ?_
    refine AOps.cons rfl rfl (q_move) ?_
    refine AOps.gskip rfl rfl rfl rfl rfl rfl rfl rfl ?_
    refine AOps.gskip rfl rfl rfl rfl rfl rfl rfl rfl ?_
    refine AOps.gskip rfl rfl rfl rfl rfl rfl rfl rfl ?_
    refine AOps.gskip rfl rfl rfl rfl rfl rfl rfl rfl ?_
    refine AOps.gskip rfl rfl rfl rfl rfl rfl rfl rfl ?_
    refine AOps.gskip rfl rfl rfl rfl rfl rfl rfl rfl ?_
    refine AOps.cons rfl rfl (q_pick) ?_
    refine AOps.cons rfl rfl (q_assign) ?_
    refine AOps.nil ?_
    refine AWp.ret ?_
    show Fin te Try.f53 _ _
    refine q_ret (0) [_] [_] ?_
    simp only [withN, h1_1]; rfl

end Go.Proofs.Ytaemmklgofddmaa.Fw

/- Walks of layer 1: the orders and the reference's. -/
set_option linter.unusedVariables false
set_option linter.unusedSimpArgs false
namespace Go.Proofs.Ytaemmklgofddmaa.Fw
open Go.RowKit


theorem can_labs {n : List UInt8} (h : canN n = true) : GoodN (labN n) ∧ n = joinN (labN n) ∧ n.length ≤ 255 := by
  obtain ⟨ls, g, rfl, hl⟩ := canN_iff.1 h
  rw [labN_join g hl]
  exact ⟨g, rfl, hl⟩
theorem labs_end (n : List UInt8) {i : Nat} (h : n.length ≤ i) : (labs (n.drop i)).isSome = false := by
  rw [List.drop_of_length_le h, labs]; rfl
theorem labs_at {n : List UInt8} {i : Nat} (hi : i < n.length) : (labs (n.drop i)).isSome = if (n.getD i 0).toNat = 0 then decide (i + 1 = n.length) else if 63 < (n.getD i 0).toNat then false else (labs (n.drop (i + 1 + (n.getD i 0).toNat))).isSome := by
  have hg : n.getD i 0 = n[i] := by rw [List.getD_eq_getElem?_getD, List.getElem?_eq_getElem hi]; rfl
  rw [List.drop_eq_getElem_cons hi, labs, ← hg]
  generalize n.getD i 0 = k
  have hz : k = 0 ↔ k.toNat = 0 := ⟨fun e => by rw [e]; rfl, fun e => UInt8.toNat_inj.1 (by simpa using e)⟩
  by_cases h0 : k.toNat = 0
  · rw [if_pos (hz.2 h0), if_pos h0]
    by_cases he : i + 1 = n.length
    · rw [if_pos (List.drop_of_length_le (by omega)), decide_eq_true he]; rfl
    · rw [if_neg (fun e => by have := congrArg List.length e; simp at this; omega), decide_eq_false he]; rfl
  · rw [if_neg (fun e => h0 (hz.1 e)), if_neg h0]
    by_cases h6 : 63 < k.toNat
    · rw [if_pos (Or.inl h6), if_pos h6]; rfl
    · rw [if_neg h6]
      by_cases hr : (n.drop (i + 1)).length < k.toNat
      · rw [if_pos (Or.inr hr), labs_end n (by simp at hr; omega)]; rfl
      · rw [if_neg (by omega), Option.isSome_map, List.drop_drop]
theorem at_root {n : List UInt8} {i : Nat} (h : n.drop i = joinN []) : i < n.length ∧ (n.getD i 0).toNat = 0 := by
  have hl := congrArg List.length h
  rw [joinN_nil, List.length_drop] at hl
  simp at hl
  have hi : i < n.length := by omega
  refine ⟨hi, ?_⟩
  rw [List.drop_eq_getElem_cons hi, joinN_nil] at h
  rw [List.getD_eq_getElem?_getD, List.getElem?_eq_getElem hi, Option.getD_some, (List.cons.inj h).1]
  rfl
theorem at_lab {n l : List UInt8} {ls : List (List UInt8)} {i : Nat} (g : GoodN (l :: ls)) (h : n.drop i = joinN (l :: ls)) : i < n.length ∧ (n.getD i 0).toNat = l.length ∧ i + 1 + l.length < n.length ∧ (n.take (i + 1 + l.length)).drop (i + 1) = l ∧ n.drop (i + 1 + l.length) = joinN ls ∧ 1 ≤ l.length ∧ l.length ≤ 63 := by
  have hl := congrArg List.length h
  have hp := joinN_length ls
  rw [joinN_cons, List.length_drop, List.length_cons, List.length_append] at hl
  have hi : i < n.length := by omega
  have h2 := h
  rw [List.drop_eq_getElem_cons hi, joinN_cons] at h2
  obtain ⟨e1, e2⟩ := List.cons.inj h2
  refine ⟨hi, ?_, by omega, ?_, ?_, g.head.1, g.head.2⟩
  · rw [List.getD_eq_getElem?_getD, List.getElem?_eq_getElem hi, Option.getD_some, e1]
    exact byte_len g.head.2
  · rw [List.drop_take, e2, show i + 1 + l.length - (i + 1) = l.length by omega, List.take_left]
  · rw [← List.drop_drop, e2, List.drop_left]
theorem low_len {n : List UInt8} (h : canN n = true) : lowN n = joinN (lowL (labN n)) ∧ (joinN (lowL (labN n))).length ≤ 255 := by
  obtain ⟨ls, g, rfl, hl⟩ := canN_iff.1 h
  rw [labN_join g hl, lowN_join g hl]
  exact ⟨rfl, by rw [low_length g]; exact hl⟩
theorem joinN_drop_le : ∀ (ls : List (List UInt8)) (j : Nat), (joinN (ls.drop j)).length ≤ (joinN ls).length
  | [], j => by simp
  | l :: ls, 0 => Nat.le_refl _
  | l :: ls, j + 1 => by
    have := joinN_drop_le ls j
    have := joinN_le (l := l) (ls := ls)
    simp only [List.drop_succ_cons]
    omega
theorem join_at {ls : List (List UInt8)} {i : Nat} (hi : i < ls.length) : joinN (ls.drop i) = byte ((ls.getD i default).length : Int) :: (ls.getD i default ++ joinN (ls.drop (i + 1))) := by
  have e : ls.getD i default = ls[i] := by rw [List.getD_eq_getElem?_getD, List.getElem?_eq_getElem hi]; rfl
  rw [List.drop_eq_getElem_cons hi, joinN_cons, e]
theorem take_map_step {α β : Type} [Inhabited α] (f : α → β) {l : List α} {i : Nat} (hi : i < l.length) : (l.take (i + 1)).map f = (l.take i).map f ++ [f (l.getD i default)] := by
  have e : l.getD i default = l[i] := by rw [List.getD_eq_getElem?_getD, List.getElem?_eq_getElem hi]; rfl
  rw [List.take_succ_eq_append_getElem hi, List.map_append, e]
  rfl
theorem getD_mem' {α : Type} [Inhabited α] {l : List α} {i : Nat} (hi : i < l.length) : l.getD i default ∈ l := by
  rw [List.getD_eq_getElem?_getD, List.getElem?_eq_getElem hi]; exact List.getElem_mem hi
theorem rev_at {α : Type} [Inhabited α] {l : List α} {k : Nat} (h : k < l.length) : l.getD ((l.length : Int) - ((k : Int) + 1)).toNat default = l.reverse.getD k default := by
  rw [List.getD_eq_getElem?_getD, List.getD_eq_getElem?_getD, List.getElem?_reverse h, show ((l.length : Int) - ((k : Int) + 1)).toNat = l.length - 1 - k by omega]
/-- The names of a law's draws. -/
def tblN : List (List UInt8) := [[97], [98], [119, 119, 119], [110, 115], [65], [120, 45, 49]]
def pickN (c : UInt8) : List UInt8 := tblN.getD (c % 6).toNat default
def plainN (b : List UInt8) : List UInt8 := joinN ((b.take 4).map pickN)
set_option maxRecDepth 10000 in
theorem pickN_good : ∀ c : UInt8, 1 ≤ (pickN c).length ∧ (pickN c).length ≤ 3 := by
  have h : ∀ k : _root_.Fin 256, 1 ≤ (pickN (UInt8.ofNat k.val)).length ∧ (pickN (UInt8.ofNat k.val)).length ≤ 3 := by decide
  intro c
  have := h ⟨c.toNat, c.toNat_lt⟩
  simpa using this
theorem joinN_small : ∀ {ls : List (List UInt8)}, (∀ l ∈ ls, l.length ≤ 3) → (joinN ls).length ≤ 4 * ls.length + 1
  | [], _ => by simp [joinN]
  | l :: ls, h => by
    have := joinN_small (ls := ls) fun x hx => h x (by simp [hx])
    have := h l (by simp)
    rw [joinN_cons]
    simp
    omega
theorem plain_good (b : List UInt8) : GoodN ((b.take 4).map pickN) ∧ (plainN b).length ≤ 17 := by
  refine ⟨fun l hl => ?_, ?_⟩
  · obtain ⟨c, _, rfl⟩ := List.mem_map.1 hl
    have := pickN_good c
    omega
  · have := joinN_small (ls := (b.take 4).map pickN) fun l hl => by
      obtain ⟨c, _, rfl⟩ := List.mem_map.1 hl
      exact (pickN_good c).2
    have h4 : ((b.take 4).map pickN).length ≤ 4 := by rw [List.length_map, List.length_take]; omega
    show (joinN _).length ≤ 17
    omega

set_option maxRecDepth 20000 in
theorem c_ciceroneref01_Can (n : List UInt8) (h : n.length ≤ 140737488355328) : AC Try.prog 40 [str n] emp (Ret (tf (canN n))) := by
  refine AC.intro te_ok (fn := Try.f40) ⟨Try.func40, rfl, rfl⟩ (Nat.le_of_ble_eq_true rfl) ?_
  refine AWp.seq ?_
  refine AWp.region ?_
  refine AOps.cons rfl rfl (q_assign) ?_
  refine AOps.nil ?_
  refine AWp.seq ?_
  refine AWp.seq ?_
  refine AWp.region ?_
  refine AOps.cons rfl rfl (q_move) ?_
  refine AOps.cons rfl rfl (q_len_str) ?_
  refine AOps.dec rfl rfl (q_gtr) (fun h1_2 => ?_) (fun h1_2 => ?_)
  · skip
    refine AOps.nil ?_
    refine AWp.cond_t rfl ?_
    refine AWp.seq ?_
    refine AWp.region ?_
    refine AOps.cons rfl rfl (q_assign) ?_
    refine AOps.nil ?_
    refine AWp.ret ?_
    show Fin te Try.f40 _ _
    refine q_ret (0) [_] [_] ?_
    have e : canN n = false := by rw [canN, decide_eq_false (by omega), Bool.and_false]
    rw [e]; rfl
  · skip
    refine AOps.nil ?_
    refine AWp.cond_f rfl ?_
    refine AWp.skip ?_
    refine AWp.seq ?_
    refine AWp.region ?_
    refine AOps.cons rfl rfl (q_assign) ?_
    refine AOps.nil ?_
    refine AWp.seq ?_
    refine AWp.block ?_
    refine AWp.loopR (α := Nat) [2, 3, 4, 8, 9, 10, 11, 12, 13, 14, 15, 16, 17, 18, 19, 20, 21, 22, 23, 24, 25, 26, 27, 28] (fun i => [(3, i64 i)]) (fun i => []) (fun i => (labs n).isSome = (labs (n.drop i)).isSome ∧ i ≤ 319) (fun i => n.length - i) 0 ?_ (Back.mk' (HasT.cons HasT.nil) HasH.nil) ?_
    · exact ⟨rfl, by omega⟩
    · rintro i ⟨hc, hi⟩
      refine AWp.seq ?_
      refine AWp.seq ?_
      refine AWp.region ?_
      refine AOps.cons rfl rfl (q_move) ?_
      refine AOps.cons rfl rfl (q_move) ?_
      refine AOps.cons rfl rfl (q_len_str) ?_
      refine AOps.dec rfl rfl (q_lss) (fun h4_3 => ?_) (fun h4_3 => ?_)
      · skip
        refine AOps.nil ?_
        refine AWp.cond_t rfl ?_
        refine AWp.skip ?_
        refine AWp.block ?_
        refine AWp.seq ?_
        refine AWp.region ?_
        have hk := (n.getD i 0).toNat_lt
        refine AOps.cons rfl rfl (q_move) ?_
        refine AOps.cons rfl rfl (q_move) ?_
        refine AOps.cons rfl rfl (q_ixs) ?_
        refine AOps.cons rfl rfl (q_conv_8i) ?_
        refine AOps.cons rfl rfl (q_assign) ?_
        refine AOps.nil ?_
        refine AWp.seq ?_
        refine AWp.seq ?_
        refine AWp.region ?_
        have hla := labs_at (n := n) (i := i) (by omega)
        refine AOps.cons rfl rfl (q_move) ?_
        refine AOps.dec rfl rfl (q_eql) (fun h6_1 => ?_) (fun h6_1 => ?_)
        · skip
          refine AOps.nil ?_
          refine AWp.cond_t rfl ?_
          refine AWp.seq ?_
          refine AWp.region ?_
          refine AOps.cons rfl rfl (q_move) ?_
          refine AOps.cons rfl rfl (q_move) ?_
          refine AOps.cons rfl rfl (q_len_str) ?_
          refine AOps.cons rfl rfl (q_sub) ?_
          refine AOps.cons rfl rfl (q_eql) ?_
          refine AOps.cons rfl rfl (q_assign) ?_
          refine AOps.nil ?_
          refine AWp.ret ?_
          show Fin te Try.f40 _ _
          refine q_ret (0) [_] [_] ?_
          have k1 : ((n.getD i 0).toNat : Int) = 0 := h6_1
          rw [if_pos (by omega)] at hla
          rw [canN, hc, hla, decide_eq_true (show n.length ≤ 255 by omega), Bool.and_true]
          exact congrArg tf (decide_eq_decide.2 (by omega))
        · skip
          refine AOps.nil ?_
          refine AWp.cond_f rfl ?_
          refine AWp.skip ?_
          refine AWp.seq ?_
          refine AWp.seq ?_
          refine AWp.region ?_
          refine AOps.cons rfl rfl (q_move) ?_
          refine AOps.dec rfl rfl (q_gtr) (fun h8_1 => ?_) (fun h8_1 => ?_)
          · skip
            refine AOps.nil ?_
            refine AWp.cond_t rfl ?_
            refine AWp.seq ?_
            refine AWp.region ?_
            refine AOps.cons rfl rfl (q_assign) ?_
            refine AOps.nil ?_
            refine AWp.ret ?_
            show Fin te Try.f40 _ _
            refine q_ret (0) [_] [_] ?_
            have k1 : ¬ ((n.getD i 0).toNat : Int) = 0 := h6_1
            have k2 : 63 < ((n.getD i 0).toNat : Int) := h8_1
            rw [if_neg (by omega), if_pos (by omega)] at hla
            rw [canN, hc, hla]; rfl
          · skip
            refine AOps.nil ?_
            refine AWp.cond_f rfl ?_
            refine AWp.skip ?_
            refine AWp.region ?_
            have k2 : ¬ 63 < ((n.getD i 0).toNat : Int) := h8_1
            have hk3 : ((n.getD (i : Int).toNat 0).toNat : Int) = ((n.getD i 0).toNat : Int) := rfl
            refine AOps.cons rfl rfl (q_move) ?_
            refine AOps.cons rfl rfl (q_move) ?_
            refine AOps.cons rfl rfl (q_add) ?_
            refine AOps.cons rfl rfl (q_add) ?_
            refine AOps.cons rfl rfl (q_assign) ?_
            refine AOps.nil ?_
            have k1 : ¬ ((n.getD i 0).toNat : Int) = 0 := h6_1
            have k2 : ¬ 63 < ((n.getD i 0).toNat : Int) := h8_1
            refine ⟨i + 1 + (n.getD i 0).toNat, ?_, Back.mk' (HasT.cons HasT.nil (h1 := by exact i64_eq (by show (i : Int) + (1 + ((n.getD i 0).toNat : Int)) = ((i + 1 + (n.getD i 0).toNat : Nat) : Int); omega)) ) HasH.nil, ?_⟩
            · exact ⟨by rw [hc, labs_at (by omega), if_neg (by omega), if_neg (by omega)], by omega⟩
            · omega
      · skip
        refine AOps.nil ?_
        refine AWp.cond_f rfl ?_
        refine AWp.exit ?_
        refine AWp.seq ?_
        refine AWp.region ?_
        refine AOps.cons rfl rfl (q_assign) ?_
        refine AOps.nil ?_
        refine AWp.ret ?_
        show Fin te Try.f40 _ _
        refine q_ret (0) [_] [_] ?_
        have e : canN n = false := by rw [canN, hc, labs_end n (by omega)]; rfl
        rw [e]; rfl

end Go.Proofs.Ytaemmklgofddmaa.Fw

/- Q7: operations whose guard was passed by. -/
set_option linter.unusedVariables false
set_option linter.unusedSimpArgs false
namespace Go.Proofs.Ytaemmklgofddmaa.Fw
open Go.RowKit
theorem Sim.yielded_no {n : Nat} {ops : Array Oper} {s : AS} {w : World} {φ : PMap} {Λ : Lent} {a : Act} (hs : Sim n w φ Λ s a) {j : Nat} {oj : Oper} {d : Nat} (hj : ops[j]? = some oj) (hd : oj.dst = some d)
    (hb : s.t d = .v undef) : Go.yielded ops a.tmps j = none := by
  have h := hs.tmps d
  rw [hb] at h
  generalize hv : a.tmps.getD d undef = v at h
  cases h
  simp only [Go.yielded, hj, Option.bind_some, hd]
  cases hx : a.tmps[d]? with
  | none => rfl
  | some y =>
    rw [Array.getD_eq_getD_getElem?, hx] at hv
    simp only [Option.getD_some] at hv
    rw [hv]
    rfl
/-- The operation is passed by, as its guard was. -/
theorem AOps.gskipu {P : Program} {n : Nat} {ops : Array Oper} {Q : APost} {s : AS} {i : Nat} {rest : List Nat} {o : Oper} {j : Nat} {want : Bool} {oj : Oper} {d : Nat} {dd : Option Tmp} (ho : ops[i]? = some o) (hg : o.guard = some (j, want)) (hj : ops[j]? = some oj)
    (hd : oj.dst = some d) (hb : s.t d = .v undef) (hdd : o.dst = dd) (hn : dd.all (Nat.blt · n) = true) (hr : AOps P n ops Q rest (s.put dd (.v undef))) :
    AOps P n ops Q (i :: rest) s := by
  intro Λ w φ a hs QQ hQ
  have hy := hs.yielded_no hj hd hb
  have hw : ((none : Option Bool) == some want) = false := rfl
  simp only [wpOps, ho, Region.wanted, hg, hy, hw, Bool.false_eq_true, if_false]
  subst hdd
  exact hr Λ w φ _ (hs.put o.dst hn .v) QQ hQ
theorem OpAt.gskipu {P : Program} {n : Nat} {ops : Array Oper} {i : Nat} {o : Oper} {s : AS} {j : Nat} {want : Bool} {oj : Oper} {d : Nat} {dd : Option Tmp} (ho : ops[i]? = some o) (hg : o.guard = some (j, want)) (hj : ops[j]? = some oj)
    (hd : oj.dst = some d) (hb : s.t d = .v undef) (hdd : o.dst = dd) (hn : dd.all (Nat.blt · n) = true) : OpAt P n ops i s (s.put dd (.v undef)) := by
  intro Λ w φ a hs K QQ hK
  have hy := hs.yielded_no hj hd hb
  have hw : ((none : Option Bool) == some want) = false := rfl
  simp only [wpOp, ho, Region.wanted, hg, hy, hw, Bool.false_eq_true, if_false]
  subst hdd
  exact hK w φ _ (hs.put o.dst hn .v) (Goes.refl _ _)
theorem or256 {a b : Int} (ha : 0 ≤ a) (hb : 0 ≤ b ∧ b < 256) : (((a * 2 ^ 8).toNat ||| b.toNat : Nat) : Int) = a * 256 + b := by
  have e : (a * 2 ^ 8).toNat = 2 ^ 8 * a.toNat := by omega
  rw [e, ← Nat.two_pow_add_eq_or_of_lt (by omega : b.toNat < 2 ^ 8) a.toNat]
  omega
/-- A number with a byte behind. -/
theorem q_orb {n : Nat} {s : AS} {o : Oper} {d : Option Tmp} {t u : TypeId} {x y : Operand} {a b : Int} (ho : o.op = .binOp .or t x y u := by exact rfl) (hx : s.ev x = i64 (a * 2 ^ 8) := by exact rfl) (hy : s.ev y = i64 b := by exact rfl)
    (ha : 0 ≤ a ∧ a ≤ 36028797018963967 := by first | omega | decide | (simp; omega)) (hb : 0 ≤ b ∧ b < 256 := by first | omega | decide | (simp; omega))
    (hdd : o.dst = d := by conv => lhs; whnf) (hd : d.all (Nat.blt · n) = true := by exact rfl) : OpOk Try.prog n o s (s.put d (i64 (a * 256 + b))) := by
  rw [← or256 ha.1 hb]
  exact q_or ho hx hy (by omega) (by omega) hdd hd
end Go.Proofs.Ytaemmklgofddmaa.Fw

/- Walks of layer 3, the program's. -/
set_option linter.unusedVariables false
set_option linter.unusedSimpArgs false
namespace Go.Proofs.Ytaemmklgofddmaa.Fw
open Go.RowKit


/-- Texts, one behind the other; options, one behind the other. -/
def txtW (b : List UInt8) : Bool := if h : 0 < b.length then (if 1 + (b.getD 0 default).toNat ≤ b.length then txtW (b.drop (1 + (b.getD 0 default).toNat)) else false) else true
termination_by b.length
decreasing_by simp; omega
def txtR (b : List UInt8) : Bool := decide (0 < b.length) && txtW b
def optK (b : List UInt8) : Nat := 4 + ((b.getD 2 default).toNat * 256 + (b.getD 3 default).toNat)
def optR (b : List UInt8) : Bool := if h : 0 < b.length then (if 4 ≤ b.length ∧ optK b ≤ b.length then optR (b.drop (optK b)) else false) else true
termination_by b.length
decreasing_by simp [optK]; omega
theorem txtW_end {b : List UInt8} (h : b.length = 0) : txtW b = true := by rw [txtW, dif_neg (by omega)]
theorem txtW_step {b : List UInt8} (h : 0 < b.length) (h2 : 1 + (b.getD 0 default).toNat ≤ b.length) : txtW b = txtW (b.drop (1 + (b.getD 0 default).toNat)) := by rw [txtW, dif_pos h, if_pos h2]
theorem txtW_no {b : List UInt8} (h : 0 < b.length) (h2 : b.length < 1 + (b.getD 0 default).toNat) : txtW b = false := by rw [txtW, dif_pos h, if_neg (by omega)]
theorem optR_end {b : List UInt8} (h : b.length = 0) : optR b = true := by rw [optR, dif_neg (by omega)]
theorem optR_step {b : List UInt8} (h : 0 < b.length) (h4 : 4 ≤ b.length) (h2 : optK b ≤ b.length) : optR b = optR (b.drop (optK b)) := by rw [optR, dif_pos h, if_pos ⟨h4, h2⟩]
theorem optR_no {b : List UInt8} (h : 0 < b.length) (h2 : b.length < 4 ∨ b.length < optK b) : optR b = false := by rw [optR, dif_pos h, if_neg (by omega)]
theorem canN_big {b : List UInt8} (h : 255 < b.length) : canN b = false := by rw [canN, decide_eq_false (by omega), Bool.and_false]
/-- Data of a type, but for type 6. -/
def canR (t : Int) (d : List UInt8) : Bool :=
  if t < 0 ∨ 65535 < t ∨ 65535 < d.length then false else if t = 1 then decide (d.length = 4) else if t = 28 then decide (d.length = 16) else if t = 2 ∨ t = 5 ∨ t = 12 then canN d
  else if t = 15 then decide (2 < d.length) && canN (d.drop 2) else if t = 16 then txtR d else if t = 41 then optR d else true
theorem eq_step {a b : List (List UInt8)} {i : Nat} (ha : i < a.length) (hb : i < b.length) (h : a.take i = b.take i) (e : a.getD i default = b.getD i default) : a.take (i + 1) = b.take (i + 1) := by
  rw [List.take_succ_eq_append_getElem ha, List.take_succ_eq_append_getElem hb, h]
  rw [List.getD_eq_getElem?_getD, List.getD_eq_getElem?_getD, List.getElem?_eq_getElem ha, List.getElem?_eq_getElem hb, Option.getD_some, Option.getD_some] at e
  rw [e]
theorem canR_15 {t : Int} {b : List UInt8} (e : t = 15) (h : canR t b = true) : 2 < b.length := by
  subst e
  simp [canR] at h
  omega
def namR (t : Int) (d : List UInt8) : List (List UInt8) := if canR t d then (if t = 2 ∨ t = 5 ∨ t = 12 then [d] else if t = 15 then [d.drop 2] else []) else []

set_option maxRecDepth 20000 in
theorem c_rdata_whole (b : List UInt8) (lv : Nat) (h : b.length ≤ 140737488351232) : AC Try.prog 59 [.fz lv b.length (cl bc b)] emp (Ret (tf (canN b))) := by
  refine AC.intro te_ok (fn := Try.f59) ⟨Try.func59, rfl, rfl⟩ (Nat.le_of_ble_eq_true rfl) ?_
  refine AWp.seq ?_
  refine AWp.region ?_
  refine AOps.cons rfl rfl (q_assign) ?_
  refine AOps.nil ?_
  refine AWp.seq ?_
  refine AWp.region ?_
  refine AOps.cons rfl rfl (q_move) ?_
  refine AOps.cons rfl rfl (by first | exact q_conv_zs | exact q_conv_ls) ?_
  refine AOps.cons rfl rfl (q_call (0) (hc := c_name_Can _ (by first | assumption | omega | decide | (simp; omega) | (simp [*]; done)))) ?_
  refine AOps.cons rfl rfl (q_assign) ?_
  refine AOps.nil ?_
  refine AWp.ret ?_
  show Fin te Try.f59 _ _
  refine q_ret (0) [_] [_] ?_
  first | rfl | (simp; done)

set_option maxRecDepth 20000 in
theorem c_rdata_mail (b : List UInt8) (lv : Nat) (h : b.length ≤ 140737488351232) : AC Try.prog 60 [.fz lv b.length (cl bc b)] emp (Ret (tf (decide (2 < b.length) && canN (b.drop 2)))) := by
  refine AC.intro te_ok (fn := Try.f60) ⟨Try.func60, rfl, rfl⟩ (Nat.le_of_ble_eq_true rfl) ?_
  refine AWp.seq ?_
  refine AWp.region ?_
  refine AOps.cons rfl rfl (q_assign) ?_
  refine AOps.nil ?_
  refine AWp.seq ?_
  refine AWp.region ?_
  refine AOps.cons rfl rfl (q_move) ?_
  refine AOps.cons rfl rfl (q_len) ?_
  refine AOps.dec rfl rfl (q_gtr) (fun h1_2 => ?_) (fun h1_2 => ?_)
  · skip
    refine AOps.cons rfl rfl (q_move) ?_
    refine AOps.gcons rfl rfl rfl rfl rfl (q_move) ?_
    refine AOps.gcons rfl rfl rfl rfl rfl (q_sl) ?_
    refine AOps.gcons rfl rfl rfl rfl rfl (q_call (lv) (hc := c_rdata_whole _ _ (by first | assumption | omega | decide | (simp; omega) | (simp [*]; done)))) ?_
    refine AOps.cons rfl rfl (q_pick) ?_
    refine AOps.cons rfl rfl (q_assign) ?_
    refine AOps.nil ?_
    refine AWp.ret ?_
    show Fin te Try.f60 _ _
    refine q_ret (0) [_] [_] ?_
    rw [decide_eq_true (show 2 < b.length by omega)]; rfl
  · skip
    refine AOps.cons rfl rfl (q_move) ?_
    refine AOps.gskip rfl rfl rfl rfl rfl rfl rfl rfl ?_
    refine AOps.gskip rfl rfl rfl rfl rfl rfl rfl rfl ?_
    refine AOps.gskip rfl rfl rfl rfl rfl rfl rfl rfl ?_
    refine AOps.cons rfl rfl (q_pick) ?_
    refine AOps.cons rfl rfl (q_assign) ?_
    refine AOps.nil ?_
    refine AWp.ret ?_
    show Fin te Try.f60 _ _
    refine q_ret (0) [_] [_] ?_
    rw [decide_eq_false (show ¬ 2 < b.length by omega)]; rfl

set_option maxRecDepth 20000 in
theorem c_rdata_texts (b : List UInt8) (lv : Nat) (h : b.length ≤ 140737488351232) : AC Try.prog 61 [.fz lv b.length (cl bc b)] emp (Ret (tf (txtR b))) := by
  refine AC.intro te_ok (fn := Try.f61) ⟨Try.func61, rfl, rfl⟩ (Nat.le_of_ble_eq_true rfl) ?_
  refine AWp.seq ?_
  refine AWp.region ?_
  refine AOps.cons rfl rfl (q_assign) ?_
  refine AOps.nil ?_
  refine AWp.seq ?_
  refine AWp.region ?_
  refine AOps.cons rfl rfl (q_move) ?_
  refine AOps.cons rfl rfl (q_len) ?_
  refine AOps.cons rfl rfl (q_gtr) ?_
  refine AOps.cons rfl rfl (q_assign) ?_
  refine AOps.nil ?_
  refine AWp.seq ?_
  refine AWp.block ?_
  refine AWp.loopR (α := List UInt8) [0, 2, 4, 8, 9, 10, 11, 12, 13, 14, 15, 16, 17, 18, 19, 20, 21, 22] (fun c => [(0, .fz lv c.length (cl bc c))]) (fun c => []) (fun c => txtW c = txtW b ∧ c.length ≤ b.length) (fun c => c.length) b ?_ (Back.mk' (HasT.cons HasT.nil) HasH.nil) ?_
  · exact ⟨rfl, Nat.le_refl _⟩
  · rintro c ⟨hc, hl⟩
    refine AWp.seq ?_
    refine AWp.seq ?_
    refine AWp.region ?_
    refine AOps.cons rfl rfl (q_move) ?_
    refine AOps.cons rfl rfl (q_len) ?_
    refine AOps.dec rfl rfl (q_gtr) (fun h2_2 => ?_) (fun h2_2 => ?_)
    · skip
      refine AOps.nil ?_
      refine AWp.cond_t rfl ?_
      refine AWp.skip ?_
      refine AWp.block ?_
      refine AWp.seq ?_
      refine AWp.region ?_
      have hk := (c.getD 0 default).toNat_lt
      have he : (c.getD (Int.toNat 0) default).toNat = (c.getD 0 default).toNat := rfl
      have hs : (c[0]?.getD default).toNat = (c.getD 0 default).toNat := congrArg UInt8.toNat (List.getD_eq_getElem?_getD).symm
      refine AOps.cons rfl rfl (q_move) ?_
      refine AOps.cons rfl rfl (q_ix) ?_
      refine AOps.cons rfl rfl (q_load) ?_
      refine AOps.cons rfl rfl (q_conv_8i) ?_
      refine AOps.cons rfl rfl (q_add) ?_
      refine AOps.cons rfl rfl (q_assign) ?_
      refine AOps.nil ?_
      refine AWp.seq ?_
      refine AWp.seq ?_
      refine AWp.region ?_
      refine AOps.cons rfl rfl (q_move) ?_
      refine AOps.cons rfl rfl (q_move) ?_
      refine AOps.cons rfl rfl (q_len) ?_
      refine AOps.dec rfl rfl (q_gtr) (fun h4_3 => ?_) (fun h4_3 => ?_)
      · skip
        refine AOps.nil ?_
        refine AWp.cond_t rfl ?_
        refine AWp.seq ?_
        refine AWp.region ?_
        refine AOps.cons rfl rfl (q_assign) ?_
        refine AOps.nil ?_
        refine AWp.ret ?_
        show Fin te Try.f61 _ _
        refine q_ret (0) [_] [_] ?_
        rw [txtR, ← hc, txtW_no (by omega) (by omega), Bool.and_false]; rfl
      · skip
        refine AOps.nil ?_
        refine AWp.cond_f rfl ?_
        refine AWp.skip ?_
        refine AWp.region ?_
        refine AOps.cons rfl rfl (q_move) ?_
        refine AOps.cons rfl rfl (q_move) ?_
        refine AOps.cons rfl rfl (q_sl) ?_
        refine AOps.cons rfl rfl (q_assign) ?_
        refine AOps.nil ?_
        have e1 : ((1 : Int) + ((c.getD (Int.toNat 0) default).toNat : Int)).toNat = 1 + (c.getD 0 default).toNat := by omega
        refine ⟨_, ?_, Back.mk' (HasT.cons HasT.nil) HasH.nil, ?_⟩
        · rw [e1]; exact ⟨(txtW_step (by omega) (by omega)).symm.trans hc, by rw [List.length_drop]; omega⟩
        · rw [e1, List.length_drop]; omega
    · skip
      refine AOps.nil ?_
      refine AWp.cond_f rfl ?_
      refine AWp.exit ?_
      refine AWp.seq ?_
      refine AWp.region ?_
      refine AOps.cons rfl rfl (q_move) ?_
      refine AOps.cons rfl rfl (q_assign) ?_
      refine AOps.nil ?_
      refine AWp.ret ?_
      show Fin te Try.f61 _ _
      refine q_ret (0) [_] [_] ?_
      rw [txtR, ← hc, txtW_end (by omega), Bool.and_true]; exact congrArg tf (decide_eq_decide.2 (by omega))

set_option maxRecDepth 20000 in
theorem c_rdata_options (b : List UInt8) (lv : Nat) (h : b.length ≤ 140737488351232) : AC Try.prog 62 [.fz lv b.length (cl bc b)] emp (Ret (tf (optR b))) := by
  refine AC.intro te_ok (fn := Try.f62) ⟨Try.func62, rfl, rfl⟩ (Nat.le_of_ble_eq_true rfl) ?_
  refine AWp.seq ?_
  refine AWp.region ?_
  refine AOps.cons rfl rfl (q_assign) ?_
  refine AOps.nil ?_
  refine AWp.seq ?_
  refine AWp.block ?_
  refine AWp.loopR (α := List UInt8) [0, 2, 3, 4, 5, 6, 7, 8, 9, 10, 11, 12, 13, 14, 15, 16, 17, 18, 19, 20, 21, 22, 23, 24, 25, 26, 27] (fun c => [(0, .fz lv c.length (cl bc c))]) (fun c => []) (fun c => optR c = optR b ∧ c.length ≤ b.length) (fun c => c.length) b ?_ (Back.mk' (HasT.cons HasT.nil) HasH.nil) ?_
  · exact ⟨rfl, Nat.le_refl _⟩
  · rintro c ⟨hc, hl⟩
    refine AWp.seq ?_
    refine AWp.seq ?_
    refine AWp.region ?_
    refine AOps.cons rfl rfl (q_move) ?_
    refine AOps.cons rfl rfl (q_len) ?_
    refine AOps.dec rfl rfl (q_gtr) (fun h1_2 => ?_) (fun h1_2 => ?_)
    · skip
      refine AOps.nil ?_
      refine AWp.cond_t rfl ?_
      refine AWp.skip ?_
      refine AWp.block ?_
      refine AWp.seq ?_
      refine AWp.seq ?_
      refine AWp.region ?_
      refine AOps.cons rfl rfl (q_move) ?_
      refine AOps.cons rfl rfl (q_len) ?_
      refine AOps.dec rfl rfl (q_lss) (fun h2_2 => ?_) (fun h2_2 => ?_)
      · skip
        refine AOps.nil ?_
        refine AWp.cond_t rfl ?_
        refine AWp.seq ?_
        refine AWp.region ?_
        refine AOps.cons rfl rfl (q_assign) ?_
        refine AOps.nil ?_
        refine AWp.ret ?_
        show Fin te Try.f62 _ _
        refine q_ret (0) [_] [_] ?_
        rw [← hc, optR_no (by omega) (by omega)]; rfl
      · skip
        refine AOps.nil ?_
        refine AWp.cond_f rfl ?_
        refine AWp.skip ?_
        refine AWp.seq ?_
        have hk2 := (c.getD 2 default).toNat_lt
        have hk3 := (c.getD 3 default).toNat_lt
        have he2 : (c.getD (Int.toNat 2) default).toNat = (c.getD 2 default).toNat := rfl
        have he3 : (c.getD (Int.toNat 3) default).toNat = (c.getD 3 default).toNat := rfl
        have hs2 : (c[2]?.getD default).toNat = (c.getD 2 default).toNat := congrArg UInt8.toNat (List.getD_eq_getElem?_getD).symm
        have hs3 : (c[3]?.getD default).toNat = (c.getD 3 default).toNat := congrArg UInt8.toNat (List.getD_eq_getElem?_getD).symm
        refine AWp.draws [⟨0, [0], [], some 10, _, none⟩,
            ⟨1, [10], [], some 11, _, none⟩,
            ⟨2, [11], [], some 12, _, none⟩,
            ⟨3, [12], [], some 13, _, none⟩,
            ⟨4, [13], [], some 14, _, none⟩,
            ⟨5, [0], [], some 15, _, none⟩,
            ⟨6, [15], [], some 16, _, none⟩,
            ⟨7, [16], [], some 17, _, none⟩,
            ⟨8, [17], [], some 18, _, none⟩,
            ⟨9, [14, 18], [], some 19, _, none⟩,
            ⟨10, [19], [], some 20, _, none⟩,
            ⟨11, [20], [], some 3, _, none⟩]
          [⟨0, [0], [], some 10, .any, none⟩,
              ⟨1, [10], [], some 11, .any, none⟩,
              ⟨2, [11], [], some 12, .any, none⟩,
              ⟨3, [12], [], some 13, .any, none⟩,
              ⟨4, [13], [], some 14, .any, none⟩,
              ⟨5, [0], [], some 15, .any, none⟩,
              ⟨6, [15], [], some 16, .any, none⟩,
              ⟨7, [16], [], some 17, .any, none⟩,
              ⟨8, [17], [], some 18, .any, none⟩,
              ⟨9, [14, 18], [], some 19, .any, none⟩,
              ⟨10, [19], [], some 20, .any, none⟩,
              ⟨11, [20], [], some 3, .any, none⟩]
          mixed_ok rfl (by kernel_rfl) ⟨DS.ok_over fun s0 => OpAt.go rfl rfl (q_move),
              DS.ok_over fun s0 => OpAt.go rfl rfl (q_ix),
              DS.ok_over fun s0 => OpAt.go rfl rfl (q_load),
              DS.ok_over fun s0 => OpAt.go rfl rfl (q_conv_8i),
              DS.ok_over fun s0 => OpAt.go rfl rfl (q_shl 8),
              DS.ok_over fun s0 => OpAt.go rfl rfl (q_move),
              DS.ok_over fun s0 => OpAt.go rfl rfl (q_ix),
              DS.ok_over fun s0 => OpAt.go rfl rfl (q_load),
              DS.ok_over fun s0 => OpAt.go rfl rfl (q_conv_8i),
              DS.ok_over fun s0 => OpAt.go rfl rfl (q_orb),
              DS.ok_over fun s0 => OpAt.go rfl rfl (q_add),
              DS.ok_over fun s0 => OpAt.go rfl rfl (q_assign), trivial⟩ ?_
        dsimp only [final, DS.upd, AS.seto]
        refine AWp.seq ?_
        refine AWp.seq ?_
        refine AWp.region ?_
        refine AOps.cons rfl rfl (q_move) ?_
        refine AOps.cons rfl rfl (q_move) ?_
        refine AOps.cons rfl rfl (q_len) ?_
        refine AOps.dec rfl rfl (q_gtr) (fun h5_3 => ?_) (fun h5_3 => ?_)
        · skip
          refine AOps.nil ?_
          refine AWp.cond_t rfl ?_
          refine AWp.seq ?_
          refine AWp.region ?_
          refine AOps.cons rfl rfl (q_assign) ?_
          refine AOps.nil ?_
          refine AWp.ret ?_
          show Fin te Try.f62 _ _
          refine q_ret (0) [_] [_] ?_
          rw [← hc, optR_no (by omega) (Or.inr (by unfold optK; omega))]; rfl
        · skip
          refine AOps.nil ?_
          refine AWp.cond_f rfl ?_
          refine AWp.skip ?_
          refine AWp.region ?_
          refine AOps.cons rfl rfl (q_move) ?_
          refine AOps.cons rfl rfl (q_move) ?_
          refine AOps.cons rfl rfl (q_sl) ?_
          refine AOps.cons rfl rfl (q_assign) ?_
          refine AOps.nil ?_
          have e1 : (4 + (((c.getD (Int.toNat 2) default).toNat : Int) * 256 + ((c.getD (Int.toNat 3) default).toNat : Int))).toNat = optK c := by unfold optK; omega
          refine ⟨_, ?_, Back.mk' (HasT.cons HasT.nil) HasH.nil, ?_⟩
          · rw [e1]; exact ⟨(optR_step (by omega) (by omega) (by unfold optK; omega)).symm.trans hc, by rw [List.length_drop]; omega⟩
          · rw [e1, List.length_drop]; unfold optK; omega
    · skip
      refine AOps.nil ?_
      refine AWp.cond_f rfl ?_
      refine AWp.exit ?_
      refine AWp.seq ?_
      refine AWp.region ?_
      refine AOps.cons rfl rfl (q_assign) ?_
      refine AOps.nil ?_
      refine AWp.ret ?_
      show Fin te Try.f62 _ _
      refine q_ret (0) [_] [_] ?_
      rw [← hc, optR_end (by omega)]; rfl

set_option maxRecDepth 20000 in
theorem c_rdata_Can (t : Int) (b : List UInt8) (lv : Nat) (h : b.length ≤ 140737488351232) (ht : t ≠ 6) : AC Try.prog 38 [i64 t, .fz lv b.length (cl bc b)] emp (Ret (tf (canR t b))) := by
  refine AC.intro te_ok (fn := Try.f38) ⟨Try.func38, rfl, rfl⟩ (Nat.le_of_ble_eq_true rfl) ?_
  refine AWp.seq ?_
  refine AWp.region ?_
  refine AOps.cons rfl rfl (q_assign) ?_
  refine AOps.nil ?_
  refine AWp.seq ?_
  refine AWp.seq ?_
  refine AWp.region ?_
  refine AOps.cons rfl rfl (q_move) ?_
  refine AOps.dec rfl rfl (q_lss) (fun h1_1 => ?_) (fun h1_1 => ?_)
  · skip
    refine AOps.cons rfl rfl (q_move) ?_
    refine AOps.gskip rfl rfl rfl rfl rfl rfl rfl rfl ?_
    refine AOps.gskip rfl rfl rfl rfl rfl rfl rfl rfl ?_
    refine AOps.cons rfl rfl (q_pick) ?_
    refine AOps.cons rfl rfl (q_move) ?_
    refine AOps.gskip rfl rfl rfl rfl rfl rfl rfl rfl ?_
    refine AOps.gskip rfl rfl rfl rfl rfl rfl rfl rfl ?_
    refine AOps.gskip rfl rfl rfl rfl rfl rfl rfl rfl ?_
    refine AOps.cons rfl rfl (q_pick) ?_
    refine AOps.nil ?_
    refine AWp.cond_t rfl ?_
    refine AWp.seq ?_
    refine AWp.region ?_
    refine AOps.cons rfl rfl (q_assign) ?_
    refine AOps.nil ?_
    refine AWp.ret ?_
    show Fin te Try.f38 _ _
    refine q_ret (0) [_] [_] ?_
    rw [canR, if_pos (by omega)]; rfl
  · skip
    refine AOps.cons rfl rfl (q_move) ?_
    refine AOps.gcons rfl rfl rfl rfl rfl (q_move) ?_
    refine AOps.gdec rfl rfl rfl rfl rfl (q_gtr) (fun h1_4 => ?_) (fun h1_4 => ?_)
    · skip
      refine AOps.cons rfl rfl (q_pick) ?_
      refine AOps.cons rfl rfl (q_move) ?_
      refine AOps.gskip rfl rfl rfl rfl rfl rfl rfl rfl ?_
      refine AOps.gskip rfl rfl rfl rfl rfl rfl rfl rfl ?_
      refine AOps.gskip rfl rfl rfl rfl rfl rfl rfl rfl ?_
      refine AOps.cons rfl rfl (q_pick) ?_
      refine AOps.nil ?_
      refine AWp.cond_t rfl ?_
      refine AWp.seq ?_
      refine AWp.region ?_
      refine AOps.cons rfl rfl (q_assign) ?_
      refine AOps.nil ?_
      refine AWp.ret ?_
      show Fin te Try.f38 _ _
      refine q_ret (0) [_] [_] ?_
      rw [canR, if_pos (by omega)]; rfl
    · skip
      refine AOps.cons rfl rfl (q_pick) ?_
      refine AOps.cons rfl rfl (q_move) ?_
      refine AOps.gcons rfl rfl rfl rfl rfl (q_move) ?_
      refine AOps.gcons rfl rfl rfl rfl rfl (q_len) ?_
      refine AOps.gdec rfl rfl rfl rfl rfl (q_gtr) (fun h1_9 => ?_) (fun h1_9 => ?_)
      · skip
        refine AOps.cons rfl rfl (q_pick) ?_
        refine AOps.nil ?_
        refine AWp.cond_t rfl ?_
        refine AWp.seq ?_
        refine AWp.region ?_
        refine AOps.cons rfl rfl (q_assign) ?_
        refine AOps.nil ?_
        refine AWp.ret ?_
        show Fin te Try.f38 _ _
        refine q_ret (0) [_] [_] ?_
        rw [canR, if_pos (by omega)]; rfl
      · skip
        refine AOps.cons rfl rfl (q_pick) ?_
        refine AOps.nil ?_
        refine AWp.cond_f rfl ?_
        refine AWp.skip ?_
        refine AWp.seq ?_
        refine AWp.seq ?_
        refine AWp.region ?_
        refine AOps.cons rfl rfl (q_move) ?_
        refine AOps.nil ?_
        refine AWp.block ?_
        refine AWp.seq ?_
        refine AWp.region ?_
        refine AOps.dec rfl rfl (q_eql) (fun h4_0 => ?_) (fun h4_0 => ?_)
        · skip
          refine AOps.cons rfl rfl (q_assign) ?_
          refine AOps.nil ?_
          refine AWp.cond_t rfl ?_
          refine AWp.seq ?_
          refine AWp.region ?_
          refine AOps.cons rfl rfl (q_move) ?_
          refine AOps.cons rfl rfl (q_len) ?_
          refine AOps.cons rfl rfl (q_eql) ?_
          refine AOps.cons rfl rfl (q_assign) ?_
          refine AOps.nil ?_
          refine AWp.ret ?_
          show Fin te Try.f38 _ _
          refine q_ret (0) [_] [_] ?_
          rw [canR, if_neg (by omega), if_pos h4_0]; exact congrArg tf (decide_eq_decide.2 (by omega))
        · skip
          refine AOps.cons rfl rfl (q_assign) ?_
          refine AOps.nil ?_
          refine AWp.cond_f rfl ?_
          refine AWp.seq ?_
          refine AWp.region ?_
          refine AOps.dec rfl rfl (q_eql) (fun h6_0 => ?_) (fun h6_0 => ?_)
          · skip
            refine AOps.cons rfl rfl (q_assign) ?_
            refine AOps.nil ?_
            refine AWp.cond_t rfl ?_
            refine AWp.seq ?_
            refine AWp.region ?_
            refine AOps.cons rfl rfl (q_move) ?_
            refine AOps.cons rfl rfl (q_len) ?_
            refine AOps.cons rfl rfl (q_eql) ?_
            refine AOps.cons rfl rfl (q_assign) ?_
            refine AOps.nil ?_
            refine AWp.ret ?_
            show Fin te Try.f38 _ _
            refine q_ret (0) [_] [_] ?_
            rw [canR, if_neg (by omega), if_neg h4_0, if_pos h6_0]; exact congrArg tf (decide_eq_decide.2 (by omega))
          · skip
            refine AOps.cons rfl rfl (q_assign) ?_
            refine AOps.nil ?_
            refine AWp.cond_f rfl ?_
            refine AWp.seq ?_
            refine AWp.seq ?_
            refine AWp.region ?_
            refine AOps.dec rfl rfl (q_eql) (fun h8_0 => ?_) (fun h8_0 => ?_)
            · skip
              refine AOps.cons rfl rfl (q_assign) ?_
              refine AOps.nil ?_
              refine AWp.cond_t rfl ?_
              refine AWp.skip ?_
              refine AWp.cond_t rfl ?_
              refine AWp.seq ?_
              refine AWp.region ?_
              refine AOps.cons rfl rfl (q_move) ?_
              refine AOps.cons rfl rfl (q_call (lv) (hc := c_rdata_whole _ _ (by first | assumption | omega | decide | (simp; omega) | (simp [*]; done)))) ?_
              refine AOps.cons rfl rfl (q_assign) ?_
              refine AOps.nil ?_
              refine AWp.ret ?_
              show Fin te Try.f38 _ _
              refine q_ret (0) [_] [_] ?_
              rw [canR, if_neg (by omega), if_neg h4_0, if_neg h6_0, if_pos (by omega)]; rfl
            · skip
              refine AOps.cons rfl rfl (q_assign) ?_
              refine AOps.nil ?_
              refine AWp.cond_f rfl ?_
              refine AWp.seq ?_
              refine AWp.region ?_
              refine AOps.dec rfl rfl (q_eql) (fun h9_0 => ?_) (fun h9_0 => ?_)
              · skip
                refine AOps.cons rfl rfl (q_assign) ?_
                refine AOps.nil ?_
                refine AWp.cond_t rfl ?_
                refine AWp.skip ?_
                refine AWp.cond_t rfl ?_
                refine AWp.seq ?_
                refine AWp.region ?_
                refine AOps.cons rfl rfl (q_move) ?_
                refine AOps.cons rfl rfl (q_call (lv) (hc := c_rdata_whole _ _ (by first | assumption | omega | decide | (simp; omega) | (simp [*]; done)))) ?_
                refine AOps.cons rfl rfl (q_assign) ?_
                refine AOps.nil ?_
                refine AWp.ret ?_
                show Fin te Try.f38 _ _
                refine q_ret (0) [_] [_] ?_
                rw [canR, if_neg (by omega), if_neg h4_0, if_neg h6_0, if_pos (by omega)]; rfl
              · skip
                refine AOps.cons rfl rfl (q_assign) ?_
                refine AOps.nil ?_
                refine AWp.cond_f rfl ?_
                refine AWp.region ?_
                refine AOps.dec rfl rfl (q_eql) (fun h10_0 => ?_) (fun h10_0 => ?_)
                · skip
                  refine AOps.cons rfl rfl (q_assign) ?_
                  refine AOps.nil ?_
                  refine AWp.cond_t rfl ?_
                  refine AWp.seq ?_
                  refine AWp.region ?_
                  refine AOps.cons rfl rfl (q_move) ?_
                  refine AOps.cons rfl rfl (q_call (lv) (hc := c_rdata_whole _ _ (by first | assumption | omega | decide | (simp; omega) | (simp [*]; done)))) ?_
                  refine AOps.cons rfl rfl (q_assign) ?_
                  refine AOps.nil ?_
                  refine AWp.ret ?_
                  show Fin te Try.f38 _ _
                  refine q_ret (0) [_] [_] ?_
                  rw [canR, if_neg (by omega), if_neg h4_0, if_neg h6_0, if_pos (by omega)]; rfl
                · skip
                  refine AOps.cons rfl rfl (q_assign) ?_
                  refine AOps.nil ?_
                  refine AWp.cond_f rfl ?_
                  refine AWp.seq ?_
                  refine AWp.region ?_
                  refine AOps.dec rfl rfl (q_eql) (fun h12_0 => ?_) (fun h12_0 => ?_)
                  · skip
                    refine AOps.cons rfl rfl (q_assign) ?_
                    refine AOps.nil ?_
                    refine AWp.cond_t rfl ?_
                    refine AWp.seq ?_
                    refine AWp.region ?_
                    refine AOps.cons rfl rfl (q_move) ?_
                    refine AOps.cons rfl rfl (q_call (lv) (hc := c_rdata_mail _ _ (by first | assumption | omega | decide | (simp; omega) | (simp [*]; done)))) ?_
                    refine AOps.cons rfl rfl (q_assign) ?_
                    refine AOps.nil ?_
                    refine AWp.ret ?_
                    show Fin te Try.f38 _ _
                    refine q_ret (0) [_] [_] ?_
                    rw [canR, if_neg (by omega), if_neg h4_0, if_neg h6_0, if_neg (by omega), if_pos h12_0]; rfl
                  · skip
                    refine AOps.cons rfl rfl (q_assign) ?_
                    refine AOps.nil ?_
                    refine AWp.cond_f rfl ?_
                    refine AWp.seq ?_
                    refine AWp.region ?_
                    refine AOps.dec rfl rfl (q_eql) (fun h14_0 => ?_) (fun h14_0 => ?_)
                    · skip
                      refine AOps.cons rfl rfl (q_assign) ?_
                      refine AOps.nil ?_
                      refine AWp.cond_t rfl ?_
                      refine AWp.seq ?_
                      refine AWp.region ?_
                      refine AOps.cons rfl rfl (q_move) ?_
                      refine AOps.cons rfl rfl (q_call (lv) (hc := c_rdata_texts _ _ (by first | assumption | omega | decide | (simp; omega) | (simp [*]; done)))) ?_
                      refine AOps.cons rfl rfl (q_assign) ?_
                      refine AOps.nil ?_
                      refine AWp.ret ?_
                      show Fin te Try.f38 _ _
                      refine q_ret (0) [_] [_] ?_
                      rw [canR, if_neg (by omega), if_neg h4_0, if_neg h6_0, if_neg (by omega), if_neg h12_0, if_pos h14_0]; rfl
                    · skip
                      refine AOps.cons rfl rfl (q_assign) ?_
                      refine AOps.nil ?_
                      refine AWp.cond_f rfl ?_
                      refine AWp.seq ?_
                      refine AWp.region ?_
                      refine AOps.dec rfl rfl (q_eql) (fun h16_0 => ?_) (fun h16_0 => ?_)
                      · skip
                        refine AOps.cons rfl rfl (q_assign) ?_
                        refine AOps.nil ?_
                        refine AWp.cond_t rfl ?_
                        refine AWp.seq ?_
                        refine AWp.region ?_
                        refine AOps.cons rfl rfl (q_move) ?_
                        refine AOps.cons rfl rfl (q_call (lv) (hc := c_rdata_options _ _ (by first | assumption | omega | decide | (simp; omega) | (simp [*]; done)))) ?_
                        refine AOps.cons rfl rfl (q_assign) ?_
                        refine AOps.nil ?_
                        refine AWp.ret ?_
                        show Fin te Try.f38 _ _
                        refine q_ret (0) [_] [_] ?_
                        rw [canR, if_neg (by omega), if_neg h4_0, if_neg h6_0, if_neg (by omega), if_neg h12_0, if_neg h14_0, if_pos h16_0]; rfl
                      · skip
                        refine AOps.cons rfl rfl (q_assign) ?_
                        refine AOps.nil ?_
                        refine AWp.cond_f rfl ?_
                        refine AWp.seq ?_
                        refine AWp.region ?_
                        refine AOps.dec rfl rfl (q_eql) (fun h18_0 => ?_) (fun h18_0 => ?_)
                        · exfalso; omega
                        · skip
                          refine AOps.cons rfl rfl (q_assign) ?_
                          refine AOps.nil ?_
                          refine AWp.cond_f rfl ?_
                          refine AWp.skip ?_
                          refine AWp.seq ?_
                          refine AWp.region ?_
                          refine AOps.cons rfl rfl (q_assign) ?_
                          refine AOps.nil ?_
                          refine AWp.ret ?_
                          show Fin te Try.f38 _ _
                          refine q_ret (0) [_] [_] ?_
                          rw [canR, if_neg (by omega), if_neg h4_0, if_neg h6_0, if_neg (by omega), if_neg h12_0, if_neg h14_0, if_neg h16_0]; rfl

end Go.Proofs.Ytaemmklgofddmaa.Fw

/- Walks of layer 3: the data of an SOA, the program's. -/
set_option linter.unusedVariables false
set_option linter.unusedSimpArgs false
namespace Go.Proofs.Ytaemmklgofddmaa.Fw
open Go.RowKit


/-- Where a walk from label to label ends. -/
def zer (b : List UInt8) (i : Nat) : Nat := if h : i < b.length ∧ ¬ (b.getD i default).toNat = 0 then zer b (i + 1 + (b.getD i default).toNat) else i
termination_by b.length - i
decreasing_by omega
theorem zer_step {b : List UInt8} {i : Nat} (h : i < b.length) (h2 : ¬ (b.getD i default).toNat = 0) : zer b i = zer b (i + 1 + (b.getD i default).toNat) := by rw [zer, dif_pos ⟨h, h2⟩]
theorem zer_end {b : List UInt8} {i : Nat} (h : ¬ (i < b.length ∧ ¬ (b.getD i default).toNat = 0)) : zer b i = i := by rw [zer, dif_neg h]
def cutO (b : List UInt8) : Bool := decide (zer b 0 < b.length) && canN (b.take (zer b 0 + 1))
def cutM (b : List UInt8) : List UInt8 := if cutO b then b.take (zer b 0 + 1) else []
def cutR (b : List UInt8) : List UInt8 := if cutO b then b.drop (zer b 0 + 1) else []
theorem cut_no {b : List UInt8} (h : cutO b = false) : cutM b = [] ∧ cutR b = [] := by simp [cutM, cutR, h]
theorem cut_len (b : List UInt8) : (cutM b).length ≤ 255 ∧ (cutR b).length ≤ b.length := by
  cases h : cutO b with
  | false => simp [cut_no h]
  | true =>
    have h2 := h
    simp only [cutO, Bool.and_eq_true] at h2
    rw [cutM, cutR, if_pos h, if_pos h]
    exact ⟨canN_len h2.2, by simp⟩
theorem zer_join : ∀ {ls : List (List UInt8)} {b r : List UInt8} {i : Nat}, GoodN ls → b.drop i = joinN ls ++ r → zer b i + 1 = i + (joinN ls).length
  | [], b, r, i, _, h => by
    have hl := congrArg List.length h
    simp [joinN_nil] at hl
    have hi : i < b.length := by omega
    rw [List.drop_eq_getElem_cons hi, joinN_nil, List.singleton_append] at h
    have e : (b.getD i default).toNat = 0 := by
      rw [List.getD_eq_getElem?_getD, List.getElem?_eq_getElem hi, Option.getD_some, (List.cons.inj h).1]; rfl
    rw [zer_end (by omega)]
    rfl
  | l :: ls, b, r, i, g, h => by
    have hl := congrArg List.length h
    have hb := byte_len g.head.2
    have hh := g.head
    simp [joinN_cons] at hl
    have hi : i < b.length := by omega
    have h2 := h
    rw [List.drop_eq_getElem_cons hi, joinN_cons, List.cons_append, List.append_assoc] at h2
    obtain ⟨e1, e2⟩ := List.cons.inj h2
    have e : (b.getD i default).toNat = l.length := by
      rw [List.getD_eq_getElem?_getD, List.getElem?_eq_getElem hi, Option.getD_some, e1]; exact hb
    have e3 : b.drop (i + 1 + l.length) = joinN ls ++ r := by rw [← List.drop_drop, e2, List.drop_left]
    rw [zer_step hi (by omega), e, zer_join g.tail e3, joinN_cons]
    simp
    omega
theorem cut_at {b : List UInt8} {k : Nat} (hk : k ≤ b.length) (h : canN (b.take k) = true) : cutO b = true ∧ cutM b = b.take k ∧ cutR b = b.drop k := by
  obtain ⟨ls, g, e, hl⟩ := canN_iff.1 h
  have hz : zer b 0 + 1 = k := by
    have hd : b.drop 0 = joinN ls ++ b.drop k := by rw [← e, List.take_append_drop, List.drop_zero]
    have := zer_join g hd
    have hlen := congrArg List.length e
    rw [List.length_take] at hlen
    omega
  have ho : cutO b = true := by rw [cutO, hz, h, decide_eq_true (by omega)]; rfl
  rw [cutM, cutR, if_pos ho, if_pos ho, hz]
  exact ⟨ho, rfl, rfl⟩
theorem cut_none {b : List UInt8} (h : ∀ j, 1 ≤ j → j ≤ b.length → j ≤ 255 → canN (b.take j) = false) : cutO b = false := by
  cases ho : cutO b with
  | false => rfl
  | true =>
    have h2 := ho
    simp only [cutO, Bool.and_eq_true, decide_eq_true_eq] at h2
    have h3 := canN_len h2.2
    rw [List.length_take] at h3
    rw [h (zer b 0 + 1) (by omega) (by omega) (by omega)] at h2
    cases h2.2
/-- A number of bytes. -/
def num (l : List UInt8) : Int := l.foldl (fun a x => a * 256 + (x.toNat : Int)) 0
theorem num_snoc (l : List UInt8) (x : UInt8) : num (l ++ [x]) = num l * 256 + x.toNat := by simp [num, List.foldl_append]
theorem num_step {l : List UInt8} {k : Nat} (h : k < l.length) : num (l.take (k + 1)) = num (l.take k) * 256 + (l.getD k default).toNat := by
  rw [List.take_succ_eq_append_getElem h, num_snoc, List.getD_eq_getElem?_getD, List.getElem?_eq_getElem h]
  rfl
theorem num_le : ∀ (k : Nat) (l : List UInt8), l.length = k → 0 ≤ num l ∧ num l < 256 ^ k
  | 0, l, h => by
    obtain rfl := List.eq_nil_of_length_eq_zero h
    simp [num]
  | k + 1, l, h => by
    have hs : l = l.take k ++ [l.getD k default] := by
      rw [List.getD_eq_getElem?_getD, List.getElem?_eq_getElem (by omega), Option.getD_some, ← List.take_succ_eq_append_getElem (by omega), List.take_of_length_le (by omega)]
    have := num_le k (l.take k) (by rw [List.length_take]; omega)
    have hx := (l.getD k default).toNat_lt
    rw [hs, num_snoc, Int.pow_succ]
    omega
theorem num_24 {l : List UInt8} {k : Nat} (h : k < 4) (hl : l.length = k) : 0 ≤ num l ∧ num l ≤ 16777215 := by
  have := num_le k l hl
  have e : k = 0 ∨ k = 1 ∨ k = 2 ∨ k = 3 := by omega
  rcases e with rfl | rfl | rfl | rfl <;> simp at this <;> omega
def dg (c : List UInt8) (j : Nat) : List UInt8 := (c.take (4 * (j : Int) + 4).toNat).drop (4 * (j : Int)).toNat
theorem dg_len {c : List UInt8} {j : Nat} (hc : c.length = 20) (hj : j < 5) : (dg c j).length = 4 := by rw [dg, List.length_drop, List.length_take]; omega
def wd (c : List UInt8) (j i : Nat) : Int := if j < i then num ((dg c j).take 4) else 0
structure Soa where
  m : List UInt8
  r : List UInt8
  n1 : Int
  n2 : Int
  n3 : Int
  n4 : Int
  n5 : Int
def soaA (x : Soa) : AV := .agg [str x.m, str x.r, i64 x.n1, i64 x.n2, i64 x.n3, i64 x.n4, i64 x.n5]
def soaO (b : List UInt8) : Bool := cutO b && (cutO (cutR b) && decide ((cutR (cutR b)).length = 20))
def soaV (b : List UInt8) : Soa := if soaO b then ⟨cutM b, cutM (cutR b), wd (cutR (cutR b)) 0 5, wd (cutR (cutR b)) 1 5, wd (cutR (cutR b)) 2 5, wd (cutR (cutR b)) 3 5, wd (cutR (cutR b)) 4 5⟩ else ⟨[], [], 0, 0, 0, 0, 0⟩
theorem soaV_no {b : List UInt8} (h : soaO b = false) : soaV b = ⟨[], [], 0, 0, 0, 0, 0⟩ := by rw [soaV, if_neg (by simp [h])]
theorem four_num {c : List UInt8} {j : Nat} (hc : c.length = 20) (hj : j < 5) : (((((c.getD (4 * j) default).toNat : Int) * 256 + ((c.getD (4 * j + 1) default).toNat : Int)) * 256 + ((c.getD (4 * j + 2) default).toNat : Int)) * 256 + ((c.getD (4 * j + 3) default).toNat : Int)) = wd c j 5 := by
  have hl := dg_len hc hj
  have hg : ∀ k, k < 4 → (dg c j).getD k default = c.getD (4 * j + k) default := by
    intro k hk
    rw [dg, List.getD_eq_getElem?_getD, List.getD_eq_getElem?_getD, List.getElem?_drop, List.getElem?_take, if_pos (by omega)]
    congr 2 <;> omega
  rw [wd, if_pos hj, num_step (by omega), num_step (by omega), num_step (by omega), num_step (by omega), hg 0 (by omega), hg 1 (by omega), hg 2 (by omega), hg 3 (by omega)]
  simp [num]

set_option maxRecDepth 20000 in
theorem c_rdata_cut (b : List UInt8) (lv : Nat) (h : b.length ≤ 140737488351232) : AC Try.prog 71 [.fz lv b.length (cl bc b)] emp (Ret (.tup [str (cutM b), .fz lv (cutR b).length (cl bc (cutR b)), tf (cutO b)])) := by
  refine AC.intro te_ok (fn := Try.f71) ⟨Try.func71, rfl, rfl⟩ (Nat.le_of_ble_eq_true rfl) ?_
  refine AWp.seq ?_
  refine AWp.region ?_
  refine AOps.cons rfl rfl (q_assign) ?_
  refine AOps.cons rfl rfl (q_nilz (lv) bc) ?_
  refine AOps.cons rfl rfl (q_assign) ?_
  refine AOps.nil ?_
  refine AWp.seq ?_
  refine AWp.region ?_
  refine AOps.cons rfl rfl (q_assign) ?_
  refine AOps.nil ?_
  refine AWp.seq ?_
  refine AWp.block ?_
  refine AWp.loopR (α := Nat) [5, 6, 7, 8, 9, 10, 11, 12, 13, 14, 15, 16, 17, 18, 19, 20, 21, 22, 23, 24] (fun i => [(5, i64 i)]) (fun i => []) (fun i => zer b i = zer b 0 ∧ i ≤ b.length + 255) (fun i => b.length - i) 0 ?_ (Back.mk' (HasT.cons HasT.nil) HasH.nil) ?_
  · exact ⟨rfl, Nat.zero_le _⟩
  · rintro i ⟨hz, hi⟩
    refine AWp.seq ?_
    refine AWp.seq ?_
    refine AWp.region ?_
    refine AOps.cons rfl rfl (q_move) ?_
    refine AOps.cons rfl rfl (q_move) ?_
    refine AOps.cons rfl rfl (q_len) ?_
    refine AOps.dec rfl rfl (q_lss) (fun h2_3 => ?_) (fun h2_3 => ?_)
    · skip
      refine AOps.cons rfl rfl (q_move) ?_
      refine AOps.gcons rfl rfl rfl rfl rfl (q_move) ?_
      refine AOps.gcons rfl rfl rfl rfl rfl (q_move) ?_
      refine AOps.gcons rfl rfl rfl rfl rfl (q_ix) ?_
      refine AOps.gcons rfl rfl rfl rfl rfl (q_load) ?_
      refine AOps.gdec rfl rfl rfl rfl rfl (q_neq) (fun h2_9 => ?_) (fun h2_9 => ?_)
      · skip
        refine AOps.cons rfl rfl (q_pick) ?_
        refine AOps.nil ?_
        refine AWp.cond_t rfl ?_
        refine AWp.skip ?_
        refine AWp.block ?_
        refine AWp.region ?_
        have hk := (b.getD i default).toNat_lt
        have he : (b.getD (i : Int).toNat default).toNat = (b.getD i default).toNat := rfl
        have k9 : ¬ (b.getD i default).toNat = 0 := fun e => h2_9 (by show ((b.getD i default).toNat : Int) = 0; omega)
        refine AOps.cons rfl rfl (q_move) ?_
        refine AOps.cons rfl rfl (q_move) ?_
        refine AOps.cons rfl rfl (q_move) ?_
        refine AOps.cons rfl rfl (q_ix) ?_
        refine AOps.cons rfl rfl (q_load) ?_
        refine AOps.cons rfl rfl (q_conv_8i) ?_
        refine AOps.cons rfl rfl (q_add) ?_
        refine AOps.cons rfl rfl (q_add) ?_
        refine AOps.cons rfl rfl (q_assign) ?_
        refine AOps.nil ?_
        refine ⟨i + 1 + (b.getD i default).toNat, ?_, Back.mk' (HasT.cons HasT.nil (h1 := by exact i64_eq (by show (i : Int) + (1 + ((b.getD i default).toNat : Int)) = ((i + 1 + (b.getD i default).toNat : Nat) : Int); omega)) ) HasH.nil, ?_⟩
        · exact ⟨(zer_step (by omega) k9).symm.trans hz, by omega⟩
        · omega
      · skip
        refine AOps.cons rfl rfl (q_pick) ?_
        refine AOps.nil ?_
        refine AWp.cond_f rfl ?_
        refine AWp.exit ?_
        refine AWp.seq ?_
        refine AWp.seq ?_
        refine AWp.region ?_
        have k9 : ((b.getD i default).toNat : Int) = 0 := Classical.not_not.1 h2_9
        have hz0 : zer b 0 = i := by rw [← hz]; exact zer_end (by omega)
        refine AOps.cons rfl rfl (q_move) ?_
        refine AOps.cons rfl rfl (q_move) ?_
        refine AOps.cons rfl rfl (q_len) ?_
        refine AOps.dec rfl rfl (q_geq) (fun h4_3 => ?_) (fun h4_3 => ?_)
        · exfalso; omega
        · skip
          refine AOps.cons rfl rfl (q_move) ?_
          have ei : ((i : Int) + 1).toNat = i + 1 := by omega
          refine AOps.gcons rfl rfl rfl rfl rfl (q_move) ?_
          refine AOps.gcons rfl rfl rfl rfl rfl (q_move) ?_
          refine AOps.gcons rfl rfl rfl rfl rfl (q_add) ?_
          refine AOps.gcons rfl rfl rfl rfl rfl (q_sl) ?_
          refine AOps.gcons rfl rfl rfl rfl rfl (by first | exact q_conv_zs | exact q_conv_ls) ?_
          refine AOps.gbool rfl rfl rfl rfl rfl (q_call (lv) (hc := c_name_Can _ (by first | assumption | omega | decide | (simp; omega) | (simp [*]; done)))) (fun h4_10 => ?_) (fun h4_10 => ?_)
          · skip
            refine AOps.gcons rfl rfl rfl rfl rfl (q_not) ?_
            refine AOps.cons rfl rfl (q_pick) ?_
            refine AOps.nil ?_
            refine AWp.cond_f rfl ?_
            refine AWp.skip ?_
            refine AWp.seq ?_
            refine AWp.draws [⟨0, [0], [], some 38, _, none⟩,
                ⟨1, [5], [], some 39, _, none⟩,
                ⟨2, [39], [], some 40, _, none⟩,
                ⟨3, [38, 40], [], some 41, _, none⟩,
                ⟨4, [41], [], some 42, _, none⟩,
                ⟨5, [0], [], some 43, _, none⟩,
                ⟨6, [5], [], some 44, _, none⟩,
                ⟨7, [44], [], some 45, _, none⟩,
                ⟨8, [43, 45], [], some 46, _, none⟩,
                ⟨9, [42], [], some 2, _, none⟩,
                ⟨10, [46], [], some 3, _, none⟩,
                ⟨11, [], [], some 4, _, none⟩]
              [⟨0, [0], [], some 38, .any, none⟩,
                  ⟨1, [5], [], some 39, .any, none⟩,
                  ⟨2, [39], [], some 40, .any, none⟩,
                  ⟨3, [38, 40], [], some 41, .any, none⟩,
                  ⟨4, [41], [], some 42, .any, none⟩,
                  ⟨5, [0], [], some 43, .any, none⟩,
                  ⟨6, [5], [], some 44, .any, none⟩,
                  ⟨7, [44], [], some 45, .any, none⟩,
                  ⟨8, [43, 45], [], some 46, .any, none⟩,
                  ⟨9, [42], [], some 2, .any, none⟩,
                  ⟨10, [46], [], some 3, .any, none⟩,
                  ⟨11, [], [], some 4, .any, none⟩]
              mixed_ok rfl (by kernel_rfl) ⟨DS.ok_over fun s0 => OpAt.go rfl rfl (q_move),
                  DS.ok_over fun s0 => OpAt.go rfl rfl (q_move),
                  DS.ok_over fun s0 => OpAt.go rfl rfl (q_add),
                  DS.ok_over fun s0 => OpAt.go rfl rfl (q_sl),
                  DS.ok_over fun s0 => OpAt.go rfl rfl (by first | exact q_conv_zs | exact q_conv_ls),
                  DS.ok_over fun s0 => OpAt.go rfl rfl (q_move),
                  DS.ok_over fun s0 => OpAt.go rfl rfl (q_move),
                  DS.ok_over fun s0 => OpAt.go rfl rfl (q_add),
                  DS.ok_over fun s0 => OpAt.go rfl rfl (q_sl),
                  DS.ok_over fun s0 => OpAt.go rfl rfl (q_assign),
                  DS.ok_over fun s0 => OpAt.go rfl rfl (q_assign),
                  DS.ok_over fun s0 => OpAt.go rfl rfl (q_assign), trivial⟩ ?_
            dsimp only [final, DS.upd, AS.seto]
            refine AWp.ret ?_
            show Fin te Try.f71 _ _
            refine q_ret (lv) [_, _, _] [_, _, _] ?_
            rw [ei] at h4_10
            obtain ⟨q1, q2, q3⟩ := cut_at (b := b) (k := i + 1) (by omega) h4_10
            rw [q1, q2, q3, ei]; rfl
          · skip
            refine AOps.gcons rfl rfl rfl rfl rfl (q_not) ?_
            refine AOps.cons rfl rfl (q_pick) ?_
            refine AOps.nil ?_
            refine AWp.cond_t rfl ?_
            refine AWp.seq ?_
            refine AWp.region ?_
            refine AOps.cons rfl rfl (q_assign) ?_
            refine AOps.cons rfl rfl (q_nilz (lv) bc) ?_
            refine AOps.cons rfl rfl (q_assign) ?_
            refine AOps.nil ?_
            refine AWp.ret ?_
            show Fin te Try.f71 _ _
            refine q_ret (lv) [_, _, _] [_, _, _] ?_
            have ho : cutO b = false := by rw [ei] at h4_10; rw [cutO, hz0, h4_10, Bool.and_false]
            rw [(cut_no ho).1, (cut_no ho).2, ho]; rfl
    · skip
      refine AOps.cons rfl rfl (q_move) ?_
      refine AOps.gskip rfl rfl rfl rfl rfl rfl rfl rfl ?_
      refine AOps.gskip rfl rfl rfl rfl rfl rfl rfl rfl ?_
      refine AOps.gskip rfl rfl rfl rfl rfl rfl rfl rfl ?_
      refine AOps.gskip rfl rfl rfl rfl rfl rfl rfl rfl ?_
      refine AOps.gskip rfl rfl rfl rfl rfl rfl rfl rfl ?_
      refine AOps.cons rfl rfl (q_pick) ?_
      refine AOps.nil ?_
      refine AWp.cond_f rfl ?_
      refine AWp.exit ?_
      refine AWp.seq ?_
      refine AWp.seq ?_
      refine AWp.region ?_
      have hz0 : zer b 0 = i := by rw [← hz]; exact zer_end (by omega)
      refine AOps.cons rfl rfl (q_move) ?_
      refine AOps.cons rfl rfl (q_move) ?_
      refine AOps.cons rfl rfl (q_len) ?_
      refine AOps.dec rfl rfl (q_geq) (fun h4_3 => ?_) (fun h4_3 => ?_)
      · skip
        refine AOps.cons rfl rfl (q_move) ?_
        have ei : ((i : Int) + 1).toNat = i + 1 := by omega
        refine AOps.gskip rfl rfl rfl rfl rfl rfl rfl rfl ?_
        refine AOps.gskip rfl rfl rfl rfl rfl rfl rfl rfl ?_
        refine AOps.gskip rfl rfl rfl rfl rfl rfl rfl rfl ?_
        refine AOps.gskip rfl rfl rfl rfl rfl rfl rfl rfl ?_
        refine AOps.gskip rfl rfl rfl rfl rfl rfl rfl rfl ?_
        refine AOps.gskip rfl rfl rfl rfl rfl rfl rfl rfl ?_
        refine AOps.gskip rfl rfl rfl rfl rfl rfl rfl rfl ?_
        refine AOps.cons rfl rfl (q_pick) ?_
        refine AOps.nil ?_
        refine AWp.cond_t rfl ?_
        refine AWp.seq ?_
        refine AWp.region ?_
        refine AOps.cons rfl rfl (q_assign) ?_
        refine AOps.cons rfl rfl (q_nilz (lv) bc) ?_
        refine AOps.cons rfl rfl (q_assign) ?_
        refine AOps.nil ?_
        refine AWp.ret ?_
        show Fin te Try.f71 _ _
        refine q_ret (lv) [_, _, _] [_, _, _] ?_
        have ho : cutO b = false := by rw [cutO, hz0, decide_eq_false (by omega)]; rfl
        rw [(cut_no ho).1, (cut_no ho).2, ho]; rfl
      · exfalso; omega

set_option maxRecDepth 20000 in
theorem c_rdata_SOA (b : List UInt8) (lv : Nat) (h : b.length ≤ 140737488351232) : AC Try.prog 63 [.fz lv b.length (cl bc b)] emp (Ret (.tup [soaA (soaV b), tf (soaO b)])) := by
  have hc1 := cut_len b
  have hc2 := cut_len (cutR b)
  refine AC.intro te_ok (fn := Try.f63) ⟨Try.func63, rfl, rfl⟩ (Nat.le_of_ble_eq_true rfl) ?_
  refine AWp.seq ?_
  refine AWp.region ?_
  refine AOps.cons rfl rfl (q_alloc 100) ?_
  refine AOps.cons rfl rfl (q_assign) ?_
  refine AOps.nil ?_
  refine AWp.seq ?_
  refine AWp.region ?_
  refine AOps.cons rfl rfl (q_alloc 200) ?_
  refine AOps.nil ?_
  refine AWp.seq ?_
  refine AWp.region ?_
  refine AOps.cons rfl rfl (q_assign) ?_
  refine AOps.nil ?_
  refine AWp.seq ?_
  refine AWp.region ?_
  refine AOps.cons rfl rfl (q_move) ?_
  refine AOps.cons rfl rfl (q_assign) ?_
  refine AOps.nil ?_
  refine AWp.seq ?_
  refine AWp.seq ?_
  refine AWp.region ?_
  refine AOps.cons rfl rfl (q_move) ?_
  refine AOps.cons rfl rfl (q_call (lv) (hc := c_rdata_cut _ _ (by first | assumption | omega | decide | (simp; omega) | (simp [*]; done)))) ?_
  refine AOps.cons rfl rfl (q_move) ?_
  refine AOps.cons rfl rfl (q_extract) ?_
  refine AOps.cons rfl rfl (q_extract) ?_
  refine AOps.bool rfl rfl (q_extract) (fun h4_5 => ?_) (fun h4_5 => ?_)
  · skip
    refine AOps.cons rfl rfl (q_fa) ?_
    refine AOps.cons rfl rfl (q_store) ?_
    refine AOps.cons rfl rfl (q_assign) ?_
    refine AOps.cons rfl rfl (q_assign) ?_
    refine AOps.nil ?_
    refine AWp.seq ?_
    refine AWp.region ?_
    refine AOps.cons rfl rfl (q_move) ?_
    refine AOps.cons rfl rfl (q_not) ?_
    refine AOps.nil ?_
    refine AWp.cond_f rfl ?_
    refine AWp.skip ?_
    refine AWp.seq ?_
    refine AWp.seq ?_
    refine AWp.region ?_
    refine AOps.cons rfl rfl (q_move) ?_
    refine AOps.cons rfl rfl (q_call (lv) (hc := c_rdata_cut _ _ (by first | assumption | omega | decide | (simp; omega) | (simp [*]; done)))) ?_
    refine AOps.cons rfl rfl (q_move) ?_
    refine AOps.cons rfl rfl (q_extract) ?_
    refine AOps.cons rfl rfl (q_extract) ?_
    refine AOps.bool rfl rfl (q_extract) (fun h7_5 => ?_) (fun h7_5 => ?_)
    · skip
      refine AOps.cons rfl rfl (q_fa) ?_
      refine AOps.cons rfl rfl (q_store) ?_
      refine AOps.cons rfl rfl (q_assign) ?_
      refine AOps.cons rfl rfl (q_assign) ?_
      refine AOps.nil ?_
      refine AWp.seq ?_
      refine AWp.region ?_
      refine AOps.cons rfl rfl (q_move) ?_
      refine AOps.cons rfl rfl (q_not) ?_
      refine AOps.cons rfl rfl (q_move) ?_
      refine AOps.gcons rfl rfl rfl rfl rfl (q_move) ?_
      refine AOps.gcons rfl rfl rfl rfl rfl (q_len) ?_
      refine AOps.gdec rfl rfl rfl rfl rfl (q_neq) (fun h8_5 => ?_) (fun h8_5 => ?_)
      · skip
        refine AOps.cons rfl rfl (q_pick) ?_
        refine AOps.nil ?_
        refine AWp.cond_t rfl ?_
        refine AWp.seq ?_
        refine AWp.region ?_
        refine AOps.cons rfl rfl (q_build []) ?_
        refine AOps.cons rfl rfl (q_store) ?_
        refine AOps.cons rfl rfl (q_assign) ?_
        refine AOps.nil ?_
        refine AWp.ret ?_
        show Fin te Try.f63 _ _
        refine q_ret (0) [_, _] [_, _] ?_
        have ho : soaO b = false := by rw [soaO, decide_eq_false (by omega), Bool.and_false, Bool.and_false]
        rw [soaV_no ho, ho]; rfl
      · skip
        refine AOps.cons rfl rfl (q_pick) ?_
        refine AOps.nil ?_
        refine AWp.cond_f rfl ?_
        refine AWp.skip ?_
        refine AWp.seq ?_
        refine AWp.seq ?_
        refine AWp.region ?_
        have hc20 : (cutR (cutR b)).length = 20 := by omega
        have hL5 : ([2, 3, 4, 5, 6] : List Nat).length = 5 := rfl
        refine AOps.cons rfl rfl (q_fa) ?_
        refine AOps.cons rfl rfl (q_fa) ?_
        refine AOps.cons rfl rfl (q_fa) ?_
        refine AOps.cons rfl rfl (q_fa) ?_
        refine AOps.cons rfl rfl (q_fa) ?_
        refine AOps.cons rfl rfl (q_bs 1105 (fun k => [AV.ptr 200 0 k]) [2, 3, 4, 5, 6] [(_, _), (_, _), (_, _), (_, _), (_, _)]) ?_
        refine AOps.cons rfl rfl (q_len) ?_
        refine AOps.cons rfl rfl (q_move) ?_
        refine AOps.nil ?_
        refine AWp.block ?_
        refine AWp.loopR (α := Nat) [7, 8, 10, 44, 45, 46, 47, 48, 49, 50, 51, 52, 53, 54, 55, 56, 57, 58, 59, 60, 61, 62, 63, 64, 65, 66, 67, 68, 69, 70, 71] (fun i => [(44, i64 i)]) (fun i => [(200, .box [str (cutM b), str (cutM (cutR b)), i64 (wd (cutR (cutR b)) 0 i), i64 (wd (cutR (cutR b)) 1 i), i64 (wd (cutR (cutR b)) 2 i), i64 (wd (cutR (cutR b)) 3 i), i64 (wd (cutR (cutR b)) 4 i)])]) (fun i => i ≤ 5) (fun i => 5 - i) 0 ?_ (Back.mk' (HasT.cons HasT.nil) (HasH.cons HasH.nil)) ?_
        · exact Nat.zero_le _
        · rintro i hi
          refine AWp.seq ?_
          refine AWp.region ?_
          refine AOps.dec rfl rfl (q_lss) (fun h11_0 => ?_) (fun h11_0 => ?_)
          · skip
            refine AOps.nil ?_
            refine AWp.seq ?_
            refine AWp.cond_t rfl ?_
            refine AWp.skip ?_
            refine AWp.seq ?_
            refine AWp.block ?_
            refine AWp.seq ?_
            refine AWp.region ?_
            obtain rfl | rfl | rfl | rfl | rfl : i = 0 ∨ i = 1 ∨ i = 2 ∨ i = 3 ∨ i = 4 := by omega
            · skip
              refine AOps.cons rfl rfl (q_move) ?_
              refine AOps.cons rfl rfl (q_ix) ?_
              refine AOps.cons rfl rfl (q_load (z := .ptr 200 0 2) (hy := rfl)) ?_
              refine AOps.cons rfl rfl (q_assign) ?_
              refine AOps.cons rfl rfl (q_assign) ?_
              refine AOps.nil ?_
              refine AWp.seq ?_
              refine AWp.region ?_
              refine AOps.cons rfl rfl (q_move) ?_
              refine AOps.cons rfl rfl (q_move) ?_
              refine AOps.cons rfl rfl (q_mul) ?_
              refine AOps.cons rfl rfl (q_move) ?_
              refine AOps.cons rfl rfl (q_mul) ?_
              refine AOps.cons rfl rfl (q_add) ?_
              refine AOps.cons rfl rfl (q_sl) ?_
              refine AOps.cons rfl rfl (q_len) ?_
              refine AOps.cons rfl rfl (q_move) ?_
              refine AOps.nil ?_
              refine AWp.block ?_
              refine AWp.loopR (α := Nat) [10, 57, 58, 59, 60, 61, 62, 63, 64, 65, 66, 67, 68, 69, 70] (fun k => [(57, i64 k)]) (fun k => [(200, .box [str (cutM b), str (cutM (cutR b)), i64 (num ((dg (cutR (cutR b)) 0).take k)), i64 (wd (cutR (cutR b)) 1 0), i64 (wd (cutR (cutR b)) 2 0), i64 (wd (cutR (cutR b)) 3 0), i64 (wd (cutR (cutR b)) 4 0)])]) (fun k => k ≤ 4) (fun k => 4 - k) 0 ?_ (Back.mk' (HasT.cons HasT.nil) (HasH.cons HasH.nil)) ?_
              · exact Nat.zero_le _
              · rintro k hk
                have hD := dg_len (j := 0) hc20 (by omega)
                have hn : k < 4 → 0 ≤ num ((dg (cutR (cutR b)) 0).take k) ∧ num ((dg (cutR (cutR b)) 0).take k) ≤ 16777215 := fun h4 => num_24 h4 (by rw [List.length_take]; omega)
                have hDl : ((dg (cutR (cutR b)) 0).length : Int) = 4 := by omega
                have hDl2 : ((List.drop (4 * ((0 : Nat) : Int)).toNat (List.take (4 * ((0 : Nat) : Int) + 4).toNat (cutR (cutR b)))).length : Int) = 4 := hDl
                have hby : ((List.drop (4 * ((0 : Nat) : Int)).toNat (List.take (4 * ((0 : Nat) : Int) + 4).toNat (cutR (cutR b)))).getD (k : Int).toNat default).toNat < 256 := ((dg (cutR (cutR b)) 0).getD k default).toNat_lt
                refine AWp.seq ?_
                refine AWp.region ?_
                refine AOps.dec rfl rfl (q_lss) (fun h14_0 => ?_) (fun h14_0 => ?_)
                · skip
                  refine AOps.nil ?_
                  refine AWp.seq ?_
                  refine AWp.cond_t rfl ?_
                  refine AWp.skip ?_
                  refine AWp.seq ?_
                  refine AWp.block ?_
                  refine AWp.seq ?_
                  refine AWp.region ?_
                  refine AOps.cons rfl rfl (q_ix) ?_
                  refine AOps.cons rfl rfl (q_load) ?_
                  refine AOps.cons rfl rfl (q_assign) ?_
                  refine AOps.nil ?_
                  refine AWp.region ?_
                  refine AOps.cons rfl rfl (q_move) ?_
                  refine AOps.cons rfl rfl (q_move) ?_
                  refine AOps.cons rfl rfl (q_nil) ?_
                  refine AOps.cons rfl rfl (q_load) ?_
                  refine AOps.cons rfl rfl (q_shl 8) ?_
                  refine AOps.cons rfl rfl (q_move) ?_
                  refine AOps.cons rfl rfl (q_conv_8i) ?_
                  refine AOps.cons rfl rfl (q_orb) ?_
                  refine AOps.cons rfl rfl (q_nil) ?_
                  refine AOps.cons rfl rfl (q_store) ?_
                  refine AOps.nil ?_
                  refine AWp.region ?_
                  refine AOps.cons rfl rfl (q_add) ?_
                  refine AOps.cons rfl rfl (q_move) ?_
                  refine AOps.nil ?_
                  have hst := num_step (l := dg (cutR (cutR b)) 0) (k := k) (by omega)
                  refine ⟨k + 1, ?_, Back.mk' (HasT.cons HasT.nil) (HasH.cons HasH.nil (h1 := by rw [hst]; rfl) ), ?_⟩
                  · omega
                  · omega
                · skip
                  refine AOps.nil ?_
                  refine AWp.seq ?_
                  refine AWp.cond_f rfl ?_
                  refine AWp.exit ?_
                  refine AWp.region ?_
                  obtain rfl : k = 4 := by omega
                  refine AOps.cons rfl rfl (q_add) ?_
                  refine AOps.cons rfl rfl (q_move) ?_
                  refine AOps.nil ?_
                  refine ⟨1, ?_, Back.mk' (HasT.cons HasT.nil) (HasH.cons HasH.nil), ?_⟩
                  · omega
                  · omega
            · skip
              refine AOps.cons rfl rfl (q_move) ?_
              refine AOps.cons rfl rfl (q_ix) ?_
              refine AOps.cons rfl rfl (q_load (z := .ptr 200 0 3) (hy := rfl)) ?_
              refine AOps.cons rfl rfl (q_assign) ?_
              refine AOps.cons rfl rfl (q_assign) ?_
              refine AOps.nil ?_
              refine AWp.seq ?_
              refine AWp.region ?_
              refine AOps.cons rfl rfl (q_move) ?_
              refine AOps.cons rfl rfl (q_move) ?_
              refine AOps.cons rfl rfl (q_mul) ?_
              refine AOps.cons rfl rfl (q_move) ?_
              refine AOps.cons rfl rfl (q_mul) ?_
              refine AOps.cons rfl rfl (q_add) ?_
              refine AOps.cons rfl rfl (q_sl) ?_
              refine AOps.cons rfl rfl (q_len) ?_
              refine AOps.cons rfl rfl (q_move) ?_
              refine AOps.nil ?_
              refine AWp.block ?_
              refine AWp.loopR (α := Nat) [10, 57, 58, 59, 60, 61, 62, 63, 64, 65, 66, 67, 68, 69, 70] (fun k => [(57, i64 k)]) (fun k => [(200, .box [str (cutM b), str (cutM (cutR b)), i64 (wd (cutR (cutR b)) 0 1), i64 (num ((dg (cutR (cutR b)) 1).take k)), i64 (wd (cutR (cutR b)) 2 1), i64 (wd (cutR (cutR b)) 3 1), i64 (wd (cutR (cutR b)) 4 1)])]) (fun k => k ≤ 4) (fun k => 4 - k) 0 ?_ (Back.mk' (HasT.cons HasT.nil) (HasH.cons HasH.nil)) ?_
              · exact Nat.zero_le _
              · rintro k hk
                have hD := dg_len (j := 1) hc20 (by omega)
                have hn : k < 4 → 0 ≤ num ((dg (cutR (cutR b)) 1).take k) ∧ num ((dg (cutR (cutR b)) 1).take k) ≤ 16777215 := fun h4 => num_24 h4 (by rw [List.length_take]; omega)
                have hDl : ((dg (cutR (cutR b)) 1).length : Int) = 4 := by omega
                have hDl2 : ((List.drop (4 * ((1 : Nat) : Int)).toNat (List.take (4 * ((1 : Nat) : Int) + 4).toNat (cutR (cutR b)))).length : Int) = 4 := hDl
                have hby : ((List.drop (4 * ((1 : Nat) : Int)).toNat (List.take (4 * ((1 : Nat) : Int) + 4).toNat (cutR (cutR b)))).getD (k : Int).toNat default).toNat < 256 := ((dg (cutR (cutR b)) 1).getD k default).toNat_lt
                refine AWp.seq ?_
                refine AWp.region ?_
                refine AOps.dec rfl rfl (q_lss) (fun h14_0 => ?_) (fun h14_0 => ?_)
                · skip
                  refine AOps.nil ?_
                  refine AWp.seq ?_
                  refine AWp.cond_t rfl ?_
                  refine AWp.skip ?_
                  refine AWp.seq ?_
                  refine AWp.block ?_
                  refine AWp.seq ?_
                  refine AWp.region ?_
                  refine AOps.cons rfl rfl (q_ix) ?_
                  refine AOps.cons rfl rfl (q_load) ?_
                  refine AOps.cons rfl rfl (q_assign) ?_
                  refine AOps.nil ?_
                  refine AWp.region ?_
                  refine AOps.cons rfl rfl (q_move) ?_
                  refine AOps.cons rfl rfl (q_move) ?_
                  refine AOps.cons rfl rfl (q_nil) ?_
                  refine AOps.cons rfl rfl (q_load) ?_
                  refine AOps.cons rfl rfl (q_shl 8) ?_
                  refine AOps.cons rfl rfl (q_move) ?_
                  refine AOps.cons rfl rfl (q_conv_8i) ?_
                  refine AOps.cons rfl rfl (q_orb) ?_
                  refine AOps.cons rfl rfl (q_nil) ?_
                  refine AOps.cons rfl rfl (q_store) ?_
                  refine AOps.nil ?_
                  refine AWp.region ?_
                  refine AOps.cons rfl rfl (q_add) ?_
                  refine AOps.cons rfl rfl (q_move) ?_
                  refine AOps.nil ?_
                  have hst := num_step (l := dg (cutR (cutR b)) 1) (k := k) (by omega)
                  refine ⟨k + 1, ?_, Back.mk' (HasT.cons HasT.nil) (HasH.cons HasH.nil (h1 := by rw [hst]; rfl) ), ?_⟩
                  · omega
                  · omega
                · skip
                  refine AOps.nil ?_
                  refine AWp.seq ?_
                  refine AWp.cond_f rfl ?_
                  refine AWp.exit ?_
                  refine AWp.region ?_
                  obtain rfl : k = 4 := by omega
                  refine AOps.cons rfl rfl (q_add) ?_
                  refine AOps.cons rfl rfl (q_move) ?_
                  refine AOps.nil ?_
                  refine ⟨2, ?_, Back.mk' (HasT.cons HasT.nil) (HasH.cons HasH.nil), ?_⟩
                  · omega
                  · omega
            · skip
              refine AOps.cons rfl rfl (q_move) ?_
              refine AOps.cons rfl rfl (q_ix) ?_
              refine AOps.cons rfl rfl (q_load (z := .ptr 200 0 4) (hy := rfl)) ?_
              refine AOps.cons rfl rfl (q_assign) ?_
              refine AOps.cons rfl rfl (q_assign) ?_
              refine AOps.nil ?_
              refine AWp.seq ?_
              refine AWp.region ?_
              refine AOps.cons rfl rfl (q_move) ?_
              refine AOps.cons rfl rfl (q_move) ?_
              refine AOps.cons rfl rfl (q_mul) ?_
              refine AOps.cons rfl rfl (q_move) ?_
              refine AOps.cons rfl rfl (q_mul) ?_
              refine AOps.cons rfl rfl (q_add) ?_
              refine AOps.cons rfl rfl (q_sl) ?_
              refine AOps.cons rfl rfl (q_len) ?_
              refine AOps.cons rfl rfl (q_move) ?_
              refine AOps.nil ?_
              refine AWp.block ?_
              refine AWp.loopR (α := Nat) [10, 57, 58, 59, 60, 61, 62, 63, 64, 65, 66, 67, 68, 69, 70] (fun k => [(57, i64 k)]) (fun k => [(200, .box [str (cutM b), str (cutM (cutR b)), i64 (wd (cutR (cutR b)) 0 2), i64 (wd (cutR (cutR b)) 1 2), i64 (num ((dg (cutR (cutR b)) 2).take k)), i64 (wd (cutR (cutR b)) 3 2), i64 (wd (cutR (cutR b)) 4 2)])]) (fun k => k ≤ 4) (fun k => 4 - k) 0 ?_ (Back.mk' (HasT.cons HasT.nil) (HasH.cons HasH.nil)) ?_
              · exact Nat.zero_le _
              · rintro k hk
                have hD := dg_len (j := 2) hc20 (by omega)
                have hn : k < 4 → 0 ≤ num ((dg (cutR (cutR b)) 2).take k) ∧ num ((dg (cutR (cutR b)) 2).take k) ≤ 16777215 := fun h4 => num_24 h4 (by rw [List.length_take]; omega)
                have hDl : ((dg (cutR (cutR b)) 2).length : Int) = 4 := by omega
                have hDl2 : ((List.drop (4 * ((2 : Nat) : Int)).toNat (List.take (4 * ((2 : Nat) : Int) + 4).toNat (cutR (cutR b)))).length : Int) = 4 := hDl
                have hby : ((List.drop (4 * ((2 : Nat) : Int)).toNat (List.take (4 * ((2 : Nat) : Int) + 4).toNat (cutR (cutR b)))).getD (k : Int).toNat default).toNat < 256 := ((dg (cutR (cutR b)) 2).getD k default).toNat_lt
                refine AWp.seq ?_
                refine AWp.region ?_
                refine AOps.dec rfl rfl (q_lss) (fun h14_0 => ?_) (fun h14_0 => ?_)
                · skip
                  refine AOps.nil ?_
                  refine AWp.seq ?_
                  refine AWp.cond_t rfl ?_
                  refine AWp.skip ?_
                  refine AWp.seq ?_
                  refine AWp.block ?_
                  refine AWp.seq ?_
                  refine AWp.region ?_
                  refine AOps.cons rfl rfl (q_ix) ?_
                  refine AOps.cons rfl rfl (q_load) ?_
                  refine AOps.cons rfl rfl (q_assign) ?_
                  refine AOps.nil ?_
                  refine AWp.region ?_
                  refine AOps.cons rfl rfl (q_move) ?_
                  refine AOps.cons rfl rfl (q_move) ?_
                  refine AOps.cons rfl rfl (q_nil) ?_
                  refine AOps.cons rfl rfl (q_load) ?_
                  refine AOps.cons rfl rfl (q_shl 8) ?_
                  refine AOps.cons rfl rfl (q_move) ?_
                  refine AOps.cons rfl rfl (q_conv_8i) ?_
                  refine AOps.cons rfl rfl (q_orb) ?_
                  refine AOps.cons rfl rfl (q_nil) ?_
                  refine AOps.cons rfl rfl (q_store) ?_
                  refine AOps.nil ?_
                  refine AWp.region ?_
                  refine AOps.cons rfl rfl (q_add) ?_
                  refine AOps.cons rfl rfl (q_move) ?_
                  refine AOps.nil ?_
                  have hst := num_step (l := dg (cutR (cutR b)) 2) (k := k) (by omega)
                  refine ⟨k + 1, ?_, Back.mk' (HasT.cons HasT.nil) (HasH.cons HasH.nil (h1 := by rw [hst]; rfl) ), ?_⟩
                  · omega
                  · omega
                · skip
                  refine AOps.nil ?_
                  refine AWp.seq ?_
                  refine AWp.cond_f rfl ?_
                  refine AWp.exit ?_
                  refine AWp.region ?_
                  obtain rfl : k = 4 := by omega
                  refine AOps.cons rfl rfl (q_add) ?_
                  refine AOps.cons rfl rfl (q_move) ?_
                  refine AOps.nil ?_
                  refine ⟨3, ?_, Back.mk' (HasT.cons HasT.nil) (HasH.cons HasH.nil), ?_⟩
                  · omega
                  · omega
            · skip
              refine AOps.cons rfl rfl (q_move) ?_
              refine AOps.cons rfl rfl (q_ix) ?_
              refine AOps.cons rfl rfl (q_load (z := .ptr 200 0 5) (hy := rfl)) ?_
              refine AOps.cons rfl rfl (q_assign) ?_
              refine AOps.cons rfl rfl (q_assign) ?_
              refine AOps.nil ?_
              refine AWp.seq ?_
              refine AWp.region ?_
              refine AOps.cons rfl rfl (q_move) ?_
              refine AOps.cons rfl rfl (q_move) ?_
              refine AOps.cons rfl rfl (q_mul) ?_
              refine AOps.cons rfl rfl (q_move) ?_
              refine AOps.cons rfl rfl (q_mul) ?_
              refine AOps.cons rfl rfl (q_add) ?_
              refine AOps.cons rfl rfl (q_sl) ?_
              refine AOps.cons rfl rfl (q_len) ?_
              refine AOps.cons rfl rfl (q_move) ?_
              refine AOps.nil ?_
              refine AWp.block ?_
              refine AWp.loopR (α := Nat) [10, 57, 58, 59, 60, 61, 62, 63, 64, 65, 66, 67, 68, 69, 70] (fun k => [(57, i64 k)]) (fun k => [(200, .box [str (cutM b), str (cutM (cutR b)), i64 (wd (cutR (cutR b)) 0 3), i64 (wd (cutR (cutR b)) 1 3), i64 (wd (cutR (cutR b)) 2 3), i64 (num ((dg (cutR (cutR b)) 3).take k)), i64 (wd (cutR (cutR b)) 4 3)])]) (fun k => k ≤ 4) (fun k => 4 - k) 0 ?_ (Back.mk' (HasT.cons HasT.nil) (HasH.cons HasH.nil)) ?_
              · exact Nat.zero_le _
              · rintro k hk
                have hD := dg_len (j := 3) hc20 (by omega)
                have hn : k < 4 → 0 ≤ num ((dg (cutR (cutR b)) 3).take k) ∧ num ((dg (cutR (cutR b)) 3).take k) ≤ 16777215 := fun h4 => num_24 h4 (by rw [List.length_take]; omega)
                have hDl : ((dg (cutR (cutR b)) 3).length : Int) = 4 := by omega
                have hDl2 : ((List.drop (4 * ((3 : Nat) : Int)).toNat (List.take (4 * ((3 : Nat) : Int) + 4).toNat (cutR (cutR b)))).length : Int) = 4 := hDl
                have hby : ((List.drop (4 * ((3 : Nat) : Int)).toNat (List.take (4 * ((3 : Nat) : Int) + 4).toNat (cutR (cutR b)))).getD (k : Int).toNat default).toNat < 256 := ((dg (cutR (cutR b)) 3).getD k default).toNat_lt
                refine AWp.seq ?_
                refine AWp.region ?_
                refine AOps.dec rfl rfl (q_lss) (fun h14_0 => ?_) (fun h14_0 => ?_)
                · skip
                  refine AOps.nil ?_
                  refine AWp.seq ?_
                  refine AWp.cond_t rfl ?_
                  refine AWp.skip ?_
                  refine AWp.seq ?_
                  refine AWp.block ?_
                  refine AWp.seq ?_
                  refine AWp.region ?_
                  refine AOps.cons rfl rfl (q_ix) ?_
                  refine AOps.cons rfl rfl (q_load) ?_
                  refine AOps.cons rfl rfl (q_assign) ?_
                  refine AOps.nil ?_
                  refine AWp.region ?_
                  refine AOps.cons rfl rfl (q_move) ?_
                  refine AOps.cons rfl rfl (q_move) ?_
                  refine AOps.cons rfl rfl (q_nil) ?_
                  refine AOps.cons rfl rfl (q_load) ?_
                  refine AOps.cons rfl rfl (q_shl 8) ?_
                  refine AOps.cons rfl rfl (q_move) ?_
                  refine AOps.cons rfl rfl (q_conv_8i) ?_
                  refine AOps.cons rfl rfl (q_orb) ?_
                  refine AOps.cons rfl rfl (q_nil) ?_
                  refine AOps.cons rfl rfl (q_store) ?_
                  refine AOps.nil ?_
                  refine AWp.region ?_
                  refine AOps.cons rfl rfl (q_add) ?_
                  refine AOps.cons rfl rfl (q_move) ?_
                  refine AOps.nil ?_
                  have hst := num_step (l := dg (cutR (cutR b)) 3) (k := k) (by omega)
                  refine ⟨k + 1, ?_, Back.mk' (HasT.cons HasT.nil) (HasH.cons HasH.nil (h1 := by rw [hst]; rfl) ), ?_⟩
                  · omega
                  · omega
                · skip
                  refine AOps.nil ?_
                  refine AWp.seq ?_
                  refine AWp.cond_f rfl ?_
                  refine AWp.exit ?_
                  refine AWp.region ?_
                  obtain rfl : k = 4 := by omega
                  refine AOps.cons rfl rfl (q_add) ?_
                  refine AOps.cons rfl rfl (q_move) ?_
                  refine AOps.nil ?_
                  refine ⟨4, ?_, Back.mk' (HasT.cons HasT.nil) (HasH.cons HasH.nil), ?_⟩
                  · omega
                  · omega
            · skip
              refine AOps.cons rfl rfl (q_move) ?_
              refine AOps.cons rfl rfl (q_ix) ?_
              refine AOps.cons rfl rfl (q_load (z := .ptr 200 0 6) (hy := rfl)) ?_
              refine AOps.cons rfl rfl (q_assign) ?_
              refine AOps.cons rfl rfl (q_assign) ?_
              refine AOps.nil ?_
              refine AWp.seq ?_
              refine AWp.region ?_
              refine AOps.cons rfl rfl (q_move) ?_
              refine AOps.cons rfl rfl (q_move) ?_
              refine AOps.cons rfl rfl (q_mul) ?_
              refine AOps.cons rfl rfl (q_move) ?_
              refine AOps.cons rfl rfl (q_mul) ?_
              refine AOps.cons rfl rfl (q_add) ?_
              refine AOps.cons rfl rfl (q_sl) ?_
              refine AOps.cons rfl rfl (q_len) ?_
              refine AOps.cons rfl rfl (q_move) ?_
              refine AOps.nil ?_
              refine AWp.block ?_
              refine AWp.loopR (α := Nat) [10, 57, 58, 59, 60, 61, 62, 63, 64, 65, 66, 67, 68, 69, 70] (fun k => [(57, i64 k)]) (fun k => [(200, .box [str (cutM b), str (cutM (cutR b)), i64 (wd (cutR (cutR b)) 0 4), i64 (wd (cutR (cutR b)) 1 4), i64 (wd (cutR (cutR b)) 2 4), i64 (wd (cutR (cutR b)) 3 4), i64 (num ((dg (cutR (cutR b)) 4).take k))])]) (fun k => k ≤ 4) (fun k => 4 - k) 0 ?_ (Back.mk' (HasT.cons HasT.nil) (HasH.cons HasH.nil)) ?_
              · exact Nat.zero_le _
              · rintro k hk
                have hD := dg_len (j := 4) hc20 (by omega)
                have hn : k < 4 → 0 ≤ num ((dg (cutR (cutR b)) 4).take k) ∧ num ((dg (cutR (cutR b)) 4).take k) ≤ 16777215 := fun h4 => num_24 h4 (by rw [List.length_take]; omega)
                have hDl : ((dg (cutR (cutR b)) 4).length : Int) = 4 := by omega
                have hDl2 : ((List.drop (4 * ((4 : Nat) : Int)).toNat (List.take (4 * ((4 : Nat) : Int) + 4).toNat (cutR (cutR b)))).length : Int) = 4 := hDl
                have hby : ((List.drop (4 * ((4 : Nat) : Int)).toNat (List.take (4 * ((4 : Nat) : Int) + 4).toNat (cutR (cutR b)))).getD (k : Int).toNat default).toNat < 256 := ((dg (cutR (cutR b)) 4).getD k default).toNat_lt
                refine AWp.seq ?_
                refine AWp.region ?_
                refine AOps.dec rfl rfl (q_lss) (fun h14_0 => ?_) (fun h14_0 => ?_)
                · skip
                  refine AOps.nil ?_
                  refine AWp.seq ?_
                  refine AWp.cond_t rfl ?_
                  refine AWp.skip ?_
                  refine AWp.seq ?_
                  refine AWp.block ?_
                  refine AWp.seq ?_
                  refine AWp.region ?_
                  refine AOps.cons rfl rfl (q_ix) ?_
                  refine AOps.cons rfl rfl (q_load) ?_
                  refine AOps.cons rfl rfl (q_assign) ?_
                  refine AOps.nil ?_
                  refine AWp.region ?_
                  refine AOps.cons rfl rfl (q_move) ?_
                  refine AOps.cons rfl rfl (q_move) ?_
                  refine AOps.cons rfl rfl (q_nil) ?_
                  refine AOps.cons rfl rfl (q_load) ?_
                  refine AOps.cons rfl rfl (q_shl 8) ?_
                  refine AOps.cons rfl rfl (q_move) ?_
                  refine AOps.cons rfl rfl (q_conv_8i) ?_
                  refine AOps.cons rfl rfl (q_orb) ?_
                  refine AOps.cons rfl rfl (q_nil) ?_
                  refine AOps.cons rfl rfl (q_store) ?_
                  refine AOps.nil ?_
                  refine AWp.region ?_
                  refine AOps.cons rfl rfl (q_add) ?_
                  refine AOps.cons rfl rfl (q_move) ?_
                  refine AOps.nil ?_
                  have hst := num_step (l := dg (cutR (cutR b)) 4) (k := k) (by omega)
                  refine ⟨k + 1, ?_, Back.mk' (HasT.cons HasT.nil) (HasH.cons HasH.nil (h1 := by rw [hst]; rfl) ), ?_⟩
                  · omega
                  · omega
                · skip
                  refine AOps.nil ?_
                  refine AWp.seq ?_
                  refine AWp.cond_f rfl ?_
                  refine AWp.exit ?_
                  refine AWp.region ?_
                  obtain rfl : k = 4 := by omega
                  refine AOps.cons rfl rfl (q_add) ?_
                  refine AOps.cons rfl rfl (q_move) ?_
                  refine AOps.nil ?_
                  refine ⟨5, ?_, Back.mk' (HasT.cons HasT.nil) (HasH.cons HasH.nil), ?_⟩
                  · omega
                  · omega
          · skip
            refine AOps.nil ?_
            refine AWp.seq ?_
            refine AWp.cond_f rfl ?_
            refine AWp.exit ?_
            refine AWp.seq ?_
            refine AWp.region ?_
            obtain rfl : i = 5 := by omega
            have ho : soaO b = true := by rw [soaO, h4_5, h7_5, decide_eq_true (by omega)]; rfl
            have hv : soaV b = ⟨cutM b, cutM (cutR b), wd (cutR (cutR b)) 0 5, wd (cutR (cutR b)) 1 5, wd (cutR (cutR b)) 2 5, wd (cutR (cutR b)) 3 5, wd (cutR (cutR b)) 4 5⟩ := by rw [soaV, if_pos ho]
            refine AOps.cons rfl rfl (q_load) ?_
            refine AOps.cons rfl rfl (q_store) ?_
            refine AOps.cons rfl rfl (q_assign) ?_
            refine AOps.nil ?_
            refine AWp.ret ?_
            show Fin te Try.f63 _ _
            refine q_ret (0) [_, _] [_, _] ?_
            rw [hv, ho]; rfl
    · skip
      refine AOps.cons rfl rfl (q_fa) ?_
      refine AOps.cons rfl rfl (q_store) ?_
      refine AOps.cons rfl rfl (q_assign) ?_
      refine AOps.cons rfl rfl (q_assign) ?_
      refine AOps.nil ?_
      refine AWp.seq ?_
      refine AWp.region ?_
      refine AOps.cons rfl rfl (q_move) ?_
      refine AOps.cons rfl rfl (q_not) ?_
      refine AOps.cons rfl rfl (q_move) ?_
      refine AOps.gskip rfl rfl rfl rfl rfl rfl rfl rfl ?_
      refine AOps.gskip rfl rfl rfl rfl rfl rfl rfl rfl ?_
      refine AOps.gskip rfl rfl rfl rfl rfl rfl rfl rfl ?_
      refine AOps.cons rfl rfl (q_pick) ?_
      refine AOps.nil ?_
      refine AWp.cond_t rfl ?_
      refine AWp.seq ?_
      refine AWp.region ?_
      refine AOps.cons rfl rfl (q_build []) ?_
      refine AOps.cons rfl rfl (q_store) ?_
      refine AOps.cons rfl rfl (q_assign) ?_
      refine AOps.nil ?_
      refine AWp.ret ?_
      show Fin te Try.f63 _ _
      refine q_ret (0) [_, _] [_, _] ?_
      have ho : soaO b = false := by rw [soaO, h7_5, Bool.false_and, Bool.and_false]
      rw [soaV_no ho, ho]; rfl
  · skip
    refine AOps.cons rfl rfl (q_fa) ?_
    refine AOps.cons rfl rfl (q_store) ?_
    refine AOps.cons rfl rfl (q_assign) ?_
    refine AOps.cons rfl rfl (q_assign) ?_
    refine AOps.nil ?_
    refine AWp.seq ?_
    refine AWp.region ?_
    refine AOps.cons rfl rfl (q_move) ?_
    refine AOps.cons rfl rfl (q_not) ?_
    refine AOps.nil ?_
    refine AWp.cond_t rfl ?_
    refine AWp.seq ?_
    refine AWp.region ?_
    refine AOps.cons rfl rfl (q_build []) ?_
    refine AOps.cons rfl rfl (q_store) ?_
    refine AOps.cons rfl rfl (q_assign) ?_
    refine AOps.nil ?_
    refine AWp.ret ?_
    show Fin te Try.f63 _ _
    refine q_ret (0) [_, _] [_, _] ?_
    have ho : soaO b = false := by rw [soaO, h4_5]; rfl
    rw [soaV_no ho, ho]; rfl

end Go.Proofs.Ytaemmklgofddmaa.Fw

/- Walks of layer 3: an SOA's bytes; the reference's. -/
set_option linter.unusedVariables false
set_option linter.unusedSimpArgs false
namespace Go.Proofs.Ytaemmklgofddmaa.Fw
open Go.RowKit


def ns (x : Soa) : List Int := [x.n1, x.n2, x.n3, x.n4, x.n5]
def fourB (n : Int) : List UInt8 := [byte (n / 2 ^ 24), byte (n / 2 ^ 16), byte (n / 2 ^ 8), byte n]
def okN (n : Int) : Bool := decide (0 ≤ n ∧ n ≤ 4294967295)
def mkO (x : Soa) : Bool := canN x.m && (canN x.r && (ns x).all okN)
def mkB (x : Soa) : List UInt8 := if mkO x then x.m ++ x.r ++ (ns x).flatMap fourB else []
def mkE (x : Soa) : Int := if mkO x then 0 else 1
theorem mk_no {x : Soa} (h : mkO x = false) : mkB x = [] ∧ mkE x = 1 := by simp [mkB, mkE, h]
theorem mk_yes {x : Soa} (h : mkO x = true) : mkB x = x.m ++ x.r ++ (ns x).flatMap fourB ∧ mkE x = 0 := by simp [mkB, mkE, h]
theorem mk_bad {x : Soa} {i : Nat} (h : i < 5) (hn : ¬ (0 ≤ (ns x).getD i default ∧ (ns x).getD i default ≤ 4294967295)) : mkO x = false := by
  have hm : (ns x).getD i default ∈ ns x := getD_mem' (l := ns x) h
  cases ho : mkO x with
  | false => rfl
  | true =>
    simp only [mkO, Bool.and_eq_true, List.all_eq_true] at ho
    have := ho.2.2 _ hm
    rw [okN, decide_eq_true_eq] at this
    exact absurd this hn
theorem mk_good {x : Soa} (h1 : canN x.m = true) (h2 : canN x.r = true) (h3 : ∀ n ∈ ns x, 0 ≤ n ∧ n ≤ 4294967295) : mkO x = true := by
  rw [mkO, h1, h2]
  simp only [Bool.true_and, List.all_eq_true]
  exact fun n hn => decide_eq_true (h3 n hn)
theorem ns_step {x : Soa} {i : Nat} (h : i < 5) (hI : ∀ n ∈ (ns x).take i, 0 ≤ n ∧ n ≤ 4294967295) (h1 : 0 ≤ (ns x).getD i default ∧ (ns x).getD i default ≤ 4294967295) : ∀ n ∈ (ns x).take (i + 1), 0 ≤ n ∧ n ≤ 4294967295 := by
  intro n hn
  have e : (ns x).take (i + 1) = (ns x).take i ++ [(ns x).getD i default] := by
    have := take_map_step (fun y => y) (l := ns x) (i := i) h
    simpa using this
  rw [e] at hn
  rcases List.mem_append.1 hn with hn | hn
  · exact hI n hn
  · rw [List.mem_singleton.1 hn]; exact h1
theorem ns_flat {x : Soa} {i : Nat} (h : i < 5) : ((ns x).take (i + 1)).flatMap fourB = ((ns x).take i).flatMap fourB ++ fourB ((ns x).getD i default) := by
  have e : (ns x).take (i + 1) = (ns x).take i ++ [(ns x).getD i default] := by
    have := take_map_step (fun y => y) (l := ns x) (i := i) h
    simpa using this
  rw [e, List.flatMap_append]
  simp
theorem ns_len {x : Soa} {i : Nat} (h : i ≤ 5) : (((ns x).take i).flatMap fourB).length = 4 * i := by
  have : i = 0 ∨ i = 1 ∨ i = 2 ∨ i = 3 ∨ i = 4 ∨ i = 5 := by omega
  rcases this with rfl | rfl | rfl | rfl | rfl | rfl <;> rfl
def fourR (b : List UInt8) : Int := (((((b.getD 0 default).toNat : Int) * 256 + ((b.getD 1 default).toNat : Int)) * 256 + ((b.getD 2 default).toNat : Int)) * 256 + ((b.getD 3 default).toNat : Int))
theorem fourR_drop {c : List UInt8} {j : Nat} (hc : c.length = 20) (hj : j < 5) : fourR (c.drop (4 * j)) = wd c j 5 := by
  rw [← four_num hc hj, fourR]
  have e : ∀ k, (c.drop (4 * j)).getD k default = c.getD (4 * j + k) default := fun k => by rw [List.getD_eq_getElem?_getD, List.getD_eq_getElem?_getD, List.getElem?_drop]
  rw [e 0, e 1, e 2, e 3]
  rfl
def canS (t : Int) (d : List UInt8) : Bool := if t = 6 then decide (d.length ≤ 65535) && soaO d else canR t d
def namS (t : Int) (d : List UInt8) : List (List UInt8) := if t = 6 then (if canS 6 d then [(soaV d).m, (soaV d).r] else []) else namR t d
theorem canS_ne {t : Int} {d : List UInt8} (h : t ≠ 6) : canS t d = canR t d := if_neg h
theorem namS_ne {t : Int} {d : List UInt8} (h : t ≠ 6) : namS t d = namR t d := if_neg h
theorem canS_6 {d : List UInt8} (h : d.length ≤ 65535) : canS 6 d = soaO d := by rw [canS, if_pos rfl, decide_eq_true h, Bool.true_and]
theorem canS_6n {d : List UInt8} (h : ¬ d.length ≤ 65535) : canS 6 d = false := by rw [canS, if_pos rfl, decide_eq_false h, Bool.false_and]
theorem soa_len (b : List UInt8) : (soaV b).m.length ≤ 255 ∧ (soaV b).r.length ≤ 255 := by
  have h1 := cut_len b
  have h2 := cut_len (cutR b)
  unfold soaV
  split
  · exact ⟨h1.1, h2.1⟩
  · simp

set_option maxRecDepth 20000 in
theorem c_bytes_Equal (l m : List UInt8) (lv lw : Nat) : AC Try.prog 15 [.fz lv l.length (cl bc l), .fz lw m.length (cl bc m)] emp (Ret (tf (decide (l = m)))) := by
  refine AC.intro te_ok (fn := Try.f15) ⟨Try.func15, rfl, rfl⟩ (Nat.le_of_ble_eq_true rfl) ?_
  refine AWp.seq ?_
  refine AWp.region ?_
  refine AOps.cons rfl rfl (q_assign) ?_
  refine AOps.nil ?_
  refine AWp.seq ?_
  refine AWp.region ?_
  refine AOps.cons rfl rfl (q_move) ?_
  refine AOps.cons rfl rfl (by first | exact q_conv_zs | exact q_conv_ls) ?_
  refine AOps.cons rfl rfl (q_move) ?_
  refine AOps.cons rfl rfl (by first | exact q_conv_zs | exact q_conv_ls) ?_
  refine AOps.cons rfl rfl (q_seql) ?_
  refine AOps.cons rfl rfl (q_assign) ?_
  refine AOps.nil ?_
  refine AWp.ret ?_
  show Fin te Try.f15 _ _
  refine q_ret (0) [_] [_] ?_
  first | rfl | (simp; done)

set_option maxRecDepth 20000 in
theorem c_bytes_Clone (l : List UInt8) (lv : Nat) (h : l.length ≤ 140737488351232) : AC Try.prog 21 [.fz lv l.length (cl bc l)] emp (Ret (.fz 0 l.length (cl bc l))) := by
  refine AC.intro te_ok (fn := Try.f21) ⟨Try.func21, rfl, rfl⟩ (Nat.le_of_ble_eq_true rfl) ?_
  refine AWp.seq ?_
  refine AWp.region ?_
  refine AOps.cons rfl rfl (q_nilz (0) bc) ?_
  refine AOps.nil ?_
  refine AWp.seq ?_
  refine AWp.seq ?_
  refine AWp.region ?_
  refine AOps.cons rfl rfl (q_move) ?_
  refine AOps.snil (fun h1_1 => ?_) ?_
  · skip
    refine AOps.nil ?_
    refine AWp.cond_t rfl ?_
    refine AWp.seq ?_
    refine AWp.region ?_
    refine AOps.cons rfl rfl (q_nilz (0) bc) ?_
    refine AOps.nil ?_
    refine AWp.ret ?_
    show Fin te Try.f21 _ _
    refine q_ret (0) [_] [_] ?_
    obtain rfl := List.eq_nil_of_length_eq_zero h1_1
    rfl
  · skip
    refine AOps.nil ?_
    refine AWp.cond_f rfl ?_
    refine AWp.skip ?_
    refine AWp.seq ?_
    refine AWp.region ?_
    refine AOps.cons rfl rfl (q_bs 400 bc [] []) ?_
    refine AOps.cons rfl rfl (q_move) ?_
    refine AOps.cons rfl rfl (q_app) ?_
    refine AOps.cons rfl rfl (q_assign) ?_
    refine AOps.nil ?_
    refine AWp.ret ?_
    show Fin te Try.f21 _ _
    refine q_ret (0) [_] [_] ?_
    rfl

set_option maxRecDepth 20000 in
theorem co_Clone (l : List UInt8) (lv : Nat) (h : l.length ≤ 140737488351232) : AC Try.prog 21 [.fz lv l.length (cl bc l)] (hlook []) (RetH (.sl 8 0 0 l.length 1) [(8, .row (cl bc l) 1 0)]) := by
  refine AC.intro te_ok (fn := Try.f21) ⟨Try.func21, rfl, rfl⟩ (Nat.le_of_ble_eq_true rfl) ?_
  refine AWp.seq ?_
  refine AWp.region ?_
  refine AOps.cons rfl rfl (q_nilz (0) bc) ?_
  refine AOps.nil ?_
  refine AWp.seq ?_
  refine AWp.seq ?_
  refine AWp.region ?_
  refine AOps.cons rfl rfl (q_move) ?_
  refine AOps.snil (fun h1_1 => ?_) ?_
  · skip
    refine AOps.nil ?_
    refine AWp.cond_t rfl ?_
    refine AWp.seq ?_
    refine AWp.region ?_
    refine AOps.cons rfl rfl (q_nilrow 8 1 bc) ?_
    refine AOps.nil ?_
    refine AWp.ret ?_
    show Fin te Try.f21 _ _
    obtain rfl := List.eq_nil_of_length_eq_zero h1_1
    refine q_retH (0) [8] [_] [.sl 8 0 0 _ 1] [(8, .row (cl bc _) 1 0)] ?_
    rfl
  · skip
    refine AOps.nil ?_
    refine AWp.cond_f rfl ?_
    refine AWp.skip ?_
    refine AWp.seq ?_
    refine AWp.region ?_
    refine AOps.cons rfl rfl (q_bs 8 bc [] []) ?_
    refine AOps.cons rfl rfl (q_move) ?_
    refine AOps.cons rfl rfl (q_app) ?_
    refine AOps.cons rfl rfl (q_assign) ?_
    refine AOps.nil ?_
    refine AWp.ret ?_
    show Fin te Try.f21 _ _
    refine q_retH (0) [8] [_] [.sl 8 0 0 _ 1] [(8, .row (cl bc _) 1 0)] ?_
    rfl

set_option maxRecDepth 20000 in
theorem c_ciceroneref03_First (b : List UInt8) (lv : Nat) (h : b.length ≤ 140737488351232) : AC Try.prog 72 [.fz lv b.length (cl bc b)] emp (Ret (.tup [str (cutM b), .fz lv (cutR b).length (cl bc (cutR b)), tf (cutO b)])) := by
  refine AC.intro te_ok (fn := Try.f72) ⟨Try.func72, rfl, rfl⟩ (Nat.le_of_ble_eq_true rfl) ?_
  refine AWp.seq ?_
  refine AWp.region ?_
  refine AOps.cons rfl rfl (q_assign) ?_
  refine AOps.cons rfl rfl (q_nilz (lv) bc) ?_
  refine AOps.cons rfl rfl (q_assign) ?_
  refine AOps.nil ?_
  refine AWp.seq ?_
  refine AWp.seq ?_
  refine AWp.region ?_
  refine AOps.cons rfl rfl (q_assign) ?_
  refine AOps.nil ?_
  refine AWp.block ?_
  refine AWp.loopR (α := Nat) [2, 3, 4, 5, 6, 7, 8, 9, 10, 11, 12, 13, 14, 15, 16, 17, 18, 19, 20, 21, 22, 23, 24, 25, 26, 27] (fun k => [(5, i64 k)]) (fun k => []) (fun k => 1 ≤ k ∧ k ≤ 256 ∧ ∀ j, 1 ≤ j → j < k → canN (b.take j) = false) (fun k => 256 - k) 1 ?_ (Back.mk' (HasT.cons HasT.nil) HasH.nil) ?_
  · exact ⟨by omega, by omega, fun j h1 h2 => by omega⟩
  · rintro k ⟨hk1, hk2, hk⟩
    refine AWp.seq ?_
    refine AWp.seq ?_
    refine AWp.region ?_
    refine AOps.cons rfl rfl (q_move) ?_
    refine AOps.cons rfl rfl (q_move) ?_
    refine AOps.cons rfl rfl (q_len) ?_
    refine AOps.dec rfl rfl (q_leq) (fun h2_3 => ?_) (fun h2_3 => ?_)
    · skip
      refine AOps.cons rfl rfl (q_move) ?_
      refine AOps.gcons rfl rfl rfl rfl rfl (q_move) ?_
      refine AOps.gdec rfl rfl rfl rfl rfl (q_leq) (fun h2_6 => ?_) (fun h2_6 => ?_)
      · skip
        refine AOps.cons rfl rfl (q_pick) ?_
        refine AOps.nil ?_
        refine AWp.cond_t rfl ?_
        refine AWp.skip ?_
        refine AWp.seq ?_
        refine AWp.block ?_
        refine AWp.seq ?_
        refine AWp.region ?_
        refine AOps.cons rfl rfl (q_move) ?_
        refine AOps.cons rfl rfl (q_move) ?_
        refine AOps.cons rfl rfl (q_sl) ?_
        refine AOps.cons rfl rfl (by first | exact q_conv_zs | exact q_conv_ls) ?_
        refine AOps.bool rfl rfl (q_call (lv) (hc := c_ciceroneref01_Can _ (by first | assumption | omega | decide | (simp; omega) | (simp [*]; done)))) (fun h4_4 => ?_) (fun h4_4 => ?_)
        · skip
          refine AOps.nil ?_
          refine AWp.cond_t rfl ?_
          refine AWp.seq ?_
          refine AWp.draws [⟨0, [0], [], some 21, _, none⟩,
              ⟨1, [5], [], some 22, _, none⟩,
              ⟨2, [21, 22], [], some 23, _, none⟩,
              ⟨3, [23], [], some 24, _, none⟩,
              ⟨4, [0], [], some 25, _, none⟩,
              ⟨5, [5], [], some 26, _, none⟩,
              ⟨6, [25, 26], [], some 27, _, none⟩,
              ⟨7, [24], [], some 2, _, none⟩,
              ⟨8, [27], [], some 3, _, none⟩,
              ⟨9, [], [], some 4, _, none⟩]
            [⟨0, [0], [], some 21, .any, none⟩,
                ⟨1, [5], [], some 22, .any, none⟩,
                ⟨2, [21, 22], [], some 23, .any, none⟩,
                ⟨3, [23], [], some 24, .any, none⟩,
                ⟨4, [0], [], some 25, .any, none⟩,
                ⟨5, [5], [], some 26, .any, none⟩,
                ⟨6, [25, 26], [], some 27, .any, none⟩,
                ⟨7, [24], [], some 2, .any, none⟩,
                ⟨8, [27], [], some 3, .any, none⟩,
                ⟨9, [], [], some 4, .any, none⟩]
            mixed_ok rfl (by kernel_rfl) ⟨DS.ok_over fun s0 => OpAt.go rfl rfl (q_move),
                DS.ok_over fun s0 => OpAt.go rfl rfl (q_move),
                DS.ok_over fun s0 => OpAt.go rfl rfl (q_sl),
                DS.ok_over fun s0 => OpAt.go rfl rfl (by first | exact q_conv_zs | exact q_conv_ls),
                DS.ok_over fun s0 => OpAt.go rfl rfl (q_move),
                DS.ok_over fun s0 => OpAt.go rfl rfl (q_move),
                DS.ok_over fun s0 => OpAt.go rfl rfl (q_sl),
                DS.ok_over fun s0 => OpAt.go rfl rfl (q_assign),
                DS.ok_over fun s0 => OpAt.go rfl rfl (q_assign),
                DS.ok_over fun s0 => OpAt.go rfl rfl (q_assign), trivial⟩ ?_
          dsimp only [final, DS.upd, AS.seto]
          refine AWp.ret ?_
          show Fin te Try.f72 _ _
          refine q_ret (lv) [_, _, _] [_, _, _] ?_
          obtain ⟨q1, q2, q3⟩ := cut_at (b := b) (k := k) (by omega) h4_4
          rw [q1, q2, q3]; rfl
        · skip
          refine AOps.nil ?_
          refine AWp.cond_f rfl ?_
          refine AWp.skip ?_
          refine AWp.region ?_
          refine AOps.cons rfl rfl (q_move) ?_
          refine AOps.cons rfl rfl (q_add) ?_
          refine AOps.cons rfl rfl (q_assign) ?_
          refine AOps.nil ?_
          refine ⟨k + 1, ?_, Back.mk' (HasT.cons HasT.nil) HasH.nil, ?_⟩
          · refine ⟨by omega, by omega, fun j h1 h2 => ?_⟩
            by_cases e : j = k
            · subst e; exact h4_4
            · exact hk j h1 (by omega)
          · omega
      · skip
        refine AOps.cons rfl rfl (q_pick) ?_
        refine AOps.nil ?_
        refine AWp.cond_f rfl ?_
        refine AWp.exit ?_
        refine AWp.seq ?_
        refine AWp.region ?_
        refine AOps.cons rfl rfl (q_assign) ?_
        refine AOps.cons rfl rfl (q_nilz (lv) bc) ?_
        refine AOps.cons rfl rfl (q_assign) ?_
        refine AOps.nil ?_
        refine AWp.ret ?_
        show Fin te Try.f72 _ _
        refine q_ret (lv) [_, _, _] [_, _, _] ?_
        have ho := cut_none (b := b) (fun j h1 h2 h3 => hk j h1 (by omega))
        rw [(cut_no ho).1, (cut_no ho).2, ho]; rfl
    · skip
      refine AOps.cons rfl rfl (q_move) ?_
      refine AOps.gskip rfl rfl rfl rfl rfl rfl rfl rfl ?_
      refine AOps.gskip rfl rfl rfl rfl rfl rfl rfl rfl ?_
      refine AOps.cons rfl rfl (q_pick) ?_
      refine AOps.nil ?_
      refine AWp.cond_f rfl ?_
      refine AWp.exit ?_
      refine AWp.seq ?_
      refine AWp.region ?_
      refine AOps.cons rfl rfl (q_assign) ?_
      refine AOps.cons rfl rfl (q_nilz (lv) bc) ?_
      refine AOps.cons rfl rfl (q_assign) ?_
      refine AOps.nil ?_
      refine AWp.ret ?_
      show Fin te Try.f72 _ _
      refine q_ret (lv) [_, _, _] [_, _, _] ?_
      have ho := cut_none (b := b) (fun j h1 h2 h3 => hk j h1 (by omega))
      rw [(cut_no ho).1, (cut_no ho).2, ho]; rfl

set_option maxRecDepth 20000 in
theorem c_ciceroneref03_four (b : List UInt8) (lv : Nat) (h : b.length ≤ 140737488351232) (h4 : 4 ≤ b.length) : AC Try.prog 73 [.fz lv b.length (cl bc b)] emp (Ret (i64 (fourR b))) := by
  have f0 := (b.getD (Int.toNat 0) default).toNat_lt
  have g0 := (b[0]?.getD default).toNat_lt
  have f1 := (b.getD (Int.toNat 1) default).toNat_lt
  have g1 := (b[1]?.getD default).toNat_lt
  have f2 := (b.getD (Int.toNat 2) default).toNat_lt
  have g2 := (b[2]?.getD default).toNat_lt
  have f3 := (b.getD (Int.toNat 3) default).toNat_lt
  have g3 := (b[3]?.getD default).toNat_lt
  refine AC.intro te_ok (fn := Try.f73) ⟨Try.func73, rfl, rfl⟩ (Nat.le_of_ble_eq_true rfl) ?_
  refine AWp.seq ?_
  refine AWp.region ?_
  refine AOps.cons rfl rfl (q_assign) ?_
  refine AOps.nil ?_
  refine AWp.seq ?_
  refine AWp.draws [⟨0, [0], [], some 3, _, none⟩,
      ⟨1, [3], [], some 4, _, none⟩,
      ⟨2, [4], [], some 5, _, none⟩,
      ⟨3, [5], [], some 6, _, none⟩,
      ⟨4, [6], [], some 7, _, none⟩,
      ⟨5, [0], [], some 8, _, none⟩,
      ⟨6, [8], [], some 9, _, none⟩,
      ⟨7, [9], [], some 10, _, none⟩,
      ⟨8, [10], [], some 11, _, none⟩,
      ⟨9, [7, 11], [], some 12, _, none⟩,
      ⟨10, [12], [], some 13, _, none⟩,
      ⟨11, [0], [], some 14, _, none⟩,
      ⟨12, [14], [], some 15, _, none⟩,
      ⟨13, [15], [], some 16, _, none⟩,
      ⟨14, [16], [], some 17, _, none⟩,
      ⟨15, [13, 17], [], some 18, _, none⟩,
      ⟨16, [18], [], some 19, _, none⟩,
      ⟨17, [0], [], some 20, _, none⟩,
      ⟨18, [20], [], some 21, _, none⟩,
      ⟨19, [21], [], some 22, _, none⟩,
      ⟨20, [22], [], some 23, _, none⟩,
      ⟨21, [19, 23], [], some 24, _, none⟩,
      ⟨22, [24], [], some 2, _, none⟩]
    [⟨0, [0], [], some 3, .any, none⟩,
        ⟨1, [3], [], some 4, .any, none⟩,
        ⟨2, [4], [], some 5, .any, none⟩,
        ⟨3, [5], [], some 6, .any, none⟩,
        ⟨4, [6], [], some 7, .any, none⟩,
        ⟨5, [0], [], some 8, .any, none⟩,
        ⟨6, [8], [], some 9, .any, none⟩,
        ⟨7, [9], [], some 10, .any, none⟩,
        ⟨8, [10], [], some 11, .any, none⟩,
        ⟨9, [7, 11], [], some 12, .any, none⟩,
        ⟨10, [12], [], some 13, .any, none⟩,
        ⟨11, [0], [], some 14, .any, none⟩,
        ⟨12, [14], [], some 15, .any, none⟩,
        ⟨13, [15], [], some 16, .any, none⟩,
        ⟨14, [16], [], some 17, .any, none⟩,
        ⟨15, [13, 17], [], some 18, .any, none⟩,
        ⟨16, [18], [], some 19, .any, none⟩,
        ⟨17, [0], [], some 20, .any, none⟩,
        ⟨18, [20], [], some 21, .any, none⟩,
        ⟨19, [21], [], some 22, .any, none⟩,
        ⟨20, [22], [], some 23, .any, none⟩,
        ⟨21, [19, 23], [], some 24, .any, none⟩,
        ⟨22, [24], [], some 2, .any, none⟩]
    mixed_ok rfl (by kernel_rfl) ⟨DS.ok_over fun s0 => OpAt.go rfl rfl (q_move),
        DS.ok_over fun s0 => OpAt.go rfl rfl (q_ix),
        DS.ok_over fun s0 => OpAt.go rfl rfl (q_load),
        DS.ok_over fun s0 => OpAt.go rfl rfl (q_conv_8i),
        DS.ok_over fun s0 => OpAt.go rfl rfl (q_mul),
        DS.ok_over fun s0 => OpAt.go rfl rfl (q_move),
        DS.ok_over fun s0 => OpAt.go rfl rfl (q_ix),
        DS.ok_over fun s0 => OpAt.go rfl rfl (q_load),
        DS.ok_over fun s0 => OpAt.go rfl rfl (q_conv_8i),
        DS.ok_over fun s0 => OpAt.go rfl rfl (q_add),
        DS.ok_over fun s0 => OpAt.go rfl rfl (q_mul),
        DS.ok_over fun s0 => OpAt.go rfl rfl (q_move),
        DS.ok_over fun s0 => OpAt.go rfl rfl (q_ix),
        DS.ok_over fun s0 => OpAt.go rfl rfl (q_load),
        DS.ok_over fun s0 => OpAt.go rfl rfl (q_conv_8i),
        DS.ok_over fun s0 => OpAt.go rfl rfl (q_add),
        DS.ok_over fun s0 => OpAt.go rfl rfl (q_mul),
        DS.ok_over fun s0 => OpAt.go rfl rfl (q_move),
        DS.ok_over fun s0 => OpAt.go rfl rfl (q_ix),
        DS.ok_over fun s0 => OpAt.go rfl rfl (q_load),
        DS.ok_over fun s0 => OpAt.go rfl rfl (q_conv_8i),
        DS.ok_over fun s0 => OpAt.go rfl rfl (q_add),
        DS.ok_over fun s0 => OpAt.go rfl rfl (q_assign), trivial⟩ ?_
  dsimp only [final, DS.upd, AS.seto]
  refine AWp.ret ?_
  show Fin te Try.f73 _ _
  refine q_ret (0) [_] [_] ?_
  rfl

set_option maxRecDepth 20000 in
theorem c_ciceroneref03_SOA (b : List UInt8) (lv : Nat) (h : b.length ≤ 140737488351232) : AC Try.prog 65 [.fz lv b.length (cl bc b)] emp (Ret (.tup [soaA (soaV b), tf (soaO b)])) := by
  have hc1 := cut_len b
  have hc2 := cut_len (cutR b)
  refine AC.intro te_ok (fn := Try.f65) ⟨Try.func65, rfl, rfl⟩ (Nat.le_of_ble_eq_true rfl) ?_
  refine AWp.seq ?_
  refine AWp.region ?_
  refine AOps.cons rfl rfl (q_alloc 100) ?_
  refine AOps.cons rfl rfl (q_assign) ?_
  refine AOps.nil ?_
  refine AWp.seq ?_
  refine AWp.region ?_
  refine AOps.cons rfl rfl (q_move) ?_
  refine AOps.cons rfl rfl (q_call (lv) (hc := c_ciceroneref03_First _ _ (by first | assumption | omega | decide | (simp; omega) | (simp [*]; done)))) ?_
  refine AOps.cons rfl rfl (q_move) ?_
  refine AOps.cons rfl rfl (q_extract) ?_
  refine AOps.cons rfl rfl (q_extract) ?_
  refine AOps.bool rfl rfl (q_extract) (fun h1_5 => ?_) (fun h1_5 => ?_)
  · skip
    refine AOps.cons rfl rfl (q_assign) ?_
    refine AOps.cons rfl rfl (q_assign) ?_
    refine AOps.cons rfl rfl (q_assign) ?_
    refine AOps.nil ?_
    refine AWp.seq ?_
    refine AWp.seq ?_
    refine AWp.region ?_
    refine AOps.cons rfl rfl (q_move) ?_
    refine AOps.cons rfl rfl (q_not) ?_
    refine AOps.nil ?_
    refine AWp.cond_f rfl ?_
    refine AWp.skip ?_
    refine AWp.seq ?_
    refine AWp.region ?_
    refine AOps.cons rfl rfl (q_move) ?_
    refine AOps.cons rfl rfl (q_call (lv) (hc := c_ciceroneref03_First _ _ (by first | assumption | omega | decide | (simp; omega) | (simp [*]; done)))) ?_
    refine AOps.cons rfl rfl (q_move) ?_
    refine AOps.cons rfl rfl (q_extract) ?_
    refine AOps.cons rfl rfl (q_extract) ?_
    refine AOps.bool rfl rfl (q_extract) (fun h4_5 => ?_) (fun h4_5 => ?_)
    · skip
      refine AOps.cons rfl rfl (q_assign) ?_
      refine AOps.cons rfl rfl (q_assign) ?_
      refine AOps.cons rfl rfl (q_assign) ?_
      refine AOps.nil ?_
      refine AWp.seq ?_
      refine AWp.seq ?_
      refine AWp.region ?_
      refine AOps.cons rfl rfl (q_move) ?_
      refine AOps.cons rfl rfl (q_not) ?_
      refine AOps.cons rfl rfl (q_move) ?_
      refine AOps.gcons rfl rfl rfl rfl rfl (q_move) ?_
      refine AOps.gcons rfl rfl rfl rfl rfl (q_len) ?_
      refine AOps.gdec rfl rfl rfl rfl rfl (q_neq) (fun h5_5 => ?_) (fun h5_5 => ?_)
      · skip
        refine AOps.cons rfl rfl (q_pick) ?_
        refine AOps.nil ?_
        refine AWp.cond_t rfl ?_
        refine AWp.seq ?_
        refine AWp.region ?_
        refine AOps.cons rfl rfl (q_build []) ?_
        refine AOps.cons rfl rfl (q_store) ?_
        refine AOps.cons rfl rfl (q_assign) ?_
        refine AOps.nil ?_
        refine AWp.ret ?_
        show Fin te Try.f65 _ _
        refine q_ret (0) [_, _] [_, _] ?_
        have ho : soaO b = false := by rw [soaO, decide_eq_false (by omega), Bool.and_false, Bool.and_false]
        rw [soaV_no ho, ho]; rfl
      · skip
        refine AOps.cons rfl rfl (q_pick) ?_
        refine AOps.nil ?_
        refine AWp.cond_f rfl ?_
        refine AWp.skip ?_
        refine AWp.seq ?_
        have hc20 : (cutR (cutR b)).length = 20 := by omega
        have ho : soaO b = true := by rw [soaO, h1_5, h4_5, decide_eq_true (by omega)]; rfl
        have hv : soaV b = ⟨cutM b, cutM (cutR b), wd (cutR (cutR b)) 0 5, wd (cutR (cutR b)) 1 5, wd (cutR (cutR b)) 2 5, wd (cutR (cutR b)) 3 5, wd (cutR (cutR b)) 4 5⟩ := by rw [soaV, if_pos ho]
        have e0 : fourR (cutR (cutR b)) = wd (cutR (cutR b)) 0 5 := fourR_drop (j := 0) hc20 (by omega)
        have e1 : fourR ((cutR (cutR b)).drop (Int.toNat 4)) = wd (cutR (cutR b)) 1 5 := fourR_drop (j := 1) hc20 (by omega)
        have e2 : fourR ((cutR (cutR b)).drop (Int.toNat 8)) = wd (cutR (cutR b)) 2 5 := fourR_drop (j := 2) hc20 (by omega)
        have e3 : fourR ((cutR (cutR b)).drop (Int.toNat 12)) = wd (cutR (cutR b)) 3 5 := fourR_drop (j := 3) hc20 (by omega)
        have e4 : fourR ((cutR (cutR b)).drop (Int.toNat 16)) = wd (cutR (cutR b)) 4 5 := fourR_drop (j := 4) hc20 (by omega)
        refine AWp.draws [⟨0, [4], [], some 31, _, none⟩,
            ⟨1, [7], [], some 32, _, none⟩,
            ⟨2, [5], [], some 33, _, none⟩,
            ⟨3, [33], [], some 34, _, none⟩,
            ⟨4, [5], [], some 35, _, none⟩,
            ⟨5, [35], [], some 36, _, none⟩,
            ⟨6, [36], [], some 37, _, none⟩,
            ⟨7, [5], [], some 38, _, none⟩,
            ⟨8, [38], [], some 39, _, none⟩,
            ⟨9, [39], [], some 40, _, none⟩,
            ⟨10, [5], [], some 41, _, none⟩,
            ⟨11, [41], [], some 42, _, none⟩,
            ⟨12, [42], [], some 43, _, none⟩,
            ⟨13, [5], [], some 44, _, none⟩,
            ⟨14, [44], [], some 45, _, none⟩,
            ⟨15, [45], [], some 46, _, none⟩,
            ⟨16, [31, 32, 34, 37, 40, 43, 46], [], some 47, _, none⟩,
            ⟨17, [2, 47], [100], none, _, some (100, _)⟩,
            ⟨18, [], [], some 3, _, none⟩]
          [⟨0, [4], [], some 31, .any, none⟩,
              ⟨1, [7], [], some 32, .any, none⟩,
              ⟨2, [5], [], some 33, .any, none⟩,
              ⟨3, [33], [], some 34, .any, none⟩,
              ⟨4, [5], [], some 35, .any, none⟩,
              ⟨5, [35], [], some 36, .any, none⟩,
              ⟨6, [36], [], some 37, .any, none⟩,
              ⟨7, [5], [], some 38, .any, none⟩,
              ⟨8, [38], [], some 39, .any, none⟩,
              ⟨9, [39], [], some 40, .any, none⟩,
              ⟨10, [5], [], some 41, .any, none⟩,
              ⟨11, [41], [], some 42, .any, none⟩,
              ⟨12, [42], [], some 43, .any, none⟩,
              ⟨13, [5], [], some 44, .any, none⟩,
              ⟨14, [44], [], some 45, .any, none⟩,
              ⟨15, [45], [], some 46, .any, none⟩,
              ⟨16, [31, 32, 34, 37, 40, 43, 46], [], some 47, .any, none⟩,
              ⟨17, [2, 47], [100], none, .any, some (100, .box [])⟩,
              ⟨18, [], [], some 3, .any, none⟩]
          mixed_ok rfl (by kernel_rfl) ⟨DS.ok_over fun s0 => OpAt.go rfl rfl (q_move),
              DS.ok_over fun s0 => OpAt.go rfl rfl (q_move),
              DS.ok_over fun s0 => OpAt.go rfl rfl (q_move),
              DS.ok_over fun s0 => OpAt.go rfl rfl (q_call (lv) (hc := c_ciceroneref03_four _ _ (by first | assumption | omega | decide | (simp; omega) | (simp [*]; done)) (by first | assumption | omega | decide | (simp; omega) | (simp [*]; done)))),
              DS.ok_over fun s0 => OpAt.go rfl rfl (q_move),
              DS.ok_over fun s0 => OpAt.go rfl rfl (q_sl),
              DS.ok_over fun s0 => OpAt.go rfl rfl (q_call (lv) (hc := c_ciceroneref03_four _ _ (by first | assumption | omega | decide | (simp; omega) | (simp [*]; done)) (by first | assumption | omega | decide | (simp; omega) | (simp [*]; done)))),
              DS.ok_over fun s0 => OpAt.go rfl rfl (q_move),
              DS.ok_over fun s0 => OpAt.go rfl rfl (q_sl),
              DS.ok_over fun s0 => OpAt.go rfl rfl (q_call (lv) (hc := c_ciceroneref03_four _ _ (by first | assumption | omega | decide | (simp; omega) | (simp [*]; done)) (by first | assumption | omega | decide | (simp; omega) | (simp [*]; done)))),
              DS.ok_over fun s0 => OpAt.go rfl rfl (q_move),
              DS.ok_over fun s0 => OpAt.go rfl rfl (q_sl),
              DS.ok_over fun s0 => OpAt.go rfl rfl (q_call (lv) (hc := c_ciceroneref03_four _ _ (by first | assumption | omega | decide | (simp; omega) | (simp [*]; done)) (by first | assumption | omega | decide | (simp; omega) | (simp [*]; done)))),
              DS.ok_over fun s0 => OpAt.go rfl rfl (q_move),
              DS.ok_over fun s0 => OpAt.go rfl rfl (q_sl),
              DS.ok_over fun s0 => OpAt.go rfl rfl (q_call (lv) (hc := c_ciceroneref03_four _ _ (by first | assumption | omega | decide | (simp; omega) | (simp [*]; done)) (by first | assumption | omega | decide | (simp; omega) | (simp [*]; done)))),
              DS.ok_over fun s0 => OpAt.go rfl rfl (q_build [(_, _), (_, _), (_, _), (_, _), (_, _), (_, _), (_, _)]),
              DS.ok_over fun s0 => OpAt.go rfl rfl (q_store),
              DS.ok_over fun s0 => OpAt.go rfl rfl (q_assign), trivial⟩ ?_
        dsimp only [final, DS.upd, AS.seto]
        refine AWp.ret ?_
        show Fin te Try.f65 _ _
        refine q_ret (0) [_, _] [_, _] ?_
        rw [e0, e1, e2, e3, e4, hv, ho]; rfl
    · skip
      refine AOps.cons rfl rfl (q_assign) ?_
      refine AOps.cons rfl rfl (q_assign) ?_
      refine AOps.cons rfl rfl (q_assign) ?_
      refine AOps.nil ?_
      refine AWp.seq ?_
      refine AWp.seq ?_
      refine AWp.region ?_
      refine AOps.cons rfl rfl (q_move) ?_
      refine AOps.cons rfl rfl (q_not) ?_
      refine AOps.cons rfl rfl (q_move) ?_
      refine AOps.gskip rfl rfl rfl rfl rfl rfl rfl rfl ?_
      refine AOps.gskip rfl rfl rfl rfl rfl rfl rfl rfl ?_
      refine AOps.gskip rfl rfl rfl rfl rfl rfl rfl rfl ?_
      refine AOps.cons rfl rfl (q_pick) ?_
      refine AOps.nil ?_
      refine AWp.cond_t rfl ?_
      refine AWp.seq ?_
      refine AWp.region ?_
      refine AOps.cons rfl rfl (q_build []) ?_
      refine AOps.cons rfl rfl (q_store) ?_
      refine AOps.cons rfl rfl (q_assign) ?_
      refine AOps.nil ?_
      refine AWp.ret ?_
      show Fin te Try.f65 _ _
      refine q_ret (0) [_, _] [_, _] ?_
      have ho : soaO b = false := by rw [soaO, h4_5, Bool.false_and, Bool.and_false]
      rw [soaV_no ho, ho]; rfl
  · skip
    refine AOps.cons rfl rfl (q_assign) ?_
    refine AOps.cons rfl rfl (q_assign) ?_
    refine AOps.cons rfl rfl (q_assign) ?_
    refine AOps.nil ?_
    refine AWp.seq ?_
    refine AWp.seq ?_
    refine AWp.region ?_
    refine AOps.cons rfl rfl (q_move) ?_
    refine AOps.cons rfl rfl (q_not) ?_
    refine AOps.nil ?_
    refine AWp.cond_t rfl ?_
    refine AWp.seq ?_
    refine AWp.region ?_
    refine AOps.cons rfl rfl (q_build []) ?_
    refine AOps.cons rfl rfl (q_store) ?_
    refine AOps.cons rfl rfl (q_assign) ?_
    refine AOps.nil ?_
    refine AWp.ret ?_
    show Fin te Try.f65 _ _
    refine q_ret (0) [_, _] [_, _] ?_
    have ho : soaO b = false := by rw [soaO, h1_5]; rfl
    rw [soaV_no ho, ho]; rfl

set_option maxRecDepth 20000 in
theorem c_ciceroneref03_texts (b : List UInt8) (lv : Nat) (h : b.length ≤ 140737488351232) : AC Try.prog 66 [.fz lv b.length (cl bc b)] emp (Ret (tf (txtR b))) := by
  refine AC.intro te_ok (fn := Try.f66) ⟨Try.func66, rfl, rfl⟩ (Nat.le_of_ble_eq_true rfl) ?_
  refine AWp.seq ?_
  refine AWp.region ?_
  refine AOps.cons rfl rfl (q_assign) ?_
  refine AOps.nil ?_
  refine AWp.seq ?_
  refine AWp.seq ?_
  refine AWp.region ?_
  refine AOps.cons rfl rfl (q_move) ?_
  refine AOps.cons rfl rfl (q_len) ?_
  refine AOps.dec rfl rfl (q_eql) (fun h1_2 => ?_) (fun h1_2 => ?_)
  · skip
    refine AOps.nil ?_
    refine AWp.cond_t rfl ?_
    refine AWp.seq ?_
    refine AWp.region ?_
    refine AOps.cons rfl rfl (q_assign) ?_
    refine AOps.nil ?_
    refine AWp.ret ?_
    show Fin te Try.f66 _ _
    refine q_ret (0) [_] [_] ?_
    rw [txtR, decide_eq_false (by omega)]; rfl
  · skip
    refine AOps.nil ?_
    refine AWp.cond_f rfl ?_
    refine AWp.skip ?_
    refine AWp.seq ?_
    refine AWp.block ?_
    refine AWp.loopR (α := List UInt8) [0, 2, 3, 7, 8, 9, 10, 11, 12, 13, 14, 15, 16, 17, 18, 19, 20, 21, 22] (fun c => [(0, .fz lv c.length (cl bc c))]) (fun c => []) (fun c => txtW c = txtW b ∧ c.length ≤ b.length) (fun c => c.length) b ?_ (Back.mk' (HasT.cons HasT.nil) HasH.nil) ?_
    · exact ⟨rfl, Nat.le_refl _⟩
    · rintro c ⟨hc, hl⟩
      refine AWp.seq ?_
      refine AWp.seq ?_
      refine AWp.region ?_
      refine AOps.cons rfl rfl (q_move) ?_
      refine AOps.cons rfl rfl (q_len) ?_
      refine AOps.dec rfl rfl (q_gtr) (fun h3_2 => ?_) (fun h3_2 => ?_)
      · skip
        refine AOps.nil ?_
        refine AWp.cond_t rfl ?_
        refine AWp.skip ?_
        refine AWp.block ?_
        refine AWp.seq ?_
        refine AWp.region ?_
        have hk := (c.getD 0 default).toNat_lt
        have he : (c.getD (Int.toNat 0) default).toNat = (c.getD 0 default).toNat := rfl
        have hs : (c[0]?.getD default).toNat = (c.getD 0 default).toNat := congrArg UInt8.toNat (List.getD_eq_getElem?_getD).symm
        refine AOps.cons rfl rfl (q_move) ?_
        refine AOps.cons rfl rfl (q_ix) ?_
        refine AOps.cons rfl rfl (q_load) ?_
        refine AOps.cons rfl rfl (q_conv_8i) ?_
        refine AOps.cons rfl rfl (q_assign) ?_
        refine AOps.nil ?_
        refine AWp.seq ?_
        refine AWp.seq ?_
        refine AWp.region ?_
        refine AOps.cons rfl rfl (q_move) ?_
        refine AOps.cons rfl rfl (q_len) ?_
        refine AOps.cons rfl rfl (q_move) ?_
        refine AOps.cons rfl rfl (q_add) ?_
        refine AOps.dec rfl rfl (q_lss) (fun h5_4 => ?_) (fun h5_4 => ?_)
        · skip
          refine AOps.nil ?_
          refine AWp.cond_t rfl ?_
          refine AWp.seq ?_
          refine AWp.region ?_
          refine AOps.cons rfl rfl (q_assign) ?_
          refine AOps.nil ?_
          refine AWp.ret ?_
          show Fin te Try.f66 _ _
          refine q_ret (0) [_] [_] ?_
          rw [txtR, ← hc, txtW_no (by omega) (by omega), Bool.and_false]; rfl
        · skip
          refine AOps.nil ?_
          refine AWp.cond_f rfl ?_
          refine AWp.skip ?_
          refine AWp.region ?_
          refine AOps.cons rfl rfl (q_move) ?_
          refine AOps.cons rfl rfl (q_move) ?_
          refine AOps.cons rfl rfl (q_add) ?_
          refine AOps.cons rfl rfl (q_sl) ?_
          refine AOps.cons rfl rfl (q_assign) ?_
          refine AOps.nil ?_
          have e1 : ((1 : Int) + ((c.getD (Int.toNat 0) default).toNat : Int)).toNat = 1 + (c.getD 0 default).toNat := by omega
          refine ⟨_, ?_, Back.mk' (HasT.cons HasT.nil) HasH.nil, ?_⟩
          · rw [e1]; exact ⟨(txtW_step (by omega) (by omega)).symm.trans hc, by rw [List.length_drop]; omega⟩
          · rw [e1, List.length_drop]; omega
      · skip
        refine AOps.nil ?_
        refine AWp.cond_f rfl ?_
        refine AWp.exit ?_
        refine AWp.seq ?_
        refine AWp.region ?_
        refine AOps.cons rfl rfl (q_assign) ?_
        refine AOps.nil ?_
        refine AWp.ret ?_
        show Fin te Try.f66 _ _
        refine q_ret (0) [_] [_] ?_
        rw [txtR, ← hc, txtW_end (by omega), Bool.and_true, decide_eq_true (by omega)]; rfl

set_option maxRecDepth 20000 in
theorem c_ciceroneref03_options (b : List UInt8) (lv : Nat) (h : b.length ≤ 140737488351232) : AC Try.prog 67 [.fz lv b.length (cl bc b)] emp (Ret (tf (optR b))) := by
  refine AC.intro te_ok (fn := Try.f67) ⟨Try.func67, rfl, rfl⟩ (Nat.le_of_ble_eq_true rfl) ?_
  refine AWp.seq ?_
  refine AWp.region ?_
  refine AOps.cons rfl rfl (q_assign) ?_
  refine AOps.nil ?_
  refine AWp.seq ?_
  refine AWp.block ?_
  refine AWp.loopR (α := List UInt8) [0, 2, 3, 4, 5, 6, 7, 8, 9, 10, 11, 12, 13, 14, 15, 16, 17, 18, 19, 20, 21, 22, 23, 24, 25, 26, 27, 28] (fun c => [(0, .fz lv c.length (cl bc c))]) (fun c => []) (fun c => optR c = optR b ∧ c.length ≤ b.length) (fun c => c.length) b ?_ (Back.mk' (HasT.cons HasT.nil) HasH.nil) ?_
  · exact ⟨rfl, Nat.le_refl _⟩
  · rintro c ⟨hc, hl⟩
    refine AWp.seq ?_
    refine AWp.seq ?_
    refine AWp.region ?_
    refine AOps.cons rfl rfl (q_move) ?_
    refine AOps.cons rfl rfl (q_len) ?_
    refine AOps.dec rfl rfl (q_gtr) (fun h1_2 => ?_) (fun h1_2 => ?_)
    · skip
      refine AOps.nil ?_
      refine AWp.cond_t rfl ?_
      refine AWp.skip ?_
      refine AWp.block ?_
      refine AWp.seq ?_
      refine AWp.seq ?_
      refine AWp.region ?_
      refine AOps.cons rfl rfl (q_move) ?_
      refine AOps.cons rfl rfl (q_len) ?_
      refine AOps.dec rfl rfl (q_lss) (fun h2_2 => ?_) (fun h2_2 => ?_)
      · skip
        refine AOps.nil ?_
        refine AWp.cond_t rfl ?_
        refine AWp.seq ?_
        refine AWp.region ?_
        refine AOps.cons rfl rfl (q_assign) ?_
        refine AOps.nil ?_
        refine AWp.ret ?_
        show Fin te Try.f67 _ _
        refine q_ret (0) [_] [_] ?_
        rw [← hc, optR_no (by omega) (by omega)]; rfl
      · skip
        refine AOps.nil ?_
        refine AWp.cond_f rfl ?_
        refine AWp.skip ?_
        refine AWp.seq ?_
        have hk2 := (c.getD 2 default).toNat_lt
        have hk3 := (c.getD 3 default).toNat_lt
        have he2 : (c.getD (Int.toNat 2) default).toNat = (c.getD 2 default).toNat := rfl
        have he3 : (c.getD (Int.toNat 3) default).toNat = (c.getD 3 default).toNat := rfl
        have hs2 : (c[2]?.getD default).toNat = (c.getD 2 default).toNat := congrArg UInt8.toNat (List.getD_eq_getElem?_getD).symm
        have hs3 : (c[3]?.getD default).toNat = (c.getD 3 default).toNat := congrArg UInt8.toNat (List.getD_eq_getElem?_getD).symm
        refine AWp.draws [⟨0, [0], [], some 10, _, none⟩,
            ⟨1, [10], [], some 11, _, none⟩,
            ⟨2, [11], [], some 12, _, none⟩,
            ⟨3, [12], [], some 13, _, none⟩,
            ⟨4, [13], [], some 14, _, none⟩,
            ⟨5, [0], [], some 15, _, none⟩,
            ⟨6, [15], [], some 16, _, none⟩,
            ⟨7, [16], [], some 17, _, none⟩,
            ⟨8, [17], [], some 18, _, none⟩,
            ⟨9, [14, 18], [], some 19, _, none⟩,
            ⟨10, [19], [], some 3, _, none⟩]
          [⟨0, [0], [], some 10, .any, none⟩,
              ⟨1, [10], [], some 11, .any, none⟩,
              ⟨2, [11], [], some 12, .any, none⟩,
              ⟨3, [12], [], some 13, .any, none⟩,
              ⟨4, [13], [], some 14, .any, none⟩,
              ⟨5, [0], [], some 15, .any, none⟩,
              ⟨6, [15], [], some 16, .any, none⟩,
              ⟨7, [16], [], some 17, .any, none⟩,
              ⟨8, [17], [], some 18, .any, none⟩,
              ⟨9, [14, 18], [], some 19, .any, none⟩,
              ⟨10, [19], [], some 3, .any, none⟩]
          mixed_ok rfl (by kernel_rfl) ⟨DS.ok_over fun s0 => OpAt.go rfl rfl (q_move),
              DS.ok_over fun s0 => OpAt.go rfl rfl (q_ix),
              DS.ok_over fun s0 => OpAt.go rfl rfl (q_load),
              DS.ok_over fun s0 => OpAt.go rfl rfl (q_conv_8i),
              DS.ok_over fun s0 => OpAt.go rfl rfl (q_mul),
              DS.ok_over fun s0 => OpAt.go rfl rfl (q_move),
              DS.ok_over fun s0 => OpAt.go rfl rfl (q_ix),
              DS.ok_over fun s0 => OpAt.go rfl rfl (q_load),
              DS.ok_over fun s0 => OpAt.go rfl rfl (q_conv_8i),
              DS.ok_over fun s0 => OpAt.go rfl rfl (q_add),
              DS.ok_over fun s0 => OpAt.go rfl rfl (q_assign), trivial⟩ ?_
        dsimp only [final, DS.upd, AS.seto]
        refine AWp.seq ?_
        refine AWp.seq ?_
        refine AWp.region ?_
        refine AOps.cons rfl rfl (q_move) ?_
        refine AOps.cons rfl rfl (q_len) ?_
        refine AOps.cons rfl rfl (q_move) ?_
        refine AOps.cons rfl rfl (q_add) ?_
        refine AOps.dec rfl rfl (q_lss) (fun h5_4 => ?_) (fun h5_4 => ?_)
        · skip
          refine AOps.nil ?_
          refine AWp.cond_t rfl ?_
          refine AWp.seq ?_
          refine AWp.region ?_
          refine AOps.cons rfl rfl (q_assign) ?_
          refine AOps.nil ?_
          refine AWp.ret ?_
          show Fin te Try.f67 _ _
          refine q_ret (0) [_] [_] ?_
          rw [← hc, optR_no (by omega) (Or.inr (by unfold optK; omega))]; rfl
        · skip
          refine AOps.nil ?_
          refine AWp.cond_f rfl ?_
          refine AWp.skip ?_
          refine AWp.region ?_
          refine AOps.cons rfl rfl (q_move) ?_
          refine AOps.cons rfl rfl (q_move) ?_
          refine AOps.cons rfl rfl (q_add) ?_
          refine AOps.cons rfl rfl (q_sl) ?_
          refine AOps.cons rfl rfl (q_assign) ?_
          refine AOps.nil ?_
          have e1 : (4 + (((c.getD (Int.toNat 2) default).toNat : Int) * 256 + ((c.getD (Int.toNat 3) default).toNat : Int))).toNat = optK c := by unfold optK; omega
          refine ⟨_, ?_, Back.mk' (HasT.cons HasT.nil) HasH.nil, ?_⟩
          · rw [e1]; exact ⟨(optR_step (by omega) (by omega) (by unfold optK; omega)).symm.trans hc, by rw [List.length_drop]; omega⟩
          · rw [e1, List.length_drop]; unfold optK; omega
    · skip
      refine AOps.nil ?_
      refine AWp.cond_f rfl ?_
      refine AWp.exit ?_
      refine AWp.seq ?_
      refine AWp.region ?_
      refine AOps.cons rfl rfl (q_assign) ?_
      refine AOps.nil ?_
      refine AWp.ret ?_
      show Fin te Try.f67 _ _
      refine q_ret (0) [_] [_] ?_
      rw [← hc, optR_end (by omega)]; rfl

set_option maxRecDepth 20000 in
theorem c_Can6 (b : List UInt8) (lv : Nat) (h : b.length ≤ 140737488351232) : AC Try.prog 38 [i64 6, .fz lv b.length (cl bc b)] emp (Ret (tf (canS 6 b))) := by
  refine AC.intro te_ok (fn := Try.f38) ⟨Try.func38, rfl, rfl⟩ (Nat.le_of_ble_eq_true rfl) ?_
  refine AWp.seq ?_
  refine AWp.region ?_
  refine AOps.cons rfl rfl (q_assign) ?_
  refine AOps.nil ?_
  refine AWp.seq ?_
  refine AWp.seq ?_
  refine AWp.region ?_
  refine AOps.cons rfl rfl (q_move) ?_
  refine AOps.dec rfl rfl (q_lss) (fun h1_1 => ?_) (fun h1_1 => ?_)
  · exfalso; omega
  · skip
    refine AOps.cons rfl rfl (q_move) ?_
    refine AOps.gcons rfl rfl rfl rfl rfl (q_move) ?_
    refine AOps.gdec rfl rfl rfl rfl rfl (q_gtr) (fun h1_4 => ?_) (fun h1_4 => ?_)
    · exfalso; omega
    · skip
      refine AOps.cons rfl rfl (q_pick) ?_
      refine AOps.cons rfl rfl (q_move) ?_
      refine AOps.gcons rfl rfl rfl rfl rfl (q_move) ?_
      refine AOps.gcons rfl rfl rfl rfl rfl (q_len) ?_
      refine AOps.gdec rfl rfl rfl rfl rfl (q_gtr) (fun h1_9 => ?_) (fun h1_9 => ?_)
      · skip
        refine AOps.cons rfl rfl (q_pick) ?_
        refine AOps.nil ?_
        refine AWp.cond_t rfl ?_
        refine AWp.seq ?_
        refine AWp.region ?_
        refine AOps.cons rfl rfl (q_assign) ?_
        refine AOps.nil ?_
        refine AWp.ret ?_
        show Fin te Try.f38 _ _
        refine q_ret (0) [_] [_] ?_
        rw [canS_6n (by omega)]; rfl
      · skip
        refine AOps.cons rfl rfl (q_pick) ?_
        refine AOps.nil ?_
        refine AWp.cond_f rfl ?_
        refine AWp.skip ?_
        refine AWp.seq ?_
        refine AWp.seq ?_
        refine AWp.region ?_
        refine AOps.cons rfl rfl (q_move) ?_
        refine AOps.nil ?_
        refine AWp.block ?_
        refine AWp.seq ?_
        refine AWp.region ?_
        refine AOps.dec rfl rfl (q_eql) (fun h4_0 => ?_) (fun h4_0 => ?_)
        · exfalso; omega
        · skip
          refine AOps.cons rfl rfl (q_assign) ?_
          refine AOps.nil ?_
          refine AWp.cond_f rfl ?_
          refine AWp.seq ?_
          refine AWp.region ?_
          refine AOps.dec rfl rfl (q_eql) (fun h6_0 => ?_) (fun h6_0 => ?_)
          · exfalso; omega
          · skip
            refine AOps.cons rfl rfl (q_assign) ?_
            refine AOps.nil ?_
            refine AWp.cond_f rfl ?_
            refine AWp.seq ?_
            refine AWp.seq ?_
            refine AWp.region ?_
            refine AOps.dec rfl rfl (q_eql) (fun h8_0 => ?_) (fun h8_0 => ?_)
            · exfalso; omega
            · skip
              refine AOps.cons rfl rfl (q_assign) ?_
              refine AOps.nil ?_
              refine AWp.cond_f rfl ?_
              refine AWp.seq ?_
              refine AWp.region ?_
              refine AOps.dec rfl rfl (q_eql) (fun h9_0 => ?_) (fun h9_0 => ?_)
              · exfalso; omega
              · skip
                refine AOps.cons rfl rfl (q_assign) ?_
                refine AOps.nil ?_
                refine AWp.cond_f rfl ?_
                refine AWp.region ?_
                refine AOps.dec rfl rfl (q_eql) (fun h10_0 => ?_) (fun h10_0 => ?_)
                · exfalso; omega
                · skip
                  refine AOps.cons rfl rfl (q_assign) ?_
                  refine AOps.nil ?_
                  refine AWp.cond_f rfl ?_
                  refine AWp.seq ?_
                  refine AWp.region ?_
                  refine AOps.dec rfl rfl (q_eql) (fun h12_0 => ?_) (fun h12_0 => ?_)
                  · exfalso; omega
                  · skip
                    refine AOps.cons rfl rfl (q_assign) ?_
                    refine AOps.nil ?_
                    refine AWp.cond_f rfl ?_
                    refine AWp.seq ?_
                    refine AWp.region ?_
                    refine AOps.dec rfl rfl (q_eql) (fun h14_0 => ?_) (fun h14_0 => ?_)
                    · exfalso; omega
                    · skip
                      refine AOps.cons rfl rfl (q_assign) ?_
                      refine AOps.nil ?_
                      refine AWp.cond_f rfl ?_
                      refine AWp.seq ?_
                      refine AWp.region ?_
                      refine AOps.dec rfl rfl (q_eql) (fun h16_0 => ?_) (fun h16_0 => ?_)
                      · exfalso; omega
                      · skip
                        refine AOps.cons rfl rfl (q_assign) ?_
                        refine AOps.nil ?_
                        refine AWp.cond_f rfl ?_
                        refine AWp.seq ?_
                        refine AWp.region ?_
                        refine AOps.dec rfl rfl (q_eql) (fun h18_0 => ?_) (fun h18_0 => ?_)
                        · skip
                          refine AOps.cons rfl rfl (q_assign) ?_
                          refine AOps.nil ?_
                          refine AWp.cond_t rfl ?_
                          refine AWp.seq ?_
                          refine AWp.region ?_
                          refine AOps.cons rfl rfl (q_move) ?_
                          refine AOps.cons rfl rfl (q_call (lv) (hc := c_rdata_SOA _ _ (by first | assumption | omega | decide | (simp; omega) | (simp [*]; done)))) ?_
                          refine AOps.cons rfl rfl (q_move) ?_
                          refine AOps.cons rfl rfl (q_extract) ?_
                          refine AOps.cons rfl rfl (q_extract) ?_
                          refine AOps.cons rfl rfl (q_alloc 2005) ?_
                          refine AOps.cons rfl rfl (q_store) ?_
                          refine AOps.cons rfl rfl (q_assign) ?_
                          refine AOps.nil ?_
                          refine AWp.seq ?_
                          refine AWp.region ?_
                          refine AOps.cons rfl rfl (q_move) ?_
                          refine AOps.cons rfl rfl (q_assign) ?_
                          refine AOps.nil ?_
                          refine AWp.ret ?_
                          show Fin te Try.f38 _ _
                          refine q_ret (0) [_] [_] ?_
                          rw [canS_6 (by omega)]; rfl
                        · exfalso; omega

end Go.Proofs.Ytaemmklgofddmaa.Fw

/- Walks of layer 3: the reference's data and names. -/
set_option linter.unusedVariables false
set_option linter.unusedSimpArgs false
namespace Go.Proofs.Ytaemmklgofddmaa.Fw
open Go.RowKit

theorem num_four (n : Int) (h : 0 ≤ n ∧ n ≤ 4294967295) : num (fourB n) = n := by
  have h0 := byte_toNat (n / 2 ^ 24)
  have h1 := byte_toNat (n / 2 ^ 16)
  have h2 := byte_toNat (n / 2 ^ 8)
  have h3 := byte_toNat n
  simp only [num, fourB, List.foldl_cons, List.foldl_nil, h0, h1, h2, h3]
  omega
theorem byte_id {x : UInt8} {a : Int} (h : a % 256 = x.toNat) : byte a = x := by
  have h1 := byte_toNat a
  exact UInt8.toNat_inj.1 (by omega)
theorem four_num' (a b c d : UInt8) : fourB (num [a, b, c, d]) = [a, b, c, d] := by
  have ha := a.toNat_lt
  have hb := b.toNat_lt
  have hc := c.toNat_lt
  have hd := d.toNat_lt
  simp only [num, List.foldl_cons, List.foldl_nil, fourB]
  rw [byte_id (x := a) (by omega), byte_id (x := b) (by omega), byte_id (x := c) (by omega), byte_id (x := d) (by omega)]
theorem cut_app {m r : List UInt8} (h : canN m = true) : cutO (m ++ r) = true ∧ cutM (m ++ r) = m ∧ cutR (m ++ r) = r := by
  obtain ⟨h1, h2, h3⟩ := cut_at (b := m ++ r) (k := m.length) (by simp) (by rw [List.take_left]; exact h)
  rw [List.take_left] at h2
  rw [List.drop_left] at h3
  exact ⟨h1, h2, h3⟩
theorem wd_flat (x : Soa) (j : Nat) (hj : j < 5) : wd ((ns x).flatMap fourB) j 5 = num (fourB ((ns x).getD j default)) := by
  have : j = 0 ∨ j = 1 ∨ j = 2 ∨ j = 3 ∨ j = 4 := by omega
  rcases this with rfl | rfl | rfl | rfl | rfl <;> rfl
theorem soa_make {x : Soa} (h : mkO x = true) : soaO (mkB x) = true ∧ soaV (mkB x) = x ∧ (mkB x).length ≤ 530 := by
  have h2 := h
  simp only [mkO, Bool.and_eq_true, List.all_eq_true] at h2
  obtain ⟨h3, h4, h5⟩ := h2
  have hg : ∀ n ∈ ns x, 0 ≤ n ∧ n ≤ 4294967295 := fun n hn => of_decide_eq_true (h5 n hn)
  rw [(mk_yes h).1, List.append_assoc]
  obtain ⟨a1, a2, a3⟩ := cut_app (r := x.r ++ (ns x).flatMap fourB) h3
  obtain ⟨b1, b2, b3⟩ := cut_app (r := (ns x).flatMap fourB) h4
  have hl : ((ns x).flatMap fourB).length = 20 := rfl
  have ho : soaO (x.m ++ (x.r ++ (ns x).flatMap fourB)) = true := by
    rw [soaO, a1, a3, b1, b3, hl]; rfl
  refine ⟨ho, ?_, ?_⟩
  · rw [soaV, if_pos ho, a2, a3, b2, b3, wd_flat x 0 (by omega), wd_flat x 1 (by omega), wd_flat x 2 (by omega), wd_flat x 3 (by omega), wd_flat x 4 (by omega)]
    rw [num_four _ (hg _ (getD_mem' (l := ns x) (i := 0) (by show _ < 5; omega))), num_four _ (hg _ (getD_mem' (l := ns x) (i := 1) (by show _ < 5; omega))), num_four _ (hg _ (getD_mem' (l := ns x) (i := 2) (by show _ < 5; omega))),
      num_four _ (hg _ (getD_mem' (l := ns x) (i := 3) (by show _ < 5; omega))), num_four _ (hg _ (getD_mem' (l := ns x) (i := 4) (by show _ < 5; omega)))]
    rfl
  · have := canN_len h3
    have := canN_len h4
    simp only [List.length_append, hl]
    omega
theorem five_of {c : List UInt8} (hc : c.length = 20) : c = ([wd c 0 5, wd c 1 5, wd c 2 5, wd c 3 5, wd c 4 5] : List Int).flatMap fourB := by
  match c, hc with
  | [a0, a1, a2, a3, a4, a5, a6, a7, a8, a9, b0, b1, b2, b3, b4, b5, b6, b7, b8, b9], _ =>
    have e0 : wd [a0, a1, a2, a3, a4, a5, a6, a7, a8, a9, b0, b1, b2, b3, b4, b5, b6, b7, b8, b9] 0 5 = num [a0, a1, a2, a3] := rfl
    have e1 : wd [a0, a1, a2, a3, a4, a5, a6, a7, a8, a9, b0, b1, b2, b3, b4, b5, b6, b7, b8, b9] 1 5 = num [a4, a5, a6, a7] := rfl
    have e2 : wd [a0, a1, a2, a3, a4, a5, a6, a7, a8, a9, b0, b1, b2, b3, b4, b5, b6, b7, b8, b9] 2 5 = num [a8, a9, b0, b1] := rfl
    have e3 : wd [a0, a1, a2, a3, a4, a5, a6, a7, a8, a9, b0, b1, b2, b3, b4, b5, b6, b7, b8, b9] 3 5 = num [b2, b3, b4, b5] := rfl
    have e4 : wd [a0, a1, a2, a3, a4, a5, a6, a7, a8, a9, b0, b1, b2, b3, b4, b5, b6, b7, b8, b9] 4 5 = num [b6, b7, b8, b9] := rfl
    rw [e0, e1, e2, e3, e4]
    simp only [List.flatMap_cons, List.flatMap_nil, four_num']
    rfl
theorem cut_back {b : List UInt8} (h : cutO b = true) : b = cutM b ++ cutR b ∧ canN (cutM b) = true := by
  rw [cutM, cutR, if_pos h, if_pos h, List.take_append_drop]
  simp only [cutO, Bool.and_eq_true] at h
  exact ⟨rfl, h.2⟩
theorem wd_le {c : List UInt8} {j : Nat} (hc : c.length = 20) (hj : j < 5) : 0 ≤ wd c j 5 ∧ wd c j 5 ≤ 4294967295 := by
  have h1 := dg_len hc hj
  have h2 := num_le 4 ((dg c j).take 4) (by rw [List.length_take]; omega)
  rw [wd, if_pos hj]
  omega
theorem make_soa {d : List UInt8} (h : soaO d = true) : mkO (soaV d) = true ∧ mkB (soaV d) = d := by
  have h2 := h
  simp only [soaO, Bool.and_eq_true, decide_eq_true_eq] at h2
  obtain ⟨h3, h4, h5⟩ := h2
  obtain ⟨a1, a2⟩ := cut_back h3
  obtain ⟨b1, b2⟩ := cut_back h4
  have hv : soaV d = ⟨cutM d, cutM (cutR d), wd (cutR (cutR d)) 0 5, wd (cutR (cutR d)) 1 5, wd (cutR (cutR d)) 2 5, wd (cutR (cutR d)) 3 5, wd (cutR (cutR d)) 4 5⟩ := by rw [soaV, if_pos h]
  have ho : mkO (soaV d) = true := by
    rw [hv]
    refine mk_good a2 b2 ?_
    intro n hn
    simp only [ns, List.mem_cons, List.not_mem_nil, or_false] at hn
    rcases hn with rfl | rfl | rfl | rfl | rfl <;> exact wd_le h5 (by omega)
  refine ⟨ho, ?_⟩
  rw [(mk_yes ho).1, hv]
  show cutM d ++ cutM (cutR d) ++ ([wd (cutR (cutR d)) 0 5, wd (cutR (cutR d)) 1 5, wd (cutR (cutR d)) 2 5, wd (cutR (cutR d)) 3 5, wd (cutR (cutR d)) 4 5] : List Int).flatMap fourB = d
  rw [← five_of h5, List.append_assoc, ← b1, ← a1]
theorem can_1234 : canR 1 [1, 2, 3, 4] = true := by simp [canR]
theorem namR_le (t : Int) (d : List UInt8) : (namR t d).length ≤ 1 := by
  unfold namR
  split
  · split
    · simp
    · split <;> simp
  · simp
theorem namS_le (t : Int) (d : List UInt8) : (namS t d).length ≤ 2 := by
  have := namR_le t d
  unfold namS
  split
  · split <;> simp
  · omega

set_option maxRecDepth 20000 in
theorem c_ciceroneref03_Can (t : Int) (b : List UInt8) (lv : Nat) (h : b.length ≤ 140737488351232) : AC Try.prog 42 [i64 t, .fz lv b.length (cl bc b)] emp (Ret (tf (canS t b))) := by
  refine AC.intro te_ok (fn := Try.f42) ⟨Try.func42, rfl, rfl⟩ (Nat.le_of_ble_eq_true rfl) ?_
  refine AWp.seq ?_
  refine AWp.region ?_
  refine AOps.cons rfl rfl (q_assign) ?_
  refine AOps.nil ?_
  refine AWp.seq ?_
  refine AWp.seq ?_
  refine AWp.region ?_
  refine AOps.cons rfl rfl (q_move) ?_
  refine AOps.dec rfl rfl (q_lss) (fun h1_1 => ?_) (fun h1_1 => ?_)
  · skip
    refine AOps.cons rfl rfl (q_move) ?_
    refine AOps.gskip rfl rfl rfl rfl rfl rfl rfl rfl ?_
    refine AOps.gskip rfl rfl rfl rfl rfl rfl rfl rfl ?_
    refine AOps.cons rfl rfl (q_pick) ?_
    refine AOps.cons rfl rfl (q_move) ?_
    refine AOps.gskip rfl rfl rfl rfl rfl rfl rfl rfl ?_
    refine AOps.gskip rfl rfl rfl rfl rfl rfl rfl rfl ?_
    refine AOps.gskip rfl rfl rfl rfl rfl rfl rfl rfl ?_
    refine AOps.cons rfl rfl (q_pick) ?_
    refine AOps.nil ?_
    refine AWp.cond_t rfl ?_
    refine AWp.seq ?_
    refine AWp.region ?_
    refine AOps.cons rfl rfl (q_assign) ?_
    refine AOps.nil ?_
    refine AWp.ret ?_
    show Fin te Try.f42 _ _
    refine q_ret (0) [_] [_] ?_
    rw [canS_ne (by omega), canR, if_pos (by omega)]; rfl
  · skip
    refine AOps.cons rfl rfl (q_move) ?_
    refine AOps.gcons rfl rfl rfl rfl rfl (q_move) ?_
    refine AOps.gdec rfl rfl rfl rfl rfl (q_gtr) (fun h1_4 => ?_) (fun h1_4 => ?_)
    · skip
      refine AOps.cons rfl rfl (q_pick) ?_
      refine AOps.cons rfl rfl (q_move) ?_
      refine AOps.gskip rfl rfl rfl rfl rfl rfl rfl rfl ?_
      refine AOps.gskip rfl rfl rfl rfl rfl rfl rfl rfl ?_
      refine AOps.gskip rfl rfl rfl rfl rfl rfl rfl rfl ?_
      refine AOps.cons rfl rfl (q_pick) ?_
      refine AOps.nil ?_
      refine AWp.cond_t rfl ?_
      refine AWp.seq ?_
      refine AWp.region ?_
      refine AOps.cons rfl rfl (q_assign) ?_
      refine AOps.nil ?_
      refine AWp.ret ?_
      show Fin te Try.f42 _ _
      refine q_ret (0) [_] [_] ?_
      rw [canS_ne (by omega), canR, if_pos (by omega)]; rfl
    · skip
      refine AOps.cons rfl rfl (q_pick) ?_
      refine AOps.cons rfl rfl (q_move) ?_
      refine AOps.gcons rfl rfl rfl rfl rfl (q_move) ?_
      refine AOps.gcons rfl rfl rfl rfl rfl (q_len) ?_
      refine AOps.gdec rfl rfl rfl rfl rfl (q_gtr) (fun h1_9 => ?_) (fun h1_9 => ?_)
      · skip
        refine AOps.cons rfl rfl (q_pick) ?_
        refine AOps.nil ?_
        refine AWp.cond_t rfl ?_
        refine AWp.seq ?_
        refine AWp.region ?_
        refine AOps.cons rfl rfl (q_assign) ?_
        refine AOps.nil ?_
        refine AWp.ret ?_
        show Fin te Try.f42 _ _
        refine q_ret (0) [_] [_] ?_
        by_cases h6 : t = 6
        · subst h6; rw [canS_6n (by omega)]; rfl
        · rw [canS_ne h6, canR, if_pos (by omega)]; rfl
      · skip
        refine AOps.cons rfl rfl (q_pick) ?_
        refine AOps.nil ?_
        refine AWp.cond_f rfl ?_
        refine AWp.skip ?_
        refine AWp.seq ?_
        refine AWp.seq ?_
        refine AWp.region ?_
        have hne : t ≠ 6 → canS t b = canR t b := canS_ne
        refine AOps.cons rfl rfl (q_move) ?_
        refine AOps.nil ?_
        refine AWp.block ?_
        refine AWp.seq ?_
        refine AWp.region ?_
        refine AOps.dec rfl rfl (q_eql) (fun h4_0 => ?_) (fun h4_0 => ?_)
        · skip
          refine AOps.cons rfl rfl (q_assign) ?_
          refine AOps.nil ?_
          refine AWp.cond_t rfl ?_
          refine AWp.seq ?_
          refine AWp.region ?_
          refine AOps.cons rfl rfl (q_move) ?_
          refine AOps.cons rfl rfl (q_len) ?_
          refine AOps.cons rfl rfl (q_eql) ?_
          refine AOps.cons rfl rfl (q_assign) ?_
          refine AOps.nil ?_
          refine AWp.ret ?_
          show Fin te Try.f42 _ _
          refine q_ret (0) [_] [_] ?_
          rw [canS_ne (by omega), canR, if_neg (by omega), if_pos h4_0]; exact congrArg tf (decide_eq_decide.2 (by omega))
        · skip
          refine AOps.cons rfl rfl (q_assign) ?_
          refine AOps.nil ?_
          refine AWp.cond_f rfl ?_
          refine AWp.seq ?_
          refine AWp.region ?_
          refine AOps.dec rfl rfl (q_eql) (fun h6_0 => ?_) (fun h6_0 => ?_)
          · skip
            refine AOps.cons rfl rfl (q_assign) ?_
            refine AOps.nil ?_
            refine AWp.cond_t rfl ?_
            refine AWp.seq ?_
            refine AWp.region ?_
            refine AOps.cons rfl rfl (q_move) ?_
            refine AOps.cons rfl rfl (q_len) ?_
            refine AOps.cons rfl rfl (q_eql) ?_
            refine AOps.cons rfl rfl (q_assign) ?_
            refine AOps.nil ?_
            refine AWp.ret ?_
            show Fin te Try.f42 _ _
            refine q_ret (0) [_] [_] ?_
            rw [canS_ne (by omega), canR, if_neg (by omega), if_neg h4_0, if_pos h6_0]; exact congrArg tf (decide_eq_decide.2 (by omega))
          · skip
            refine AOps.cons rfl rfl (q_assign) ?_
            refine AOps.nil ?_
            refine AWp.cond_f rfl ?_
            refine AWp.seq ?_
            refine AWp.seq ?_
            refine AWp.region ?_
            refine AOps.dec rfl rfl (q_eql) (fun h8_0 => ?_) (fun h8_0 => ?_)
            · skip
              refine AOps.cons rfl rfl (q_assign) ?_
              refine AOps.nil ?_
              refine AWp.cond_t rfl ?_
              refine AWp.skip ?_
              refine AWp.cond_t rfl ?_
              refine AWp.seq ?_
              refine AWp.region ?_
              refine AOps.cons rfl rfl (q_move) ?_
              refine AOps.cons rfl rfl (by first | exact q_conv_zs | exact q_conv_ls) ?_
              refine AOps.cons rfl rfl (q_call (lv) (hc := c_ciceroneref01_Can _ (by first | assumption | omega | decide | (simp; omega) | (simp [*]; done)))) ?_
              refine AOps.cons rfl rfl (q_assign) ?_
              refine AOps.nil ?_
              refine AWp.ret ?_
              show Fin te Try.f42 _ _
              refine q_ret (0) [_] [_] ?_
              rw [canS_ne (by omega), canR, if_neg (by omega), if_neg h4_0, if_neg h6_0, if_pos (by omega)]; rfl
            · skip
              refine AOps.cons rfl rfl (q_assign) ?_
              refine AOps.nil ?_
              refine AWp.cond_f rfl ?_
              refine AWp.seq ?_
              refine AWp.region ?_
              refine AOps.dec rfl rfl (q_eql) (fun h9_0 => ?_) (fun h9_0 => ?_)
              · skip
                refine AOps.cons rfl rfl (q_assign) ?_
                refine AOps.nil ?_
                refine AWp.cond_t rfl ?_
                refine AWp.skip ?_
                refine AWp.cond_t rfl ?_
                refine AWp.seq ?_
                refine AWp.region ?_
                refine AOps.cons rfl rfl (q_move) ?_
                refine AOps.cons rfl rfl (by first | exact q_conv_zs | exact q_conv_ls) ?_
                refine AOps.cons rfl rfl (q_call (lv) (hc := c_ciceroneref01_Can _ (by first | assumption | omega | decide | (simp; omega) | (simp [*]; done)))) ?_
                refine AOps.cons rfl rfl (q_assign) ?_
                refine AOps.nil ?_
                refine AWp.ret ?_
                show Fin te Try.f42 _ _
                refine q_ret (0) [_] [_] ?_
                rw [canS_ne (by omega), canR, if_neg (by omega), if_neg h4_0, if_neg h6_0, if_pos (by omega)]; rfl
              · skip
                refine AOps.cons rfl rfl (q_assign) ?_
                refine AOps.nil ?_
                refine AWp.cond_f rfl ?_
                refine AWp.region ?_
                refine AOps.dec rfl rfl (q_eql) (fun h10_0 => ?_) (fun h10_0 => ?_)
                · skip
                  refine AOps.cons rfl rfl (q_assign) ?_
                  refine AOps.nil ?_
                  refine AWp.cond_t rfl ?_
                  refine AWp.seq ?_
                  refine AWp.region ?_
                  refine AOps.cons rfl rfl (q_move) ?_
                  refine AOps.cons rfl rfl (by first | exact q_conv_zs | exact q_conv_ls) ?_
                  refine AOps.cons rfl rfl (q_call (lv) (hc := c_ciceroneref01_Can _ (by first | assumption | omega | decide | (simp; omega) | (simp [*]; done)))) ?_
                  refine AOps.cons rfl rfl (q_assign) ?_
                  refine AOps.nil ?_
                  refine AWp.ret ?_
                  show Fin te Try.f42 _ _
                  refine q_ret (0) [_] [_] ?_
                  rw [canS_ne (by omega), canR, if_neg (by omega), if_neg h4_0, if_neg h6_0, if_pos (by omega)]; rfl
                · skip
                  refine AOps.cons rfl rfl (q_assign) ?_
                  refine AOps.nil ?_
                  refine AWp.cond_f rfl ?_
                  refine AWp.seq ?_
                  refine AWp.region ?_
                  refine AOps.dec rfl rfl (q_eql) (fun h12_0 => ?_) (fun h12_0 => ?_)
                  · skip
                    refine AOps.cons rfl rfl (q_assign) ?_
                    refine AOps.nil ?_
                    refine AWp.cond_t rfl ?_
                    refine AWp.seq ?_
                    refine AWp.region ?_
                    refine AOps.cons rfl rfl (q_move) ?_
                    refine AOps.cons rfl rfl (q_len) ?_
                    refine AOps.dec rfl rfl (q_gtr) (fun h13_2 => ?_) (fun h13_2 => ?_)
                    · skip
                      refine AOps.cons rfl rfl (q_move) ?_
                      refine AOps.gcons rfl rfl rfl rfl rfl (q_move) ?_
                      refine AOps.gcons rfl rfl rfl rfl rfl (q_sl) ?_
                      refine AOps.gcons rfl rfl rfl rfl rfl (by first | exact q_conv_zs | exact q_conv_ls) ?_
                      refine AOps.gcons rfl rfl rfl rfl rfl (q_call (lv) (hc := c_ciceroneref01_Can _ (by first | assumption | omega | decide | (simp; omega) | (simp [*]; done)))) ?_
                      refine AOps.cons rfl rfl (q_pick) ?_
                      refine AOps.cons rfl rfl (q_assign) ?_
                      refine AOps.nil ?_
                      refine AWp.ret ?_
                      show Fin te Try.f42 _ _
                      refine q_ret (0) [_] [_] ?_
                      rw [canS_ne (by omega), canR, if_neg (by omega), if_neg h4_0, if_neg h6_0, if_neg (by omega), if_pos h12_0, decide_eq_true (by omega)]; rfl
                    · skip
                      refine AOps.cons rfl rfl (q_move) ?_
                      refine AOps.gskip rfl rfl rfl rfl rfl rfl rfl rfl ?_
                      refine AOps.gskip rfl rfl rfl rfl rfl rfl rfl rfl ?_
                      refine AOps.gskip rfl rfl rfl rfl rfl rfl rfl rfl ?_
                      refine AOps.gskip rfl rfl rfl rfl rfl rfl rfl rfl ?_
                      refine AOps.cons rfl rfl (q_pick) ?_
                      refine AOps.cons rfl rfl (q_assign) ?_
                      refine AOps.nil ?_
                      refine AWp.ret ?_
                      show Fin te Try.f42 _ _
                      refine q_ret (0) [_] [_] ?_
                      rw [canS_ne (by omega), canR, if_neg (by omega), if_neg h4_0, if_neg h6_0, if_neg (by omega), if_pos h12_0, decide_eq_false (by omega)]; rfl
                  · skip
                    refine AOps.cons rfl rfl (q_assign) ?_
                    refine AOps.nil ?_
                    refine AWp.cond_f rfl ?_
                    refine AWp.seq ?_
                    refine AWp.region ?_
                    refine AOps.dec rfl rfl (q_eql) (fun h14_0 => ?_) (fun h14_0 => ?_)
                    · skip
                      refine AOps.cons rfl rfl (q_assign) ?_
                      refine AOps.nil ?_
                      refine AWp.cond_t rfl ?_
                      refine AWp.seq ?_
                      refine AWp.region ?_
                      refine AOps.cons rfl rfl (q_move) ?_
                      refine AOps.cons rfl rfl (q_call (lv) (hc := c_ciceroneref03_SOA _ _ (by first | assumption | omega | decide | (simp; omega) | (simp [*]; done)))) ?_
                      refine AOps.cons rfl rfl (q_move) ?_
                      refine AOps.cons rfl rfl (q_extract) ?_
                      refine AOps.cons rfl rfl (q_extract) ?_
                      refine AOps.cons rfl rfl (q_alloc 1605) ?_
                      refine AOps.cons rfl rfl (q_store) ?_
                      refine AOps.cons rfl rfl (q_assign) ?_
                      refine AOps.nil ?_
                      refine AWp.seq ?_
                      refine AWp.region ?_
                      refine AOps.cons rfl rfl (q_move) ?_
                      refine AOps.cons rfl rfl (q_assign) ?_
                      refine AOps.nil ?_
                      refine AWp.ret ?_
                      show Fin te Try.f42 _ _
                      refine q_ret (0) [_] [_] ?_
                      obtain rfl : t = 6 := h14_0
                      rw [canS_6 (by omega)]; rfl
                    · skip
                      refine AOps.cons rfl rfl (q_assign) ?_
                      refine AOps.nil ?_
                      refine AWp.cond_f rfl ?_
                      refine AWp.seq ?_
                      refine AWp.region ?_
                      refine AOps.dec rfl rfl (q_eql) (fun h17_0 => ?_) (fun h17_0 => ?_)
                      · skip
                        refine AOps.cons rfl rfl (q_assign) ?_
                        refine AOps.nil ?_
                        refine AWp.cond_t rfl ?_
                        refine AWp.seq ?_
                        refine AWp.region ?_
                        refine AOps.cons rfl rfl (q_move) ?_
                        refine AOps.cons rfl rfl (q_call (lv) (hc := c_ciceroneref03_texts _ _ (by first | assumption | omega | decide | (simp; omega) | (simp [*]; done)))) ?_
                        refine AOps.cons rfl rfl (q_assign) ?_
                        refine AOps.nil ?_
                        refine AWp.ret ?_
                        show Fin te Try.f42 _ _
                        refine q_ret (0) [_] [_] ?_
                        rw [canS_ne (by omega), canR, if_neg (by omega), if_neg h4_0, if_neg h6_0, if_neg (by omega), if_neg h12_0, if_pos h17_0]; rfl
                      · skip
                        refine AOps.cons rfl rfl (q_assign) ?_
                        refine AOps.nil ?_
                        refine AWp.cond_f rfl ?_
                        refine AWp.seq ?_
                        refine AWp.region ?_
                        refine AOps.dec rfl rfl (q_eql) (fun h19_0 => ?_) (fun h19_0 => ?_)
                        · skip
                          refine AOps.cons rfl rfl (q_assign) ?_
                          refine AOps.nil ?_
                          refine AWp.cond_t rfl ?_
                          refine AWp.seq ?_
                          refine AWp.region ?_
                          refine AOps.cons rfl rfl (q_move) ?_
                          refine AOps.cons rfl rfl (q_call (lv) (hc := c_ciceroneref03_options _ _ (by first | assumption | omega | decide | (simp; omega) | (simp [*]; done)))) ?_
                          refine AOps.cons rfl rfl (q_assign) ?_
                          refine AOps.nil ?_
                          refine AWp.ret ?_
                          show Fin te Try.f42 _ _
                          refine q_ret (0) [_] [_] ?_
                          rw [canS_ne (by omega), canR, if_neg (by omega), if_neg h4_0, if_neg h6_0, if_neg (by omega), if_neg h12_0, if_neg h17_0, if_pos h19_0]; rfl
                        · skip
                          refine AOps.cons rfl rfl (q_assign) ?_
                          refine AOps.nil ?_
                          refine AWp.cond_f rfl ?_
                          refine AWp.skip ?_
                          refine AWp.seq ?_
                          refine AWp.region ?_
                          refine AOps.cons rfl rfl (q_assign) ?_
                          refine AOps.nil ?_
                          refine AWp.ret ?_
                          show Fin te Try.f42 _ _
                          refine q_ret (0) [_] [_] ?_
                          rw [canS_ne (by omega), canR, if_neg (by omega), if_neg h4_0, if_neg h6_0, if_neg (by omega), if_neg h12_0, if_neg h17_0, if_neg h19_0]; rfl

end Go.Proofs.Ytaemmklgofddmaa.Fw

/- Walks of layer 8: sets, numbers. -/
set_option linter.unusedVariables false
set_option linter.unusedSimpArgs false
namespace Go.Proofs.Ytaemmklgofddmaa.Fw
open Go.RowKit


structure ESet where
  nm : List UInt8
  ty : Int
  cs : Int
  rank : Int
  kind : Int
  exp : Int
  zone : List UInt8
  ds : List (List UInt8)
  deriving Inhabited, DecidableEq
def setC (x : ESet) : List AV := [str x.nm, i64 x.ty, i64 x.cs, i64 x.rank, i64 x.kind, i64 x.exp, str x.zone, .fz 0 x.ds.length (cl (lc 0 bc) x.ds)]
def SetOk (x : ESet) : Prop := x.nm.length ≤ 140737488351232 ∧ x.zone.length ≤ 140737488351232 ∧ x.ds.length * 24 ≤ 140737488351232 ∧ ∀ d ∈ x.ds, d.length ≤ 140737488351232
theorem set_eq {a b : ESet} : a = b ↔ a.nm = b.nm ∧ a.ty = b.ty ∧ a.cs = b.cs ∧ a.rank = b.rank ∧ a.kind = b.kind ∧ a.exp = b.exp ∧ a.zone = b.zone ∧ a.ds = b.ds := by cases a; cases b; simp
theorem eq_step' {α : Type} [Inhabited α] {a b : List α} {i : Nat} (ha : i < a.length) (hb : i < b.length) (h : a.take i = b.take i) (e : a.getD i default = b.getD i default) : a.take (i + 1) = b.take (i + 1) := by
  rw [List.take_succ_eq_append_getElem ha, List.take_succ_eq_append_getElem hb, h]
  rw [List.getD_eq_getElem?_getD, List.getD_eq_getElem?_getD, List.getElem?_eq_getElem ha, List.getElem?_eq_getElem hb, Option.getD_some, Option.getD_some] at e
  rw [e]
theorem take_step' {α : Type} [Inhabited α] {l : List α} {i : Nat} (hi : i < l.length) : l.take (i + 1) = l.take i ++ [l.getD i default] := by
  have := take_map_step (fun y => y) (l := l) hi
  simpa using this
/-- A number in so many bytes. -/
def numW : Nat → Int → List UInt8
  | 0, _ => []
  | w + 1, n => byte (n / 2 ^ (8 * w)) :: numW w n
theorem numW_len : ∀ (w : Nat) (n : Int), (numW w n).length = w
  | 0, _ => rfl
  | w + 1, n => by rw [numW, List.length_cons, numW_len w n]
def numL (w : Nat) (l : List Int) : List UInt8 := l.flatMap (numW w)
theorem numL_len (w : Nat) (l : List Int) : (numL w l).length = w * l.length := by
  induction l with
  | nil => rfl
  | cons n l ih =>
    have : numL w (n :: l) = numW w n ++ numL w l := rfl
    rw [this, List.length_append, ih, numW_len, List.length_cons, Nat.mul_succ]; omega
def keyO (x : ESet) : Bool := canN x.nm && (decide (0 ≤ x.ty) && (decide (x.ty < 65536) && (decide (0 ≤ x.cs) && decide (x.cs < 65536))))

set_option maxRecDepth 20000 in
theorem c_ciceroneref08_Same (a b : ESet) (ha : SetOk a) : AC Try.prog 20 [.agg (setC a), .agg (setC b)] emp (Ret (tf (decide (a = b)))) := by
  obtain ⟨_, _, h3, _⟩ := id ha
  refine AC.intro te_ok (fn := Try.f20) ⟨Try.func20, rfl, rfl⟩ (Nat.le_of_ble_eq_true rfl) ?_
  refine AWp.seq ?_
  refine AWp.region ?_
  refine AOps.cons rfl rfl (q_box 100) ?_
  refine AOps.cons rfl rfl (q_box 101) ?_
  refine AOps.cons rfl rfl (q_assign) ?_
  refine AOps.nil ?_
  refine AWp.seq ?_
  refine AWp.seq ?_
  refine AWp.region ?_
  refine AOps.cons rfl rfl (q_fa) ?_
  refine AOps.cons rfl rfl (q_load) ?_
  refine AOps.cons rfl rfl (q_len) ?_
  refine AOps.cons rfl rfl (q_fa) ?_
  refine AOps.cons rfl rfl (q_load) ?_
  refine AOps.cons rfl rfl (q_len) ?_
  refine AOps.dec rfl rfl (q_neq) (fun h1_6 => ?_) (fun h1_6 => ?_)
  · skip
    refine AOps.nil ?_
    refine AWp.cond_t rfl ?_
    refine AWp.seq ?_
    refine AWp.region ?_
    refine AOps.cons rfl rfl (q_assign) ?_
    refine AOps.nil ?_
    refine AWp.ret ?_
    show Fin te Try.f20 _ _
    refine q_ret (0) [_] [_] ?_
    rw [decide_eq_false (fun e => h1_6 (by rw [e]))]; rfl
  · skip
    refine AOps.nil ?_
    refine AWp.cond_f rfl ?_
    refine AWp.skip ?_
    refine AWp.seq ?_
    refine AWp.seq ?_
    refine AWp.region ?_
    refine AOps.cons rfl rfl (q_fa) ?_
    refine AOps.cons rfl rfl (q_load) ?_
    refine AOps.cons rfl rfl (q_len) ?_
    refine AOps.cons rfl rfl (q_move) ?_
    refine AOps.nil ?_
    refine AWp.block ?_
    refine AWp.loopR (α := Nat) [4, 5, 16, 17, 18, 19, 20, 21, 22, 23, 24, 25, 26, 27, 28, 29, 30, 31, 32] (fun i => [(16, i64 i)]) (fun i => []) (fun i => i ≤ a.ds.length ∧ a.ds.take i = b.ds.take i) (fun i => a.ds.length - i) 0 ?_ (Back.mk' (HasT.cons HasT.nil) HasH.nil) ?_
    · exact ⟨Nat.zero_le _, rfl⟩
    · rintro i ⟨hi, hI⟩
      have hlen : a.ds.length = b.ds.length := by omega
      refine AWp.seq ?_
      refine AWp.region ?_
      refine AOps.dec rfl rfl (q_lss) (fun h4_0 => ?_) (fun h4_0 => ?_)
      · skip
        refine AOps.nil ?_
        refine AWp.seq ?_
        refine AWp.cond_t rfl ?_
        refine AWp.skip ?_
        refine AWp.seq ?_
        refine AWp.block ?_
        refine AWp.seq ?_
        refine AWp.region ?_
        refine AOps.cons rfl rfl (q_move) ?_
        refine AOps.cons rfl rfl (q_assign) ?_
        refine AOps.nil ?_
        refine AWp.seq ?_
        by_cases he : a.ds.getD i default = b.ds.getD i default
        · skip
          refine AWp.draws [⟨0, [2], [100], some 19, _, none⟩,
              ⟨1, [19], [100], some 20, _, none⟩,
              ⟨2, [5], [], some 21, _, none⟩,
              ⟨3, [20, 21], [], some 22, _, none⟩,
              ⟨4, [22], [], some 23, _, none⟩,
              ⟨5, [23], [], some 24, _, none⟩,
              ⟨6, [3], [101], some 25, _, none⟩,
              ⟨7, [25], [101], some 26, _, none⟩,
              ⟨8, [5], [], some 27, _, none⟩,
              ⟨9, [26, 27], [], some 28, _, none⟩,
              ⟨10, [28], [], some 29, _, none⟩,
              ⟨11, [29], [], some 30, _, none⟩,
              ⟨12, [24, 30], [], some 31, _, none⟩]
            [⟨0, [2], [100], some 19, .any, none⟩,
                ⟨1, [19], [100], some 20, .any, none⟩,
                ⟨2, [5], [], some 21, .any, none⟩,
                ⟨3, [20, 21], [], some 22, .any, none⟩,
                ⟨4, [22], [], some 23, .any, none⟩,
                ⟨5, [23], [], some 24, .any, none⟩,
                ⟨6, [3], [101], some 25, .any, none⟩,
                ⟨7, [25], [101], some 26, .any, none⟩,
                ⟨8, [5], [], some 27, .any, none⟩,
                ⟨9, [26, 27], [], some 28, .any, none⟩,
                ⟨10, [28], [], some 29, .any, none⟩,
                ⟨11, [29], [], some 30, .any, none⟩,
                ⟨12, [24, 30], [], some 31, .any, none⟩]
            mixed_ok rfl (by kernel_rfl) ⟨DS.ok_over fun s0 => OpAt.go rfl rfl (q_fa),
                DS.ok_over fun s0 => OpAt.go rfl rfl (q_load),
                DS.ok_over fun s0 => OpAt.go rfl rfl (q_move),
                DS.ok_over fun s0 => OpAt.go rfl rfl (q_ix),
                DS.ok_over fun s0 => OpAt.go rfl rfl (q_load),
                DS.ok_over fun s0 => OpAt.go rfl rfl (by first | exact q_conv_zs | exact q_conv_ls),
                DS.ok_over fun s0 => OpAt.go rfl rfl (q_fa),
                DS.ok_over fun s0 => OpAt.go rfl rfl (q_load),
                DS.ok_over fun s0 => OpAt.go rfl rfl (q_move),
                DS.ok_over fun s0 => OpAt.go rfl rfl (q_ix),
                DS.ok_over fun s0 => OpAt.go rfl rfl (q_load),
                DS.ok_over fun s0 => OpAt.go rfl rfl (by first | exact q_conv_zs | exact q_conv_ls),
                DS.ok_over fun s0 => OpAt.go rfl rfl ((OpOk.dec_f (q_sneq) (fun h => h he))), trivial⟩ ?_
          dsimp only [final, DS.upd, AS.seto]
          refine AWp.cond_f rfl ?_
          refine AWp.skip ?_
          refine AWp.region ?_
          refine AOps.cons rfl rfl (q_add) ?_
          refine AOps.cons rfl rfl (q_move) ?_
          refine AOps.nil ?_
          refine ⟨i + 1, ?_, Back.mk' (HasT.cons HasT.nil) HasH.nil, ?_⟩
          · exact ⟨by omega, eq_step' (by omega) (by omega) hI he⟩
          · first | omega | (simp; omega)
        · skip
          refine AWp.draws [⟨0, [2], [100], some 19, _, none⟩,
              ⟨1, [19], [100], some 20, _, none⟩,
              ⟨2, [5], [], some 21, _, none⟩,
              ⟨3, [20, 21], [], some 22, _, none⟩,
              ⟨4, [22], [], some 23, _, none⟩,
              ⟨5, [23], [], some 24, _, none⟩,
              ⟨6, [3], [101], some 25, _, none⟩,
              ⟨7, [25], [101], some 26, _, none⟩,
              ⟨8, [5], [], some 27, _, none⟩,
              ⟨9, [26, 27], [], some 28, _, none⟩,
              ⟨10, [28], [], some 29, _, none⟩,
              ⟨11, [29], [], some 30, _, none⟩,
              ⟨12, [24, 30], [], some 31, _, none⟩]
            [⟨0, [2], [100], some 19, .any, none⟩,
                ⟨1, [19], [100], some 20, .any, none⟩,
                ⟨2, [5], [], some 21, .any, none⟩,
                ⟨3, [20, 21], [], some 22, .any, none⟩,
                ⟨4, [22], [], some 23, .any, none⟩,
                ⟨5, [23], [], some 24, .any, none⟩,
                ⟨6, [3], [101], some 25, .any, none⟩,
                ⟨7, [25], [101], some 26, .any, none⟩,
                ⟨8, [5], [], some 27, .any, none⟩,
                ⟨9, [26, 27], [], some 28, .any, none⟩,
                ⟨10, [28], [], some 29, .any, none⟩,
                ⟨11, [29], [], some 30, .any, none⟩,
                ⟨12, [24, 30], [], some 31, .any, none⟩]
            mixed_ok rfl (by kernel_rfl) ⟨DS.ok_over fun s0 => OpAt.go rfl rfl (q_fa),
                DS.ok_over fun s0 => OpAt.go rfl rfl (q_load),
                DS.ok_over fun s0 => OpAt.go rfl rfl (q_move),
                DS.ok_over fun s0 => OpAt.go rfl rfl (q_ix),
                DS.ok_over fun s0 => OpAt.go rfl rfl (q_load),
                DS.ok_over fun s0 => OpAt.go rfl rfl (by first | exact q_conv_zs | exact q_conv_ls),
                DS.ok_over fun s0 => OpAt.go rfl rfl (q_fa),
                DS.ok_over fun s0 => OpAt.go rfl rfl (q_load),
                DS.ok_over fun s0 => OpAt.go rfl rfl (q_move),
                DS.ok_over fun s0 => OpAt.go rfl rfl (q_ix),
                DS.ok_over fun s0 => OpAt.go rfl rfl (q_load),
                DS.ok_over fun s0 => OpAt.go rfl rfl (by first | exact q_conv_zs | exact q_conv_ls),
                DS.ok_over fun s0 => OpAt.go rfl rfl ((OpOk.dec_t (q_sneq) (he))), trivial⟩ ?_
          dsimp only [final, DS.upd, AS.seto]
          refine AWp.cond_t rfl ?_
          refine AWp.seq ?_
          refine AWp.region ?_
          refine AOps.cons rfl rfl (q_assign) ?_
          refine AOps.nil ?_
          refine AWp.ret ?_
          show Fin te Try.f20 _ _
          refine q_ret (0) [_] [_] ?_
          rw [decide_eq_false (fun e => he (by rw [e]))]; rfl
      · skip
        refine AOps.nil ?_
        refine AWp.seq ?_
        refine AWp.cond_f rfl ?_
        refine AWp.exit ?_
        refine AWp.seq ?_
        refine AWp.region ?_
        have e8 : a.ds = b.ds := by rw [List.take_of_length_le (by omega), List.take_of_length_le (by omega)] at hI; exact hI
        refine AOps.cons rfl rfl (q_fa) ?_
        refine AOps.cons rfl rfl (q_load) ?_
        refine AOps.cons rfl rfl (q_fa) ?_
        refine AOps.cons rfl rfl (q_load) ?_
        refine AOps.dec rfl rfl (q_seql) (fun h9_4 => ?_) (fun h9_4 => ?_)
        · skip
          refine AOps.cons rfl rfl (q_move) ?_
          refine AOps.gcons rfl rfl rfl rfl rfl (q_fa) ?_
          refine AOps.gcons rfl rfl rfl rfl rfl (q_load) ?_
          refine AOps.gcons rfl rfl rfl rfl rfl (q_fa) ?_
          refine AOps.gcons rfl rfl rfl rfl rfl (q_load) ?_
          refine AOps.gdec rfl rfl rfl rfl rfl (q_eql) (fun h9_10 => ?_) (fun h9_10 => ?_)
          · skip
            refine AOps.cons rfl rfl (q_pick) ?_
            refine AOps.cons rfl rfl (q_move) ?_
            refine AOps.gcons rfl rfl rfl rfl rfl (q_fa) ?_
            refine AOps.gcons rfl rfl rfl rfl rfl (q_load) ?_
            refine AOps.gcons rfl rfl rfl rfl rfl (q_fa) ?_
            refine AOps.gcons rfl rfl rfl rfl rfl (q_load) ?_
            refine AOps.gdec rfl rfl rfl rfl rfl (q_eql) (fun h9_17 => ?_) (fun h9_17 => ?_)
            · skip
              refine AOps.cons rfl rfl (q_pick) ?_
              refine AOps.cons rfl rfl (q_move) ?_
              refine AOps.gcons rfl rfl rfl rfl rfl (q_fa) ?_
              refine AOps.gcons rfl rfl rfl rfl rfl (q_load) ?_
              refine AOps.gcons rfl rfl rfl rfl rfl (q_fa) ?_
              refine AOps.gcons rfl rfl rfl rfl rfl (q_load) ?_
              refine AOps.gdec rfl rfl rfl rfl rfl (q_eql) (fun h9_24 => ?_) (fun h9_24 => ?_)
              · skip
                refine AOps.cons rfl rfl (q_pick) ?_
                refine AOps.cons rfl rfl (q_move) ?_
                refine AOps.gcons rfl rfl rfl rfl rfl (q_fa) ?_
                refine AOps.gcons rfl rfl rfl rfl rfl (q_load) ?_
                refine AOps.gcons rfl rfl rfl rfl rfl (q_fa) ?_
                refine AOps.gcons rfl rfl rfl rfl rfl (q_load) ?_
                refine AOps.gdec rfl rfl rfl rfl rfl (q_eql) (fun h9_31 => ?_) (fun h9_31 => ?_)
                · skip
                  refine AOps.cons rfl rfl (q_pick) ?_
                  refine AOps.cons rfl rfl (q_move) ?_
                  refine AOps.gcons rfl rfl rfl rfl rfl (q_fa) ?_
                  refine AOps.gcons rfl rfl rfl rfl rfl (q_load) ?_
                  refine AOps.gcons rfl rfl rfl rfl rfl (q_fa) ?_
                  refine AOps.gcons rfl rfl rfl rfl rfl (q_load) ?_
                  refine AOps.gdec rfl rfl rfl rfl rfl (q_eql) (fun h9_38 => ?_) (fun h9_38 => ?_)
                  · skip
                    refine AOps.cons rfl rfl (q_pick) ?_
                    refine AOps.cons rfl rfl (q_move) ?_
                    refine AOps.gcons rfl rfl rfl rfl rfl (q_fa) ?_
                    refine AOps.gcons rfl rfl rfl rfl rfl (q_load) ?_
                    refine AOps.gcons rfl rfl rfl rfl rfl (q_fa) ?_
                    refine AOps.gcons rfl rfl rfl rfl rfl (q_load) ?_
                    refine AOps.gcons rfl rfl rfl rfl rfl (q_seql) ?_
                    refine AOps.cons rfl rfl (q_pick) ?_
                    refine AOps.cons rfl rfl (q_assign) ?_
                    refine AOps.nil ?_
                    refine AWp.ret ?_
                    show Fin te Try.f20 _ _
                    refine q_ret (0) [_] [_] ?_
                    exact congrArg tf (decide_eq_decide.2 (by rw [set_eq]; simp [*]))
                  · skip
                    refine AOps.cons rfl rfl (q_pick) ?_
                    refine AOps.cons rfl rfl (q_move) ?_
                    refine AOps.gskip rfl rfl rfl rfl rfl rfl rfl rfl ?_
                    refine AOps.gskip rfl rfl rfl rfl rfl rfl rfl rfl ?_
                    refine AOps.gskip rfl rfl rfl rfl rfl rfl rfl rfl ?_
                    refine AOps.gskip rfl rfl rfl rfl rfl rfl rfl rfl ?_
                    refine AOps.gskip rfl rfl rfl rfl rfl rfl rfl rfl ?_
                    refine AOps.cons rfl rfl (q_pick) ?_
                    refine AOps.cons rfl rfl (q_assign) ?_
                    refine AOps.nil ?_
                    refine AWp.ret ?_
                    show Fin te Try.f20 _ _
                    refine q_ret (0) [_] [_] ?_
                    rw [decide_eq_false (fun e => h9_38 (by rw [e]))]; rfl
                · skip
                  refine AOps.cons rfl rfl (q_pick) ?_
                  refine AOps.cons rfl rfl (q_move) ?_
                  refine AOps.gskip rfl rfl rfl rfl rfl rfl rfl rfl ?_
                  refine AOps.gskip rfl rfl rfl rfl rfl rfl rfl rfl ?_
                  refine AOps.gskip rfl rfl rfl rfl rfl rfl rfl rfl ?_
                  refine AOps.gskip rfl rfl rfl rfl rfl rfl rfl rfl ?_
                  refine AOps.gskip rfl rfl rfl rfl rfl rfl rfl rfl ?_
                  refine AOps.cons rfl rfl (q_pick) ?_
                  refine AOps.cons rfl rfl (q_move) ?_
                  refine AOps.gskip rfl rfl rfl rfl rfl rfl rfl rfl ?_
                  refine AOps.gskip rfl rfl rfl rfl rfl rfl rfl rfl ?_
                  refine AOps.gskip rfl rfl rfl rfl rfl rfl rfl rfl ?_
                  refine AOps.gskip rfl rfl rfl rfl rfl rfl rfl rfl ?_
                  refine AOps.gskip rfl rfl rfl rfl rfl rfl rfl rfl ?_
                  refine AOps.cons rfl rfl (q_pick) ?_
                  refine AOps.cons rfl rfl (q_assign) ?_
                  refine AOps.nil ?_
                  refine AWp.ret ?_
                  show Fin te Try.f20 _ _
                  refine q_ret (0) [_] [_] ?_
                  rw [decide_eq_false (fun e => h9_31 (by rw [e]))]; rfl
              · skip
                refine AOps.cons rfl rfl (q_pick) ?_
                refine AOps.cons rfl rfl (q_move) ?_
                refine AOps.gskip rfl rfl rfl rfl rfl rfl rfl rfl ?_
                refine AOps.gskip rfl rfl rfl rfl rfl rfl rfl rfl ?_
                refine AOps.gskip rfl rfl rfl rfl rfl rfl rfl rfl ?_
                refine AOps.gskip rfl rfl rfl rfl rfl rfl rfl rfl ?_
                refine AOps.gskip rfl rfl rfl rfl rfl rfl rfl rfl ?_
                refine AOps.cons rfl rfl (q_pick) ?_
                refine AOps.cons rfl rfl (q_move) ?_
                refine AOps.gskip rfl rfl rfl rfl rfl rfl rfl rfl ?_
                refine AOps.gskip rfl rfl rfl rfl rfl rfl rfl rfl ?_
                refine AOps.gskip rfl rfl rfl rfl rfl rfl rfl rfl ?_
                refine AOps.gskip rfl rfl rfl rfl rfl rfl rfl rfl ?_
                refine AOps.gskip rfl rfl rfl rfl rfl rfl rfl rfl ?_
                refine AOps.cons rfl rfl (q_pick) ?_
                refine AOps.cons rfl rfl (q_move) ?_
                refine AOps.gskip rfl rfl rfl rfl rfl rfl rfl rfl ?_
                refine AOps.gskip rfl rfl rfl rfl rfl rfl rfl rfl ?_
                refine AOps.gskip rfl rfl rfl rfl rfl rfl rfl rfl ?_
                refine AOps.gskip rfl rfl rfl rfl rfl rfl rfl rfl ?_
                refine AOps.gskip rfl rfl rfl rfl rfl rfl rfl rfl ?_
                refine AOps.cons rfl rfl (q_pick) ?_
                refine AOps.cons rfl rfl (q_assign) ?_
                refine AOps.nil ?_
                refine AWp.ret ?_
                show Fin te Try.f20 _ _
                refine q_ret (0) [_] [_] ?_
                rw [decide_eq_false (fun e => h9_24 (by rw [e]))]; rfl
            · skip
              refine AOps.cons rfl rfl (q_pick) ?_
              refine AOps.cons rfl rfl (q_move) ?_
              refine AOps.gskip rfl rfl rfl rfl rfl rfl rfl rfl ?_
              refine AOps.gskip rfl rfl rfl rfl rfl rfl rfl rfl ?_
              refine AOps.gskip rfl rfl rfl rfl rfl rfl rfl rfl ?_
              refine AOps.gskip rfl rfl rfl rfl rfl rfl rfl rfl ?_
              refine AOps.gskip rfl rfl rfl rfl rfl rfl rfl rfl ?_
              refine AOps.cons rfl rfl (q_pick) ?_
              refine AOps.cons rfl rfl (q_move) ?_
              refine AOps.gskip rfl rfl rfl rfl rfl rfl rfl rfl ?_
              refine AOps.gskip rfl rfl rfl rfl rfl rfl rfl rfl ?_
              refine AOps.gskip rfl rfl rfl rfl rfl rfl rfl rfl ?_
              refine AOps.gskip rfl rfl rfl rfl rfl rfl rfl rfl ?_
              refine AOps.gskip rfl rfl rfl rfl rfl rfl rfl rfl ?_
              refine AOps.cons rfl rfl (q_pick) ?_
              refine AOps.cons rfl rfl (q_move) ?_
              refine AOps.gskip rfl rfl rfl rfl rfl rfl rfl rfl ?_
              refine AOps.gskip rfl rfl rfl rfl rfl rfl rfl rfl ?_
              refine AOps.gskip rfl rfl rfl rfl rfl rfl rfl rfl ?_
              refine AOps.gskip rfl rfl rfl rfl rfl rfl rfl rfl ?_
              refine AOps.gskip rfl rfl rfl rfl rfl rfl rfl rfl ?_
              refine AOps.cons rfl rfl (q_pick) ?_
              refine AOps.cons rfl rfl (q_move) ?_
              refine AOps.gskip rfl rfl rfl rfl rfl rfl rfl rfl ?_
              refine AOps.gskip rfl rfl rfl rfl rfl rfl rfl rfl ?_
              refine AOps.gskip rfl rfl rfl rfl rfl rfl rfl rfl ?_
              refine AOps.gskip rfl rfl rfl rfl rfl rfl rfl rfl ?_
              refine AOps.gskip rfl rfl rfl rfl rfl rfl rfl rfl ?_
              refine AOps.cons rfl rfl (q_pick) ?_
              refine AOps.cons rfl rfl (q_assign) ?_
              refine AOps.nil ?_
              refine AWp.ret ?_
              show Fin te Try.f20 _ _
              refine q_ret (0) [_] [_] ?_
              rw [decide_eq_false (fun e => h9_17 (by rw [e]))]; rfl
          · skip
            refine AOps.cons rfl rfl (q_pick) ?_
            refine AOps.cons rfl rfl (q_move) ?_
            refine AOps.gskip rfl rfl rfl rfl rfl rfl rfl rfl ?_
            refine AOps.gskip rfl rfl rfl rfl rfl rfl rfl rfl ?_
            refine AOps.gskip rfl rfl rfl rfl rfl rfl rfl rfl ?_
            refine AOps.gskip rfl rfl rfl rfl rfl rfl rfl rfl ?_
            refine AOps.gskip rfl rfl rfl rfl rfl rfl rfl rfl ?_
            refine AOps.cons rfl rfl (q_pick) ?_
            refine AOps.cons rfl rfl (q_move) ?_
            refine AOps.gskip rfl rfl rfl rfl rfl rfl rfl rfl ?_
            refine AOps.gskip rfl rfl rfl rfl rfl rfl rfl rfl ?_
            refine AOps.gskip rfl rfl rfl rfl rfl rfl rfl rfl ?_
            refine AOps.gskip rfl rfl rfl rfl rfl rfl rfl rfl ?_
            refine AOps.gskip rfl rfl rfl rfl rfl rfl rfl rfl ?_
            refine AOps.cons rfl rfl (q_pick) ?_
            refine AOps.cons rfl rfl (q_move) ?_
            refine AOps.gskip rfl rfl rfl rfl rfl rfl rfl rfl ?_
            refine AOps.gskip rfl rfl rfl rfl rfl rfl rfl rfl ?_
            refine AOps.gskip rfl rfl rfl rfl rfl rfl rfl rfl ?_
            refine AOps.gskip rfl rfl rfl rfl rfl rfl rfl rfl ?_
            refine AOps.gskip rfl rfl rfl rfl rfl rfl rfl rfl ?_
            refine AOps.cons rfl rfl (q_pick) ?_
            refine AOps.cons rfl rfl (q_move) ?_
            refine AOps.gskip rfl rfl rfl rfl rfl rfl rfl rfl ?_
            refine AOps.gskip rfl rfl rfl rfl rfl rfl rfl rfl ?_
            refine AOps.gskip rfl rfl rfl rfl rfl rfl rfl rfl ?_
            refine AOps.gskip rfl rfl rfl rfl rfl rfl rfl rfl ?_
            refine AOps.gskip rfl rfl rfl rfl rfl rfl rfl rfl ?_
            refine AOps.cons rfl rfl (q_pick) ?_
            refine AOps.cons rfl rfl (q_move) ?_
            refine AOps.gskip rfl rfl rfl rfl rfl rfl rfl rfl ?_
            refine AOps.gskip rfl rfl rfl rfl rfl rfl rfl rfl ?_
            refine AOps.gskip rfl rfl rfl rfl rfl rfl rfl rfl ?_
            refine AOps.gskip rfl rfl rfl rfl rfl rfl rfl rfl ?_
            refine AOps.gskip rfl rfl rfl rfl rfl rfl rfl rfl ?_
            refine AOps.cons rfl rfl (q_pick) ?_
            refine AOps.cons rfl rfl (q_assign) ?_
            refine AOps.nil ?_
            refine AWp.ret ?_
            show Fin te Try.f20 _ _
            refine q_ret (0) [_] [_] ?_
            rw [decide_eq_false (fun e => h9_10 (by rw [e]))]; rfl
        · skip
          refine AOps.cons rfl rfl (q_move) ?_
          refine AOps.gskip rfl rfl rfl rfl rfl rfl rfl rfl ?_
          refine AOps.gskip rfl rfl rfl rfl rfl rfl rfl rfl ?_
          refine AOps.gskip rfl rfl rfl rfl rfl rfl rfl rfl ?_
          refine AOps.gskip rfl rfl rfl rfl rfl rfl rfl rfl ?_
          refine AOps.gskip rfl rfl rfl rfl rfl rfl rfl rfl ?_
          refine AOps.cons rfl rfl (q_pick) ?_
          refine AOps.cons rfl rfl (q_move) ?_
          refine AOps.gskip rfl rfl rfl rfl rfl rfl rfl rfl ?_
          refine AOps.gskip rfl rfl rfl rfl rfl rfl rfl rfl ?_
          refine AOps.gskip rfl rfl rfl rfl rfl rfl rfl rfl ?_
          refine AOps.gskip rfl rfl rfl rfl rfl rfl rfl rfl ?_
          refine AOps.gskip rfl rfl rfl rfl rfl rfl rfl rfl ?_
          refine AOps.cons rfl rfl (q_pick) ?_
          refine AOps.cons rfl rfl (q_move) ?_
          refine AOps.gskip rfl rfl rfl rfl rfl rfl rfl rfl ?_
          refine AOps.gskip rfl rfl rfl rfl rfl rfl rfl rfl ?_
          refine AOps.gskip rfl rfl rfl rfl rfl rfl rfl rfl ?_
          refine AOps.gskip rfl rfl rfl rfl rfl rfl rfl rfl ?_
          refine AOps.gskip rfl rfl rfl rfl rfl rfl rfl rfl ?_
          refine AOps.cons rfl rfl (q_pick) ?_
          refine AOps.cons rfl rfl (q_move) ?_
          refine AOps.gskip rfl rfl rfl rfl rfl rfl rfl rfl ?_
          refine AOps.gskip rfl rfl rfl rfl rfl rfl rfl rfl ?_
          refine AOps.gskip rfl rfl rfl rfl rfl rfl rfl rfl ?_
          refine AOps.gskip rfl rfl rfl rfl rfl rfl rfl rfl ?_
          refine AOps.gskip rfl rfl rfl rfl rfl rfl rfl rfl ?_
          refine AOps.cons rfl rfl (q_pick) ?_
          refine AOps.cons rfl rfl (q_move) ?_
          refine AOps.gskip rfl rfl rfl rfl rfl rfl rfl rfl ?_
          refine AOps.gskip rfl rfl rfl rfl rfl rfl rfl rfl ?_
          refine AOps.gskip rfl rfl rfl rfl rfl rfl rfl rfl ?_
          refine AOps.gskip rfl rfl rfl rfl rfl rfl rfl rfl ?_
          refine AOps.gskip rfl rfl rfl rfl rfl rfl rfl rfl ?_
          refine AOps.cons rfl rfl (q_pick) ?_
          refine AOps.cons rfl rfl (q_move) ?_
          refine AOps.gskip rfl rfl rfl rfl rfl rfl rfl rfl ?_
          refine AOps.gskip rfl rfl rfl rfl rfl rfl rfl rfl ?_
          refine AOps.gskip rfl rfl rfl rfl rfl rfl rfl rfl ?_
          refine AOps.gskip rfl rfl rfl rfl rfl rfl rfl rfl ?_
          refine AOps.gskip rfl rfl rfl rfl rfl rfl rfl rfl ?_
          refine AOps.cons rfl rfl (q_pick) ?_
          refine AOps.cons rfl rfl (q_assign) ?_
          refine AOps.nil ?_
          refine AWp.ret ?_
          show Fin te Try.f20 _ _
          refine q_ret (0) [_] [_] ?_
          rw [decide_eq_false (fun e => h9_4 (by rw [e]))]; rfl

set_option maxRecDepth 20000 in
theorem c_entry_key (x : ESet) (hx : SetOk x) : AC Try.prog 35 [.agg (setC x)] emp (Ret (tf (keyO x))) := by
  obtain ⟨h1, _⟩ := id hx
  refine AC.intro te_ok (fn := Try.f35) ⟨Try.func35, rfl, rfl⟩ (Nat.le_of_ble_eq_true rfl) ?_
  refine AWp.seq ?_
  refine AWp.region ?_
  refine AOps.cons rfl rfl (q_box 100) ?_
  refine AOps.cons rfl rfl (q_assign) ?_
  refine AOps.nil ?_
  refine AWp.seq ?_
  refine AWp.region ?_
  refine AOps.cons rfl rfl (q_fa) ?_
  refine AOps.cons rfl rfl (q_load) ?_
  refine AOps.bool rfl rfl (q_call (0) (hc := c_name_Can _ (by first | assumption | omega | decide | (simp; omega) | (simp [*]; done)))) (fun h1_2 => ?_) (fun h1_2 => ?_)
  · skip
    refine AOps.cons rfl rfl (q_move) ?_
    refine AOps.gcons rfl rfl rfl rfl rfl (q_fa) ?_
    refine AOps.gcons rfl rfl rfl rfl rfl (q_load) ?_
    refine AOps.gdec rfl rfl rfl rfl rfl (q_geq) (fun h1_6 => ?_) (fun h1_6 => ?_)
    · skip
      refine AOps.cons rfl rfl (q_pick) ?_
      refine AOps.cons rfl rfl (q_move) ?_
      refine AOps.gcons rfl rfl rfl rfl rfl (q_fa) ?_
      refine AOps.gcons rfl rfl rfl rfl rfl (q_load) ?_
      refine AOps.gdec rfl rfl rfl rfl rfl (q_lss) (fun h1_11 => ?_) (fun h1_11 => ?_)
      · skip
        refine AOps.cons rfl rfl (q_pick) ?_
        refine AOps.cons rfl rfl (q_move) ?_
        refine AOps.gcons rfl rfl rfl rfl rfl (q_fa) ?_
        refine AOps.gcons rfl rfl rfl rfl rfl (q_load) ?_
        refine AOps.gdec rfl rfl rfl rfl rfl (q_geq) (fun h1_16 => ?_) (fun h1_16 => ?_)
        · skip
          refine AOps.cons rfl rfl (q_pick) ?_
          refine AOps.cons rfl rfl (q_move) ?_
          refine AOps.gcons rfl rfl rfl rfl rfl (q_fa) ?_
          refine AOps.gcons rfl rfl rfl rfl rfl (q_load) ?_
          refine AOps.gcons rfl rfl rfl rfl rfl (q_lss) ?_
          refine AOps.cons rfl rfl (q_pick) ?_
          refine AOps.cons rfl rfl (q_assign) ?_
          refine AOps.nil ?_
          refine AWp.ret ?_
          show Fin te Try.f35 _ _
          refine q_ret (0) [_] [_] ?_
          rw [keyO, h1_2, decide_eq_true h1_6, decide_eq_true h1_11, decide_eq_true h1_16]; rfl
        · skip
          refine AOps.cons rfl rfl (q_pick) ?_
          refine AOps.cons rfl rfl (q_move) ?_
          refine AOps.gskip rfl rfl rfl rfl rfl rfl rfl rfl ?_
          refine AOps.gskip rfl rfl rfl rfl rfl rfl rfl rfl ?_
          refine AOps.gskip rfl rfl rfl rfl rfl rfl rfl rfl ?_
          refine AOps.cons rfl rfl (q_pick) ?_
          refine AOps.cons rfl rfl (q_assign) ?_
          refine AOps.nil ?_
          refine AWp.ret ?_
          show Fin te Try.f35 _ _
          refine q_ret (0) [_] [_] ?_
          rw [keyO, h1_2, decide_eq_true h1_6, decide_eq_true h1_11, decide_eq_false h1_16]; rfl
      · skip
        refine AOps.cons rfl rfl (q_pick) ?_
        refine AOps.cons rfl rfl (q_move) ?_
        refine AOps.gskip rfl rfl rfl rfl rfl rfl rfl rfl ?_
        refine AOps.gskip rfl rfl rfl rfl rfl rfl rfl rfl ?_
        refine AOps.gskip rfl rfl rfl rfl rfl rfl rfl rfl ?_
        refine AOps.cons rfl rfl (q_pick) ?_
        refine AOps.cons rfl rfl (q_move) ?_
        refine AOps.gskip rfl rfl rfl rfl rfl rfl rfl rfl ?_
        refine AOps.gskip rfl rfl rfl rfl rfl rfl rfl rfl ?_
        refine AOps.gskip rfl rfl rfl rfl rfl rfl rfl rfl ?_
        refine AOps.cons rfl rfl (q_pick) ?_
        refine AOps.cons rfl rfl (q_assign) ?_
        refine AOps.nil ?_
        refine AWp.ret ?_
        show Fin te Try.f35 _ _
        refine q_ret (0) [_] [_] ?_
        rw [keyO, h1_2, decide_eq_true h1_6, decide_eq_false h1_11]; rfl
    · skip
      refine AOps.cons rfl rfl (q_pick) ?_
      refine AOps.cons rfl rfl (q_move) ?_
      refine AOps.gskip rfl rfl rfl rfl rfl rfl rfl rfl ?_
      refine AOps.gskip rfl rfl rfl rfl rfl rfl rfl rfl ?_
      refine AOps.gskip rfl rfl rfl rfl rfl rfl rfl rfl ?_
      refine AOps.cons rfl rfl (q_pick) ?_
      refine AOps.cons rfl rfl (q_move) ?_
      refine AOps.gskip rfl rfl rfl rfl rfl rfl rfl rfl ?_
      refine AOps.gskip rfl rfl rfl rfl rfl rfl rfl rfl ?_
      refine AOps.gskip rfl rfl rfl rfl rfl rfl rfl rfl ?_
      refine AOps.cons rfl rfl (q_pick) ?_
      refine AOps.cons rfl rfl (q_move) ?_
      refine AOps.gskip rfl rfl rfl rfl rfl rfl rfl rfl ?_
      refine AOps.gskip rfl rfl rfl rfl rfl rfl rfl rfl ?_
      refine AOps.gskip rfl rfl rfl rfl rfl rfl rfl rfl ?_
      refine AOps.cons rfl rfl (q_pick) ?_
      refine AOps.cons rfl rfl (q_assign) ?_
      refine AOps.nil ?_
      refine AWp.ret ?_
      show Fin te Try.f35 _ _
      refine q_ret (0) [_] [_] ?_
      rw [keyO, h1_2, decide_eq_false h1_6]; rfl
  · skip
    refine AOps.cons rfl rfl (q_move) ?_
    refine AOps.gskip rfl rfl rfl rfl rfl rfl rfl rfl ?_
    refine AOps.gskip rfl rfl rfl rfl rfl rfl rfl rfl ?_
    refine AOps.gskip rfl rfl rfl rfl rfl rfl rfl rfl ?_
    refine AOps.cons rfl rfl (q_pick) ?_
    refine AOps.cons rfl rfl (q_move) ?_
    refine AOps.gskip rfl rfl rfl rfl rfl rfl rfl rfl ?_
    refine AOps.gskip rfl rfl rfl rfl rfl rfl rfl rfl ?_
    refine AOps.gskip rfl rfl rfl rfl rfl rfl rfl rfl ?_
    refine AOps.cons rfl rfl (q_pick) ?_
    refine AOps.cons rfl rfl (q_move) ?_
    refine AOps.gskip rfl rfl rfl rfl rfl rfl rfl rfl ?_
    refine AOps.gskip rfl rfl rfl rfl rfl rfl rfl rfl ?_
    refine AOps.gskip rfl rfl rfl rfl rfl rfl rfl rfl ?_
    refine AOps.cons rfl rfl (q_pick) ?_
    refine AOps.cons rfl rfl (q_move) ?_
    refine AOps.gskip rfl rfl rfl rfl rfl rfl rfl rfl ?_
    refine AOps.gskip rfl rfl rfl rfl rfl rfl rfl rfl ?_
    refine AOps.gskip rfl rfl rfl rfl rfl rfl rfl rfl ?_
    refine AOps.cons rfl rfl (q_pick) ?_
    refine AOps.cons rfl rfl (q_assign) ?_
    refine AOps.nil ?_
    refine AWp.ret ?_
    show Fin te Try.f35 _ _
    refine q_ret (0) [_] [_] ?_
    rw [keyO, h1_2]; rfl

end Go.Proofs.Ytaemmklgofddmaa.Fw

/- Walks of layer 8: sameness and copies of sets. -/
set_option linter.unusedVariables false
set_option linter.unusedSimpArgs false
namespace Go.Proofs.Ytaemmklgofddmaa.Fw
open Go.RowKit

def eqF {α : Type} (g : α → α → Bool) : List α → List α → Bool
  | [], [] => true
  | a :: l, b :: m => g a b && eqF g l m
  | _, _ => false
theorem eqF_len {α : Type} {g : α → α → Bool} : ∀ {l m : List α}, l.length ≠ m.length → eqF g l m = false
  | [], [], h => absurd rfl h
  | [], _ :: _, _ => rfl
  | _ :: _, [], _ => rfl
  | a :: l, b :: m, h => by simp [eqF, eqF_len (l := l) (m := m) (by simpa using h)]
theorem eqF_at {α : Type} [Inhabited α] {g : α → α → Bool} : ∀ {l m : List α} {i : Nat}, l.length = m.length → i < l.length → g (l.getD i default) (m.getD i default) = false → eqF g l m = false
  | a :: l, b :: m, 0, _, _, h => by simp_all [eqF]
  | a :: l, b :: m, i + 1, h1, h2, h => by
    simp [eqF, eqF_at (l := l) (m := m) (i := i) (by simpa using h1) (by simpa using h2) (by simpa using h)]
theorem eqF_all {α : Type} [Inhabited α] {g : α → α → Bool} : ∀ {l m : List α}, l.length = m.length → (∀ i, i < l.length → g (l.getD i default) (m.getD i default) = true) → eqF g l m = true
  | [], [], _, _ => rfl
  | a :: l, b :: m, h, k => by
    have h0 := k 0 (by simp)
    simp only [eqF, Bool.and_eq_true]
    exact ⟨by simpa using h0, eqF_all (by simpa using h) fun i hi => by simpa using k (i + 1) (by simpa using hi)⟩
theorem eqF_dec {α : Type} [DecidableEq α] : ∀ {l m : List α}, eqF (fun a b => decide (a = b)) l m = decide (l = m)
  | [], [] => rfl
  | [], _ :: _ => rfl
  | _ :: _, [] => rfl
  | a :: l, b :: m => by simp [eqF, eqF_dec (l := l) (m := m)]

set_option maxRecDepth 20000 in
theorem c_EqualFunc_bytes (l m : List (List UInt8)) (lv lv' lw lw' : Nat) (g : List UInt8 → List UInt8 → Bool) {fid : Nat} (hl : l.length ≤ 140737488351232) (hg : ∀ x ∈ l, ∀ y ∈ m, AC Try.prog fid [.fz lv' x.length (cl bc x), .fz lw' y.length (cl bc y)] emp (Ret (tf (g x y)))) : AC Try.prog 44 [.fz lv l.length (cl (lc lv' bc) l), .fz lw m.length (cl (lc lw' bc) m), .fn (.func fid) [] []] emp (Ret (tf (eqF g l m))) := by
  refine AC.intro te_ok (fn := Try.f44) ⟨Try.func44, rfl, rfl⟩ (Nat.le_of_ble_eq_true rfl) ?_
  refine AWp.seq ?_
  refine AWp.region ?_
  refine AOps.cons rfl rfl (q_assign) ?_
  refine AOps.nil ?_
  refine AWp.seq ?_
  refine AWp.seq ?_
  refine AWp.region ?_
  refine AOps.cons rfl rfl (q_move) ?_
  refine AOps.cons rfl rfl (q_len) ?_
  refine AOps.cons rfl rfl (q_move) ?_
  refine AOps.cons rfl rfl (q_len) ?_
  refine AOps.dec rfl rfl (q_neq) (fun h1_4 => ?_) (fun h1_4 => ?_)
  · skip
    refine AOps.nil ?_
    refine AWp.cond_t rfl ?_
    refine AWp.seq ?_
    refine AWp.region ?_
    refine AOps.cons rfl rfl (q_assign) ?_
    refine AOps.nil ?_
    refine AWp.ret ?_
    show Fin te Try.f44 _ _
    refine q_ret (0) [_] [_] ?_
    exact congrArg tf (eqF_len (by omega)).symm
  · skip
    refine AOps.nil ?_
    refine AWp.cond_f rfl ?_
    refine AWp.skip ?_
    refine AWp.seq ?_
    refine AWp.seq ?_
    refine AWp.region ?_
    refine AOps.cons rfl rfl (q_move) ?_
    refine AOps.cons rfl rfl (q_len) ?_
    refine AOps.cons rfl rfl (q_move) ?_
    refine AOps.nil ?_
    refine AWp.block ?_
    refine AWp.loopR (α := Nat) [6, 7, 8, 9, 17, 18, 19, 20, 21, 22, 23, 24, 25, 26, 27, 28, 29, 30, 31] (fun i => [(17, i64 i)]) (fun i => []) (fun i => i ≤ l.length ∧ ∀ k, k < i → g (l.getD k default) (m.getD k default) = true) (fun i => l.length - i) 0 ?_ (Back.mk' (HasT.cons HasT.nil) HasH.nil) ?_
    · exact ⟨Nat.zero_le _, fun k h => by omega⟩
    · rintro i ⟨hi, hI⟩
      have hlen : l.length = m.length := by omega
      refine AWp.seq ?_
      refine AWp.region ?_
      refine AOps.dec rfl rfl (q_lss) (fun h4_0 => ?_) (fun h4_0 => ?_)
      · skip
        refine AOps.nil ?_
        refine AWp.seq ?_
        refine AWp.cond_t rfl ?_
        refine AWp.skip ?_
        refine AWp.seq ?_
        refine AWp.block ?_
        refine AWp.seq ?_
        refine AWp.region ?_
        refine AOps.cons rfl rfl (q_move) ?_
        refine AOps.cons rfl rfl (q_ix) ?_
        refine AOps.cons rfl rfl (q_load) ?_
        refine AOps.cons rfl rfl (q_assign) ?_
        refine AOps.cons rfl rfl (q_assign) ?_
        refine AOps.nil ?_
        refine AWp.seq ?_
        refine AWp.region ?_
        refine AOps.cons rfl rfl (q_move) ?_
        refine AOps.cons rfl rfl (q_move) ?_
        refine AOps.cons rfl rfl (q_ix) ?_
        refine AOps.cons rfl rfl (q_load) ?_
        refine AOps.cons rfl rfl (q_assign) ?_
        refine AOps.nil ?_
        refine AWp.seq ?_
        refine AWp.region ?_
        refine AOps.cons rfl rfl (q_move) ?_
        refine AOps.cons rfl rfl (q_move) ?_
        refine AOps.cons rfl rfl (q_move) ?_
        refine AOps.bool rfl rfl (q_call (lv + lv' + lw + lw') (hc := (hg _ (getD_mem (i := i) (by omega)) _ (getD_mem (i := i) (by omega))))) (fun h7_3 => ?_) (fun h7_3 => ?_)
        · skip
          refine AOps.cons rfl rfl (q_not) ?_
          refine AOps.nil ?_
          refine AWp.cond_f rfl ?_
          refine AWp.skip ?_
          refine AWp.region ?_
          refine AOps.cons rfl rfl (q_add) ?_
          refine AOps.cons rfl rfl (q_move) ?_
          refine AOps.nil ?_
          refine ⟨i + 1, ?_, Back.mk' (HasT.cons HasT.nil) HasH.nil, ?_⟩
          · refine ⟨by omega, fun k hk => ?_⟩
            rcases Nat.lt_or_ge k i with h | h
            · exact hI k h
            · obtain rfl : k = i := by omega
              exact h7_3
          · first | omega | (simp; omega)
        · skip
          refine AOps.cons rfl rfl (q_not) ?_
          refine AOps.nil ?_
          refine AWp.cond_t rfl ?_
          refine AWp.seq ?_
          refine AWp.region ?_
          refine AOps.cons rfl rfl (q_assign) ?_
          refine AOps.nil ?_
          refine AWp.ret ?_
          show Fin te Try.f44 _ _
          refine q_ret (0) [_] [_] ?_
          exact congrArg tf (eqF_at (i := i) hlen (by omega) h7_3).symm
      · skip
        refine AOps.nil ?_
        refine AWp.seq ?_
        refine AWp.cond_f rfl ?_
        refine AWp.exit ?_
        refine AWp.seq ?_
        refine AWp.region ?_
        refine AOps.cons rfl rfl (q_assign) ?_
        refine AOps.nil ?_
        refine AWp.ret ?_
        show Fin te Try.f44 _ _
        refine q_ret (0) [_] [_] ?_
        exact congrArg tf (eqF_all hlen fun k hk => hI k (by omega)).symm

set_option maxRecDepth 20000 in
theorem c_entry_Same (a b : ESet) (ha : SetOk a) : AC Try.prog 18 [.agg (setC a), .agg (setC b)] emp (Ret (tf (decide (a = b)))) := by
  obtain ⟨_, _, h3, _⟩ := id ha
  refine AC.intro te_ok (fn := Try.f18) ⟨Try.func18, rfl, rfl⟩ (Nat.le_of_ble_eq_true rfl) ?_
  refine AWp.seq ?_
  refine AWp.region ?_
  refine AOps.cons rfl rfl (q_box 100) ?_
  refine AOps.cons rfl rfl (q_box 101) ?_
  refine AOps.cons rfl rfl (q_assign) ?_
  refine AOps.nil ?_
  refine AWp.seq ?_
  refine AWp.region ?_
  refine AOps.cons rfl rfl (q_fa) ?_
  refine AOps.cons rfl rfl (q_load) ?_
  refine AOps.cons rfl rfl (q_fa) ?_
  refine AOps.cons rfl rfl (q_load) ?_
  refine AOps.dec rfl rfl (q_seql) (fun h1_4 => ?_) (fun h1_4 => ?_)
  · skip
    refine AOps.cons rfl rfl (q_move) ?_
    refine AOps.gcons rfl rfl rfl rfl rfl (q_fa) ?_
    refine AOps.gcons rfl rfl rfl rfl rfl (q_load) ?_
    refine AOps.gcons rfl rfl rfl rfl rfl (q_fa) ?_
    refine AOps.gcons rfl rfl rfl rfl rfl (q_load) ?_
    refine AOps.gdec rfl rfl rfl rfl rfl (q_eql) (fun h1_10 => ?_) (fun h1_10 => ?_)
    · skip
      refine AOps.cons rfl rfl (q_pick) ?_
      refine AOps.cons rfl rfl (q_move) ?_
      refine AOps.gcons rfl rfl rfl rfl rfl (q_fa) ?_
      refine AOps.gcons rfl rfl rfl rfl rfl (q_load) ?_
      refine AOps.gcons rfl rfl rfl rfl rfl (q_fa) ?_
      refine AOps.gcons rfl rfl rfl rfl rfl (q_load) ?_
      refine AOps.gdec rfl rfl rfl rfl rfl (q_eql) (fun h1_17 => ?_) (fun h1_17 => ?_)
      · skip
        refine AOps.cons rfl rfl (q_pick) ?_
        refine AOps.cons rfl rfl (q_move) ?_
        refine AOps.gcons rfl rfl rfl rfl rfl (q_fa) ?_
        refine AOps.gcons rfl rfl rfl rfl rfl (q_load) ?_
        refine AOps.gcons rfl rfl rfl rfl rfl (q_fa) ?_
        refine AOps.gcons rfl rfl rfl rfl rfl (q_load) ?_
        refine AOps.gdec rfl rfl rfl rfl rfl (q_eql) (fun h1_24 => ?_) (fun h1_24 => ?_)
        · skip
          refine AOps.cons rfl rfl (q_pick) ?_
          refine AOps.cons rfl rfl (q_move) ?_
          refine AOps.gcons rfl rfl rfl rfl rfl (q_fa) ?_
          refine AOps.gcons rfl rfl rfl rfl rfl (q_load) ?_
          refine AOps.gcons rfl rfl rfl rfl rfl (q_fa) ?_
          refine AOps.gcons rfl rfl rfl rfl rfl (q_load) ?_
          refine AOps.gdec rfl rfl rfl rfl rfl (q_eql) (fun h1_31 => ?_) (fun h1_31 => ?_)
          · skip
            refine AOps.cons rfl rfl (q_pick) ?_
            refine AOps.cons rfl rfl (q_move) ?_
            refine AOps.gcons rfl rfl rfl rfl rfl (q_fa) ?_
            refine AOps.gcons rfl rfl rfl rfl rfl (q_load) ?_
            refine AOps.gcons rfl rfl rfl rfl rfl (q_fa) ?_
            refine AOps.gcons rfl rfl rfl rfl rfl (q_load) ?_
            refine AOps.gdec rfl rfl rfl rfl rfl (q_eql) (fun h1_38 => ?_) (fun h1_38 => ?_)
            · skip
              refine AOps.cons rfl rfl (q_pick) ?_
              refine AOps.cons rfl rfl (q_move) ?_
              refine AOps.gcons rfl rfl rfl rfl rfl (q_fa) ?_
              refine AOps.gcons rfl rfl rfl rfl rfl (q_load) ?_
              refine AOps.gcons rfl rfl rfl rfl rfl (q_fa) ?_
              refine AOps.gcons rfl rfl rfl rfl rfl (q_load) ?_
              refine AOps.gdec rfl rfl rfl rfl rfl (q_seql) (fun h1_45 => ?_) (fun h1_45 => ?_)
              · skip
                refine AOps.cons rfl rfl (q_pick) ?_
                refine AOps.cons rfl rfl (q_move) ?_
                refine AOps.gcons rfl rfl rfl rfl rfl (q_fa) ?_
                refine AOps.gcons rfl rfl rfl rfl rfl (q_load) ?_
                refine AOps.gcons rfl rfl rfl rfl rfl (q_fa) ?_
                refine AOps.gcons rfl rfl rfl rfl rfl (q_load) ?_
                refine AOps.gcons rfl rfl rfl rfl rfl (q_call (0) (hc := (c_EqualFunc_bytes a.ds b.ds 0 0 0 0 (fun p q => decide (p = q)) (by omega) (fun p _ q _ => c_bytes_Equal p q 0 0)))) ?_
                refine AOps.cons rfl rfl (q_pick) ?_
                refine AOps.cons rfl rfl (q_assign) ?_
                refine AOps.nil ?_
                refine AWp.ret ?_
                show Fin te Try.f18 _ _
                refine q_ret (0) [_] [_] ?_
                rw [eqF_dec]; exact congrArg tf (decide_eq_decide.2 (by rw [set_eq]; simp [*]))
              · skip
                refine AOps.cons rfl rfl (q_pick) ?_
                refine AOps.cons rfl rfl (q_move) ?_
                refine AOps.gskip rfl rfl rfl rfl rfl rfl rfl rfl ?_
                refine AOps.gskip rfl rfl rfl rfl rfl rfl rfl rfl ?_
                refine AOps.gskip rfl rfl rfl rfl rfl rfl rfl rfl ?_
                refine AOps.gskip rfl rfl rfl rfl rfl rfl rfl rfl ?_
                refine AOps.gskip rfl rfl rfl rfl rfl rfl rfl rfl ?_
                refine AOps.cons rfl rfl (q_pick) ?_
                refine AOps.cons rfl rfl (q_assign) ?_
                refine AOps.nil ?_
                refine AWp.ret ?_
                show Fin te Try.f18 _ _
                refine q_ret (0) [_] [_] ?_
                rw [decide_eq_false (fun e => h1_45 (by rw [e]))]; rfl
            · skip
              refine AOps.cons rfl rfl (q_pick) ?_
              refine AOps.cons rfl rfl (q_move) ?_
              refine AOps.gskip rfl rfl rfl rfl rfl rfl rfl rfl ?_
              refine AOps.gskip rfl rfl rfl rfl rfl rfl rfl rfl ?_
              refine AOps.gskip rfl rfl rfl rfl rfl rfl rfl rfl ?_
              refine AOps.gskip rfl rfl rfl rfl rfl rfl rfl rfl ?_
              refine AOps.gskip rfl rfl rfl rfl rfl rfl rfl rfl ?_
              refine AOps.cons rfl rfl (q_pick) ?_
              refine AOps.cons rfl rfl (q_move) ?_
              refine AOps.gskip rfl rfl rfl rfl rfl rfl rfl rfl ?_
              refine AOps.gskip rfl rfl rfl rfl rfl rfl rfl rfl ?_
              refine AOps.gskip rfl rfl rfl rfl rfl rfl rfl rfl ?_
              refine AOps.gskip rfl rfl rfl rfl rfl rfl rfl rfl ?_
              refine AOps.gskip rfl rfl rfl rfl rfl rfl rfl rfl ?_
              refine AOps.cons rfl rfl (q_pick) ?_
              refine AOps.cons rfl rfl (q_assign) ?_
              refine AOps.nil ?_
              refine AWp.ret ?_
              show Fin te Try.f18 _ _
              refine q_ret (0) [_] [_] ?_
              rw [decide_eq_false (fun e => h1_38 (by rw [e]))]; rfl
          · skip
            refine AOps.cons rfl rfl (q_pick) ?_
            refine AOps.cons rfl rfl (q_move) ?_
            refine AOps.gskip rfl rfl rfl rfl rfl rfl rfl rfl ?_
            refine AOps.gskip rfl rfl rfl rfl rfl rfl rfl rfl ?_
            refine AOps.gskip rfl rfl rfl rfl rfl rfl rfl rfl ?_
            refine AOps.gskip rfl rfl rfl rfl rfl rfl rfl rfl ?_
            refine AOps.gskip rfl rfl rfl rfl rfl rfl rfl rfl ?_
            refine AOps.cons rfl rfl (q_pick) ?_
            refine AOps.cons rfl rfl (q_move) ?_
            refine AOps.gskip rfl rfl rfl rfl rfl rfl rfl rfl ?_
            refine AOps.gskip rfl rfl rfl rfl rfl rfl rfl rfl ?_
            refine AOps.gskip rfl rfl rfl rfl rfl rfl rfl rfl ?_
            refine AOps.gskip rfl rfl rfl rfl rfl rfl rfl rfl ?_
            refine AOps.gskip rfl rfl rfl rfl rfl rfl rfl rfl ?_
            refine AOps.cons rfl rfl (q_pick) ?_
            refine AOps.cons rfl rfl (q_move) ?_
            refine AOps.gskip rfl rfl rfl rfl rfl rfl rfl rfl ?_
            refine AOps.gskip rfl rfl rfl rfl rfl rfl rfl rfl ?_
            refine AOps.gskip rfl rfl rfl rfl rfl rfl rfl rfl ?_
            refine AOps.gskip rfl rfl rfl rfl rfl rfl rfl rfl ?_
            refine AOps.gskip rfl rfl rfl rfl rfl rfl rfl rfl ?_
            refine AOps.cons rfl rfl (q_pick) ?_
            refine AOps.cons rfl rfl (q_assign) ?_
            refine AOps.nil ?_
            refine AWp.ret ?_
            show Fin te Try.f18 _ _
            refine q_ret (0) [_] [_] ?_
            rw [decide_eq_false (fun e => h1_31 (by rw [e]))]; rfl
        · skip
          refine AOps.cons rfl rfl (q_pick) ?_
          refine AOps.cons rfl rfl (q_move) ?_
          refine AOps.gskip rfl rfl rfl rfl rfl rfl rfl rfl ?_
          refine AOps.gskip rfl rfl rfl rfl rfl rfl rfl rfl ?_
          refine AOps.gskip rfl rfl rfl rfl rfl rfl rfl rfl ?_
          refine AOps.gskip rfl rfl rfl rfl rfl rfl rfl rfl ?_
          refine AOps.gskip rfl rfl rfl rfl rfl rfl rfl rfl ?_
          refine AOps.cons rfl rfl (q_pick) ?_
          refine AOps.cons rfl rfl (q_move) ?_
          refine AOps.gskip rfl rfl rfl rfl rfl rfl rfl rfl ?_
          refine AOps.gskip rfl rfl rfl rfl rfl rfl rfl rfl ?_
          refine AOps.gskip rfl rfl rfl rfl rfl rfl rfl rfl ?_
          refine AOps.gskip rfl rfl rfl rfl rfl rfl rfl rfl ?_
          refine AOps.gskip rfl rfl rfl rfl rfl rfl rfl rfl ?_
          refine AOps.cons rfl rfl (q_pick) ?_
          refine AOps.cons rfl rfl (q_move) ?_
          refine AOps.gskip rfl rfl rfl rfl rfl rfl rfl rfl ?_
          refine AOps.gskip rfl rfl rfl rfl rfl rfl rfl rfl ?_
          refine AOps.gskip rfl rfl rfl rfl rfl rfl rfl rfl ?_
          refine AOps.gskip rfl rfl rfl rfl rfl rfl rfl rfl ?_
          refine AOps.gskip rfl rfl rfl rfl rfl rfl rfl rfl ?_
          refine AOps.cons rfl rfl (q_pick) ?_
          refine AOps.cons rfl rfl (q_move) ?_
          refine AOps.gskip rfl rfl rfl rfl rfl rfl rfl rfl ?_
          refine AOps.gskip rfl rfl rfl rfl rfl rfl rfl rfl ?_
          refine AOps.gskip rfl rfl rfl rfl rfl rfl rfl rfl ?_
          refine AOps.gskip rfl rfl rfl rfl rfl rfl rfl rfl ?_
          refine AOps.gskip rfl rfl rfl rfl rfl rfl rfl rfl ?_
          refine AOps.cons rfl rfl (q_pick) ?_
          refine AOps.cons rfl rfl (q_assign) ?_
          refine AOps.nil ?_
          refine AWp.ret ?_
          show Fin te Try.f18 _ _
          refine q_ret (0) [_] [_] ?_
          rw [decide_eq_false (fun e => h1_24 (by rw [e]))]; rfl
      · skip
        refine AOps.cons rfl rfl (q_pick) ?_
        refine AOps.cons rfl rfl (q_move) ?_
        refine AOps.gskip rfl rfl rfl rfl rfl rfl rfl rfl ?_
        refine AOps.gskip rfl rfl rfl rfl rfl rfl rfl rfl ?_
        refine AOps.gskip rfl rfl rfl rfl rfl rfl rfl rfl ?_
        refine AOps.gskip rfl rfl rfl rfl rfl rfl rfl rfl ?_
        refine AOps.gskip rfl rfl rfl rfl rfl rfl rfl rfl ?_
        refine AOps.cons rfl rfl (q_pick) ?_
        refine AOps.cons rfl rfl (q_move) ?_
        refine AOps.gskip rfl rfl rfl rfl rfl rfl rfl rfl ?_
        refine AOps.gskip rfl rfl rfl rfl rfl rfl rfl rfl ?_
        refine AOps.gskip rfl rfl rfl rfl rfl rfl rfl rfl ?_
        refine AOps.gskip rfl rfl rfl rfl rfl rfl rfl rfl ?_
        refine AOps.gskip rfl rfl rfl rfl rfl rfl rfl rfl ?_
        refine AOps.cons rfl rfl (q_pick) ?_
        refine AOps.cons rfl rfl (q_move) ?_
        refine AOps.gskip rfl rfl rfl rfl rfl rfl rfl rfl ?_
        refine AOps.gskip rfl rfl rfl rfl rfl rfl rfl rfl ?_
        refine AOps.gskip rfl rfl rfl rfl rfl rfl rfl rfl ?_
        refine AOps.gskip rfl rfl rfl rfl rfl rfl rfl rfl ?_
        refine AOps.gskip rfl rfl rfl rfl rfl rfl rfl rfl ?_
        refine AOps.cons rfl rfl (q_pick) ?_
        refine AOps.cons rfl rfl (q_move) ?_
        refine AOps.gskip rfl rfl rfl rfl rfl rfl rfl rfl ?_
        refine AOps.gskip rfl rfl rfl rfl rfl rfl rfl rfl ?_
        refine AOps.gskip rfl rfl rfl rfl rfl rfl rfl rfl ?_
        refine AOps.gskip rfl rfl rfl rfl rfl rfl rfl rfl ?_
        refine AOps.gskip rfl rfl rfl rfl rfl rfl rfl rfl ?_
        refine AOps.cons rfl rfl (q_pick) ?_
        refine AOps.cons rfl rfl (q_move) ?_
        refine AOps.gskip rfl rfl rfl rfl rfl rfl rfl rfl ?_
        refine AOps.gskip rfl rfl rfl rfl rfl rfl rfl rfl ?_
        refine AOps.gskip rfl rfl rfl rfl rfl rfl rfl rfl ?_
        refine AOps.gskip rfl rfl rfl rfl rfl rfl rfl rfl ?_
        refine AOps.gskip rfl rfl rfl rfl rfl rfl rfl rfl ?_
        refine AOps.cons rfl rfl (q_pick) ?_
        refine AOps.cons rfl rfl (q_assign) ?_
        refine AOps.nil ?_
        refine AWp.ret ?_
        show Fin te Try.f18 _ _
        refine q_ret (0) [_] [_] ?_
        rw [decide_eq_false (fun e => h1_17 (by rw [e]))]; rfl
    · skip
      refine AOps.cons rfl rfl (q_pick) ?_
      refine AOps.cons rfl rfl (q_move) ?_
      refine AOps.gskip rfl rfl rfl rfl rfl rfl rfl rfl ?_
      refine AOps.gskip rfl rfl rfl rfl rfl rfl rfl rfl ?_
      refine AOps.gskip rfl rfl rfl rfl rfl rfl rfl rfl ?_
      refine AOps.gskip rfl rfl rfl rfl rfl rfl rfl rfl ?_
      refine AOps.gskip rfl rfl rfl rfl rfl rfl rfl rfl ?_
      refine AOps.cons rfl rfl (q_pick) ?_
      refine AOps.cons rfl rfl (q_move) ?_
      refine AOps.gskip rfl rfl rfl rfl rfl rfl rfl rfl ?_
      refine AOps.gskip rfl rfl rfl rfl rfl rfl rfl rfl ?_
      refine AOps.gskip rfl rfl rfl rfl rfl rfl rfl rfl ?_
      refine AOps.gskip rfl rfl rfl rfl rfl rfl rfl rfl ?_
      refine AOps.gskip rfl rfl rfl rfl rfl rfl rfl rfl ?_
      refine AOps.cons rfl rfl (q_pick) ?_
      refine AOps.cons rfl rfl (q_move) ?_
      refine AOps.gskip rfl rfl rfl rfl rfl rfl rfl rfl ?_
      refine AOps.gskip rfl rfl rfl rfl rfl rfl rfl rfl ?_
      refine AOps.gskip rfl rfl rfl rfl rfl rfl rfl rfl ?_
      refine AOps.gskip rfl rfl rfl rfl rfl rfl rfl rfl ?_
      refine AOps.gskip rfl rfl rfl rfl rfl rfl rfl rfl ?_
      refine AOps.cons rfl rfl (q_pick) ?_
      refine AOps.cons rfl rfl (q_move) ?_
      refine AOps.gskip rfl rfl rfl rfl rfl rfl rfl rfl ?_
      refine AOps.gskip rfl rfl rfl rfl rfl rfl rfl rfl ?_
      refine AOps.gskip rfl rfl rfl rfl rfl rfl rfl rfl ?_
      refine AOps.gskip rfl rfl rfl rfl rfl rfl rfl rfl ?_
      refine AOps.gskip rfl rfl rfl rfl rfl rfl rfl rfl ?_
      refine AOps.cons rfl rfl (q_pick) ?_
      refine AOps.cons rfl rfl (q_move) ?_
      refine AOps.gskip rfl rfl rfl rfl rfl rfl rfl rfl ?_
      refine AOps.gskip rfl rfl rfl rfl rfl rfl rfl rfl ?_
      refine AOps.gskip rfl rfl rfl rfl rfl rfl rfl rfl ?_
      refine AOps.gskip rfl rfl rfl rfl rfl rfl rfl rfl ?_
      refine AOps.gskip rfl rfl rfl rfl rfl rfl rfl rfl ?_
      refine AOps.cons rfl rfl (q_pick) ?_
      refine AOps.cons rfl rfl (q_move) ?_
      refine AOps.gskip rfl rfl rfl rfl rfl rfl rfl rfl ?_
      refine AOps.gskip rfl rfl rfl rfl rfl rfl rfl rfl ?_
      refine AOps.gskip rfl rfl rfl rfl rfl rfl rfl rfl ?_
      refine AOps.gskip rfl rfl rfl rfl rfl rfl rfl rfl ?_
      refine AOps.gskip rfl rfl rfl rfl rfl rfl rfl rfl ?_
      refine AOps.cons rfl rfl (q_pick) ?_
      refine AOps.cons rfl rfl (q_assign) ?_
      refine AOps.nil ?_
      refine AWp.ret ?_
      show Fin te Try.f18 _ _
      refine q_ret (0) [_] [_] ?_
      rw [decide_eq_false (fun e => h1_10 (by rw [e]))]; rfl
  · skip
    refine AOps.cons rfl rfl (q_move) ?_
    refine AOps.gskip rfl rfl rfl rfl rfl rfl rfl rfl ?_
    refine AOps.gskip rfl rfl rfl rfl rfl rfl rfl rfl ?_
    refine AOps.gskip rfl rfl rfl rfl rfl rfl rfl rfl ?_
    refine AOps.gskip rfl rfl rfl rfl rfl rfl rfl rfl ?_
    refine AOps.gskip rfl rfl rfl rfl rfl rfl rfl rfl ?_
    refine AOps.cons rfl rfl (q_pick) ?_
    refine AOps.cons rfl rfl (q_move) ?_
    refine AOps.gskip rfl rfl rfl rfl rfl rfl rfl rfl ?_
    refine AOps.gskip rfl rfl rfl rfl rfl rfl rfl rfl ?_
    refine AOps.gskip rfl rfl rfl rfl rfl rfl rfl rfl ?_
    refine AOps.gskip rfl rfl rfl rfl rfl rfl rfl rfl ?_
    refine AOps.gskip rfl rfl rfl rfl rfl rfl rfl rfl ?_
    refine AOps.cons rfl rfl (q_pick) ?_
    refine AOps.cons rfl rfl (q_move) ?_
    refine AOps.gskip rfl rfl rfl rfl rfl rfl rfl rfl ?_
    refine AOps.gskip rfl rfl rfl rfl rfl rfl rfl rfl ?_
    refine AOps.gskip rfl rfl rfl rfl rfl rfl rfl rfl ?_
    refine AOps.gskip rfl rfl rfl rfl rfl rfl rfl rfl ?_
    refine AOps.gskip rfl rfl rfl rfl rfl rfl rfl rfl ?_
    refine AOps.cons rfl rfl (q_pick) ?_
    refine AOps.cons rfl rfl (q_move) ?_
    refine AOps.gskip rfl rfl rfl rfl rfl rfl rfl rfl ?_
    refine AOps.gskip rfl rfl rfl rfl rfl rfl rfl rfl ?_
    refine AOps.gskip rfl rfl rfl rfl rfl rfl rfl rfl ?_
    refine AOps.gskip rfl rfl rfl rfl rfl rfl rfl rfl ?_
    refine AOps.gskip rfl rfl rfl rfl rfl rfl rfl rfl ?_
    refine AOps.cons rfl rfl (q_pick) ?_
    refine AOps.cons rfl rfl (q_move) ?_
    refine AOps.gskip rfl rfl rfl rfl rfl rfl rfl rfl ?_
    refine AOps.gskip rfl rfl rfl rfl rfl rfl rfl rfl ?_
    refine AOps.gskip rfl rfl rfl rfl rfl rfl rfl rfl ?_
    refine AOps.gskip rfl rfl rfl rfl rfl rfl rfl rfl ?_
    refine AOps.gskip rfl rfl rfl rfl rfl rfl rfl rfl ?_
    refine AOps.cons rfl rfl (q_pick) ?_
    refine AOps.cons rfl rfl (q_move) ?_
    refine AOps.gskip rfl rfl rfl rfl rfl rfl rfl rfl ?_
    refine AOps.gskip rfl rfl rfl rfl rfl rfl rfl rfl ?_
    refine AOps.gskip rfl rfl rfl rfl rfl rfl rfl rfl ?_
    refine AOps.gskip rfl rfl rfl rfl rfl rfl rfl rfl ?_
    refine AOps.gskip rfl rfl rfl rfl rfl rfl rfl rfl ?_
    refine AOps.cons rfl rfl (q_pick) ?_
    refine AOps.cons rfl rfl (q_move) ?_
    refine AOps.gskip rfl rfl rfl rfl rfl rfl rfl rfl ?_
    refine AOps.gskip rfl rfl rfl rfl rfl rfl rfl rfl ?_
    refine AOps.gskip rfl rfl rfl rfl rfl rfl rfl rfl ?_
    refine AOps.gskip rfl rfl rfl rfl rfl rfl rfl rfl ?_
    refine AOps.gskip rfl rfl rfl rfl rfl rfl rfl rfl ?_
    refine AOps.cons rfl rfl (q_pick) ?_
    refine AOps.cons rfl rfl (q_assign) ?_
    refine AOps.nil ?_
    refine AWp.ret ?_
    show Fin te Try.f18 _ _
    refine q_ret (0) [_] [_] ?_
    rw [decide_eq_false (fun e => h1_4 (by rw [e]))]; rfl

set_option maxRecDepth 20000 in
theorem c_ciceroneref08_Copy (x : ESet) (hx : SetOk x) : AC Try.prog 12 [.agg (setC x)] emp (Ret (.agg (setC x))) := by
  obtain ⟨_, _, h3, h4⟩ := id hx
  refine AC.intro te_ok (fn := Try.f12) ⟨Try.func12, rfl, rfl⟩ (Nat.le_of_ble_eq_true rfl) ?_
  refine AWp.seq ?_
  refine AWp.region ?_
  refine AOps.cons rfl rfl (q_box 100) ?_
  refine AOps.cons rfl rfl (q_alloc 101) ?_
  refine AOps.nil ?_
  refine AWp.seq ?_
  refine AWp.region ?_
  refine AOps.cons rfl rfl (q_nilrow 200 1 (lc 0 bc)) ?_
  refine AOps.nil ?_
  refine AWp.seq ?_
  refine AWp.seq ?_
  refine AWp.region ?_
  refine AOps.cons rfl rfl (q_fa) ?_
  refine AOps.cons rfl rfl (q_load) ?_
  refine AOps.cons rfl rfl (q_len) ?_
  refine AOps.cons rfl rfl (q_move) ?_
  refine AOps.nil ?_
  refine AWp.block ?_
  refine AWp.loopI (α := Nat × List (List UInt8) × Nat) (fun x_ => mkS [(1, .ptr 100 0 0), (2, .ptr 101 0 0), (7, .fz 0 x.ds.length (cl (lc 0 bc) x.ds)), (8, i64 x.ds.length), (9, i64 (x_.1)), (3, .sl 200 (x_.2.2) 0 (x_.2.1).length 1)] [(100, .box [str x.nm, i64 x.ty, i64 x.cs, i64 x.rank, i64 x.kind, i64 x.exp, str x.zone, .fz 0 x.ds.length (cl (lc 0 bc) x.ds)]), (101, .box [str [], i64 0, i64 0, i64 0, i64 0, i64 0, str [], .v (.slice none 0 0)]), (200, .row (cl (lc 0 bc) (x_.2.1)) 1 (x_.2.2))]) (fun x_ => (x_.1) ≤ x.ds.length ∧ (x_.2.1) = x.ds.take (x_.1)) (fun x_ => x.ds.length - (x_.1)) (0, [], 0) ?_ (Weak.full (0) []) ?_
  · exact ⟨Nat.zero_le _, rfl⟩
  · rintro ⟨i, acc, v⟩ hI3
    change i ≤ x.ds.length ∧ acc = x.ds.take i at hI3
    obtain ⟨hi, hacc⟩ := hI3
    refine AWp.as (s' := mkS [(1, .ptr 100 0 0), (2, .ptr 101 0 0), (7, .fz 0 x.ds.length (cl (lc 0 bc) x.ds)), (8, i64 x.ds.length), (9, i64 i), (3, .sl 200 v 0 acc.length 1)] [(100, .box [str x.nm, i64 x.ty, i64 x.cs, i64 x.rank, i64 x.kind, i64 x.exp, str x.zone, .fz 0 x.ds.length (cl (lc 0 bc) x.ds)]), (101, .box [str [], i64 0, i64 0, i64 0, i64 0, i64 0, str [], .v (.slice none 0 0)]), (200, .row (cl (lc 0 bc) acc) 1 v)]) rfl ?_
    have hal : acc.length = i := by rw [hacc, List.length_take]; omega
    refine AWp.seq ?_
    refine AWp.region ?_
    refine AOps.dec rfl rfl (q_lss) (fun h3_0 => ?_) (fun h3_0 => ?_)
    · skip
      refine AOps.nil ?_
      refine AWp.seq ?_
      refine AWp.cond_t rfl ?_
      refine AWp.skip ?_
      refine AWp.seq ?_
      refine AWp.block ?_
      refine AWp.seq ?_
      refine AWp.region ?_
      have hdi : (x.ds.getD i default).length ≤ 140737488351232 := h4 _ (getD_mem' (by omega))
      have hdi2 : (x.ds[i]?.getD default).length ≤ 140737488351232 := by rw [← List.getD_eq_getElem?_getD]; exact hdi
      have hdi3 : (x.ds.getD (i : Int).toNat default).length ≤ 140737488351232 := hdi
      refine AOps.cons rfl rfl (q_ix) ?_
      refine AOps.cons rfl rfl (q_load) ?_
      refine AOps.cons rfl rfl (q_assign) ?_
      refine AOps.nil ?_
      refine AWp.region ?_
      refine AOps.cons rfl rfl (q_move) ?_
      refine AOps.cons rfl rfl (q_bs 601 bc [] []) ?_
      refine AOps.cons rfl rfl (q_move) ?_
      refine AOps.cons rfl rfl (q_app) ?_
      refine AOps.weak (Weak.full 0 [] (t := [(1, .ptr 100 0 0), (2, .ptr 101 0 0), (7, .fz 0 x.ds.length (cl (lc 0 bc) x.ds)), (8, i64 x.ds.length), (9, i64 i), (13, .sl 200 v 0 acc.length 1), (16, .fz 0 ([] ++ x.ds.getD i default : List UInt8).length (cl bc ([] ++ x.ds.getD i default)))]) (hl := [(100, .box [str x.nm, i64 x.ty, i64 x.cs, i64 x.rank, i64 x.kind, i64 x.exp, str x.zone, .fz 0 x.ds.length (cl (lc 0 bc) x.ds)]), (101, .box [str [], i64 0, i64 0, i64 0, i64 0, i64 0, str [], .v (.slice none 0 0)]), (200, .row (cl (lc 0 bc) acc) 1 v)])) ?_
      refine AOps.cons rfl rfl (q_bs 604 (lc 0 bc) [_] [(_, _)]) ?_
      refine AOps.cons rfl rfl (q_app) ?_
      refine AOps.cons rfl rfl (q_assign) ?_
      refine AOps.nil ?_
      refine AWp.region ?_
      refine AOps.cons rfl rfl (q_add) ?_
      refine AOps.cons rfl rfl (q_move) ?_
      refine AOps.nil ?_
      refine ⟨(i + 1, _, _), ?_, Weak.full (0) [], ?_⟩
      · try dsimp only
        exact ⟨by omega, by rw [take_step' (by omega)]; first | (rw [← hacc]; done) | (rw [← hacc]; rfl)⟩
      · try dsimp only
        first | omega | (simp; omega)
    · skip
      refine AOps.nil ?_
      refine AWp.seq ?_
      refine AWp.cond_f rfl ?_
      refine AWp.exit ?_
      refine AWp.seq ?_
      refine AWp.region ?_
      refine AOps.cons rfl rfl (q_move) ?_
      obtain rfl : acc = x.ds := by rw [hacc, List.take_of_length_le (by omega)]
      refine AOps.weak (Weak.full 0 [] (t := [(1, .ptr 100 0 0), (2, .ptr 101 0 0), (20, .fz 0 x.ds.length (cl (lc 0 bc) x.ds))]) (hl := [(100, .box [str x.nm, i64 x.ty, i64 x.cs, i64 x.rank, i64 x.kind, i64 x.exp, str x.zone, .fz 0 x.ds.length (cl (lc 0 bc) x.ds)]), (101, .box [str [], i64 0, i64 0, i64 0, i64 0, i64 0, str [], .v (.slice none 0 0)])])) ?_
      refine AOps.cons rfl rfl (q_fa) ?_
      refine AOps.cons rfl rfl (q_store) ?_
      refine AOps.nil ?_
      refine AWp.seq ?_
      refine AWp.region ?_
      refine AOps.cons rfl rfl (q_load) ?_
      refine AOps.cons rfl rfl (q_store) ?_
      refine AOps.nil ?_
      refine AWp.ret ?_
      show Fin te Try.f12 _ _
      refine q_ret (0) [_] [_] ?_
      rfl

end Go.Proofs.Ytaemmklgofddmaa.Fw

/- Q8: temporaries that are nil. -/
set_option linter.unusedVariables false
set_option linter.unusedSimpArgs false
namespace Go.Proofs.Ytaemmklgofddmaa.Fw
open Go.RowKit
/-- A temporary that is nil: an empty row of one's own. -/
theorem Weak.niltmp (k id esz : Nat) {α : Type} (f : α → List AV) {s : AS} (hk : s.t k = .v (.slice none 0 0) := by exact rfl) (hid : s.h id = none := by exact rfl) :
    Weak s ((s.seth id (some (.row (cl f []) esz 0))).put (some k) (.sl id 0 0 ([] : List α).length esz)) := by
  intro n Λ w φ a hs
  have hn := hs.hs.dom id hid
  have hc : Chg w φ Λ s.h id ⟨none, 0⟩ w := ⟨hs.hs, Nat.le_refl _, rfl, rfl, rfl, fun _ _ _ => rfl, (fun b' o' h => by cases h), (fun l hl => by rw [hn] at hl; cases hl), (fun l hl => by rw [hn] at hl; cases hl)⟩
  have h1 : HSim w (upd φ id (some ⟨none, 0⟩)) Λ (upd s.h id (some (.row (cl f []) esz 0))) := hc.hsim ⟨rfl, .inl ⟨rfl, rfl⟩⟩
  refine ⟨upd φ id (some ⟨none, 0⟩), ⟨hs.defs, hs.size, fun i => ?_, h1⟩, hc.goes⟩
  show Rep w _ Λ (upd s.t k (.sl id 0 0 0 esz) i) _
  by_cases he : i = k
  · subst he
    rw [upd_same]
    have := hs.tmps i
    rw [hk] at this
    generalize a.tmps.getD i undef = v at this
    cases this
    exact .sl0 (upd_same _ _ _) rfl
  · rw [upd_other _ _ _ _ he]
    exact hc.rep (hs.tmps i)
end Go.Proofs.Ytaemmklgofddmaa.Fw

/- Walks of layer 8: numbers. -/
set_option linter.unusedVariables false
set_option linter.unusedSimpArgs false
namespace Go.Proofs.Ytaemmklgofddmaa.Fw
open Go.RowKit

set_option maxRecDepth 20000 in
theorem c_num (b : List UInt8) (v w : Nat) (l : List Int) (lv : Nat) (hw : 1 ≤ w ∧ w ≤ 8) (hb : b.length + 8 * l.length ≤ 1000000000000) : AC Try.prog 56 [.sl 0 v 0 b.length 1, i64 w, .fz lv l.length (cl ic l)] (hlook [(0, .row (cl bc b) 1 v)]) (RetH (.sl 0 (v + w * l.length) 0 (b ++ numL w l).length 1) [(0, .row (cl bc (b ++ numL w l)) 1 (v + w * l.length))]) := by
  refine AC.intro te_ok (fn := Try.f56) ⟨Try.func56, rfl, rfl⟩ (Nat.le_of_ble_eq_true rfl) ?_
  refine AWp.seq ?_
  refine AWp.region ?_
  refine AOps.cons rfl rfl (q_assign) ?_
  refine AOps.nil ?_
  refine AWp.seq ?_
  refine AWp.seq ?_
  refine AWp.region ?_
  skip
  refine AOps.cons rfl rfl (q_move) ?_
  refine AOps.cons rfl rfl (q_len) ?_
  refine AOps.cons rfl rfl (q_move) ?_
  refine AOps.nil ?_
  refine AWp.block ?_
  refine AWp.loopR (α := Nat × List UInt8) [0, 8, 9, 12, 13, 14, 15, 16, 17, 18, 19, 20, 21, 22, 23, 24, 25, 26, 27, 28, 29, 30] (fun x_ => [(12, i64 (x_.1)), (0, .sl 0 (v + w * (x_.1)) 0 (x_.2).length 1)]) (fun x_ => [(0, .row (cl bc (x_.2)) 1 (v + w * (x_.1)))]) (fun x_ => (x_.1) ≤ l.length ∧ (x_.2) = b ++ numL w (l.take (x_.1))) (fun x_ => l.length - (x_.1)) (0, b) ?_ (Back.mk' (HasT.cons (HasT.cons HasT.nil)) (HasH.cons HasH.nil)) ?_
  · exact ⟨Nat.zero_le _, by simp [numL]⟩
  · rintro ⟨i, acc⟩ hI2
    change i ≤ l.length ∧ acc = b ++ numL w (l.take i) at hI2
    obtain ⟨hi, hacc⟩ := hI2
    refine AWp.as (s' := AS.over _ [0, 8, 9, 12, 13, 14, 15, 16, 17, 18, 19, 20, 21, 22, 23, 24, 25, 26, 27, 28, 29, 30] [(12, i64 i), (0, .sl 0 (v + w * i) 0 acc.length 1)] [(0, .row (cl bc acc) 1 (v + w * i))]) rfl ?_
    have hal := congrArg List.length hacc
    simp only [List.length_append, numL_len, List.length_take, List.length_nil, show min i l.length = i by omega] at hal
    have hwi : w * i ≤ 8 * i := Nat.mul_le_mul_right i hw.2
    refine AWp.seq ?_
    refine AWp.region ?_
    refine AOps.dec rfl rfl (q_lss) (fun h2_0 => ?_) (fun h2_0 => ?_)
    · skip
      refine AOps.nil ?_
      refine AWp.seq ?_
      refine AWp.cond_t rfl ?_
      refine AWp.skip ?_
      refine AWp.seq ?_
      refine AWp.block ?_
      refine AWp.seq ?_
      refine AWp.region ?_
      have hn3 : 0 ≤ i := Nat.zero_le _
      refine AOps.cons rfl rfl (q_ix) ?_
      refine AOps.cons rfl rfl (q_load) ?_
      refine AOps.cons rfl rfl (q_assign) ?_
      refine AOps.nil ?_
      refine AWp.seq ?_
      refine AWp.region ?_
      refine AOps.cons rfl rfl (q_move) ?_
      refine AOps.cons rfl rfl (q_sub) ?_
      refine AOps.cons rfl rfl (q_mul) ?_
      refine AOps.cons rfl rfl (q_assign) ?_
      refine AOps.nil ?_
      refine AWp.block ?_
      refine AWp.loopR (α := Nat × List UInt8) [0, 9, 19, 20, 21, 22, 23, 24, 25, 26, 27, 28, 29] (fun x_ => [(9, i64 (8 * ((w : Int) - (x_.1)) - 8)), (0, .sl 0 (v + w * i + (x_.1)) 0 (x_.2).length 1)]) (fun x_ => [(0, .row (cl bc (x_.2)) 1 (v + w * i + (x_.1)))]) (fun x_ => (x_.1) ≤ w ∧ (x_.2) ++ numW (w - (x_.1)) (l.getD i default) = acc ++ numW w (l.getD i default)) (fun x_ => w - (x_.1)) (0, acc) ?_ (Back.mk' (HasT.cons (HasT.cons HasT.nil) (h1 := by exact i64_eq (by omega)) ) (HasH.cons HasH.nil)) ?_
      · exact ⟨Nat.zero_le _, rfl⟩
      · rintro ⟨j, acc2⟩ hI5
        change j ≤ w ∧ acc2 ++ numW (w - j) (l.getD i default) = acc ++ numW w (l.getD i default) at hI5
        obtain ⟨hj, hj2⟩ := hI5
        refine AWp.as (s' := AS.over _ [0, 9, 19, 20, 21, 22, 23, 24, 25, 26, 27, 28, 29] [(9, i64 (8 * ((w : Int) - j) - 8)), (0, .sl 0 (v + w * i + j) 0 acc2.length 1)] [(0, .row (cl bc acc2) 1 (v + w * i + j))]) rfl ?_
        refine AWp.seq ?_
        refine AWp.seq ?_
        refine AWp.region ?_
        refine AOps.cons rfl rfl (q_move) ?_
        refine AOps.dec rfl rfl (q_geq) (fun h5_1 => ?_) (fun h5_1 => ?_)
        · skip
          refine AOps.nil ?_
          refine AWp.cond_t rfl ?_
          refine AWp.skip ?_
          refine AWp.seq ?_
          refine AWp.block ?_
          refine AWp.region ?_
          obtain ⟨e, he⟩ : ∃ e, w - j = e + 1 := ⟨w - j - 1, by omega⟩
          rw [he, numW] at hj2
          have hal2 := congrArg List.length hj2
          rw [List.length_append, List.length_append, List.length_cons, numW_len, numW_len] at hal2
          refine AOps.cons rfl rfl (q_move) ?_
          refine AOps.cons rfl rfl (q_move) ?_
          refine AOps.cons rfl rfl (q_move) ?_
          refine AOps.cons rfl rfl (q_shr (8 * (w - 1 - j))) ?_
          refine AOps.cons rfl rfl (q_conv_u8) ?_
          refine AOps.cons rfl rfl (q_bs 805 bc [_] [(_, _)]) ?_
          refine AOps.cons rfl rfl (q_app) ?_
          refine AOps.cons rfl rfl (q_assign) ?_
          refine AOps.nil ?_
          refine AWp.region ?_
          skip
          refine AOps.cons rfl rfl (q_move) ?_
          refine AOps.cons rfl rfl (q_sub) ?_
          refine AOps.cons rfl rfl (q_assign) ?_
          refine AOps.nil ?_
          refine ⟨(j + 1, _), ?_, Back.mk' (HasT.cons (HasT.cons HasT.nil) (h1 := by exact i64_eq (by omega)) ) (HasH.cons HasH.nil), ?_⟩
          · try dsimp only
            exact ⟨by omega, by rw [← hj2, show w - (j + 1) = e by omega]; simp [show 8 * (w - 1 - j) = 8 * e by omega]; try rfl⟩
          · try dsimp only
            omega
        · skip
          refine AOps.nil ?_
          refine AWp.cond_f rfl ?_
          refine AWp.exit ?_
          refine AWp.region ?_
          obtain rfl : w = j := by omega
          rw [Nat.sub_self, numW, List.append_nil] at hj2
          refine AOps.cons rfl rfl (q_add) ?_
          refine AOps.cons rfl rfl (q_move) ?_
          refine AOps.nil ?_
          refine ⟨(i + 1, _), ?_, Back.mk' (HasT.cons (HasT.cons HasT.nil (h1 := by rw [show v + w * (i + 1) = v + w * i + w by rw [Nat.mul_succ]; omega]; rfl) )) (HasH.cons HasH.nil (h1 := by rw [show v + w * (i + 1) = v + w * i + w by rw [Nat.mul_succ]; omega]; rfl) ), ?_⟩
          · try dsimp only
            exact ⟨by omega, by rw [hj2, hacc, take_step' (by omega)]; simp [numL]⟩
          · try dsimp only
            first | omega | (simp; omega)
    · skip
      refine AOps.nil ?_
      refine AWp.seq ?_
      refine AWp.cond_f rfl ?_
      refine AWp.exit ?_
      refine AWp.seq ?_
      refine AWp.region ?_
      refine AOps.cons rfl rfl (q_move) ?_
      refine AOps.cons rfl rfl (q_assign) ?_
      refine AOps.nil ?_
      refine AWp.ret ?_
      show Fin te Try.f56 _ _
      obtain rfl : i = l.length := by omega
      rw [List.take_length] at hacc
      subst hacc
      refine q_retH (0) [] [_] [.sl 0 (v + w * l.length) 0 (b ++ numL w l).length 1] [(0, .row (cl bc (b ++ numL w l)) 1 (v + w * l.length))] ?_
      rfl

set_option maxRecDepth 20000 in
theorem c_num_nil (w : Nat) (l : List Int) (lv : Nat) (hw : 1 ≤ w ∧ w ≤ 8) (hb : 8 * l.length ≤ 1000000000000) : AC Try.prog 56 [.v (.slice none 0 0), i64 w, .fz lv l.length (cl ic l)] (hlook []) (RetH (.sl 8 (0) 0 (([] : List UInt8) ++ numL w l).length 1) [(8, .row (cl bc (([] : List UInt8) ++ numL w l)) 1 (0))]) := by
  refine AC.intro te_ok (fn := Try.f56) ⟨Try.func56, rfl, rfl⟩ (Nat.le_of_ble_eq_true rfl) ?_
  refine AWp.seq ?_
  refine AWp.region ?_
  refine AOps.cons rfl rfl (q_assign) ?_
  refine AOps.nil ?_
  refine AWp.seq ?_
  refine AWp.seq ?_
  refine AWp.region ?_
  refine AOps.weak (Weak.niltmp 0 8 1 bc) ?_
  refine AOps.cons rfl rfl (q_move) ?_
  refine AOps.cons rfl rfl (q_len) ?_
  refine AOps.cons rfl rfl (q_move) ?_
  refine AOps.nil ?_
  refine AWp.block ?_
  refine AWp.loopR (α := Nat × List UInt8) [0, 8, 9, 12, 13, 14, 15, 16, 17, 18, 19, 20, 21, 22, 23, 24, 25, 26, 27, 28, 29, 30] (fun x_ => [(12, i64 (x_.1)), (0, .sl 8 (0 + w * (x_.1)) 0 (x_.2).length 1)]) (fun x_ => [(8, .row (cl bc (x_.2)) 1 (0 + w * (x_.1)))]) (fun x_ => (x_.1) ≤ l.length ∧ (x_.2) = ([] : List UInt8) ++ numL w (l.take (x_.1))) (fun x_ => l.length - (x_.1)) (0, ([] : List UInt8)) ?_ (Back.mk' (HasT.cons (HasT.cons HasT.nil)) (HasH.cons HasH.nil)) ?_
  · exact ⟨Nat.zero_le _, by simp [numL]⟩
  · rintro ⟨i, acc⟩ hI2
    change i ≤ l.length ∧ acc = ([] : List UInt8) ++ numL w (l.take i) at hI2
    obtain ⟨hi, hacc⟩ := hI2
    refine AWp.as (s' := AS.over _ [0, 8, 9, 12, 13, 14, 15, 16, 17, 18, 19, 20, 21, 22, 23, 24, 25, 26, 27, 28, 29, 30] [(12, i64 i), (0, .sl 8 (0 + w * i) 0 acc.length 1)] [(8, .row (cl bc acc) 1 (0 + w * i))]) rfl ?_
    have hal := congrArg List.length hacc
    simp only [List.length_append, numL_len, List.length_take, List.length_nil, show min i l.length = i by omega] at hal
    have hwi : w * i ≤ 8 * i := Nat.mul_le_mul_right i hw.2
    refine AWp.seq ?_
    refine AWp.region ?_
    refine AOps.dec rfl rfl (q_lss) (fun h2_0 => ?_) (fun h2_0 => ?_)
    · skip
      refine AOps.nil ?_
      refine AWp.seq ?_
      refine AWp.cond_t rfl ?_
      refine AWp.skip ?_
      refine AWp.seq ?_
      refine AWp.block ?_
      refine AWp.seq ?_
      refine AWp.region ?_
      have hn3 : 0 ≤ i := Nat.zero_le _
      refine AOps.cons rfl rfl (q_ix) ?_
      refine AOps.cons rfl rfl (q_load) ?_
      refine AOps.cons rfl rfl (q_assign) ?_
      refine AOps.nil ?_
      refine AWp.seq ?_
      refine AWp.region ?_
      refine AOps.cons rfl rfl (q_move) ?_
      refine AOps.cons rfl rfl (q_sub) ?_
      refine AOps.cons rfl rfl (q_mul) ?_
      refine AOps.cons rfl rfl (q_assign) ?_
      refine AOps.nil ?_
      refine AWp.block ?_
      refine AWp.loopR (α := Nat × List UInt8) [0, 9, 19, 20, 21, 22, 23, 24, 25, 26, 27, 28, 29] (fun x_ => [(9, i64 (8 * ((w : Int) - (x_.1)) - 8)), (0, .sl 8 (0 + w * i + (x_.1)) 0 (x_.2).length 1)]) (fun x_ => [(8, .row (cl bc (x_.2)) 1 (0 + w * i + (x_.1)))]) (fun x_ => (x_.1) ≤ w ∧ (x_.2) ++ numW (w - (x_.1)) (l.getD i default) = acc ++ numW w (l.getD i default)) (fun x_ => w - (x_.1)) (0, acc) ?_ (Back.mk' (HasT.cons (HasT.cons HasT.nil) (h1 := by exact i64_eq (by omega)) ) (HasH.cons HasH.nil)) ?_
      · exact ⟨Nat.zero_le _, rfl⟩
      · rintro ⟨j, acc2⟩ hI5
        change j ≤ w ∧ acc2 ++ numW (w - j) (l.getD i default) = acc ++ numW w (l.getD i default) at hI5
        obtain ⟨hj, hj2⟩ := hI5
        refine AWp.as (s' := AS.over _ [0, 9, 19, 20, 21, 22, 23, 24, 25, 26, 27, 28, 29] [(9, i64 (8 * ((w : Int) - j) - 8)), (0, .sl 8 (0 + w * i + j) 0 acc2.length 1)] [(8, .row (cl bc acc2) 1 (0 + w * i + j))]) rfl ?_
        refine AWp.seq ?_
        refine AWp.seq ?_
        refine AWp.region ?_
        refine AOps.cons rfl rfl (q_move) ?_
        refine AOps.dec rfl rfl (q_geq) (fun h5_1 => ?_) (fun h5_1 => ?_)
        · skip
          refine AOps.nil ?_
          refine AWp.cond_t rfl ?_
          refine AWp.skip ?_
          refine AWp.seq ?_
          refine AWp.block ?_
          refine AWp.region ?_
          obtain ⟨e, he⟩ : ∃ e, w - j = e + 1 := ⟨w - j - 1, by omega⟩
          rw [he, numW] at hj2
          have hal2 := congrArg List.length hj2
          rw [List.length_append, List.length_append, List.length_cons, numW_len, numW_len] at hal2
          refine AOps.cons rfl rfl (q_move) ?_
          refine AOps.cons rfl rfl (q_move) ?_
          refine AOps.cons rfl rfl (q_move) ?_
          refine AOps.cons rfl rfl (q_shr (8 * (w - 1 - j))) ?_
          refine AOps.cons rfl rfl (q_conv_u8) ?_
          refine AOps.cons rfl rfl (q_bs 805 bc [_] [(_, _)]) ?_
          refine AOps.cons rfl rfl (q_app) ?_
          refine AOps.cons rfl rfl (q_assign) ?_
          refine AOps.nil ?_
          refine AWp.region ?_
          skip
          refine AOps.cons rfl rfl (q_move) ?_
          refine AOps.cons rfl rfl (q_sub) ?_
          refine AOps.cons rfl rfl (q_assign) ?_
          refine AOps.nil ?_
          refine ⟨(j + 1, _), ?_, Back.mk' (HasT.cons (HasT.cons HasT.nil) (h1 := by exact i64_eq (by omega)) ) (HasH.cons HasH.nil), ?_⟩
          · try dsimp only
            exact ⟨by omega, by rw [← hj2, show w - (j + 1) = e by omega]; simp [show 8 * (w - 1 - j) = 8 * e by omega]; try rfl⟩
          · try dsimp only
            omega
        · skip
          refine AOps.nil ?_
          refine AWp.cond_f rfl ?_
          refine AWp.exit ?_
          refine AWp.region ?_
          obtain rfl : w = j := by omega
          rw [Nat.sub_self, numW, List.append_nil] at hj2
          refine AOps.cons rfl rfl (q_add) ?_
          refine AOps.cons rfl rfl (q_move) ?_
          refine AOps.nil ?_
          refine ⟨(i + 1, _), ?_, Back.mk' (HasT.cons (HasT.cons HasT.nil (h1 := by rw [show 0 + w * (i + 1) = 0 + w * i + w by rw [Nat.mul_succ]; omega]; rfl) )) (HasH.cons HasH.nil (h1 := by rw [show 0 + w * (i + 1) = 0 + w * i + w by rw [Nat.mul_succ]; omega]; rfl) ), ?_⟩
          · try dsimp only
            exact ⟨by omega, by rw [hj2, hacc, take_step' (by omega)]; simp [numL]⟩
          · try dsimp only
            first | omega | (simp; omega)
    · skip
      refine AOps.nil ?_
      refine AWp.seq ?_
      refine AWp.cond_f rfl ?_
      refine AWp.exit ?_
      refine AWp.seq ?_
      refine AWp.region ?_
      refine AOps.cons rfl rfl (q_move) ?_
      refine AOps.cons rfl rfl (q_assign) ?_
      refine AOps.nil ?_
      refine AWp.ret ?_
      show Fin te Try.f56 _ _
      obtain rfl : i = l.length := by omega
      rw [List.take_length] at hacc
      subst hacc
      refine q_retH (0) [8] [_] [.sl 8 (0) 0 (([] : List UInt8) ++ numL w l).length 1] [(8, .row (cl bc (([] : List UInt8) ++ numL w l)) 1 (0))] ?_
      rfl

end Go.Proofs.Ytaemmklgofddmaa.Fw

